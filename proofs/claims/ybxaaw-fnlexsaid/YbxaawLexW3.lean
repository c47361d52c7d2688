/-
  The model lexer, walked (the main loop).
-/
import Derived.Test.YbxaawLexW2
set_option linter.unusedVariables false
set_option linter.unusedSimpArgs false
set_option maxRecDepth 10000
namespace Go.Proofs.Ybxaaw
open Go.Mw Lexp

theorem lexR_bad {l : List Nat} {acc : List (Int × Int)} {c : Nat} {cs : List Nat} (hl : l = c :: cs) (hs : isSp c = false) (hd : isDg c = true) (h : ¬ nv 0 (l.takeWhile isDg) < 18446744073709551616) : lexR l acc = none := by
  by_cases hn : 2000000 ≤ acc.length
  · exact lexR_full hl hs hn
  · rw [lexR_num hl hs hn hd, if_neg h]
theorem lexR_bad2 {l : List Nat} {acc : List (Int × Int)} {c : Nat} {cs : List Nat} (hl : l = c :: cs) (hs : isSp c = false) (hd : isDg c = false) (hv : ¬ (97 ≤ c ∧ c ≤ 122)) (h : opK c = 0) : lexR l acc = none := by
  by_cases hn : 2000000 ≤ acc.length
  · exact lexR_full hl hs hn
  · rw [lexR_op hl hs hn hd hv, if_pos h]

theorem slex_ok (s : ByteArray) (w : World) (hsz : s.size ≤ 1099511627776) : Ret Yaam.prog 29 [.string s] w (LexPost s w) := by
  refine enter1 Yaam.func29 Yaam.ntmps29 (by kernel_rfl) rfl rfl ?_
  refine V.seq ?_
  refine V.region ?_
  refine L.rd (rd_assign rfl) rfl ?_
  refine L.rd (rd_assign rfl) rfl ?_
  refine L.nil ?_
  refine X.sq ?_
  refine V.seq ?_
  refine V.seq ?_
  refine V.region ?_
  refine L.rd (rd_move rfl) rfl ?_
  refine L.rd (rd_lenString tok rfl rfl rfl) rfl ?_
  refine L.rd (rd_gtr rfl rfl) rfl ?_
  refine L.nil ?_
  refine X.sq ?_
  first | refine V.cond rfl (fun h13 => ?_) (fun h13 => ?_) | refine V.condB rfl (fun h13 => ?_) (fun h13 => ?_)
  ·
    have hbad : lex (bl s) = none := by unfold lex; rw [if_pos (by rw [bl_length]; omega)]
    refine V.seq ?_
    refine V.region ?_
    refine L.rd (rd_assign rfl) rfl ?_
    refine L.rd (rd_assign rfl) rfl ?_
    refine L.nil ?_
    refine X.sq ?_
    refine V.ret ?_
    refine X.sqRet ?_
    refine ret_2 Yaam.results29 rfl rfl ?_
    exact LexPost.bad (Ext.refl _ _) hbad
  ·
    have hs2 : s.size ≤ 20000000 := by omega
    have hlex := lex_of hs2
    refine V.skip ?_
    refine X.sq ?_
    refine V.seq ?_
    refine V.region ?_
    refine L.rd (rd_assign rfl) rfl ?_
    refine L.nil ?_
    refine X.sq ?_
    refine V.seq ?_
    refine V.region ?_
    refine L.rd (rd_assign rfl) rfl ?_
    refine L.nil ?_
    refine X.sq ?_
    refine V.seq ?_
    refine V.block ?_
    refine V.loop (fun m l wr => ∃ (k : Nat) (sv : Value) (acc : List (Int × Int)), l = [(0, .string s), (4, sv), (5, .int .i64 k)] ∧ m = s.size - k ∧ Lx s w wr k sv acc ∧ acc.length ≤ 2000000) ?_ ?_
    ·
      exact ⟨_, _, (by repeat' (first | exact trivial | refine ⟨rfl, ?_⟩)), 0, _, [], rfl, rfl, ⟨Nat.zero_le _, Nat.zero_le _, World.ownsRow_nil _ _ _ _, Ext.refl _ _, rfl⟩, Nat.zero_le _⟩
    ·
      rintro m l wr ⟨k, sv, acc, rfl, rfl, hx, hfl⟩
      have hle := hx.le
      obtain ⟨sa, sn, hsv⟩ := slice_form hx.own
      subst hsv
      refine V.seq ?_
      refine V.seq ?_
      refine V.region ?_
      refine L.rd (rd_move rfl) rfl ?_
      refine L.rd (rd_move rfl) rfl ?_
      refine L.rd (rd_lenString tok rfl rfl rfl) rfl ?_
      refine L.rd (rd_lss rfl rfl) rfl ?_
      refine L.nil ?_
      refine X.sq ?_
      first | refine V.cond rfl (fun h17 => ?_) (fun h17 => ?_) | refine V.condB rfl (fun h17 => ?_) (fun h17 => ?_)
      ·
        obtain ⟨c, hc, hc256⟩ := bl_some s k (by omega)
        have hcons := hx.cons hc
        have hlr := hx.rest
        have hlen := hx.len
        refine V.skip ?_
        refine X.sq ?_
        refine V.block ?_
        refine V.seq ?_
        refine V.region ?_
        refine L.rd (rd_move rfl) rfl ?_
        refine L.rd (rd_move rfl) rfl ?_
        refine L.rd (rd_indexStr tok rfl rfl rfl rfl (by assumption)) rfl ?_
        refine L.rd (rd_assign rfl) rfl ?_
        refine L.nil ?_
        refine X.sq ?_
        refine V.seq ?_
        refine V.seq ?_
        refine V.region ?_
        refine L.rd (rd_move rfl) rfl ?_
        refine L.ef (e_call rfl (isSpace_ok _ _) rfl ?_)
        rintro _ _ ⟨rfl, rfl⟩
        refine L.nil ?_
        refine X.sq ?_
        first | refine V.cond rfl (fun h22 => ?_) (fun h22 => ?_) | refine V.condB rfl (fun h22 => ?_) (fun h22 => ?_)
        ·
          refine V.seq ?_
          refine V.region ?_
          refine L.rd (rd_move rfl) rfl ?_
          (refine L.rd (rd_add3 rfl rfl ?_) rfl ?_; omega)
          refine L.rd (rd_assign rfl) rfl ?_
          refine L.nil ?_
          refine X.sq ?_
          refine V.exit ?_
          refine X.sqExit ?_
          refine X.bkHere ?_
          exact X.lp ⟨_, _, by omega, (by repeat' (first | exact trivial | refine ⟨rfl, ?_⟩)), k + 1, _, acc, rfl, rfl, hx.space hc h22, hfl⟩
        ·
          have hsp : isSp c = false := h22
          refine V.skip ?_
          refine X.sq ?_
          refine V.seq ?_
          refine V.seq ?_
          refine V.cut (fun l w' => l = [(0, .string s), (4, .slice sa acc.length sn), (5, .int .i64 k), (6, .int .u8 c), (30, .bool (decide (48 ≤ (c : Int) ∧ (c : Int) ≤ 57)))] ∧ wr = w') ?_ ?_
          ·
            refine V.region ?_
            refine L.rd (rd_move rfl) rfl ?_
            refine L.rd (rd_geq rfl rfl) rfl ?_
            refine L.rd (rd_move rfl) rfl ?_
            first | refine L.partG rfl rfl (fun g27 => ?_) (fun g27 => ?_) | refine L.partGB rfl rfl (fun g27 => ?_) (fun g27 => ?_)
            ·
              refine L.yes rfl rfl ?_
              refine L.rd (rd_move rfl) rfl ?_
              refine L.yes rfl rfl ?_
              refine L.rd (rd_leq rfl rfl) rfl ?_
              refine L.rd (rd_pickT rfl rfl) rfl ?_
              refine L.nil ?_
              exact X.ct ⟨_, by exact ⟨rfl, rfl, rfl, rfl, bool_dec (by simp; omega), trivial⟩, rfl, rfl⟩
            ·
              refine L.no rfl rfl rfl rfl ?_
              refine L.no rfl rfl rfl rfl ?_
              refine L.rd (rd_pickF rfl rfl) rfl ?_
              refine L.nil ?_
              exact X.ct ⟨_, by exact ⟨rfl, rfl, rfl, rfl, bool_dec (by simp; omega), trivial⟩, rfl, rfl⟩
          ·
            rintro l w' ⟨rfl, rfl⟩
            refine X.sq ?_
            first | refine V.cond rfl (fun h30 => ?_) (fun h30 => ?_) | refine V.condB rfl (fun h30 => ?_) (fun h30 => ?_)
            ·
              have hdg : isDg c = true := is_digit h30
              refine V.seq ?_
              refine V.region ?_
              refine L.rd (rd_move rfl) rfl ?_
              refine L.rd (rd_assign rfl) rfl ?_
              refine L.nil ?_
              refine X.sq ?_
              refine V.seq ?_
              refine V.cut (fun l w' => ∃ j : Nat, l = [(0, .string s), (4, .slice sa acc.length sn), (5, .int .i64 k), (7, .int .i64 j)] ∧ wr = w' ∧ k < j ∧ j ≤ s.size ∧ (bl s).drop j = ((bl s).drop k).dropWhile isDg ∧ seg s k j = ((bl s).drop k).takeWhile isDg) ?_ ?_
              ·
                refine V.block ?_
                refine V.loop (fun m l w' => ∃ j : Nat, l = [(0, .string s), (4, .slice sa acc.length sn), (5, .int .i64 k), (7, .int .i64 j)] ∧ wr = w' ∧ m = s.size - j ∧ k ≤ j ∧ j ≤ s.size ∧ (∀ q, k ≤ q → q < j → ∃ c, (bl s)[q]? = some c ∧ isDg c = true)) ?_ ?_
                ·
                  exact ⟨_, _, (by repeat' (first | exact trivial | refine ⟨rfl, ?_⟩)), k, rfl, rfl, rfl, Nat.le_refl _, by omega, fun q h1 h2 => by omega⟩
                ·
                  rintro m l w' ⟨j, rfl, rfl, rfl, hkj, hjs, hall⟩
                  refine V.seq ?_
                  refine V.seq ?_
                  refine V.region ?_
                  refine L.rd (rd_move rfl) rfl ?_
                  refine L.rd (rd_move rfl) rfl ?_
                  refine L.rd (rd_lenString tok rfl rfl rfl) rfl ?_
                  refine L.rd (rd_lss rfl rfl) rfl ?_
                  refine L.rd (rd_move rfl) rfl ?_
                  first | refine L.partG rfl rfl (fun g36 => ?_) (fun g36 => ?_) | refine L.partGB rfl rfl (fun g36 => ?_) (fun g36 => ?_)
                  ·
                    obtain ⟨e, he, he256⟩ := bl_some s j (by omega)
                    refine L.yes rfl rfl ?_
                    refine L.rd (rd_move rfl) rfl ?_
                    refine L.yes rfl rfl ?_
                    refine L.rd (rd_move rfl) rfl ?_
                    refine L.yes rfl rfl ?_
                    refine L.rd (rd_indexStr tok rfl rfl rfl rfl (by assumption)) rfl ?_
                    refine L.yes rfl rfl ?_
                    refine L.rd (rd_geq rfl rfl) rfl ?_
                    refine L.rd (rd_pickT rfl rfl) rfl ?_
                    refine L.rd (rd_move rfl) rfl ?_
                    first | refine L.partG rfl rfl (fun g42 => ?_) (fun g42 => ?_) | refine L.partGB rfl rfl (fun g42 => ?_) (fun g42 => ?_)
                    ·
                      refine L.yes rfl rfl ?_
                      refine L.rd (rd_move rfl) rfl ?_
                      refine L.yes rfl rfl ?_
                      refine L.rd (rd_move rfl) rfl ?_
                      refine L.yes rfl rfl ?_
                      refine L.rd (rd_indexStr tok rfl rfl rfl rfl (by assumption)) rfl ?_
                      refine L.yes rfl rfl ?_
                      refine L.rd (rd_leq rfl rfl) rfl ?_
                      refine L.rd (rd_pickT rfl rfl) rfl ?_
                      refine L.nil ?_
                      refine X.sq ?_
                      first | refine V.cond rfl (fun h47 => ?_) (fun h47 => ?_) | refine V.condB rfl (fun h47 => ?_) (fun h47 => ?_)
                      ·
                        refine V.skip ?_
                        refine X.sq ?_
                        refine V.block ?_
                        refine V.region ?_
                        refine L.rd (rd_move rfl) rfl ?_
                        (refine L.rd (rd_add3 rfl rfl ?_) rfl ?_; omega)
                        refine L.rd (rd_assign rfl) rfl ?_
                        refine L.nil ?_
                        refine X.bk ?_
                        exact X.lp ⟨_, _, by omega, (by repeat' (first | exact trivial | refine ⟨rfl, ?_⟩)), j + 1, rfl, rfl, rfl, by omega, by omega, fun q h1 h2 => by
                          rcases Nat.lt_or_ge q j with h | h
                          · exact hall q h1 h
                          · have : q = j := by omega
                            subst this; exact ⟨e, he, is_digit (by omega)⟩⟩
                      ·
                        refine V.exit ?_
                        refine X.sqExit ?_
                        refine X.lpExit ?_
                        refine X.bkHere ?_
                        have hend : ∀ c, (bl s)[j]? = some c → isDg c = false := by
                          intro c' hc'
                          first
                            | (exfalso; have := (List.getElem?_eq_some_iff.1 hc').1; rw [bl_length] at this; omega)
                            | (rw [he] at hc'; simp only [Option.some.injEq] at hc'; subst hc'; exact not_digit (by omega))
                        have hlt : k < j := by
                          rcases Nat.lt_or_ge k j with h | h
                          · exact h
                          · have : j = k := by omega
                            subst this
                            rw [hend c hc] at hdg; cases hdg
                        have hrun := run_ends (bl s) k j hkj (by rw [bl_length]; omega) hall hend
                        exact X.ct ⟨_, (by repeat' (first | exact trivial | refine ⟨rfl, ?_⟩)), j, rfl, rfl, hlt, hjs, hrun.2.symm, hrun.1.symm⟩
                    ·
                      refine L.no rfl rfl rfl rfl ?_
                      refine L.no rfl rfl rfl rfl ?_
                      refine L.no rfl rfl rfl rfl ?_
                      refine L.no rfl rfl rfl rfl ?_
                      refine L.rd (rd_pickF rfl rfl) rfl ?_
                      refine L.nil ?_
                      refine X.sq ?_
                      refine V.condF rfl ?_
                      refine V.exit ?_
                      refine X.sqExit ?_
                      refine X.lpExit ?_
                      refine X.bkHere ?_
                      have hend : ∀ c, (bl s)[j]? = some c → isDg c = false := by
                        intro c' hc'
                        first
                          | (exfalso; have := (List.getElem?_eq_some_iff.1 hc').1; rw [bl_length] at this; omega)
                          | (rw [he] at hc'; simp only [Option.some.injEq] at hc'; subst hc'; exact not_digit (by omega))
                      have hlt : k < j := by
                        rcases Nat.lt_or_ge k j with h | h
                        · exact h
                        · have : j = k := by omega
                          subst this
                          rw [hend c hc] at hdg; cases hdg
                      have hrun := run_ends (bl s) k j hkj (by rw [bl_length]; omega) hall hend
                      exact X.ct ⟨_, (by repeat' (first | exact trivial | refine ⟨rfl, ?_⟩)), j, rfl, rfl, hlt, hjs, hrun.2.symm, hrun.1.symm⟩
                  ·
                    refine L.no rfl rfl rfl rfl ?_
                    refine L.no rfl rfl rfl rfl ?_
                    refine L.no rfl rfl rfl rfl ?_
                    refine L.no rfl rfl rfl rfl ?_
                    refine L.rd (rd_pickF rfl rfl) rfl ?_
                    refine L.rd (rd_move rfl) rfl ?_
                    refine L.no rfl rfl rfl rfl ?_
                    refine L.no rfl rfl rfl rfl ?_
                    refine L.no rfl rfl rfl rfl ?_
                    refine L.no rfl rfl rfl rfl ?_
                    refine L.rd (rd_pickF rfl rfl) rfl ?_
                    refine L.nil ?_
                    refine X.sq ?_
                    refine V.condF rfl ?_
                    refine V.exit ?_
                    refine X.sqExit ?_
                    refine X.lpExit ?_
                    refine X.bkHere ?_
                    have hend : ∀ c, (bl s)[j]? = some c → isDg c = false := by
                      intro c' hc'
                      first
                        | (exfalso; have := (List.getElem?_eq_some_iff.1 hc').1; rw [bl_length] at this; omega)
                        | (rw [he] at hc'; simp only [Option.some.injEq] at hc'; subst hc'; exact not_digit (by omega))
                    have hlt : k < j := by
                      rcases Nat.lt_or_ge k j with h | h
                      · exact h
                      · have : j = k := by omega
                        subst this
                        rw [hend c hc] at hdg; cases hdg
                    have hrun := run_ends (bl s) k j hkj (by rw [bl_length]; omega) hall hend
                    exact X.ct ⟨_, (by repeat' (first | exact trivial | refine ⟨rfl, ?_⟩)), j, rfl, rfl, hlt, hjs, hrun.2.symm, hrun.1.symm⟩
              ·
                rintro l w' ⟨j, rfl, rfl, hkj, hjs, hdrop, hseg⟩
                refine X.sq ?_
                refine V.seq ?_
                have hbx : bl (s.extract k j) = ((bl s).drop k).takeWhile isDg := by rw [bl_extract, ← hseg]; rfl
                have hdx : dgs (bl (s.extract k j)) := by
                  rw [hbx]; intro c hc; have := takeWhile_all isDg _ c hc; exact (isDg_iff c).1 this
                have hsx : (s.extract k j).size ≤ 1099511627776 := by
                  rw [← bl_length, bl_extract]; simp [bl_length]; omega
                refine V.region ?_
                refine L.rd (rd_move rfl) rfl ?_
                refine L.rd (rd_move rfl) rfl ?_
                refine L.rd (rd_move rfl) rfl ?_
                refine L.rd (rd_subsLH tok rfl rfl rfl rfl rfl ⟨by omega, by omega⟩) rfl ?_
                refine L.ef (e_call rfl (digits_ok _ _ hdx hsx) rfl ?_)
                rintro _ _ ⟨⟨xv, rfl, hxv⟩, rfl⟩
                rw [hbx] at hxv
                simp only [hbx]
                refine L.rd (rd_move rfl) rfl ?_
                refine L.rd (rd_ext0 rfl) rfl ?_
                refine L.rd (rd_ext1 rfl) rfl ?_
                refine L.rd (rd_assign rfl) rfl ?_
                refine L.rd (rd_assign rfl) rfl ?_
                refine L.nil ?_
                refine X.sq ?_
                refine V.seq ?_
                refine V.seq ?_
                refine V.region ?_
                refine L.rd (rd_move rfl) rfl ?_
                first | refine L.rd (rd_not rfl) rfl ?_ | refine L.rd (rd_notB rfl) rfl ?_
                refine L.nil ?_
                refine X.sq ?_
                first | refine V.cond rfl (fun h59 => ?_) (fun h59 => ?_) | refine V.condB rfl (fun h59 => ?_) (fun h59 => ?_)
                ·
                  refine V.seq ?_
                  refine V.region ?_
                  refine L.rd (rd_assign rfl) rfl ?_
                  refine L.rd (rd_assign rfl) rfl ?_
                  refine L.nil ?_
                  refine X.sq ?_
                  refine V.ret ?_
                  refine X.sqRet ?_
                  refine X.sqRet ?_
                  refine X.bkRet ?_
                  refine X.lpRet ?_
                  refine X.bkRet ?_
                  refine X.sqRet ?_
                  refine ret_2 Yaam.results29 rfl rfl ?_
                  exact LexPost.bad hx.ext (by rw [hlex, ← hlr]; exact lexR_bad hcons hsp hdg h59)
                ·
                  have hnv := Decidable.not_not.1 h59
                  have hxe := hxv hnv
                  subst hxe
                  refine V.skip ?_
                  refine X.sq ?_
                  refine V.seq ?_
                  refine V.region ?_
                  refine L.rd (rd_move rfl) rfl ?_
                  refine L.rd (rd_move rfl) rfl ?_
                  refine L.rd (rd_build (out := [_, _]) tok rfl rfl rfl rfl rfl) rfl ?_
                  refine L.ef (e_buildSlice1 (e := 99) (cs := [_, _]) tok rfl rfl rfl rfl rfl rfl rfl rfl rfl (by first | (simp only [size_addB, size_setB, size_drew]; rfl) | rfl) rfl ?_)
                  refine L.ef (e_append tok rfl rfl rfl rfl rfl rfl rfl rfl rfl rfl (hx.own.alloc _) (Bl.new _ _ _).cells rfl (by simp [Value.oneCell']) (by unfold maxLen; omega) (by simp only []; omega) (by have := hx.ext.size; rw [size_addB]; omega) ?_)
                  rintro v1 w1 ho1 hg1
                  obtain ⟨sa1, sn1, hsv1⟩ := slice_form ho1
                  subst hsv1
                  refine L.rd (rd_assign rfl) rfl ?_
                  refine L.nil ?_
                  refine X.sq ?_
                  refine V.seq ?_
                  refine V.seq ?_
                  refine V.region ?_
                  refine L.rd (rd_move rfl) rfl ?_
                  refine L.rd (rd_lenSlice tok rfl rfl rfl) rfl ?_
                  refine L.rd (rd_gtr rfl rfl) rfl ?_
                  refine L.nil ?_
                  refine X.sq ?_
                  first | refine V.cond rfl (fun h67 => ?_) (fun h67 => ?_) | refine V.condB rfl (fun h67 => ?_) (fun h67 => ?_)
                  ·
                    refine V.seq ?_
                    refine V.region ?_
                    refine L.rd (rd_assign rfl) rfl ?_
                    refine L.rd (rd_assign rfl) rfl ?_
                    refine L.nil ?_
                    refine X.sq ?_
                    refine V.ret ?_
                    refine X.sqRet ?_
                    refine X.sqRet ?_
                    refine X.bkRet ?_
                    refine X.lpRet ?_
                    refine X.bkRet ?_
                    refine X.sqRet ?_
                    refine ret_2 Yaam.results29 rfl rfl ?_
                    exact LexPost.bad (Ext.grown (hx.ext.add hx.ext.size _ _) hg1 (by have := hx.ext.size; rw [size_addB]; omega) (fun q hq => (hx.own.lt q hq).1)) (by rw [hlex, ← hlr]; exact lexR_full hcons hsp (by omega))
                  ·
                    refine V.skip ?_
                    refine X.sq ?_
                    refine V.seq ?_
                    refine V.region ?_
                    refine L.rd (rd_move rfl) rfl ?_
                    refine L.rd (rd_assign rfl) rfl ?_
                    refine L.nil ?_
                    refine X.sq ?_
                    refine V.exit ?_
                    refine X.sqExit ?_
                    refine X.bkHere ?_
                    exact X.lp ⟨_, _, by omega, (by repeat' (first | exact trivial | refine ⟨rfl, ?_⟩)), j, _, _, rfl, rfl, hx.grow ⟨by omega, hjs⟩ ho1 hg1 (by rw [lexR_num hcons hsp (by omega) hdg, if_pos hnv, hdrop]), by simp; omega⟩
            ·
              have hdg : isDg c = false := not_digit h30
              refine V.skip ?_
              refine X.sq ?_
              refine V.seq ?_
              refine V.seq ?_
              refine V.cut (fun l w' => l = [(0, .string s), (4, .slice sa acc.length sn), (5, .int .i64 k), (6, .int .u8 c), (74, .bool (decide (97 ≤ (c : Int) ∧ (c : Int) ≤ 122)))] ∧ wr = w') ?_ ?_
              ·
                refine V.region ?_
                refine L.rd (rd_move rfl) rfl ?_
                refine L.rd (rd_geq rfl rfl) rfl ?_
                refine L.rd (rd_move rfl) rfl ?_
                first | refine L.partG rfl rfl (fun g71 => ?_) (fun g71 => ?_) | refine L.partGB rfl rfl (fun g71 => ?_) (fun g71 => ?_)
                ·
                  refine L.yes rfl rfl ?_
                  refine L.rd (rd_move rfl) rfl ?_
                  refine L.yes rfl rfl ?_
                  refine L.rd (rd_leq rfl rfl) rfl ?_
                  refine L.rd (rd_pickT rfl rfl) rfl ?_
                  refine L.nil ?_
                  exact X.ct ⟨_, by exact ⟨rfl, rfl, rfl, rfl, bool_dec (by simp; omega), trivial⟩, rfl, rfl⟩
                ·
                  refine L.no rfl rfl rfl rfl ?_
                  refine L.no rfl rfl rfl rfl ?_
                  refine L.rd (rd_pickF rfl rfl) rfl ?_
                  refine L.nil ?_
                  exact X.ct ⟨_, by exact ⟨rfl, rfl, rfl, rfl, bool_dec (by simp; omega), trivial⟩, rfl, rfl⟩
              ·
                rintro l w' ⟨rfl, rfl⟩
                refine X.sq ?_
                first | refine V.cond rfl (fun h74 => ?_) (fun h74 => ?_) | refine V.condB rfl (fun h74 => ?_) (fun h74 => ?_)
                ·
                  refine V.seq ?_
                  refine V.region ?_
                  refine L.rd (rd_move rfl) rfl ?_
                  refine L.rd (rd_move rfl) rfl ?_
                  refine L.rd (rd_subE (r := (c : Int) - 97) rfl rfl (wrap_u8_in (by omega))) rfl ?_
                  refine L.rd (rd_convE (r := (c : Int) - 97) tok rfl rfl rfl rfl rfl (wrap_i64_in (by omega))) rfl ?_
                  refine L.rd (rd_build (out := [_, _]) tok rfl rfl rfl rfl rfl) rfl ?_
                  refine L.ef (e_buildSlice1 (e := 99) (cs := [_, _]) tok rfl rfl rfl rfl rfl rfl rfl rfl rfl (by first | (simp only [size_addB, size_setB, size_drew]; rfl) | rfl) rfl ?_)
                  refine L.ef (e_append tok rfl rfl rfl rfl rfl rfl rfl rfl rfl rfl (hx.own.alloc _) (Bl.new _ _ _).cells rfl (by simp [Value.oneCell']) (by unfold maxLen; omega) (by simp only []; omega) (by have := hx.ext.size; rw [size_addB]; omega) ?_)
                  rintro v1 w1 ho1 hg1
                  obtain ⟨sa1, sn1, hsv1⟩ := slice_form ho1
                  subst hsv1
                  refine L.rd (rd_assign rfl) rfl ?_
                  refine L.nil ?_
                  refine X.sq ?_
                  refine V.seq ?_
                  refine V.seq ?_
                  refine V.region ?_
                  refine L.rd (rd_move rfl) rfl ?_
                  refine L.rd (rd_lenSlice tok rfl rfl rfl) rfl ?_
                  refine L.rd (rd_gtr rfl rfl) rfl ?_
                  refine L.nil ?_
                  refine X.sq ?_
                  first | refine V.cond rfl (fun h84 => ?_) (fun h84 => ?_) | refine V.condB rfl (fun h84 => ?_) (fun h84 => ?_)
                  ·
                    refine V.seq ?_
                    refine V.region ?_
                    refine L.rd (rd_assign rfl) rfl ?_
                    refine L.rd (rd_assign rfl) rfl ?_
                    refine L.nil ?_
                    refine X.sq ?_
                    refine V.ret ?_
                    refine X.sqRet ?_
                    refine X.sqRet ?_
                    refine X.bkRet ?_
                    refine X.lpRet ?_
                    refine X.bkRet ?_
                    refine X.sqRet ?_
                    refine ret_2 Yaam.results29 rfl rfl ?_
                    exact LexPost.bad (Ext.grown (hx.ext.add hx.ext.size _ _) hg1 (by have := hx.ext.size; rw [size_addB]; omega) (fun q hq => (hx.own.lt q hq).1)) (by rw [hlex, ← hlr]; exact lexR_full hcons hsp (by omega))
                  ·
                    refine V.skip ?_
                    refine X.sq ?_
                    refine V.seq ?_
                    refine V.region ?_
                    refine L.rd (rd_move rfl) rfl ?_
                    (refine L.rd (rd_add3 rfl rfl ?_) rfl ?_; omega)
                    refine L.rd (rd_assign rfl) rfl ?_
                    refine L.nil ?_
                    refine X.sq ?_
                    refine V.exit ?_
                    refine X.sqExit ?_
                    refine X.bkHere ?_
                    exact X.lp ⟨_, _, by omega, (by repeat' (first | exact trivial | refine ⟨rfl, ?_⟩)), k + 1, _, _, rfl, rfl, hx.grow ⟨by omega, by omega⟩ ho1 hg1 (lexR_var hcons hsp (by omega) hdg (by omega)).symm, by simp; omega⟩
                ·
                  refine V.skip ?_
                  refine X.sq ?_
                  refine V.seq ?_
                  refine V.region ?_
                  refine L.rd (rd_move rfl) rfl ?_
                  refine L.ef (e_call rfl (opKind_ok _ _) rfl ?_)
                  rintro _ _ ⟨rfl, rfl⟩
                  refine L.rd (rd_assign rfl) rfl ?_
                  refine L.nil ?_
                  refine X.sq ?_
                  refine V.seq ?_
                  refine V.seq ?_
                  refine V.region ?_
                  refine L.rd (rd_move rfl) rfl ?_
                  refine L.rd (rd_eql rfl rfl) rfl ?_
                  refine L.nil ?_
                  refine X.sq ?_
                  first | refine V.cond rfl (fun h90 => ?_) (fun h90 => ?_) | refine V.condB rfl (fun h90 => ?_) (fun h90 => ?_)
                  ·
                    refine V.seq ?_
                    refine V.region ?_
                    refine L.rd (rd_assign rfl) rfl ?_
                    refine L.rd (rd_assign rfl) rfl ?_
                    refine L.nil ?_
                    refine X.sq ?_
                    refine V.ret ?_
                    refine X.sqRet ?_
                    refine X.bkRet ?_
                    refine X.lpRet ?_
                    refine X.bkRet ?_
                    refine X.sqRet ?_
                    refine ret_2 Yaam.results29 rfl rfl ?_
                    exact LexPost.bad hx.ext (by rw [hlex, ← hlr]; exact lexR_bad2 hcons hsp hdg (by omega) h90)
                  ·
                    refine V.skip ?_
                    refine X.sq ?_
                    refine V.seq ?_
                    refine V.region ?_
                    refine L.rd (rd_move rfl) rfl ?_
                    refine L.rd (rd_move rfl) rfl ?_
                    refine L.rd (rd_build (out := [_, _]) tok rfl rfl rfl rfl rfl) rfl ?_
                    refine L.ef (e_buildSlice1 (e := 99) (cs := [_, _]) tok rfl rfl rfl rfl rfl rfl rfl rfl rfl (by first | (simp only [size_addB, size_setB, size_drew]; rfl) | rfl) rfl ?_)
                    refine L.ef (e_append tok rfl rfl rfl rfl rfl rfl rfl rfl rfl rfl (hx.own.alloc _) (Bl.new _ _ _).cells rfl (by simp [Value.oneCell']) (by unfold maxLen; omega) (by simp only []; omega) (by have := hx.ext.size; rw [size_addB]; omega) ?_)
                    rintro v1 w1 ho1 hg1
                    obtain ⟨sa1, sn1, hsv1⟩ := slice_form ho1
                    subst hsv1
                    refine L.rd (rd_assign rfl) rfl ?_
                    refine L.nil ?_
                    refine X.sq ?_
                    refine V.seq ?_
                    refine V.seq ?_
                    refine V.region ?_
                    refine L.rd (rd_move rfl) rfl ?_
                    refine L.rd (rd_lenSlice tok rfl rfl rfl) rfl ?_
                    refine L.rd (rd_gtr rfl rfl) rfl ?_
                    refine L.nil ?_
                    refine X.sq ?_
                    first | refine V.cond rfl (fun h98 => ?_) (fun h98 => ?_) | refine V.condB rfl (fun h98 => ?_) (fun h98 => ?_)
                    ·
                      refine V.seq ?_
                      refine V.region ?_
                      refine L.rd (rd_assign rfl) rfl ?_
                      refine L.rd (rd_assign rfl) rfl ?_
                      refine L.nil ?_
                      refine X.sq ?_
                      refine V.ret ?_
                      refine X.sqRet ?_
                      refine X.bkRet ?_
                      refine X.lpRet ?_
                      refine X.bkRet ?_
                      refine X.sqRet ?_
                      refine ret_2 Yaam.results29 rfl rfl ?_
                      exact LexPost.bad (Ext.grown (hx.ext.add hx.ext.size _ _) hg1 (by have := hx.ext.size; rw [size_addB]; omega) (fun q hq => (hx.own.lt q hq).1)) (by rw [hlex, ← hlr]; exact lexR_full hcons hsp (by omega))
                    ·
                      refine V.skip ?_
                      refine X.sq ?_
                      refine V.region ?_
                      refine L.rd (rd_move rfl) rfl ?_
                      (refine L.rd (rd_add3 rfl rfl ?_) rfl ?_; omega)
                      refine L.rd (rd_assign rfl) rfl ?_
                      refine L.nil ?_
                      refine X.bk ?_
                      exact X.lp ⟨_, _, by omega, (by repeat' (first | exact trivial | refine ⟨rfl, ?_⟩)), k + 1, _, _, rfl, rfl, hx.grow ⟨by omega, by omega⟩ ho1 hg1 (by rw [lexR_op hcons hsp (by omega) hdg (by omega), if_neg h90]), by simp; omega⟩
      ·
        refine V.exit ?_
        refine X.sqExit ?_
        refine X.lpExit ?_
        refine X.bkHere ?_
        refine X.sq ?_
        refine V.seq ?_
        refine V.region ?_
        refine L.rd (rd_move rfl) rfl ?_
        refine L.rd (rd_assign rfl) rfl ?_
        refine L.rd (rd_assign rfl) rfl ?_
        refine L.nil ?_
        refine X.sq ?_
        refine V.ret ?_
        refine ret_2 Yaam.results29 rfl rfl ?_
        exact LexPost.good hx (by omega) hs2
end Go.Proofs.Ybxaaw
