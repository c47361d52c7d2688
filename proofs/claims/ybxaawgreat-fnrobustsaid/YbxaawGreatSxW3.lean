/-
  The model's expander, walked: sums and products; spec.ToPoly.
-/
import Derived.Test.YbxaawGreatSxW2
import Derived.Test.YbxaawGreatCnW2
set_option linter.unusedVariables false
set_option linter.unusedSimpArgs false
set_option maxRecDepth 10000
set_option maxHeartbeats 4000000
namespace Go.Proofs.YbxaawGreat
open Go.Mw

theorem sx_bin (bs : Nat) (k v x : Int) (a c : Tre) (hk : k = 4 ∨ k = 5 ∨ k = 6) (ih : ∀ (p : Value) (w : World) (u : Nat), Tm 119 w 0 a p → Bl w bs 141 [.int .i64 u, .bool false] → u ≤ 100000 → Ret Yaam.prog 97 [.pointer (some ⟨bs, 0, none⟩), p] w (XPq bs (xp a u) w)) (ih2 : ∀ (p : Value) (w : World) (u : Nat), Tm 119 w 0 c p → Bl w bs 141 [.int .i64 u, .bool false] → u ≤ 100000 → Ret Yaam.prog 97 [.pointer (some ⟨bs, 0, none⟩), p] w (XPq bs (xp c u) w)) (u : Nat) (hu : u ≤ 100000) (b : Nat) (q q2 : Option Addr) (w : World) (hn : Bl w b 119 [.int .i64 k, .int .i64 v, .int .i64 x, .pointer q, .pointer q2]) (ht : Tm 119 w 0 a (.pointer q)) (ht2 : Tm 119 w 0 c (.pointer q2)) (hx : Bl w bs 141 [.int .i64 u, .bool false]) : Ret Yaam.prog 97 [.pointer (some ⟨bs, 0, none⟩), .pointer (some ⟨b, 0, none⟩)] w (XPq bs ((xp a u).bind fun p => (xp c p.2).bind fun s => stA k v x p.1 s.1 s.2) w) := by
  refine enter2 Yaam.func97 Yaam.ntmps97 (by kernel_rfl) rfl rfl ?_
  refine V.seq ?_
  refine V.region ?_
  refine L.rd (rd_assign rfl) rfl ?_
  refine L.nil ?_
  refine X.sq ?_
  refine V.seq ?_
  refine V.seq ?_
  refine V.region ?_
  refine L.rd (rd_move rfl) rfl ?_
  refine L.rd (rd_nilCheck rfl) rfl ?_
  refine L.rd (rd_fieldAddr tok rfl rfl rfl rfl rfl rfl) rfl ?_
  refine L.rd (rd_load1 tok rfl rfl rfl (hx.cell (i := 1) rfl)) rfl ?_
  refine L.nil ?_
  refine X.sq ?_
  first | refine V.cond rfl (fun h24 => ?_) (fun h24 => ?_) | refine V.condB rfl (fun h24 => ?_) (fun h24 => ?_)
  ·
    cases h24
  ·
    refine V.skip ?_
    refine X.sq ?_
    refine V.seq ?_
    refine V.seq ?_
    refine V.region ?_
    refine L.rd (rd_move rfl) rfl ?_
    refine L.rd (rd_nilCheck rfl) rfl ?_
    refine L.rd (rd_fieldAddr tok rfl rfl rfl rfl rfl rfl) rfl ?_
    refine L.rd (rd_load1 tok rfl rfl rfl (hn.cell rfl)) rfl ?_
    refine L.nil ?_
    refine X.sq ?_
    refine V.block ?_
    refine V.seq ?_
    refine V.region ?_
    refine L.rd (rd_eql rfl rfl) rfl ?_
    refine L.rd (rd_assign rfl) rfl ?_
    refine L.nil ?_
    refine X.sq ?_
    first | refine V.cond rfl (fun h29 => ?_) (fun h29 => ?_) | refine V.condB rfl (fun h29 => ?_) (fun h29 => ?_)
    ·
      refine V.seq ?_
      exfalso
      omega
    ·
      refine V.seq ?_
      refine V.region ?_
      refine L.rd (rd_eql rfl rfl) rfl ?_
      refine L.rd (rd_assign rfl) rfl ?_
      refine L.nil ?_
      refine X.sq ?_
      first | refine V.cond rfl (fun h50 => ?_) (fun h50 => ?_) | refine V.condB rfl (fun h50 => ?_) (fun h50 => ?_)
      ·
        refine V.seq ?_
        exfalso
        omega
      ·
        refine V.seq ?_
        refine V.region ?_
        refine L.rd (rd_eql rfl rfl) rfl ?_
        refine L.rd (rd_assign rfl) rfl ?_
        refine L.nil ?_
        refine X.sq ?_
        first | refine V.cond rfl (fun h67 => ?_) (fun h67 => ?_) | refine V.condB rfl (fun h67 => ?_) (fun h67 => ?_)
        ·
          refine V.seq ?_
          exfalso
          omega
        ·
          refine V.seq ?_
          refine V.seq ?_
          refine V.region ?_
          refine L.rd (rd_eql rfl rfl) rfl ?_
          refine L.rd (rd_assign rfl) rfl ?_
          refine L.nil ?_
          refine X.sq ?_
          refine V.cut (fun l w' => ∃ b' : Bool, l = [(0, .pointer (some ⟨bs, 0, none⟩)), (1, .pointer (some ⟨b, 0, none⟩)), (28, .int .i64 k), (111, .bool b')] ∧ b' = decide (k = 4 ∨ k = 5) ∧ w = w') ?_ ?_
          ·
            first | refine V.cond rfl (fun h111 => ?_) (fun h111 => ?_) | refine V.condB rfl (fun h111 => ?_) (fun h111 => ?_)
            ·
              refine V.skip ?_
              refine X.ct ⟨_, (by repeat' (first | exact trivial | refine ⟨rfl, ?_⟩)), _, rfl, ?_, rfl⟩
              first
                | (rw [decide_eq_true h111, decide_eq_true (by omega)])
                | (by_cases h6 : k = 5
                   · rw [decide_eq_true h6, decide_eq_true (by omega)]
                   · rw [decide_eq_false h6, decide_eq_false (by omega)])
            ·
              refine V.region ?_
              refine L.rd (rd_eql rfl rfl) rfl ?_
              refine L.rd (rd_assign rfl) rfl ?_
              refine L.nil ?_
              refine X.ct ⟨_, (by repeat' (first | exact trivial | refine ⟨rfl, ?_⟩)), _, rfl, ?_, rfl⟩
              first
                | (rw [decide_eq_true h111, decide_eq_true (by omega)])
                | (by_cases h6 : k = 5
                   · rw [decide_eq_true h6, decide_eq_true (by omega)]
                   · rw [decide_eq_false h6, decide_eq_false (by omega)])
          ·
            rintro l w' ⟨b', rfl, hb111, rfl⟩
            refine X.sq ?_
            first | refine V.cond rfl (fun h111 => ?_) (fun h111 => ?_) | refine V.condB rfl (fun h111 => ?_) (fun h111 => ?_)
            ·
              refine V.seq ?_
              have h45 : k = 4 ∨ k = 5 := by rw [h111] at hb111; exact of_decide_eq_true hb111.symm
              refine V.region ?_
              refine L.rd (rd_move rfl) rfl ?_
              refine L.rd (rd_move rfl) rfl ?_
              refine L.rd (rd_nilCheck rfl) rfl ?_
              refine L.rd (rd_fieldAddr tok rfl rfl rfl rfl rfl rfl) rfl ?_
              refine L.rd (rd_load1 tok rfl rfl rfl (hn.cell (i := 3) rfl)) rfl ?_
              refine L.ef (e_call rfl (ih _ _ u ht hx hu) rfl ?_)
              rintro r1 w1 ⟨hr1, u1, b1, hx1, hb1, hg1⟩
              have hn1 := hn.rgT hx hr1 rfl
              have ht21 := Tm.rgT hx hr1 rfl _ _ ht2
              refine L.rd (rd_assign rfl) rfl ?_
              refine L.nil ?_
              refine X.sq ?_
              refine V.seq ?_
              refine V.seq ?_
              refine V.region ?_
              refine L.rd (rd_move rfl) rfl ?_
              refine L.rd (rd_nilCheck rfl) rfl ?_
              refine L.rd (rd_fieldAddr tok rfl rfl rfl rfl rfl rfl) rfl ?_
              refine L.rd (rd_load1 tok rfl rfl rfl (hx1.cell (i := 1) rfl)) rfl ?_
              refine L.nil ?_
              refine X.sq ?_
              first | refine V.cond rfl (fun h123 => ?_) (fun h123 => ?_) | refine V.condB rfl (fun h123 => ?_) (fun h123 => ?_)
              ·
                refine V.seq ?_
                refine V.region ?_
                refine L.rd (rd_assign rfl) rfl ?_
                refine L.nil ?_
                refine X.sq ?_
                refine V.ret ?_
                refine X.sqRet ?_
                refine X.bkRet ?_
                refine X.sqRet ?_
                refine ret_1 Yaam.results97 rfl ?_
                exact XPo.bad hr1 hx1 h123 (by rw [hb1 h123]; rfl)
              ·
                refine V.skip ?_
                refine X.sq ?_
                refine V.seq ?_
                obtain ⟨A, hxa, hO1, hcA, hu1⟩ := hg1 h123
                obtain ⟨aa, ac, rfl⟩ := own_form hO1
                have hAl := hcA.len
                subst h123
                rw [hxa, Option.bind_some]
                simp only []
                refine V.region ?_
                refine L.rd (rd_move rfl) rfl ?_
                refine L.rd (rd_move rfl) rfl ?_
                refine L.rd (rd_nilCheck rfl) rfl ?_
                refine L.rd (rd_fieldAddr tok rfl rfl rfl rfl rfl rfl) rfl ?_
                refine L.rd (rd_load1 tok rfl rfl rfl (hn1.cell (i := 4) rfl)) rfl ?_
                refine L.ef (e_call rfl (ih2 _ _ u1 ht21 hx1 hu1) rfl ?_)
                rintro r2 w2 ⟨hr2, u2, b2, hx2, hb2, hg2⟩
                have hn2 := hn1.rgT hx1 hr2 rfl
                have hO2 := own_rgT hO1 hx1 hr2 rfl
                refine L.rd (rd_assign rfl) rfl ?_
                refine L.nil ?_
                refine X.sq ?_
                refine V.seq ?_
                refine V.seq ?_
                refine V.region ?_
                refine L.rd (rd_move rfl) rfl ?_
                refine L.rd (rd_nilCheck rfl) rfl ?_
                refine L.rd (rd_fieldAddr tok rfl rfl rfl rfl rfl rfl) rfl ?_
                refine L.rd (rd_load1 tok rfl rfl rfl (hx2.cell (i := 1) rfl)) rfl ?_
                refine L.nil ?_
                refine X.sq ?_
                first | refine V.cond rfl (fun h133 => ?_) (fun h133 => ?_) | refine V.condB rfl (fun h133 => ?_) (fun h133 => ?_)
                ·
                  refine V.seq ?_
                  refine V.region ?_
                  refine L.rd (rd_assign rfl) rfl ?_
                  refine L.nil ?_
                  refine X.sq ?_
                  refine V.ret ?_
                  refine X.sqRet ?_
                  refine X.bkRet ?_
                  refine X.sqRet ?_
                  refine ret_1 Yaam.results97 rfl ?_
                  exact XPo.bad (hr1.trans hr2) hx2 h133 (by rw [hb2 h133]; rfl)
                ·
                  refine V.skip ?_
                  refine X.sq ?_
                  refine V.seq ?_
                  obtain ⟨B, hxb, hOB, hcB, hu2⟩ := hg2 h133
                  obtain ⟨ba, bc, rfl⟩ := own_form hOB
                  have hBl := hcB.len
                  subst h133
                  rw [hxb, Option.bind_some]
                  simp only []
                  refine V.region ?_
                  refine L.rd (rd_move rfl) rfl ?_
                  refine L.rd (rd_move rfl) rfl ?_
                  refine L.rd (rd_lenSlice tok rfl rfl rfl) rfl ?_
                  refine L.rd (rd_move rfl) rfl ?_
                  refine L.rd (rd_lenSlice tok rfl rfl rfl) rfl ?_
                  refine L.rd (rd_addE (r := ((A.length + B.length : Nat) : Int)) rfl rfl (by rw [wrap_i64_in (by omega)]; omega)) rfl ?_
                  refine L.ef (e_call rfl (charge_ok (A.length + B.length) u2 _ bs hx2 hu2 (by omega)) rfl ?_)
                  rintro _ w3 ⟨b3, hx3, hb3, hb3', hr3⟩
                  have hO3 := own_rgT hO2 hx2 hr3 rfl
                  have hOB3 := own_rgT hOB hx2 hr3 rfl
                  have hn3 := hn2.rgT hx2 hr3 rfl
                  refine L.nil ?_
                  refine X.sq ?_
                  refine V.seq ?_
                  refine V.seq ?_
                  refine V.region ?_
                  refine L.rd (rd_move rfl) rfl ?_
                  refine L.rd (rd_nilCheck rfl) rfl ?_
                  refine L.rd (rd_fieldAddr tok rfl rfl rfl rfl rfl rfl) rfl ?_
                  refine L.rd (rd_load1 tok rfl rfl rfl (hx3.cell (i := 1) rfl)) rfl ?_
                  refine L.nil ?_
                  refine X.sq ?_
                  first | refine V.cond rfl (fun h144 => ?_) (fun h144 => ?_) | refine V.condB rfl (fun h144 => ?_) (fun h144 => ?_)
                  ·
                    refine V.seq ?_
                    refine V.region ?_
                    refine L.rd (rd_assign rfl) rfl ?_
                    refine L.nil ?_
                    refine X.sq ?_
                    refine V.ret ?_
                    refine X.sqRet ?_
                    refine X.bkRet ?_
                    refine X.sqRet ?_
                    refine ret_1 Yaam.results97 rfl ?_
                    exact XPo.bad ((hr1.trans hr2).trans hr3) hx3 h144 (by rw [st45 h45, chg_no (hb3 h144)]; rfl)
                  ·
                    refine V.skip ?_
                    refine X.sq ?_
                    refine V.seq ?_
                    have hu3 := hb3' h144
                    subst h144
                    refine V.region ?_
                    refine L.rd (rd_move rfl) rfl ?_
                    refine L.rd (rd_lenSlice tok rfl rfl rfl) rfl ?_
                    refine L.rd (rd_move rfl) rfl ?_
                    refine L.rd (rd_lenSlice tok rfl rfl rfl) rfl ?_
                    refine L.rd (rd_addE (r := ((A.length + B.length : Nat) : Int)) rfl rfl (by rw [wrap_i64_in (by omega)]; omega)) rfl ?_
                    refine L.ef (e_make (e := 103) (zs := .int .i64 0 :: iC .i32 z26) (m := 0) (c := A.length + B.length) tok rfl rfl rfl rfl rfl rfl rfl rfl (by first | (simp only [size_addB, size_setB, size_drew]; rfl) | rfl) rfl (by omega) (by simp only []; omega) (by omega) ?_)
                    refine L.rd (rd_assign rfl) rfl ?_
                    refine L.nil ?_
                    refine X.sq ?_
                    refine V.seq ?_
                    have hmk := Bl.new w3 103 ((List.replicate (A.length + B.length) (.int .i64 0 :: iC .i32 z26)).flatten)
                    have hall := own_made (base := w3.heap.size) (sz := 27) (c := A.length + B.length) hmk (by rw [List.length_flatten]; simp [iC, z26]) (Nat.le_refl _) (by unfold maxLen; omega)
                    have he4 := (Ext.refl _ w3).addNew 103 ((List.replicate (A.length + B.length) (.int .i64 0 :: iC .i32 z26)).flatten)
                    clear hmk
                    generalize addB w3 103 ((List.replicate (A.length + B.length) (.int .i64 0 :: iC .i32 z26)).flatten) = w4 at hall he4 ⊢
                    have hO4 := own_ext hO3 he4
                    have hs4 := he4.size
                    refine V.region ?_
                    refine L.rd (rd_move rfl) rfl ?_
                    refine L.rd (rd_move rfl) rfl ?_
                    refine L.ef (e_appendOwn tok rfl rfl rfl rfl rfl rfl rfl rfl rfl rfl hall hO4 (fm_one _) (by unfold maxLen; omega) (by simp only []; omega) (by omega) ?_)
                    rintro v5 w5 ho5 hg5
                    have he5 : Ext w3.heap.size w3 w5 := he4.grown hg5 (by omega) (fun k hk => (own_block_lt hall hk).1)
                    have hOB5 := own_ext hOB3 he5
                    have hx5 := he5.bl hx3.lt hx3
                    have hn5 := he5.bl hn3.lt hn3
                    rw [List.nil_append, Nat.zero_add] at ho5
                    refine L.rd (rd_assign rfl) rfl ?_
                    refine L.nil ?_
                    refine X.sq ?_
                    refine V.seq ?_
                    refine V.seq ?_
                    obtain ⟨B', hB'⟩ : ∃ B', B' = if k = 5 then negM B else B := ⟨_, rfl⟩
                    have hB'l : B'.length = B.length := by rw [hB']; split; exact negM_len _; rfl
                    have hcB' : CM B' := by rw [hB']; split; exact hcB.neg; exact hcB
                    have hst := st45 (v := v) (x := x) (A := A) (B := B) (u := u2) h45
                    rw [← hB'] at hst
                    refine V.region ?_
                    refine L.rd (rd_move rfl) rfl ?_
                    refine L.rd (rd_lenSlice tok rfl rfl rfl) rfl ?_
                    refine L.rd (rd_move rfl) rfl ?_
                    refine L.nil ?_
                    refine X.sq ?_
                    refine V.block ?_
                    refine V.loop (fun m l w7 => ∃ (i : Nat) (av : Value), l = [(0, .pointer (some ⟨bs, 0, none⟩)), (1, .pointer (some ⟨b, 0, none⟩)), (11, .slice ba B.length bc), (12, av), (155, .int .i64 B.length), (156, .int .i64 i)] ∧ m = B.length - i ∧ i ≤ B.length ∧ Ext w3.heap.size w3 w7 ∧ w7.ownsRow w3.heap.size 103 27 av (A.length + i) ((A ++ B'.take i).flatMap mtE)) ?_ ?_
                    ·
                      exact ⟨_, _, (by repeat' (first | exact trivial | refine ⟨rfl, ?_⟩)), 0, v5, rfl, rfl, by omega, he5, by simpa using ho5⟩
                    ·
                      rintro m l w7 ⟨i, av, rfl, rfl, hi, hE7, hO7⟩
                      have hOB7 := own_ext hOB3 hE7
                      have hn7 := hE7.bl hn3.lt hn3
                      have hs7 := hE7.size
                      refine V.seq ?_
                      refine V.region ?_
                      refine L.rd (rd_lss rfl rfl) rfl ?_
                      refine L.nil ?_
                      refine X.sq ?_
                      refine V.seq ?_
                      first | refine V.cond rfl (fun h157 => ?_) (fun h157 => ?_) | refine V.condB rfl (fun h157 => ?_) (fun h157 => ?_)
                      ·
                        obtain ⟨⟨tc, tv⟩, ht_⟩ := nth_of_lt B i (by omega)
                        obtain ⟨g, gc, hv, -, -, hc⟩ := own_some hOB7 (by omega)
                        simp only [Value.slice.injEq] at hv
                        obtain ⟨rfl, -, rfl⟩ := hv
                        have hcx := mt_at hc ht_
                        have htv := hcB.nm.vl _ (List.mem_of_getElem? ht_)
                        simp only at htv
                        refine V.skip ?_
                        refine X.sq ?_
                        refine V.seq ?_
                        refine V.block ?_
                        refine V.seq ?_
                        refine V.region ?_
                        refine L.rd (rd_move rfl) rfl ?_
                        refine L.rd (rd_assign rfl) rfl ?_
                        refine L.nil ?_
                        refine X.sq ?_
                        refine V.seq ?_
                        refine V.region ?_
                        refine L.rd (rd_move rfl) rfl ?_
                        refine L.rd (rd_move rfl) rfl ?_
                        (refine L.rd (rd_indexSlice (sz := 27) tok rfl rfl rfl rfl rfl rfl rfl ?_) rfl ?_; omega)
                        refine L.rd (rd_loadN tok rfl rfl rfl hcx (mtE_len _).symm) rfl ?_
                        refine L.ef (e_alloc (cs := .int .i64 0 :: iC .i32 z26) tok rfl rfl (by first | (simp only [size_addB, size_setB, size_drew]; rfl) | rfl) rfl ?_)
                        refine L.ef (e_store (vs := mtE (tc, tv)) tok rfl rfl rfl rfl (cs := .int .i64 0 :: iC .i32 z26) (by (repeat (first | assumption | (refine Bl.new' ?_ _ _; first | with_reducible rfl | (simp only [size_addB, size_setB, size_drew]; done)) | apply Bl.add | apply Bl.drew | (apply Bl.setNe; omega) | (refine Bl.set' ?_ _ _; (try simp only [size_addB, size_setB, size_drew]); omega)))) (mtE_len _) (mtE_one _) (by rw [mtE_len]; simp [iC, z26]) ?_)
                        (rw [putAll _ _ (by rw [mtE_len]; simp [iC, z26])])
                        refine L.nil ?_
                        refine X.sq ?_
                        refine V.seq ?_
                        refine V.seq ?_
                        generalize hw8 : setB _ _ _ _ = w8
                        have hb8 : Bl w8 w7.heap.size 103 (.int .i64 tc :: iC .i32 tv) := by rw [← hw8, ← mtE_eq htv]; refine Bl.set' ?_ _ _; rw [size_addB]; omega
                        have he8 : Ext w7.heap.size w7 w8 := by rw [← hw8]; exact ((Ext.refl _ _).addNew _ _).set (Nat.le_refl _) _ _
                        have hn8 := he8.bl hn7.lt hn7
                        refine V.region ?_
                        refine L.rd (rd_move rfl) rfl ?_
                        refine L.rd (rd_nilCheck rfl) rfl ?_
                        refine L.rd (rd_fieldAddr tok rfl rfl rfl rfl rfl rfl) rfl ?_
                        refine L.rd (rd_load1 tok rfl rfl rfl (hn8.cell rfl)) rfl ?_
                        refine L.rd (rd_eql rfl rfl) rfl ?_
                        refine L.nil ?_
                        refine X.sq ?_
                        refine V.cut (fun l w' => ∃ tc' : Int, l = [(0, .pointer (some ⟨bs, 0, none⟩)), (1, .pointer (some ⟨b, 0, none⟩)), (11, .slice (some ⟨g, 0, none⟩) B.length bc), (12, av), (14, .pointer (some ⟨w7.heap.size, 0, none⟩)), (155, .int .i64 B.length), (156, .int .i64 i)] ∧ Ext w7.heap.size w7 w' ∧ Bl w' w7.heap.size 103 (mtE (tc', tv)) ∧ B'[i]? = some (tc', tv)) ?_ ?_
                        ·
                          first | refine V.cond rfl (fun h167 => ?_) (fun h167 => ?_) | refine V.condB rfl (fun h167 => ?_) (fun h167 => ?_)
                          ·
                            refine V.region ?_
                            refine L.rd (rd_fieldAddr tok rfl rfl rfl rfl rfl rfl) rfl ?_
                            refine L.rd (rd_load1 tok rfl rfl rfl (hb8.cell rfl)) rfl ?_
                            refine L.rd (rd_negW rfl) rfl ?_
                            refine L.rd (rd_fieldAddr tok rfl rfl rfl rfl rfl rfl) rfl ?_
                            refine L.ef (e_store (vs := [_]) tok rfl rfl rfl rfl hb8 rfl (by simp [Value.oneCell']) (by simp) ?_)
                            refine L.nil ?_
                            refine X.ct ⟨_, (by repeat' (first | exact trivial | refine ⟨rfl, ?_⟩)), w64 (-tc), rfl, he8.set (Nat.le_refl _) _ _, ?_, ?_⟩
                            · rw [mtE_eq htv]; exact hb8.set _ _
                            · rw [hB', if_pos h167]; unfold negM; rw [List.getElem?_map, ht_]; rfl
                          ·
                            refine V.skip ?_
                            refine X.ct ⟨_, (by repeat' (first | exact trivial | refine ⟨rfl, ?_⟩)), tc, rfl, he8, ?_, ?_⟩
                            · rw [mtE_eq htv]; exact hb8
                            · rw [hB', if_neg h167]; exact ht_
                        ·
                          rintro l w9 ⟨tc', rfl, he9, hb9, hBi⟩
                          have hO9 := own_ext hO7 he9
                          have hs9 := he9.size
                          refine X.sq ?_
                          refine V.region ?_
                          refine L.rd (rd_move rfl) rfl ?_
                          refine L.rd (rd_loadN tok rfl rfl rfl hb9.cells (mtE_len _).symm) rfl ?_
                          refine L.ef (e_buildSlice1 (e := 103) (cs := mtE (tc', tv)) tok rfl rfl rfl rfl rfl rfl rfl rfl (by rw [mtE_len]; rfl) (by first | (simp only [size_addB, size_setB, size_drew]; rfl) | rfl) rfl ?_)
                          refine L.ef (e_append (m := 1) tok rfl rfl rfl rfl rfl rfl rfl rfl rfl rfl (hO9.alloc _) (Bl.new _ _ _).cells (mtE_len _) (mtE_one _) (by unfold maxLen; omega) (by simp only []; omega) (by rw [size_addB]; omega) ?_)
                          rintro v10 w10 ho10 hg10
                          have hE10 := ((hE7.next he9).addNew 103 (mtE (tc', tv))).grown hg10 (by rw [size_addB]; omega) (fun q hq => by have := (own_block_lt hO9 hq).1; omega)
                          refine L.rd (rd_assign rfl) rfl ?_
                          refine L.nil ?_
                          refine X.bk ?_
                          refine X.sq ?_
                          refine V.region ?_
                          (refine L.rd (rd_add3 rfl rfl ?_) rfl ?_; omega)
                          refine L.rd (rd_move rfl) rfl ?_
                          refine L.nil ?_
                          refine X.lp ⟨_, _, by omega, (by repeat' (first | exact trivial | refine ⟨rfl, ?_⟩)), i + 1, v10, rfl, rfl, by omega, hE10, ?_⟩
                          rw [take_snoc hBi, ← List.append_assoc, List.flatMap_append, ← Nat.add_assoc]
                          simpa using ho10
                      ·
                        refine V.exit ?_
                        refine X.sqExit ?_
                        refine X.lpExit ?_
                        refine X.bkHere ?_
                        refine X.sq ?_
                        refine V.seq ?_
                        obtain rfl : i = B.length := by omega
                        rw [List.take_of_length_le (by omega)] at hO7
                        have hx7 := hE7.bl hx3.lt hx3
                        have hVm := app_vl hcA.vl hcB'.vl
                        have hCm := app_cr hcA.cr hcB'.cr
                        have hml : (A ++ B').length = A.length + B.length := by rw [List.length_append]; omega
                        rw [← hml] at hO7
                        refine V.region ?_
                        refine L.rd (rd_move rfl) rfl ?_
                        refine L.rd (rd_move rfl) rfl ?_
                        refine L.ef (e_call rfl (mergeTerms_ok (A ++ B') hVm hCm (by omega) _ _ (Sl.of_own hO7)) rfl ?_)
                        rintro r11 w11 ⟨hO11, he11⟩
                        have hx11 := he11.bl hx7.lt hx7
                        refine L.ef (e_call rfl (keep_ok (nf (A ++ B')) (nf_vl hVm) _ _ _ bs hx11 (own_low hO11 (Nat.zero_le _))) rfl ?_)
                        rintro r12 w12 ⟨b12, hx12, hb12, hg12, hr12⟩
                        have hR12 := ((((hr1.trans hr2).trans hr3).trans (Rg.ext hE7 _ _)).trans (Rg.ext he11 _ _)).trans hr12
                        refine L.rd (rd_assign rfl) rfl ?_
                        refine L.nil ?_
                        refine X.sq ?_
                        refine V.ret ?_
                        refine X.bkRet ?_
                        refine X.sqRet ?_
                        refine ret_1 Yaam.results97 rfl ?_
                        cases b12 with
                        | true => exact XPo.bad hR12 hx12 rfl (by rw [hst, chg_yes hu3, Option.bind_some, opM_no (hb12 rfl)])
                        | false => exact XPo.good hR12 hx12 rfl (by rw [hst, chg_yes hu3, Option.bind_some, opM_yes (hg12 rfl).1]) (hg12 rfl).2 (CM.of_nf hVm (hg12 rfl).1) hu3
            ·
              refine V.seq ?_
              have hk6 : k = 6 := by
                have : ¬ (k = 4 ∨ k = 5) := by rw [h111] at hb111; exact of_decide_eq_false hb111.symm
                omega
              refine V.region ?_
              refine L.rd (rd_eql rfl rfl) rfl ?_
              refine L.rd (rd_assign rfl) rfl ?_
              refine L.nil ?_
              refine X.sq ?_
              first | refine V.cond rfl (fun h181 => ?_) (fun h181 => ?_) | refine V.condB rfl (fun h181 => ?_) (fun h181 => ?_)
              ·
                refine V.seq ?_
                refine V.region ?_
                refine L.rd (rd_move rfl) rfl ?_
                refine L.rd (rd_move rfl) rfl ?_
                refine L.rd (rd_nilCheck rfl) rfl ?_
                refine L.rd (rd_fieldAddr tok rfl rfl rfl rfl rfl rfl) rfl ?_
                refine L.rd (rd_load1 tok rfl rfl rfl (hn.cell (i := 3) rfl)) rfl ?_
                refine L.ef (e_call rfl (ih _ _ u ht hx hu) rfl ?_)
                rintro r1 w1 ⟨hr1, u1, b1, hx1, hb1, hg1⟩
                have hn1 := hn.rgT hx hr1 rfl
                have ht21 := Tm.rgT hx hr1 rfl _ _ ht2
                refine L.rd (rd_assign rfl) rfl ?_
                refine L.nil ?_
                refine X.sq ?_
                refine V.seq ?_
                refine V.seq ?_
                refine V.region ?_
                refine L.rd (rd_move rfl) rfl ?_
                refine L.rd (rd_nilCheck rfl) rfl ?_
                refine L.rd (rd_fieldAddr tok rfl rfl rfl rfl rfl rfl) rfl ?_
                refine L.rd (rd_load1 tok rfl rfl rfl (hx1.cell (i := 1) rfl)) rfl ?_
                refine L.nil ?_
                refine X.sq ?_
                first | refine V.cond rfl (fun h192 => ?_) (fun h192 => ?_) | refine V.condB rfl (fun h192 => ?_) (fun h192 => ?_)
                ·
                  refine V.seq ?_
                  refine V.region ?_
                  refine L.rd (rd_assign rfl) rfl ?_
                  refine L.nil ?_
                  refine X.sq ?_
                  refine V.ret ?_
                  refine X.sqRet ?_
                  refine X.bkRet ?_
                  refine X.sqRet ?_
                  refine ret_1 Yaam.results97 rfl ?_
                  exact XPo.bad hr1 hx1 h192 (by rw [hb1 h192]; rfl)
                ·
                  refine V.skip ?_
                  refine X.sq ?_
                  refine V.seq ?_
                  obtain ⟨A, hxa, hO1, hcA, hu1⟩ := hg1 h192
                  obtain ⟨aa, ac, rfl⟩ := own_form hO1
                  have hAl := hcA.len
                  subst h192
                  rw [hxa, Option.bind_some]
                  simp only []
                  refine V.region ?_
                  refine L.rd (rd_move rfl) rfl ?_
                  refine L.rd (rd_move rfl) rfl ?_
                  refine L.rd (rd_nilCheck rfl) rfl ?_
                  refine L.rd (rd_fieldAddr tok rfl rfl rfl rfl rfl rfl) rfl ?_
                  refine L.rd (rd_load1 tok rfl rfl rfl (hn1.cell (i := 4) rfl)) rfl ?_
                  refine L.ef (e_call rfl (ih2 _ _ u1 ht21 hx1 hu1) rfl ?_)
                  rintro r2 w2 ⟨hr2, u2, b2, hx2, hb2, hg2⟩
                  have hn2 := hn1.rgT hx1 hr2 rfl
                  have hO2 := own_rgT hO1 hx1 hr2 rfl
                  refine L.rd (rd_assign rfl) rfl ?_
                  refine L.nil ?_
                  refine X.sq ?_
                  refine V.seq ?_
                  refine V.seq ?_
                  refine V.region ?_
                  refine L.rd (rd_move rfl) rfl ?_
                  refine L.rd (rd_nilCheck rfl) rfl ?_
                  refine L.rd (rd_fieldAddr tok rfl rfl rfl rfl rfl rfl) rfl ?_
                  refine L.rd (rd_load1 tok rfl rfl rfl (hx2.cell (i := 1) rfl)) rfl ?_
                  refine L.nil ?_
                  refine X.sq ?_
                  first | refine V.cond rfl (fun h202 => ?_) (fun h202 => ?_) | refine V.condB rfl (fun h202 => ?_) (fun h202 => ?_)
                  ·
                    refine V.seq ?_
                    refine V.region ?_
                    refine L.rd (rd_assign rfl) rfl ?_
                    refine L.nil ?_
                    refine X.sq ?_
                    refine V.ret ?_
                    refine X.sqRet ?_
                    refine X.bkRet ?_
                    refine X.sqRet ?_
                    refine ret_1 Yaam.results97 rfl ?_
                    exact XPo.bad (hr1.trans hr2) hx2 h202 (by rw [hb2 h202]; rfl)
                  ·
                    refine V.skip ?_
                    refine X.sq ?_
                    refine V.seq ?_
                    obtain ⟨B, hxb, hOB, hcB, hu2⟩ := hg2 h202
                    obtain ⟨ba, bc, rfl⟩ := own_form hOB
                    have hBl := hcB.len
                    subst h202
                    rw [hxb, Option.bind_some]
                    simp only []
                    have hAB : A.length * B.length ≤ 16777216 := Nat.mul_le_mul hAl hBl
                    refine V.region ?_
                    refine L.rd (rd_move rfl) rfl ?_
                    refine L.rd (rd_move rfl) rfl ?_
                    refine L.rd (rd_lenSlice tok rfl rfl rfl) rfl ?_
                    refine L.rd (rd_move rfl) rfl ?_
                    refine L.rd (rd_lenSlice tok rfl rfl rfl) rfl ?_
                    refine L.rd (rd_mulE (r := ((A.length * B.length : Nat) : Int)) rfl rfl (by rw [← Int.natCast_mul, wrap_i64_in (by omega)])) rfl ?_
                    refine L.ef (e_call rfl (charge_ok (A.length * B.length) u2 _ bs hx2 hu2 (by omega)) rfl ?_)
                    rintro _ w3 ⟨b3, hx3, hb3, hb3', hr3⟩
                    have hO3 := own_rgT hO2 hx2 hr3 rfl
                    have hOB3 := own_rgT hOB hx2 hr3 rfl
                    refine L.nil ?_
                    refine X.sq ?_
                    refine V.seq ?_
                    refine V.seq ?_
                    refine V.region ?_
                    refine L.rd (rd_move rfl) rfl ?_
                    refine L.rd (rd_nilCheck rfl) rfl ?_
                    refine L.rd (rd_fieldAddr tok rfl rfl rfl rfl rfl rfl) rfl ?_
                    refine L.rd (rd_load1 tok rfl rfl rfl (hx3.cell (i := 1) rfl)) rfl ?_
                    refine L.nil ?_
                    refine X.sq ?_
                    first | refine V.cond rfl (fun h213 => ?_) (fun h213 => ?_) | refine V.condB rfl (fun h213 => ?_) (fun h213 => ?_)
                    ·
                      refine V.seq ?_
                      refine V.region ?_
                      refine L.rd (rd_assign rfl) rfl ?_
                      refine L.nil ?_
                      refine X.sq ?_
                      refine V.ret ?_
                      refine X.sqRet ?_
                      refine X.bkRet ?_
                      refine X.sqRet ?_
                      refine ret_1 Yaam.results97 rfl ?_
                      exact XPo.bad ((hr1.trans hr2).trans hr3) hx3 h213 (by rw [st6 hk6, chg_no (hb3 h213)]; rfl)
                    ·
                      refine V.skip ?_
                      refine X.sq ?_
                      refine V.seq ?_
                      have hu3 := hb3' h213
                      subst h213
                      have hVm := prods_vl hcA.hv hcB.hv
                      refine V.region ?_
                      refine L.rd (rd_move rfl) rfl ?_
                      refine L.rd (rd_move rfl) rfl ?_
                      refine L.rd (rd_move rfl) rfl ?_
                      refine L.ef (e_call rfl (mulM_ok A B hcA.hv hcB.hv (by omega) (by omega) (by omega) _ _ _ (Sl.of_own hO3) (Sl.of_own hOB3)) rfl ?_)
                      rintro r11 w11 ⟨hO11, he11⟩
                      have hx11 := he11.bl hx3.lt hx3
                      refine L.ef (e_call rfl (keep_ok (nf (prods A B)) (nf_vl hVm) _ _ _ bs hx11 (own_low hO11 (Nat.zero_le _))) rfl ?_)
                      rintro r12 w12 ⟨b12, hx12, hb12, hg12, hr12⟩
                      have hR12 := (((hr1.trans hr2).trans hr3).trans (Rg.ext he11 _ _)).trans hr12
                      refine L.rd (rd_assign rfl) rfl ?_
                      refine L.nil ?_
                      refine X.sq ?_
                      refine V.ret ?_
                      refine X.bkRet ?_
                      refine X.sqRet ?_
                      refine ret_1 Yaam.results97 rfl ?_
                      cases b12 with
                      | true => exact XPo.bad hR12 hx12 rfl (by rw [st6 hk6, chg_yes hu3, Option.bind_some, opM_no (hb12 rfl)])
                      | false => exact XPo.good hR12 hx12 rfl (by rw [st6 hk6, chg_yes hu3, Option.bind_some, opM_yes (hg12 rfl).1]) (hg12 rfl).2 (CM.of_nf hVm (hg12 rfl).1) hu3
              ·
                refine V.seq ?_
                exfalso
                omega

theorem expand_ok (bs : Nat) : ∀ (t : Tre), Wt t → Wi t → ∀ (p : Value) (w : World) (u : Nat), Tm 119 w 0 t p → Bl w bs 141 [.int .i64 u, .bool false] → u ≤ 100000 → Ret Yaam.prog 97 [.pointer (some ⟨bs, 0, none⟩), p] w (XPq bs (xp t u) w) := by
  refine Tre.ind (fun k v x c hw hi p w u h hx hu => ?_) (fun k v x c ih hw hi p w u h hx hu => ?_) (fun k v x n c ih1 ih2 hw hi p w u h hx hu => ?_)
  · obtain ⟨b, rfl, -, hb⟩ := h
    exact sx_leaf bs k v x hw hi u hu b w hb hx
  · obtain ⟨b, q, rfl, -, hb, h1⟩ := h
    obtain ⟨b1, q1, q2, rfl, -⟩ := h1.node
    obtain ⟨hx0, hA, hw1⟩ := hw
    exact sx_un bs k v x (c 0) hA (ih hw1 hi) u hu b _ w hb h1 hx
  · obtain ⟨b, q, q2, rfl, -, hb, h1, h2⟩ := h
    obtain ⟨b1, q1, q1', rfl, -⟩ := h1.node
    obtain ⟨b2, q2, q2', rfl, -⟩ := h2.node
    obtain ⟨rfl, hv, hx0, hk, hw1, hw2⟩ := hw
    exact sx_bin bs k v x (c 0) (c 1) hk (ih1 hw1 hi.1) (ih2 hw2 hi.2) u hu b _ _ w hb h1 h2 hx

theorem stopoly_ok (t : Tre) (hw : Wt t) (hwi : Wi t) (hz : tsz t ≤ 500000) (nv : Value) (w : World) (hN : Rs w 5 nv (flat t 0).length ((flat t 0).flatMap ndE)) : Ret Yaam.prog 52 [.agg #[nv, .int .i64 ((tsz t : Int) - 1)]] w (TPost (tpP t) w) := by
  obtain ⟨na, nc, rfl, hfn⟩ := id hN.form
  have hfl := flat_len t 0
  refine enter1 Yaam.func52 Yaam.ntmps52 (by kernel_rfl) rfl rfl ?_
  refine V.seq ?_
  refine V.region ?_
  refine L.ef (e_box (cs := [_, _]) rfl rfl (by first | (simp only [size_addB, size_setB, size_drew]; rfl) | rfl) rfl ?_)
  refine L.ef (e_alloc (cs := [_]) tok rfl rfl (by first | (simp only [size_addB, size_setB, size_drew]; rfl) | rfl) rfl ?_)
  refine L.rd (rd_assign rfl) rfl ?_
  refine L.nil ?_
  refine X.sq ?_
  refine V.seq ?_
  refine V.seq ?_
  have hp := (Bl.new w 34 [.slice na (flat t 0).length nc, .int .i64 ((tsz t : Int) - 1)]).add 44 [.slice none 0 0]
  have hr := Bl.new' (w := addB w 34 [.slice na (flat t 0).length nc, .int .i64 ((tsz t : Int) - 1)]) (b := w.heap.size + 1) (by rw [size_addB]) 44 [.slice none 0 0]
  have hE := ((Ext.refl _ w).addNew 34 [.slice na (flat t 0).length nc, .int .i64 ((tsz t : Int) - 1)]).addNew 44 [.slice none 0 0]
  generalize addB (addB w 34 [.slice na (flat t 0).length nc, .int .i64 ((tsz t : Int) - 1)]) 44 [.slice none 0 0] = w0 at hp hr hE ⊢
  have hrl := hr.lt
  refine V.region ?_
  refine L.rd (rd_loadN tok rfl rfl rfl hp.cells rfl) rfl ?_
  refine L.ef (e_call rfl (swf_ok t hw hz _ _ (hN.le hE.leC)) rfl ?_)
  rintro _ w1 ⟨rfl, he1⟩
  have hp1 := he1.bl hp.lt hp
  have hr1 := he1.bl hr.lt hr
  have hE1 := hE.next he1
  have hs1 := he1.size
  first | refine L.rd (rd_not rfl) rfl ?_ | refine L.rd (rd_notB rfl) rfl ?_
  refine L.nil ?_
  refine X.sq ?_
  first | refine V.cond rfl (fun h8 => ?_) (fun h8 => ?_) | refine V.condB rfl (fun h8 => ?_) (fun h8 => ?_)
  ·
    cases h8
  ·
    refine V.skip ?_
    refine X.sq ?_
    refine V.seq ?_
    refine V.region ?_
    refine L.rd (rd_build (out := [_, _]) tok rfl rfl rfl rfl rfl) rfl ?_
    refine L.ef (e_alloc (cs := [_, _]) tok rfl rfl (by first | (simp only [size_addB, size_setB, size_drew]; rfl) | rfl) rfl ?_)
    refine L.ef (e_store (vs := [_, _]) tok rfl rfl rfl rfl (by (repeat (first | assumption | (refine Bl.new' ?_ _ _; first | with_reducible rfl | (simp only [size_addB, size_setB, size_drew]; done)) | apply Bl.add | apply Bl.drew | (apply Bl.setNe; omega) | (refine Bl.set' ?_ _ _; (try simp only [size_addB, size_setB, size_drew]); omega)))) rfl (by simp [Value.oneCell']) (by simp) ?_)
    refine L.nil ?_
    refine X.sq ?_
    refine V.seq ?_
    generalize hw2 : setB _ _ _ _ = w2
    have hx2 : Bl w2 w1.heap.size 141 [.int .i64 ((0 : Nat) : Int), .bool false] := by rw [← hw2]; refine Bl.set' ?_ _ _; rw [size_addB]; omega
    have he2 : Ext w1.heap.size w1 w2 := by rw [← hw2]; exact ((Ext.refl _ _).addNew _ _).set (Nat.le_refl _) _ _
    have hp2 := he2.bl hp1.lt hp1
    have hr2 := he2.bl hr1.lt hr1
    have hE2 := hE1.next he2
    refine V.region ?_
    refine L.rd (rd_fieldAddr tok rfl rfl rfl rfl rfl rfl) rfl ?_
    refine L.rd (rd_load1 tok rfl rfl rfl (hp2.cell rfl)) rfl ?_
    refine L.rd (rd_fieldAddr tok rfl rfl rfl rfl rfl rfl) rfl ?_
    refine L.rd (rd_load1 tok rfl rfl rfl (hp2.cell (i := 1) rfl)) rfl ?_
    refine L.ef (e_call rfl (toTree_ok (flat t 0) _ w hN (by omega) t 0 _ _ hw (fun j nd h => by rw [Nat.zero_add]; exact h) (by omega) hE2) rfl ?_)
    rintro _ w3 ⟨a3, rfl, ht3, he3⟩
    have hx3 := he3.bl hx2.lt hx2
    have hr3 := he3.bl hr2.lt hr2
    have hE3 := hE2.next he3
    have hs2 := hx2.lt
    have hs3 := he3.size
    refine L.ef (e_call rfl (expand_ok w1.heap.size t hw hwi _ _ 0 ht3 hx3 (by omega)) rfl ?_)
    rintro r4 w4 ⟨hR4, u4, b4, hx4, hb4, hg4⟩
    have hr4 := hr3.rg' hR4 (.inl (by omega))
    have hE4 := hE3.nextR hR4 (by omega)
    refine L.rd (rd_assign rfl) rfl ?_
    refine L.nil ?_
    refine X.sq ?_
    refine V.seq ?_
    refine V.seq ?_
    refine V.region ?_
    refine L.rd (rd_fieldAddr tok rfl rfl rfl rfl rfl rfl) rfl ?_
    refine L.rd (rd_load1 tok rfl rfl rfl (hx4.cell (i := 1) rfl)) rfl ?_
    refine L.nil ?_
    refine X.sq ?_
    first | refine V.cond rfl (fun h18 => ?_) (fun h18 => ?_) | refine V.condB rfl (fun h18 => ?_) (fun h18 => ?_)
    ·
      refine V.seq ?_
      refine V.region ?_
      refine L.rd (rd_build (out := [_]) tok rfl rfl rfl rfl rfl) rfl ?_
      refine L.ef (e_store (vs := [_]) tok rfl rfl rfl rfl hr4 rfl (by simp [Value.oneCell']) (by simp) ?_)
      refine L.rd (rd_assign rfl) rfl ?_
      refine L.nil ?_
      refine X.sq ?_
      refine V.ret ?_
      refine X.sqRet ?_
      refine ret_c1 tok Yaam.results52 rfl rfl rfl rfl (Bl.cells (hr4.set _ _)) rfl ?_
      exact TPost.bad (by unfold tpP; rw [hb4 h18]; rfl) (hE4.set (by omega) _ _)
    ·
      refine V.skip ?_
      refine X.sq ?_
      refine V.seq ?_
      obtain ⟨R, hxR, hO4, hcR, hu4⟩ := hg4 h18
      have hRl := hcR.len
      refine V.region ?_
      refine L.rd (rd_move rfl) rfl ?_
      refine L.ef (e_call rfl (fromM_ok R hcR.vl (by omega) _ _ (Sl.of_own hO4)) rfl ?_)
      rintro _ w5 ⟨v5, rfl, Ls, hOT, hpl, he5⟩
      have hr5 := he5.bl hr4.lt hr4
      have hE5 := hE4.next he5
      obtain ⟨oa, oc, rfl, -⟩ := hOT.tl.form
      have hrl4 := hr4.lt
      refine L.ef (e_store (vs := [_]) tok rfl rfl rfl rfl hr5 rfl (by simp [Value.oneCell']) (by simp) ?_)
      refine L.rd (rd_assign rfl) rfl ?_
      refine L.nil ?_
      refine X.sq ?_
      refine V.ret ?_
      refine ret_c1 tok Yaam.results52 rfl rfl rfl rfl (Bl.cells (hr5.set _ _)) rfl ?_
      have hTs := hOT.tl.rg (Rg.set (w := w5) (lo := w.heap.size + 1) (hi := w.heap.size + 2) (g := w.heap.size + 1) (by omega) 44 (putAt [.slice none 0 0] 0 [.slice oa Ls.length oc])) (.inr (by have := hE4.size; omega))
      refine ⟨_, Ls, by unfold tpP; rw [hxR]; rfl, hTs.wide hE4.size (by rw [size_setB]; exact Nat.le_refl _), by unfold tpP; rw [hxR, hpl]; rfl, hE5.set (by omega) _ _⟩
end Go.Proofs.YbxaawGreat
