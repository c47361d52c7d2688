/-
  The decoder of texts for the lexer; variables and points; walked.
-/
import Derived.Test.YbxaawGreatSrcW
set_option linter.unusedVariables false
set_option linter.unusedSimpArgs false
set_option maxRecDepth 10000
namespace Go.Proofs.YbxaawGreat
open Go.Mw

theorem alphaAt_ok (k : Int) (hk : 0 ≤ k) (hk2 : k ≤ 1000) (w : World) : Ret Yaam.prog 32 [.int .i64 k] w fun r w' => ∃ c : Nat, r = .int .u8 (c : Nat) ∧ w = w' := by
  obtain ⟨k, rfl⟩ : ∃ n : Nat, k = n := ⟨k.toNat, by omega⟩
  have hbl : (bl (ByteArray.mk #[48, 49, 50, 51, 52, 53, 54, 55, 56, 57, 97, 98, 99, 100, 120, 121, 122, 43, 45, 42, 94, 40, 41, 32])).length = 24 := rfl
  refine enter1 Yaam.func32 Yaam.ntmps32 (by kernel_rfl) rfl rfl ?_
  refine V.seq ?_
  refine V.region ?_
  refine L.rd (rd_assign rfl) rfl ?_
  refine L.nil ?_
  refine X.sq ?_
  refine V.seq ?_
  refine V.seq ?_
  refine V.region ?_
  refine L.rd (rd_move rfl) rfl ?_
  refine L.rd (rd_lss rfl rfl) rfl ?_
  refine L.nil ?_
  refine X.sq ?_
  first | refine V.cond rfl (fun h4 => ?_) (fun h4 => ?_) | refine V.condB rfl (fun h4 => ?_) (fun h4 => ?_)
  ·
    refine V.seq ?_
    obtain ⟨c, hc⟩ := nth_of_lt (bl (ByteArray.mk #[48, 49, 50, 51, 52, 53, 54, 55, 56, 57, 97, 98, 99, 100, 120, 121, 122, 43, 45, 42, 94, 40, 41, 32])) k (by omega)
    refine V.region ?_
    refine L.rd (rd_move rfl) rfl ?_
    refine L.rd (rd_indexStr tok rfl rfl rfl rfl hc) rfl ?_
    refine L.rd (rd_assign rfl) rfl ?_
    refine L.nil ?_
    refine X.sq ?_
    refine V.ret ?_
    refine X.sqRet ?_
    refine ret_1 Yaam.results32 rfl ?_
    exact ⟨c, rfl, rfl⟩
  ·
    refine V.skip ?_
    refine X.sq ?_
    refine V.seq ?_
    refine V.seq ?_
    refine V.region ?_
    refine L.rd (rd_move rfl) rfl ?_
    (refine L.rd (rd_sub3 rfl rfl ?_) rfl ?_; omega)
    refine L.nil ?_
    refine X.sq ?_
    refine V.block ?_
    refine V.seq ?_
    refine V.region ?_
    refine L.rd (rd_eql rfl rfl) rfl ?_
    refine L.rd (rd_assign rfl) rfl ?_
    refine L.nil ?_
    refine X.sq ?_
    first | refine V.cond rfl (fun h9 => ?_) (fun h9 => ?_) | refine V.condB rfl (fun h9 => ?_) (fun h9 => ?_)
    ·
      refine V.seq ?_
      refine V.region ?_
      refine L.rd (rd_assign rfl) rfl ?_
      refine L.nil ?_
      refine X.sq ?_
      refine V.ret ?_
      refine X.bkRet ?_
      refine X.sqRet ?_
      refine ret_1 Yaam.results32 rfl ?_
      exact ⟨9, rfl, rfl⟩
    ·
      refine V.seq ?_
      refine V.region ?_
      refine L.rd (rd_eql rfl rfl) rfl ?_
      refine L.rd (rd_assign rfl) rfl ?_
      refine L.nil ?_
      refine X.sq ?_
      first | refine V.cond rfl (fun h11 => ?_) (fun h11 => ?_) | refine V.condB rfl (fun h11 => ?_) (fun h11 => ?_)
      ·
        refine V.seq ?_
        refine V.region ?_
        refine L.rd (rd_assign rfl) rfl ?_
        refine L.nil ?_
        refine X.sq ?_
        refine V.ret ?_
        refine X.bkRet ?_
        refine X.sqRet ?_
        refine ret_1 Yaam.results32 rfl ?_
        exact ⟨10, rfl, rfl⟩
      ·
        refine V.skip ?_
        refine X.bk ?_
        refine X.sq ?_
        refine V.seq ?_
        refine V.region ?_
        refine L.rd (rd_assign rfl) rfl ?_
        refine L.nil ?_
        refine X.sq ?_
        refine V.ret ?_
        refine ret_1 Yaam.results32 rfl ?_
        exact ⟨13, rfl, rfl⟩

theorem longRun_ok (c : Int) (b : Bool) (w : World) : Ret Yaam.prog 33 [.int .i64 c, .bool b] w fun r w' => ∃ s : ByteArray, r = .string s ∧ s.size ≤ 30 ∧ w = w' := by
  refine enter2 Yaam.func33 Yaam.ntmps33 (by kernel_rfl) rfl rfl ?_
  refine V.seq ?_
  refine V.region ?_
  refine L.rd (rd_assign rfl) rfl ?_
  refine L.nil ?_
  refine X.sq ?_
  refine V.seq ?_
  refine V.seq ?_
  refine V.region ?_
  refine L.rd (rd_move rfl) rfl ?_
  refine L.nil ?_
  refine X.sq ?_
  first | refine V.cond rfl (fun h5 => ?_) (fun h5 => ?_) | refine V.condB rfl (fun h5 => ?_) (fun h5 => ?_)
  ·
    refine V.seq ?_
    refine V.seq ?_
    refine V.region ?_
    refine L.rd (rd_move rfl) rfl ?_
    refine L.rd (rd_remW rfl rfl (by decide)) rfl ?_
    refine L.nil ?_
    refine X.sq ?_
    refine V.block ?_
    refine V.seq ?_
    refine V.region ?_
    refine L.rd (rd_eql rfl rfl) rfl ?_
    refine L.rd (rd_assign rfl) rfl ?_
    refine L.nil ?_
    refine X.sq ?_
    first | refine V.cond rfl (fun h8 => ?_) (fun h8 => ?_) | refine V.condB rfl (fun h8 => ?_) (fun h8 => ?_)
    ·
      refine V.seq ?_
      refine V.region ?_
      refine L.rd (rd_assign rfl) rfl ?_
      refine L.nil ?_
      refine X.sq ?_
      refine V.ret ?_
      refine X.bkRet ?_
      refine X.sqRet ?_
      refine X.sqRet ?_
      refine ret_1 Yaam.results33 rfl ?_
      exact ⟨_, rfl, by decide, rfl⟩
    ·
      refine V.seq ?_
      refine V.region ?_
      refine L.rd (rd_eql rfl rfl) rfl ?_
      refine L.rd (rd_assign rfl) rfl ?_
      refine L.nil ?_
      refine X.sq ?_
      first | refine V.cond rfl (fun h10 => ?_) (fun h10 => ?_) | refine V.condB rfl (fun h10 => ?_) (fun h10 => ?_)
      ·
        refine V.seq ?_
        refine V.region ?_
        refine L.rd (rd_assign rfl) rfl ?_
        refine L.nil ?_
        refine X.sq ?_
        refine V.ret ?_
        refine X.bkRet ?_
        refine X.sqRet ?_
        refine X.sqRet ?_
        refine ret_1 Yaam.results33 rfl ?_
        exact ⟨_, rfl, by decide, rfl⟩
      ·
        refine V.seq ?_
        refine V.region ?_
        refine L.rd (rd_eql rfl rfl) rfl ?_
        refine L.rd (rd_assign rfl) rfl ?_
        refine L.nil ?_
        refine X.sq ?_
        first | refine V.cond rfl (fun h12 => ?_) (fun h12 => ?_) | refine V.condB rfl (fun h12 => ?_) (fun h12 => ?_)
        ·
          refine V.seq ?_
          refine V.region ?_
          refine L.rd (rd_assign rfl) rfl ?_
          refine L.nil ?_
          refine X.sq ?_
          refine V.ret ?_
          refine X.bkRet ?_
          refine X.sqRet ?_
          refine X.sqRet ?_
          refine ret_1 Yaam.results33 rfl ?_
          exact ⟨_, rfl, by decide, rfl⟩
        ·
          refine V.skip ?_
          refine X.bk ?_
          refine X.sq ?_
          refine V.seq ?_
          refine V.region ?_
          refine L.rd (rd_assign rfl) rfl ?_
          refine L.nil ?_
          refine X.sq ?_
          refine V.ret ?_
          refine X.sqRet ?_
          refine ret_1 Yaam.results33 rfl ?_
          exact ⟨_, rfl, by decide, rfl⟩
  ·
    refine V.skip ?_
    refine X.sq ?_
    refine V.seq ?_
    refine V.seq ?_
    refine V.region ?_
    refine L.rd (rd_move rfl) rfl ?_
    refine L.rd (rd_remW rfl rfl (by decide)) rfl ?_
    refine L.nil ?_
    refine X.sq ?_
    refine V.block ?_
    refine V.seq ?_
    refine V.region ?_
    refine L.rd (rd_eql rfl rfl) rfl ?_
    refine L.rd (rd_assign rfl) rfl ?_
    refine L.nil ?_
    refine X.sq ?_
    first | refine V.cond rfl (fun h16 => ?_) (fun h16 => ?_) | refine V.condB rfl (fun h16 => ?_) (fun h16 => ?_)
    ·
      refine V.seq ?_
      refine V.region ?_
      refine L.rd (rd_assign rfl) rfl ?_
      refine L.nil ?_
      refine X.sq ?_
      refine V.ret ?_
      refine X.bkRet ?_
      refine X.sqRet ?_
      refine ret_1 Yaam.results33 rfl ?_
      exact ⟨_, rfl, by decide, rfl⟩
    ·
      refine V.seq ?_
      refine V.region ?_
      refine L.rd (rd_eql rfl rfl) rfl ?_
      refine L.rd (rd_assign rfl) rfl ?_
      refine L.nil ?_
      refine X.sq ?_
      first | refine V.cond rfl (fun h18 => ?_) (fun h18 => ?_) | refine V.condB rfl (fun h18 => ?_) (fun h18 => ?_)
      ·
        refine V.seq ?_
        refine V.region ?_
        refine L.rd (rd_assign rfl) rfl ?_
        refine L.nil ?_
        refine X.sq ?_
        refine V.ret ?_
        refine X.bkRet ?_
        refine X.sqRet ?_
        refine ret_1 Yaam.results33 rfl ?_
        exact ⟨_, rfl, by decide, rfl⟩
      ·
        refine V.seq ?_
        refine V.region ?_
        refine L.rd (rd_eql rfl rfl) rfl ?_
        refine L.rd (rd_assign rfl) rfl ?_
        refine L.nil ?_
        refine X.sq ?_
        first | refine V.cond rfl (fun h20 => ?_) (fun h20 => ?_) | refine V.condB rfl (fun h20 => ?_) (fun h20 => ?_)
        ·
          refine V.seq ?_
          refine V.region ?_
          refine L.rd (rd_assign rfl) rfl ?_
          refine L.nil ?_
          refine X.sq ?_
          refine V.ret ?_
          refine X.bkRet ?_
          refine X.sqRet ?_
          refine ret_1 Yaam.results33 rfl ?_
          exact ⟨_, rfl, by decide, rfl⟩
        ·
          refine V.skip ?_
          refine X.bk ?_
          refine X.sq ?_
          refine V.seq ?_
          refine V.region ?_
          refine L.rd (rd_assign rfl) rfl ?_
          refine L.nil ?_
          refine X.sq ?_
          refine V.ret ?_
          refine ret_1 Yaam.results33 rfl ?_
          exact ⟨_, rfl, by decide, rfl⟩

theorem decLex_ok (bv : Value) (bs : List Nat) (w : World) (hB : Rr w 0 w.heap.size 1 bv bs.length (bC bs)) (hl : ∀ c ∈ bs, c < 256) (hs : bs.length ≤ 1048576) : Ret Yaam.prog 4 [bv] w fun r w' => ∃ s : ByteArray, r = .string s ∧ s.size ≤ 100000000 ∧ Ext w.heap.size w w' := by
  obtain ⟨ba, bc, rfl, hfb⟩ := id hB.form
  refine enter1 Yaam.func4 Yaam.ntmps4 (by kernel_rfl) rfl rfl ?_
  refine V.seq ?_
  refine V.region ?_
  refine L.rd (rd_assign rfl) rfl ?_
  refine L.nil ?_
  refine X.sq ?_
  refine V.seq ?_
  refine V.region ?_
  refine L.rd (rd_move rfl) rfl ?_
  refine L.rd (rd_build (out := [_, _]) tok rfl rfl rfl rfl rfl) rfl ?_
  refine L.ef (e_alloc (cs := [_, _]) tok rfl rfl (by first | (simp only [size_addB, size_setB, size_drew]; rfl) | rfl) rfl ?_)
  refine L.ef (e_store (vs := [_, _]) tok rfl rfl rfl rfl (by (repeat (first | assumption | (refine Bl.new' ?_ _ _; first | with_reducible rfl | (simp only [size_addB, size_setB, size_drew]; done)) | apply Bl.add | apply Bl.drew | (apply Bl.setNe; omega) | (refine Bl.set' ?_ _ _; (try simp only [size_addB, size_setB, size_drew]); omega)))) rfl (by simp [Value.oneCell']) (by simp) ?_)
  refine L.nil ?_
  refine X.sq ?_
  refine V.seq ?_
  generalize hw1 : setB _ _ _ _ = w1
  have he1 := ext_of_new hw1
  have hb1 : Bl w1 w.heap.size 56 [.slice ba bs.length bc, .int .i64 0] := bl_of_new hw1
  have h1 : SDq w (.slice ba bs.length bc) bs w1 0 (.slice none 0 0) [] := ⟨hb1, hB, hl, Nat.zero_le _, hs, World.ownsRow_nil _ _ _ _, he1⟩
  refine V.region ?_
  refine L.rd (rd_assign rfl) rfl ?_
  refine L.nil ?_
  refine X.sq ?_
  refine V.seq ?_
  refine V.block ?_
  refine V.loop (fun m l w' => ∃ (j : Nat) (ov : Value) (acc : List Nat), l = [(3, .pointer (some ⟨w.heap.size, 0, none⟩)), (4, ov)] ∧ m = bs.length - j ∧ SDq w (.slice ba bs.length bc) bs w' j ov acc ∧ acc.length + 64 * (bs.length - j) ≤ 64 * bs.length) ?_ ?_
  ·
    exact ⟨_, _, (by repeat' (first | exact trivial | refine ⟨rfl, ?_⟩)), 0, _, [], rfl, rfl, h1, by simp only [List.length_nil]; omega⟩
  ·
    rintro m l w2 ⟨j, ov, acc, rfl, rfl, g, hacc⟩
    have hjn := g.le
    refine V.seq ?_
    refine V.seq ?_
    refine V.region ?_
    refine L.ef (e_call rfl (left_ok _ g.rd) rfl ?_)
    rintro _ w3 ⟨rfl, he3⟩
    replace g := g.ext he3
    refine L.rd (rd_gtr rfl rfl) rfl ?_
    refine L.nil ?_
    refine X.sq ?_
    first | refine V.cond rfl (fun h10 => ?_) (fun h10 => ?_) | refine V.condB rfl (fun h10 => ?_) (fun h10 => ?_)
    ·
      refine V.skip ?_
      refine X.sq ?_
      refine V.block ?_
      refine V.seq ?_
      refine V.region ?_
      refine L.ef (e_call rfl (next_ok _ g.rd) rfl ?_)
      rintro _ w4 ⟨c, i4, rfl, hc0, hc1, h4, hi4, hlt4, hr4⟩
      have hi4e := hlt4 (by omega)
      replace g := g.step h4 hr4 rfl
      have hle4 := g.le
      refine L.rd (rd_assign rfl) rfl ?_
      refine L.nil ?_
      refine X.sq ?_
      refine V.seq ?_
      refine V.region ?_
      refine L.rd (rd_move rfl) rfl ?_
      refine L.rd (rd_lss rfl rfl) rfl ?_
      refine L.nil ?_
      refine X.sq ?_
      refine V.cut (fun l w' => ∃ (j' : Nat) (ov' : Value) (acc' : List Nat), l = [(3, .pointer (some ⟨w.heap.size, 0, none⟩)), (4, ov')] ∧ i4 ≤ j' ∧ SDq w (.slice ba bs.length bc) bs w' j' ov' acc' ∧ acc'.length ≤ acc.length + 60) ?_ ?_
      ·
        first | refine V.cond rfl (fun h13 => ?_) (fun h13 => ?_) | refine V.condB rfl (fun h13 => ?_) (fun h13 => ?_)
        ·
          refine V.region ?_
          refine L.rd (rd_move rfl) rfl ?_
          refine L.rd (rd_move rfl) rfl ?_
          refine L.rd (rd_remW rfl rfl (by decide)) rfl ?_
          refine L.ef (e_call rfl (alphaAt_ok _ (by rw [Int.tmod_eq_emod_of_nonneg hc0]; omega) (by rw [Int.tmod_eq_emod_of_nonneg hc0]; omega) _) rfl ?_)
          rintro _ _ ⟨cc, rfl, rfl⟩
          refine L.ef (e_buildSlice1 (e := 5) (cs := [_]) tok rfl rfl rfl rfl rfl rfl rfl rfl rfl (by first | (simp only [size_addB, size_setB, size_drew]; rfl) | rfl) rfl ?_)
          refine L.ef (e_appB tok rfl rfl rfl rfl rfl rfl rfl rfl rfl (by first | rfl | (simp only [size_addB, size_setB, size_drew])) rfl g.bf (by omega) ?_)
          rintro v5 w5 hB5 hkp5
          replace g := g.app hB5 hkp5 rfl
          refine L.rd (rd_assign rfl) rfl ?_
          refine L.nil ?_
          exact X.ct ⟨_, (by repeat' (first | exact trivial | refine ⟨rfl, ?_⟩)), _, _, _, rfl, by omega, g, by (simp only [List.length_append, List.length_cons, List.length_nil, bl_length]); omega⟩
        ·
          refine V.seq ?_
          refine V.region ?_
          refine L.rd (rd_move rfl) rfl ?_
          refine L.rd (rd_lss rfl rfl) rfl ?_
          refine L.nil ?_
          refine X.sq ?_
          first | refine V.cond rfl (fun h21 => ?_) (fun h21 => ?_) | refine V.condB rfl (fun h21 => ?_) (fun h21 => ?_)
          ·
            refine V.seq ?_
            refine V.region ?_
            refine L.rd (rd_move rfl) rfl ?_
            refine L.ef (e_buildSlice1 (e := 5) (cs := [_]) tok rfl rfl rfl rfl rfl rfl rfl rfl rfl (by first | (simp only [size_addB, size_setB, size_drew]; rfl) | rfl) rfl ?_)
            refine L.ef (e_appB (c := 32) tok rfl rfl rfl rfl rfl rfl rfl rfl rfl (by first | rfl | (simp only [size_addB, size_setB, size_drew])) rfl g.bf (by omega) ?_)
            rintro v5 w5 hB5 hkp5
            replace g := g.app hB5 hkp5 rfl
            refine L.rd (rd_assign rfl) rfl ?_
            refine L.nil ?_
            refine X.sq ?_
            refine V.seq ?_
            refine V.region ?_
            refine L.rd (rd_move rfl) rfl ?_
            refine L.rd (rd_move rfl) rfl ?_
            refine L.ef (e_call rfl (longRun_ok _ _ _) rfl ?_)
            rintro _ _ ⟨s9, rfl, hs9, rfl⟩
            refine L.ef (e_appS tok rfl rfl rfl rfl rfl rfl rfl rfl rfl rfl rfl rfl g.bf (by simp only [List.length_append, List.length_cons, List.length_nil]; omega) ?_)
            rintro v6 w6 hB6 hkp6
            replace g := g.app hB6 hkp6 rfl
            refine L.rd (rd_assign rfl) rfl ?_
            refine L.nil ?_
            refine X.sq ?_
            refine V.region ?_
            refine L.rd (rd_move rfl) rfl ?_
            refine L.ef (e_buildSlice1 (e := 5) (cs := [_]) tok rfl rfl rfl rfl rfl rfl rfl rfl rfl (by first | (simp only [size_addB, size_setB, size_drew]; rfl) | rfl) rfl ?_)
            refine L.ef (e_appB (c := 32) tok rfl rfl rfl rfl rfl rfl rfl rfl rfl (by first | rfl | (simp only [size_addB, size_setB, size_drew])) rfl g.bf (by simp only [List.length_append, List.length_cons, List.length_nil, bl_length]; omega) ?_)
            rintro v7 w7 hB7 hkp7
            replace g := g.app hB7 hkp7 rfl
            refine L.rd (rd_assign rfl) rfl ?_
            refine L.nil ?_
            exact X.ct ⟨_, (by repeat' (first | exact trivial | refine ⟨rfl, ?_⟩)), _, _, _, rfl, by omega, g, by (simp only [List.length_append, List.length_cons, List.length_nil, bl_length]); omega⟩
          ·
            refine V.seq ?_
            refine V.region ?_
            refine L.ef (e_call rfl (next_ok _ g.rd) rfl ?_)
            rintro _ w5 ⟨c5, i5, rfl, hc50, hc51, h5, hi5, hlt5, hr5⟩
            replace g := g.step h5 hr5 rfl
            refine L.rd (rd_assign rfl) rfl ?_
            refine L.nil ?_
            refine X.sq ?_
            refine V.seq ?_
            refine V.region ?_
            refine L.rd (rd_move rfl) rfl ?_
            refine L.rd (rd_remW rfl rfl (by decide)) rfl ?_
            refine L.rd (rd_eql rfl rfl) rfl ?_
            refine L.nil ?_
            refine X.sq ?_
            first | refine V.cond rfl (fun h35 => ?_) (fun h35 => ?_) | refine V.condB rfl (fun h35 => ?_) (fun h35 => ?_)
            ·
              refine V.region ?_
              refine L.rd (rd_move rfl) rfl ?_
              refine L.ef (e_call rfl (next_ok _ g.rd) rfl ?_)
              rintro _ w6 ⟨c6, i6, rfl, hc60, hc61, h6, hi6, hlt6, hr6⟩
              replace g := g.step h6 hr6 rfl
              refine L.rd (rd_convE tok rfl rfl rfl rfl rfl (u8n_eq _)) rfl ?_
              refine L.ef (e_buildSlice1 (e := 5) (cs := [_]) tok rfl rfl rfl rfl rfl rfl rfl rfl rfl (by first | (simp only [size_addB, size_setB, size_drew]; rfl) | rfl) rfl ?_)
              refine L.ef (e_appB tok rfl rfl rfl rfl rfl rfl rfl rfl rfl (by first | rfl | (simp only [size_addB, size_setB, size_drew])) rfl g.bf (by omega) ?_)
              rintro v7 w7 hB7 hkp7
              replace g := g.app hB7 hkp7 rfl
              refine L.rd (rd_assign rfl) rfl ?_
              refine L.nil ?_
              exact X.ct ⟨_, (by repeat' (first | exact trivial | refine ⟨rfl, ?_⟩)), _, _, _, rfl, by omega, g, by (simp only [List.length_append, List.length_cons, List.length_nil, bl_length]); omega⟩
            ·
              refine V.seq ?_
              refine V.region ?_
              refine L.rd (rd_move rfl) rfl ?_
              refine L.rd (rd_remW rfl rfl (by decide)) rfl ?_
              refine L.rd (rd_eql rfl rfl) rfl ?_
              refine L.nil ?_
              refine X.sq ?_
              first | refine V.cond rfl (fun h43 => ?_) (fun h43 => ?_) | refine V.condB rfl (fun h43 => ?_) (fun h43 => ?_)
              ·
                refine V.seq ?_
                refine V.region ?_
                refine L.rd (rd_move rfl) rfl ?_
                refine L.ef (e_buildSlice1 (e := 5) (cs := [_]) tok rfl rfl rfl rfl rfl rfl rfl rfl rfl (by first | (simp only [size_addB, size_setB, size_drew]; rfl) | rfl) rfl ?_)
                refine L.ef (e_appB (c := 32) tok rfl rfl rfl rfl rfl rfl rfl rfl rfl (by first | rfl | (simp only [size_addB, size_setB, size_drew])) rfl g.bf (by omega) ?_)
                rintro v6 w6 hB6 hkp6
                replace g := g.app hB6 hkp6 rfl
                refine L.rd (rd_assign rfl) rfl ?_
                refine L.nil ?_
                refine X.sq ?_
                refine V.seq ?_
                refine V.region ?_
                refine L.rd (rd_move rfl) rfl ?_
                refine L.rd (rd_move rfl) rfl ?_
                refine L.rd (rd_quoW rfl rfl (by decide)) rfl ?_
                refine L.ef (e_call rfl (longRun_ok _ _ _) rfl ?_)
                rintro _ _ ⟨s9, rfl, hs9, rfl⟩
                refine L.ef (e_appS tok rfl rfl rfl rfl rfl rfl rfl rfl rfl rfl rfl rfl g.bf (by simp only [List.length_append, List.length_cons, List.length_nil]; omega) ?_)
                rintro v7 w7 hB7 hkp7
                replace g := g.app hB7 hkp7 rfl
                refine L.rd (rd_assign rfl) rfl ?_
                refine L.nil ?_
                refine X.sq ?_
                refine V.region ?_
                refine L.rd (rd_move rfl) rfl ?_
                refine L.ef (e_buildSlice1 (e := 5) (cs := [_]) tok rfl rfl rfl rfl rfl rfl rfl rfl rfl (by first | (simp only [size_addB, size_setB, size_drew]; rfl) | rfl) rfl ?_)
                refine L.ef (e_appB (c := 32) tok rfl rfl rfl rfl rfl rfl rfl rfl rfl (by first | rfl | (simp only [size_addB, size_setB, size_drew])) rfl g.bf (by simp only [List.length_append, List.length_cons, List.length_nil, bl_length]; omega) ?_)
                rintro v8 w8 hB8 hkp8
                replace g := g.app hB8 hkp8 rfl
                refine L.rd (rd_assign rfl) rfl ?_
                refine L.nil ?_
                exact X.ct ⟨_, (by repeat' (first | exact trivial | refine ⟨rfl, ?_⟩)), _, _, _, rfl, by omega, g, by (simp only [List.length_append, List.length_cons, List.length_nil, bl_length]); omega⟩
              ·
                refine V.region ?_
                refine L.rd (rd_move rfl) rfl ?_
                refine L.rd (rd_move rfl) rfl ?_
                refine L.ef (e_call rfl (longRun_ok _ _ _) rfl ?_)
                rintro _ _ ⟨s9, rfl, hs9, rfl⟩
                refine L.ef (e_appS tok rfl rfl rfl rfl rfl rfl rfl rfl rfl rfl rfl rfl g.bf (by omega) ?_)
                rintro v7 w7 hB7 hkp7
                replace g := g.app hB7 hkp7 rfl
                refine L.rd (rd_assign rfl) rfl ?_
                refine L.nil ?_
                exact X.ct ⟨_, (by repeat' (first | exact trivial | refine ⟨rfl, ?_⟩)), _, _, _, rfl, by omega, g, by (simp only [List.length_append, List.length_cons, List.length_nil, bl_length]); omega⟩
      ·
        rintro l w5 ⟨j5, ov5, acc5, rfl, hj5, g5, hl5⟩
        refine X.bk ?_
        exact X.lp ⟨_, _, by have := g5.le; omega, (by repeat' (first | exact trivial | refine ⟨rfl, ?_⟩)), j5, _, _, rfl, rfl, g5, by have := g5.le; omega⟩
    ·
      refine V.exit ?_
      refine X.sqExit ?_
      refine X.lpExit ?_
      refine X.bkHere ?_
      refine X.sq ?_
      refine V.seq ?_
      refine V.region ?_
      refine L.rd (rd_move rfl) rfl ?_
      refine L.rd (rd_bytesBf tok rfl rfl rfl rfl rfl rfl rfl rfl rfl g.bf) rfl ?_
      refine L.rd (rd_assign rfl) rfl ?_
      refine L.nil ?_
      refine X.sq ?_
      refine V.ret ?_
      refine ret_1 Yaam.results4 rfl ?_
      exact ⟨_, rfl, by rw [mkS_size]; omega, g.bf.ext⟩

theorem decVar_ok (bv : Value) (bs : List Nat) (w : World) (hB : Rr w 0 w.heap.size 1 bv bs.length (bC bs)) (hl : ∀ c ∈ bs, c < 256) (hs : bs.length ≤ 1048576) : Ret Yaam.prog 6 [bv] w fun r w' => ∃ y : Int, r = .int .i64 y ∧ Ext w.heap.size w w' := by
  obtain ⟨ba, bc, rfl, hfb⟩ := id hB.form
  refine enter1 Yaam.func6 Yaam.ntmps6 (by kernel_rfl) rfl rfl ?_
  refine V.seq ?_
  refine V.region ?_
  refine L.rd (rd_assign rfl) rfl ?_
  refine L.nil ?_
  refine X.sq ?_
  refine V.seq ?_
  refine V.region ?_
  refine L.rd (rd_move rfl) rfl ?_
  refine L.rd (rd_build (out := [_, _]) tok rfl rfl rfl rfl rfl) rfl ?_
  refine L.ef (e_alloc (cs := [_, _]) tok rfl rfl (by first | (simp only [size_addB, size_setB, size_drew]; rfl) | rfl) rfl ?_)
  refine L.ef (e_store (vs := [_, _]) tok rfl rfl rfl rfl (by (repeat (first | assumption | (refine Bl.new' ?_ _ _; first | with_reducible rfl | (simp only [size_addB, size_setB, size_drew]; done)) | apply Bl.add | apply Bl.drew | (apply Bl.setNe; omega) | (refine Bl.set' ?_ _ _; (try simp only [size_addB, size_setB, size_drew]); omega)))) rfl (by simp [Value.oneCell']) (by simp) ?_)
  refine L.nil ?_
  refine X.sq ?_
  refine V.seq ?_
  generalize hw1 : setB _ _ _ _ = w1
  have he1 := ext_of_new hw1
  have hb1 : Bl w1 w.heap.size 56 [.slice ba bs.length bc, .int .i64 0] := bl_of_new hw1
  have h1 : RDq w.heap.size (.slice ba bs.length bc) bs w1 0 := ⟨hb1, hB.ext he1, hl, Nat.zero_le _, hs⟩
  refine V.region ?_
  refine L.ef (e_call rfl (next_ok _ h1) rfl ?_)
  rintro _ w2 ⟨c, i2, rfl, hc0, hc1, h2, hi2, -, hr2⟩
  have hE := he1.nextR hr2 (Nat.le_refl _)
  refine L.rd (rd_assign rfl) rfl ?_
  refine L.nil ?_
  refine X.sq ?_
  refine V.seq ?_
  refine V.seq ?_
  refine V.region ?_
  refine L.rd (rd_move rfl) rfl ?_
  refine L.rd (rd_lss rfl rfl) rfl ?_
  refine L.nil ?_
  refine X.sq ?_
  first | refine V.cond rfl (fun h9 => ?_) (fun h9 => ?_) | refine V.condB rfl (fun h9 => ?_) (fun h9 => ?_)
  ·
    refine V.seq ?_
    refine V.region ?_
    refine L.rd (rd_move rfl) rfl ?_
    refine L.rd (rd_remW rfl rfl (by decide)) rfl ?_
    refine L.rd (rd_assign rfl) rfl ?_
    refine L.nil ?_
    refine X.sq ?_
    refine V.ret ?_
    refine X.sqRet ?_
    refine ret_1 Yaam.results6 rfl ?_
    exact ⟨_, rfl, hE⟩
  ·
    refine V.skip ?_
    refine X.sq ?_
    refine V.seq ?_
    refine V.seq ?_
    refine V.region ?_
    refine L.rd (rd_move rfl) rfl ?_
    refine L.rd (rd_lss rfl rfl) rfl ?_
    refine L.nil ?_
    refine X.sq ?_
    first | refine V.cond rfl (fun h13 => ?_) (fun h13 => ?_) | refine V.condB rfl (fun h13 => ?_) (fun h13 => ?_)
    ·
      refine V.seq ?_
      refine V.region ?_
      refine L.rd (rd_move rfl) rfl ?_
      refine L.rd (rd_remW rfl rfl (by decide)) rfl ?_
      refine L.rd (rd_addW rfl rfl) rfl ?_
      refine L.rd (rd_assign rfl) rfl ?_
      refine L.nil ?_
      refine X.sq ?_
      refine V.ret ?_
      refine X.sqRet ?_
      refine ret_1 Yaam.results6 rfl ?_
      exact ⟨_, rfl, hE⟩
    ·
      refine V.skip ?_
      refine X.sq ?_
      refine V.seq ?_
      refine V.region ?_
      refine L.rd (rd_move rfl) rfl ?_
      refine L.rd (rd_remW rfl rfl (by decide)) rfl ?_
      refine L.rd (rd_subW rfl rfl) rfl ?_
      refine L.rd (rd_assign rfl) rfl ?_
      refine L.nil ?_
      refine X.sq ?_
      refine V.ret ?_
      refine ret_1 Yaam.results6 rfl ?_
      exact ⟨_, rfl, hE⟩

theorem decPt_ok (bv : Value) (bs : List Nat) (w : World) (hB : Rr w 0 w.heap.size 1 bv bs.length (bC bs)) (hl : ∀ c ∈ bs, c < 256) (hs : bs.length ≤ 1048576) : Ret Yaam.prog 5 [bv] w fun r w' => ∃ pt : List Int, Rr w' w.heap.size w'.heap.size 1 r pt.length (iC .i64 pt) ∧ (∀ x ∈ pt, w64 x = x) ∧ Ext w.heap.size w w' := by
  obtain ⟨ba, bc, rfl, hfb⟩ := id hB.form
  refine enter1 Yaam.func5 Yaam.ntmps5 (by kernel_rfl) rfl rfl ?_
  refine V.seq ?_
  refine V.region ?_
  refine L.rd (rd_assign rfl) rfl ?_
  refine L.nil ?_
  refine X.sq ?_
  refine V.seq ?_
  refine V.region ?_
  refine L.rd (rd_move rfl) rfl ?_
  refine L.rd (rd_build (out := [_, _]) tok rfl rfl rfl rfl rfl) rfl ?_
  refine L.ef (e_alloc (cs := [_, _]) tok rfl rfl (by first | (simp only [size_addB, size_setB, size_drew]; rfl) | rfl) rfl ?_)
  refine L.ef (e_store (vs := [_, _]) tok rfl rfl rfl rfl (by (repeat (first | assumption | (refine Bl.new' ?_ _ _; first | with_reducible rfl | (simp only [size_addB, size_setB, size_drew]; done)) | apply Bl.add | apply Bl.drew | (apply Bl.setNe; omega) | (refine Bl.set' ?_ _ _; (try simp only [size_addB, size_setB, size_drew]); omega)))) rfl (by simp [Value.oneCell']) (by simp) ?_)
  refine L.nil ?_
  refine X.sq ?_
  refine V.seq ?_
  generalize hw1 : setB _ _ _ _ = w1
  have he1 := ext_of_new hw1
  have hb1 : Bl w1 w.heap.size 56 [.slice ba bs.length bc, .int .i64 0] := bl_of_new hw1
  have h1 : RDq w.heap.size (.slice ba bs.length bc) bs w1 0 := ⟨hb1, hB.ext he1, hl, Nat.zero_le _, hs⟩
  refine V.region ?_
  refine L.ef (e_call rfl (next_ok _ h1) rfl ?_)
  rintro _ w2 ⟨c, i2, rfl, hc0, hc1, h2, hi2, -, hr2⟩
  have hE := he1.nextR hr2 (Nat.le_refl _)
  have hrem : 0 ≤ c.tmod 30 ∧ c.tmod 30 < 30 := by rw [Int.tmod_eq_emod_of_nonneg hc0]; omega
  have hs2 : w.heap.size < w2.heap.size := by have := size_of_new hw1; have := hr2.size; omega
  refine L.rd (rd_remW rfl rfl (by decide)) rfl ?_
  refine L.rd (rd_assign rfl) rfl ?_
  refine L.nil ?_
  refine X.sq ?_
  refine V.seq ?_
  refine V.seq ?_
  refine V.cut (fun l w' => ∃ b : Bool, l = [(3, .pointer (some ⟨w.heap.size, 0, none⟩)), (4, .int .i64 (c.tmod 30)), (20, .bool b)] ∧ w2 = w') ?_ ?_
  ·
    refine V.region ?_
    refine L.rd (rd_move rfl) rfl ?_
    refine L.rd (rd_lenSlice tok rfl rfl rfl) rfl ?_
    refine L.rd (rd_gtr rfl rfl) rfl ?_
    refine L.rd (rd_move rfl) rfl ?_
    first | refine L.partG rfl rfl (fun g14 => ?_) (fun g14 => ?_) | refine L.partGB rfl rfl (fun g14 => ?_) (fun g14 => ?_)
    ·
      obtain ⟨bb, bo, rfl, -, hbb, hcb⟩ := hfb.resolve_left (by omega)
      obtain ⟨c0, hc0'⟩ := nth_of_lt bs 0 (by omega)
      have hcc := hcb.le hE.leC
      refine L.yes rfl rfl ?_
      refine L.rd (rd_move rfl) rfl ?_
      refine L.yes rfl rfl ?_
      (refine L.rd (rd_indexSlice (sz := 1) tok rfl rfl rfl rfl rfl rfl rfl ?_) rfl ?_; omega)
      refine L.yes rfl rfl ?_
      refine L.rd (rd_load1 tok rfl rfl rfl (cells_at hcc (bC_get hc0') (by simp))) rfl ?_
      refine L.yes rfl rfl ?_
      refine L.rd (rd_remW rfl rfl (by decide)) rfl ?_
      refine L.yes rfl rfl ?_
      refine L.rd (rd_neq rfl rfl) rfl ?_
      refine L.rd (rd_pickT rfl rfl) rfl ?_
      refine L.nil ?_
      exact X.ct ⟨_, (by repeat' (first | exact trivial | refine ⟨rfl, ?_⟩)), _, rfl, rfl⟩
    ·
      refine L.no rfl rfl rfl rfl ?_
      refine L.no rfl rfl rfl rfl ?_
      refine L.no rfl rfl rfl rfl ?_
      refine L.no rfl rfl rfl rfl ?_
      refine L.no rfl rfl rfl rfl ?_
      refine L.rd (rd_pickF rfl rfl) rfl ?_
      refine L.nil ?_
      exact X.ct ⟨_, (by repeat' (first | exact trivial | refine ⟨rfl, ?_⟩)), _, rfl, rfl⟩
  ·
    rintro l w' ⟨b20, rfl, rfl⟩
    refine X.sq ?_
    refine V.cut (fun l w' => ∃ (n : Nat), l = [(3, .pointer (some ⟨w.heap.size, 0, none⟩)), (4, .int .i64 n)] ∧ n ≤ 30 ∧ w2 = w') ?_ ?_
    ·
      first | refine V.cond rfl (fun h20 => ?_) (fun h20 => ?_) | refine V.condB rfl (fun h20 => ?_) (fun h20 => ?_)
      ·
        refine V.region ?_
        refine L.rd (rd_assign rfl) rfl ?_
        refine L.nil ?_
        exact X.ct ⟨_, (by repeat' (first | exact trivial | refine ⟨rfl, ?_⟩)), 26, rfl, by omega, rfl⟩
      ·
        refine V.skip ?_
        refine X.ct ⟨_, ?_, (c.tmod 30).toNat, rfl, by omega, rfl⟩
        rw [Int.toNat_of_nonneg hrem.1]
        exact (by repeat' (first | exact trivial | refine ⟨rfl, ?_⟩))
    ·
      rintro l w' ⟨n, rfl, hn, rfl⟩
      refine X.sq ?_
      refine V.seq ?_
      refine V.region ?_
      refine L.rd (rd_move rfl) rfl ?_
      refine L.ef (e_make (e := 2) (zs := [_]) (m := n) (c := n) tok rfl rfl rfl rfl rfl rfl rfl rfl (by first | (simp only [size_addB, size_setB, size_drew]; rfl) | rfl) rfl (by omega) (by simp only []; omega) (by omega) ?_)
      refine L.rd (rd_assign rfl) rfl ?_
      refine L.nil ?_
      refine X.sq ?_
      refine V.seq ?_
      refine V.seq ?_
      refine V.region ?_
      refine L.rd (rd_assign rfl) rfl ?_
      refine L.nil ?_
      refine X.sq ?_
      refine V.block ?_
      refine V.loop (fun m l w' => ∃ (i : Nat) (j : Nat) (G : List Int), l = [(3, .pointer (some ⟨w.heap.size, 0, none⟩)), (4, .int .i64 n), (5, .slice (some ⟨w2.heap.size, 0, none⟩) n n), (6, .int .i64 i)] ∧ m = n - i ∧ i ≤ n ∧ Ext w.heap.size w w' ∧ RDq w.heap.size (.slice ba bs.length bc) bs w' j ∧ Bl w' w2.heap.size 2 (iC .i64 G) ∧ G.length = n ∧ ∀ x ∈ G, w64 x = x) ?_ ?_
      ·
        exact ⟨_, _, (by repeat' (first | exact trivial | refine ⟨rfl, ?_⟩)), 0, i2, List.replicate n 0, rfl, rfl, by omega, hE.addNew _ _, h2.ext ((Ext.refl _ _).addNew _ _), by have := Bl.new w2 2 ((List.replicate n [Value.int .i64 0]).flatten); rw [flat_rep1] at this; simpa [iC] using this, by simp, fun x hx => by rw [List.eq_of_mem_replicate hx]; decide⟩
      ·
        rintro m l w3 ⟨i, j, G, rfl, rfl, hi, hE3, h3, hG, hGl, hGw⟩
        refine V.seq ?_
        refine V.seq ?_
        refine V.region ?_
        refine L.rd (rd_move rfl) rfl ?_
        refine L.rd (rd_move rfl) rfl ?_
        refine L.rd (rd_lss rfl rfl) rfl ?_
        refine L.nil ?_
        refine X.sq ?_
        first | refine V.cond rfl (fun h25 => ?_) (fun h25 => ?_) | refine V.condB rfl (fun h25 => ?_) (fun h25 => ?_)
        ·
          refine V.skip ?_
          refine X.sq ?_
          refine V.seq ?_
          refine V.block ?_
          refine V.region ?_
          refine L.rd (rd_move rfl) rfl ?_
          refine L.rd (rd_move rfl) rfl ?_
          refine L.ef (e_call rfl (word_ok _ h3) rfl ?_)
          rintro _ w4 ⟨x, j4, rfl, hx, h4, hj4, hr4⟩
          have hG4 := hG.rg hr4 (.inr (by omega))
          have hE4 := hE3.nextR hr4 (Nat.le_refl _)
          (refine L.rd (rd_indexSlice (sz := 1) tok rfl rfl rfl rfl rfl rfl rfl ?_) rfl ?_; omega)
          refine L.ef (e_store (vs := [_]) tok rfl rfl rfl rfl hG4 rfl (by simp [Value.oneCell']) (by simp [iC]; omega) ?_)
          (simp only [Nat.zero_add, Nat.mul_one, Int.toNat_natCast])
          rw [iC_putI _ _ _ (by omega)]
          refine L.nil ?_
          refine X.bk ?_
          refine X.sq ?_
          refine V.region ?_
          refine L.rd (rd_move rfl) rfl ?_
          (refine L.rd (rd_add3 rfl rfl ?_) rfl ?_; omega)
          refine L.rd (rd_assign rfl) rfl ?_
          refine L.nil ?_
          exact X.lp ⟨_, _, by omega, (by repeat' (first | exact trivial | refine ⟨rfl, ?_⟩)), i + 1, j4, G.set i x, rfl, rfl, by omega, hE4.set (by omega) _ _, h4.rg (Rg.set (lo := w2.heap.size) (hi := w2.heap.size + 1) (by omega) _ _) (by omega), hG4.set _ _, by simp [hGl], fun y hy => (List.mem_or_eq_of_mem_set hy).elim (hGw y) (fun e => e ▸ hx)⟩
        ·
          refine V.exit ?_
          refine X.sqExit ?_
          refine X.lpExit ?_
          refine X.bkHere ?_
          refine X.sq ?_
          refine V.seq ?_
          refine V.region ?_
          refine L.rd (rd_move rfl) rfl ?_
          refine L.rd (rd_assign rfl) rfl ?_
          refine L.nil ?_
          refine X.sq ?_
          refine V.ret ?_
          refine ret_1 Yaam.results5 rfl ?_
          refine ⟨G, ?_, hGw, hE3⟩
          rw [hGl]
          exact ⟨by simp [iC, hGl], _, _, rfl, .inr ⟨w2.heap.size, 0, rfl, by omega, hG.lt, hG.cells⟩⟩
end Go.Proofs.YbxaawGreat
