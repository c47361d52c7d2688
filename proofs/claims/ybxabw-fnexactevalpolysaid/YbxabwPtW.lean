/-
  What the laws do with points.
-/
import Derived.Test.YbxabwTermW3
set_option linter.unusedVariables false
set_option linter.unusedSimpArgs false
set_option maxRecDepth 10000
namespace Go.Mw
def i1 (x : Int) : List Value := [.int .i64 x]
theorem i1_len (x : Int) : (i1 x).length = 1 := rfl
theorem iC_fm : ∀ v : List Int, iC .i64 v = v.flatMap i1
  | [] => rfl
  | x :: v => by simp only [List.flatMap_cons, ← iC_fm v]; rfl
theorem iC_rep (n : Nat) : (List.replicate n [Value.int .i64 0]).flatten = iC .i64 (List.replicate n 0) := by
  rw [iC_fm]; exact fm_replicate i1_len 0 n
end Go.Mw
namespace Go.Proofs.Ybxabw
open Go.Mw

theorem ptIn_ok (va : Value) (a : List Int) (nl : Bool) (w : World) (ha : Rs w 1 va a.length (iC .i64 a)) (hla : a.length ≤ 4294967296) :
    Ret Yabm.prog 34 [va, .bool nl] w fun v w' => w'.ownsRow w.heap.size 2 1 v a.length (iC .i64 a) ∧ Ext w.heap.size w w' := by
  obtain ⟨aa, ca, hva, hfa⟩ := ha.form
  subst hva
  refine enter2 Yabm.func34 Yabm.ntmps34 (by kernel_rfl) rfl rfl ?_
  refine V.seq ?_
  refine V.region ?_
  refine L.rd (rd_assign rfl) rfl ?_
  refine L.nil ?_
  refine X.sq ?_
  refine V.seq ?_
  refine V.seq ?_
  refine V.region ?_
  refine L.rd (rd_move rfl) rfl ?_
  refine L.rd (rd_lenSlice tok rfl rfl rfl) rfl ?_
  refine L.rd (rd_eql rfl rfl) rfl ?_
  refine L.nil ?_
  refine X.sq ?_
  first | refine V.cond rfl (fun h9 => ?_) (fun h9 => ?_) | refine V.condB rfl (fun h9 => ?_) (fun h9 => ?_)
  ·
    have ha0 : a = [] := List.eq_nil_of_length_eq_zero (by omega)
    subst ha0
    refine V.seq ?_
    refine V.seq ?_
    refine V.region ?_
    refine L.rd (rd_move rfl) rfl ?_
    refine L.nil ?_
    refine X.sq ?_
    first | refine V.cond rfl (fun h10 => ?_) (fun h10 => ?_) | refine V.condB rfl (fun h10 => ?_) (fun h10 => ?_)
    ·
      refine V.seq ?_
      refine V.region ?_
      refine L.rd (rd_assign rfl) rfl ?_
      refine L.nil ?_
      refine X.sq ?_
      refine V.ret ?_
      refine X.sqRet ?_
      refine X.sqRet ?_
      refine ret_1 Yabm.results34 rfl ?_
      exact ⟨World.ownsRow_nil _ _ _ _, Ext.refl _ _⟩
    ·
      refine V.skip ?_
      refine X.sq ?_
      refine V.seq ?_
      refine V.region ?_
      refine L.ef (e_make0 (e := 2) tok rfl rfl rfl rfl rfl rfl rfl (by first | (simp only [size_addB, size_setB, size_drew]; rfl) | rfl) rfl ?_)
      refine L.rd (rd_assign rfl) rfl ?_
      refine L.nil ?_
      refine X.sq ?_
      refine V.ret ?_
      refine X.sqRet ?_
      refine ret_1 Yabm.results34 rfl ?_
      exact ⟨own_empty (Bl.new _ _ _) (Nat.le_refl _), (Ext.refl _ _).addNew _ _⟩
  ·
    refine V.skip ?_
    refine X.sq ?_
    refine V.seq ?_
    refine V.region ?_
    refine L.rd (rd_move rfl) rfl ?_
    refine L.rd (rd_lenSlice tok rfl rfl rfl) rfl ?_
    refine L.ef (e_make (e := 2) (zs := [_]) tok rfl rfl rfl rfl rfl rfl rfl rfl (by first | (simp only [size_addB, size_setB, size_drew]; rfl) | rfl) rfl (by omega) (by simp only []; omega) (by omega) ?_)
    refine L.rd (rd_assign rfl) rfl ?_
    refine L.nil ?_
    refine X.sq ?_
    refine V.seq ?_
    refine V.seq ?_
    refine V.region ?_
    refine L.rd (rd_assign rfl) rfl ?_
    refine L.nil ?_
    refine X.sq ?_
    refine V.block ?_
    refine V.loop (fun m l wr => ∃ (k : Nat) (c : List Int), l = [(0, .slice aa a.length ca), (5, .slice (some ⟨w.heap.size, 0, none⟩) a.length a.length), (6, .int .i64 k)] ∧ m = a.length - k ∧ k ≤ a.length ∧ Ext w.heap.size w wr ∧ Bl wr w.heap.size 2 (iC .i64 c) ∧ c.length = a.length ∧ c.take k = a.take k) ?_ ?_
    ·
      exact ⟨_, _, (by repeat' (first | exact trivial | refine ⟨rfl, ?_⟩)), 0, List.replicate a.length 0, rfl, rfl, by omega, (Ext.refl _ _).add (Nat.le_refl _) _ _, by rw [← iC_rep]; exact Bl.new w 2 _, by simp, by simp⟩
    ·
      rintro m l wr ⟨k, c, rfl, rfl, hk, he, hbl, hcl, htk⟩
      refine V.seq ?_
      refine V.seq ?_
      refine V.region ?_
      refine L.rd (rd_move rfl) rfl ?_
      refine L.rd (rd_move rfl) rfl ?_
      refine L.rd (rd_lenSlice tok rfl rfl rfl) rfl ?_
      refine L.rd (rd_lss rfl rfl) rfl ?_
      refine L.nil ?_
      refine X.sq ?_
      first | refine V.cond rfl (fun h18 => ?_) (fun h18 => ?_) | refine V.condB rfl (fun h18 => ?_) (fun h18 => ?_)
      ·
        obtain ⟨b1, o1, rfl, hc1⟩ := hfa.resolve_left (by omega)
        obtain ⟨x, hx⟩ := nth_of_lt a k (by omega)
        refine V.skip ?_
        refine X.sq ?_
        refine V.seq ?_
        refine V.block ?_
        refine V.region ?_
        refine L.rd (rd_move rfl) rfl ?_
        refine L.rd (rd_move rfl) rfl ?_
        refine L.rd (rd_move rfl) rfl ?_
        refine L.rd (rd_move rfl) rfl ?_
        (refine L.rd (rd_indexSlice (sz := 1) tok rfl rfl rfl rfl rfl rfl rfl ?_) rfl ?_; omega)
        refine L.rd (rd_load1 tok rfl rfl rfl (cells_at (hc1.le he.leC) (iC_get hx) (by simp))) rfl ?_
        (refine L.rd (rd_indexSlice (sz := 1) tok rfl rfl rfl rfl rfl rfl rfl ?_) rfl ?_; omega)
        refine L.ef (e_store (vs := [_]) tok rfl rfl rfl rfl hbl rfl (by simp [Value.oneCell']) (by simp only [iC_len, List.length_cons, List.length_nil]; omega) ?_)
        refine L.nil ?_
        refine X.bk ?_
        refine X.sq ?_
        refine V.region ?_
        refine L.rd (rd_move rfl) rfl ?_
        (refine L.rd (rd_add3 rfl rfl ?_) rfl ?_; omega)
        refine L.rd (rd_assign rfl) rfl ?_
        refine L.nil ?_
        simp only [Nat.zero_add, Int.toNat_natCast, Nat.mul_one]
        rw [iC_put _ _ _ _ (by omega)]
        exact X.lp ⟨_, _, by omega, (by repeat' (first | exact trivial | refine ⟨rfl, ?_⟩)), k + 1, c.set k x, rfl, rfl, by omega, he.set (Nat.le_refl _) _ _, hbl.set _ _, by simp [hcl], take_put_next a c k x hcl hx htk⟩
      ·
        refine V.exit ?_
        refine X.sqExit ?_
        refine X.lpExit ?_
        refine X.bkHere ?_
        refine X.sq ?_
        refine V.seq ?_
        refine V.region ?_
        refine L.rd (rd_move rfl) rfl ?_
        refine L.rd (rd_assign rfl) rfl ?_
        refine L.nil ?_
        refine X.sq ?_
        refine V.ret ?_
        refine ret_1 Yabm.results34 rfl ?_
        rw [List.take_of_length_le (by omega), List.take_of_length_le (by omega)] at htk
        subst htk
        exact ⟨own_of_bl hbl (by rw [iC_len]; simp) (Nat.le_refl _) (by unfold maxLen; omega), he⟩

theorem flipI64_ok (va : Value) (a : List Int) (w : World) (ha : Rs w 1 va a.length (iC .i64 a)) (hla : a.length ≤ 4294967296) :
    Ret Yabm.prog 35 [va] w fun v w' => w'.ownsRow w.heap.size 2 1 v a.length (iC .i64 (a.map (xr .i64))) ∧ Ext w.heap.size w w' := by
  obtain ⟨aa, ca, hva, hfa⟩ := ha.form
  subst hva
  refine enter1 Yabm.func35 Yabm.ntmps35 (by kernel_rfl) rfl rfl ?_
  refine V.seq ?_
  refine V.region ?_
  refine L.rd (rd_assign rfl) rfl ?_
  refine L.nil ?_
  refine X.sq ?_
  refine V.seq ?_
  refine V.region ?_
  refine L.rd (rd_move rfl) rfl ?_
  refine L.rd (rd_lenSlice tok rfl rfl rfl) rfl ?_
  refine L.ef (e_make (e := 2) (zs := [_]) tok rfl rfl rfl rfl rfl rfl rfl rfl (by first | (simp only [size_addB, size_setB, size_drew]; rfl) | rfl) rfl (by omega) (by simp only []; omega) (by omega) ?_)
  refine L.rd (rd_assign rfl) rfl ?_
  refine L.nil ?_
  refine X.sq ?_
  refine V.seq ?_
  refine V.seq ?_
  refine V.region ?_
  refine L.rd (rd_assign rfl) rfl ?_
  refine L.nil ?_
  refine X.sq ?_
  refine V.block ?_
  refine V.loop (fun m l wr => ∃ (k : Nat) (c : List Int), l = [(0, .slice aa a.length ca), (3, .slice (some ⟨w.heap.size, 0, none⟩) a.length a.length), (4, .int .i64 k)] ∧ m = a.length - k ∧ k ≤ a.length ∧ Ext w.heap.size w wr ∧ Bl wr w.heap.size 2 (iC .i64 c) ∧ c.length = (a.map (xr .i64)).length ∧ c.take k = (a.map (xr .i64)).take k) ?_ ?_
  ·
    exact ⟨_, _, (by repeat' (first | exact trivial | refine ⟨rfl, ?_⟩)), 0, List.replicate a.length 0, rfl, rfl, by omega, (Ext.refl _ _).add (Nat.le_refl _) _ _, by rw [← iC_rep]; exact Bl.new w 2 _, by simp, by simp⟩
  ·
    rintro m l wr ⟨k, c, rfl, rfl, hk, he, hbl, hcl, htk⟩
    have hcl2 : c.length = a.length := by simpa using hcl
    refine V.seq ?_
    refine V.seq ?_
    refine V.region ?_
    refine L.rd (rd_move rfl) rfl ?_
    refine L.rd (rd_move rfl) rfl ?_
    refine L.rd (rd_lenSlice tok rfl rfl rfl) rfl ?_
    refine L.rd (rd_lss rfl rfl) rfl ?_
    refine L.nil ?_
    refine X.sq ?_
    first | refine V.cond rfl (fun h11 => ?_) (fun h11 => ?_) | refine V.condB rfl (fun h11 => ?_) (fun h11 => ?_)
    ·
      obtain ⟨b1, o1, rfl, hc1⟩ := hfa.resolve_left (by omega)
      obtain ⟨x, hx⟩ := nth_of_lt a k (by omega)
      refine V.skip ?_
      refine X.sq ?_
      refine V.seq ?_
      refine V.block ?_
      refine V.region ?_
      refine L.rd (rd_move rfl) rfl ?_
      refine L.rd (rd_move rfl) rfl ?_
      refine L.rd (rd_move rfl) rfl ?_
      refine L.rd (rd_move rfl) rfl ?_
      (refine L.rd (rd_indexSlice (sz := 1) tok rfl rfl rfl rfl rfl rfl rfl ?_) rfl ?_; omega)
      refine L.rd (rd_load1 tok rfl rfl rfl (cells_at (hc1.le he.leC) (iC_get hx) (by simp))) rfl ?_
      refine L.rd (rd_xorW rfl) rfl ?_
      (refine L.rd (rd_indexSlice (sz := 1) tok rfl rfl rfl rfl rfl rfl rfl ?_) rfl ?_; omega)
      refine L.ef (e_store (vs := [_]) tok rfl rfl rfl rfl hbl rfl (by simp [Value.oneCell']) (by simp only [iC_len, List.length_cons, List.length_nil]; omega) ?_)
      refine L.nil ?_
      refine X.bk ?_
      refine X.sq ?_
      refine V.region ?_
      refine L.rd (rd_move rfl) rfl ?_
      (refine L.rd (rd_add3 rfl rfl ?_) rfl ?_; omega)
      refine L.rd (rd_assign rfl) rfl ?_
      refine L.nil ?_
      simp only [Nat.zero_add, Int.toNat_natCast, Nat.mul_one]
      rw [iC_put _ _ _ _ (by omega)]
      exact X.lp ⟨_, _, by omega, (by repeat' (first | exact trivial | refine ⟨rfl, ?_⟩)), k + 1, c.set k (xr .i64 x), rfl, rfl, by omega, he.set (Nat.le_refl _) _ _, hbl.set _ _, by simp [hcl2], take_put_next _ c k _ hcl (by simp [hx]) htk⟩
    ·
      refine V.exit ?_
      refine X.sqExit ?_
      refine X.lpExit ?_
      refine X.bkHere ?_
      refine X.sq ?_
      refine V.seq ?_
      refine V.region ?_
      refine L.rd (rd_move rfl) rfl ?_
      refine L.rd (rd_assign rfl) rfl ?_
      refine L.nil ?_
      refine X.sq ?_
      refine V.ret ?_
      refine ret_1 Yabm.results35 rfl ?_
      rw [List.take_of_length_le (by omega), List.take_of_length_le (by simp; omega)] at htk
      subst htk
      exact ⟨own_of_bl hbl (by rw [iC_len]; simp) (Nat.le_refl _) (by unfold maxLen; omega), he⟩

theorem eqI64_ok (va vb : Value) (a b : List Int) (w : World) (ha : Rs w 1 va a.length (iC .i64 a)) (hb : Rs w 1 vb b.length (iC .i64 b)) (hla : a.length ≤ 4294967296) :
    Ret Yabm.prog 37 [va, vb] w fun v w' => v = .bool (decide (a = b)) ∧ Ext w.heap.size w w' := by
  obtain ⟨aa, ca, hva, hfa⟩ := ha.form
  obtain ⟨ab, cb, hvb, hfb⟩ := hb.form
  subst hva hvb
  refine enter2 Yabm.func37 Yabm.ntmps37 (by kernel_rfl) rfl rfl ?_
  refine V.seq ?_
  refine V.region ?_
  refine L.rd (rd_assign rfl) rfl ?_
  refine L.nil ?_
  refine X.sq ?_
  refine V.seq ?_
  refine V.seq ?_
  refine V.region ?_
  refine L.rd (rd_move rfl) rfl ?_
  refine L.rd (rd_lenSlice tok rfl rfl rfl) rfl ?_
  refine L.rd (rd_move rfl) rfl ?_
  refine L.rd (rd_lenSlice tok rfl rfl rfl) rfl ?_
  refine L.rd (rd_neq rfl rfl) rfl ?_
  refine L.nil ?_
  refine X.sq ?_
  first | refine V.cond rfl (fun h10 => ?_) (fun h10 => ?_) | refine V.condB rfl (fun h10 => ?_) (fun h10 => ?_)
  ·
    refine V.seq ?_
    refine V.region ?_
    refine L.rd (rd_assign rfl) rfl ?_
    refine L.nil ?_
    refine X.sq ?_
    refine V.ret ?_
    refine X.sqRet ?_
    refine ret_1 Yabm.results37 rfl ?_
    refine ⟨congrArg Value.bool (Eq.symm (decide_eq_false ?_)), Ext.refl _ _⟩
    rintro rfl; exact h10 rfl
  ·
    refine V.skip ?_
    refine X.sq ?_
    refine V.seq ?_
    refine V.seq ?_
    refine V.region ?_
    refine L.rd (rd_assign rfl) rfl ?_
    refine L.nil ?_
    refine X.sq ?_
    refine V.block ?_
    refine V.loop (fun m l wr => ∃ k : Nat, l = [(0, .slice aa a.length ca), (1, .slice ab b.length cb), (5, .int .i64 k)] ∧ m = a.length - k ∧ k ≤ a.length ∧ Ext w.heap.size w wr ∧ a.take k = b.take k) ?_ ?_
    ·
      exact ⟨_, _, (by repeat' (first | exact trivial | refine ⟨rfl, ?_⟩)), 0, rfl, rfl, by omega, Ext.refl _ _, by simp⟩
    ·
      rintro m l wr ⟨k, rfl, rfl, hk, he, htk⟩
      refine V.seq ?_
      refine V.seq ?_
      refine V.region ?_
      refine L.rd (rd_move rfl) rfl ?_
      refine L.rd (rd_move rfl) rfl ?_
      refine L.rd (rd_lenSlice tok rfl rfl rfl) rfl ?_
      refine L.rd (rd_lss rfl rfl) rfl ?_
      refine L.nil ?_
      refine X.sq ?_
      first | refine V.cond rfl (fun h14 => ?_) (fun h14 => ?_) | refine V.condB rfl (fun h14 => ?_) (fun h14 => ?_)
      ·
        obtain ⟨b1, o1, rfl, hc1⟩ := hfa.resolve_left (by omega)
        obtain ⟨b2, o2, rfl, hc2⟩ := hfb.resolve_left (by omega)
        obtain ⟨x, hx⟩ := nth_of_lt a k (by omega)
        obtain ⟨y, hy⟩ := nth_of_lt b k (by omega)
        refine V.skip ?_
        refine X.sq ?_
        refine V.seq ?_
        refine V.block ?_
        refine V.seq ?_
        refine V.draw [] mixed ?_
        refine D.take 0 [true, false, false, false, false, false, false, false, false] (.sq (.bk (.sq (.lp (.bk (.sq .bd)))))) rfl (rd_move rfl) rfl (by kernel_rfl) rfl (LeC.drew _) ?_
        refine D.take 1 [true, true, false, false, false, false, false, false, false] (.sq (.bk (.sq (.lp (.bk (.sq .bd)))))) rfl (rd_move rfl) rfl (by kernel_rfl) rfl (LeC.drew _) ?_
        (refine D.take 2 [true, true, true, false, false, false, false, false, false] (.sq (.bk (.sq (.lp (.bk (.sq .bd)))))) rfl (rd_indexSlice (sz := 1) tok rfl rfl rfl rfl rfl rfl rfl ?_) rfl (by kernel_rfl) rfl (LeC.drew _) ?_; omega)
        refine D.take 3 [true, true, true, true, false, false, false, false, false] (.sq (.bk (.sq (.lp (.bk (.sq .bd)))))) rfl (rd_load1 tok rfl rfl rfl (cells_at (hc1.le he.leC) (iC_get hx) (by simp))) rfl (by kernel_rfl) rfl (LeC.drew _) ?_
        refine D.take 4 [true, true, true, true, true, false, false, false, false] (.sq (.bk (.sq (.lp (.bk (.sq .bd)))))) rfl (rd_move rfl) rfl (by kernel_rfl) rfl (LeC.drew _) ?_
        refine D.take 5 [true, true, true, true, true, true, false, false, false] (.sq (.bk (.sq (.lp (.bk (.sq .bd)))))) rfl (rd_move rfl) rfl (by kernel_rfl) rfl (LeC.drew _) ?_
        (refine D.take 6 [true, true, true, true, true, true, true, false, false] (.sq (.bk (.sq (.lp (.bk (.sq .bd)))))) rfl (rd_indexSlice (sz := 1) tok rfl rfl rfl rfl rfl rfl rfl ?_) rfl (by kernel_rfl) rfl (LeC.drew _) ?_; omega)
        refine D.take 7 [true, true, true, true, true, true, true, true, false] (.sq (.bk (.sq (.lp (.bk (.sq .bd)))))) rfl (rd_load1 tok rfl rfl rfl (cells_at (hc2.le he.leC) (iC_get hy) (by simp))) rfl (by kernel_rfl) rfl (LeC.drew _) ?_
        refine D.take 8 [true, true, true, true, true, true, true, true, true] (.sq (.bk (.sq (.lp (.bk (.sq .bd)))))) rfl (rd_neq rfl rfl) rfl (by kernel_rfl) rfl (LeC.drew _) ?_
        refine D.done (by kernel_rfl) ?_
        refine X.sq ?_
        first | refine V.cond rfl (fun h25 => ?_) (fun h25 => ?_) | refine V.condB rfl (fun h25 => ?_) (fun h25 => ?_)
        ·
          refine V.seq ?_
          refine V.region ?_
          refine L.rd (rd_assign rfl) rfl ?_
          refine L.nil ?_
          refine X.sq ?_
          refine V.ret ?_
          refine X.bkRet ?_
          refine X.sqRet ?_
          refine X.lpRet ?_
          refine X.bkRet ?_
          refine X.sqRet ?_
          refine ret_1 Yabm.results37 rfl ?_
          refine ⟨congrArg Value.bool (Eq.symm (decide_eq_false ?_)), he.drew⟩
          rintro rfl
          rw [hx] at hy
          simp only [Option.some.injEq] at hy
          exact h25 hy
        ·
          refine V.skip ?_
          refine X.bk ?_
          refine X.sq ?_
          refine V.region ?_
          refine L.rd (rd_move rfl) rfl ?_
          (refine L.rd (rd_add3 rfl rfl ?_) rfl ?_; omega)
          refine L.rd (rd_assign rfl) rfl ?_
          refine L.nil ?_
          have hxy : x = y := Decidable.not_not.1 h25
          subst hxy
          exact X.lp ⟨_, _, by omega, (by repeat' (first | exact trivial | refine ⟨rfl, ?_⟩)), k + 1, rfl, rfl, by omega, he.drew, take_both_next htk hx hy⟩
      ·
        refine V.exit ?_
        refine X.sqExit ?_
        refine X.lpExit ?_
        refine X.bkHere ?_
        refine X.sq ?_
        refine V.seq ?_
        refine V.region ?_
        refine L.rd (rd_assign rfl) rfl ?_
        refine L.nil ?_
        refine X.sq ?_
        refine V.ret ?_
        refine ret_1 Yabm.results37 rfl ?_
        refine ⟨congrArg Value.bool (Eq.symm (decide_eq_true ?_)), he⟩
        rw [List.take_of_length_le (by omega), List.take_of_length_le (by omega)] at htk
        exact htk

theorem flipPt_ok (va : Value) (a : List Int) (w : World) (B : Nat) (ha : w.ownsRow B 2 1 va a.length (iC .i64 a)) (hla : a.length ≤ 4294967296) :
    Ret Yabm.prog 38 [va] w fun v w' => w'.ownsRow B 2 1 va a.length (iC .i64 (a.map (xr .i64))) ∧ w.grownBy w' va.ownBlock := by
  rcases own_slc ha with ⟨rfl, h0, hnil⟩ | ⟨g, cap, sp, hB, hs⟩
  · have ha0 : a = [] := List.eq_nil_of_length_eq_zero h0
    subst ha0
    refine enter1 Yabm.func38 Yabm.ntmps38 (by kernel_rfl) rfl rfl ?_
    refine V.seq ?_
    refine V.region ?_
    refine L.rd (rd_assign rfl) rfl ?_
    refine L.nil ?_
    refine X.sq ?_
    refine V.block ?_
    refine V.loop (fun m l wr => l = [(0, .slice none 0 0), (2, .int .i64 0)] ∧ w = wr) ?_ ?_
    ·
      exact ⟨0, _, (by repeat' (first | exact trivial | refine ⟨rfl, ?_⟩)), rfl, rfl⟩
    ·
      rintro m l wr ⟨rfl, rfl⟩
      refine V.seq ?_
      refine V.seq ?_
      refine V.region ?_
      refine L.rd (rd_move rfl) rfl ?_
      refine L.rd (rd_move rfl) rfl ?_
      refine L.rd (rd_lenSlice tok rfl rfl rfl) rfl ?_
      refine L.rd (rd_lss rfl rfl) rfl ?_
      refine L.nil ?_
      refine X.sq ?_
      first | refine V.cond rfl (fun h6 => ?_) (fun h6 => ?_) | refine V.condB rfl (fun h6 => ?_) (fun h6 => ?_)
      ·
        exact absurd h6 (by decide)
      ·
        refine V.exit ?_
        refine X.sqExit ?_
        refine X.lpExit ?_
        refine X.bkHere ?_
        refine ret_0 Yabm.results38 ?_
        exact ⟨World.ownsRow_nil _ _ _ _, grown_refl _ _⟩
  · obtain ⟨hval, hbl, hlen, hcn, hcm, hsz⟩ := hs
    subst hval
    rw [iC_fm] at ha hbl
    obtain ⟨sp', -, -, hbl', -, hre⟩ := own_at i1_len ha
    refine enter1 Yabm.func38 Yabm.ntmps38 (by kernel_rfl) rfl rfl ?_
    refine V.seq ?_
    refine V.region ?_
    refine L.rd (rd_assign rfl) rfl ?_
    refine L.nil ?_
    refine X.sq ?_
    refine V.block ?_
    refine V.loop (fun m l wr => ∃ k : Nat, l = [(0, .slice (some ⟨g, 0, none⟩) a.length cap), (2, .int .i64 k)] ∧ m = a.length - k ∧ k ≤ a.length ∧ Bl wr g 2 (((a.take k).map (xr .i64) ++ a.drop k).flatMap i1 ++ sp') ∧ w.grownBy wr (some g)) ?_ ?_
    ·
      exact ⟨_, _, (by repeat' (first | exact trivial | refine ⟨rfl, ?_⟩)), 0, rfl, rfl, by omega, by simpa using hbl', grown_refl _ _⟩
    ·
      rintro m l wr ⟨k, rfl, rfl, hk, hb, hg⟩
      refine V.seq ?_
      refine V.seq ?_
      refine V.region ?_
      refine L.rd (rd_move rfl) rfl ?_
      refine L.rd (rd_move rfl) rfl ?_
      refine L.rd (rd_lenSlice tok rfl rfl rfl) rfl ?_
      refine L.rd (rd_lss rfl rfl) rfl ?_
      refine L.nil ?_
      refine X.sq ?_
      first | refine V.cond rfl (fun h6 => ?_) (fun h6 => ?_) | refine V.condB rfl (fun h6 => ?_) (fun h6 => ?_)
      ·
        obtain ⟨x, hx⟩ := nth_of_lt a k (by omega)
        have hx2 := nth_split (xr .i64) a k x hx
        have hcx : wr.cell? ⟨g, 0 + k * 1, none⟩ = some (.int .i64 x) := hb.cells.at_ (k * 1) _ (by
          have h1 := fm_get i1_len _ k x hx2 0 (.int .i64 x) rfl
          rw [Nat.add_zero] at h1
          rw [List.getElem?_append_left (List.getElem?_eq_some_iff.1 h1).1]; exact h1)
        have hpl := fm_length i1_len ((a.take k).map (xr .i64) ++ a.drop k)
        rw [len_split] at hpl
        refine V.skip ?_
        refine X.sq ?_
        refine V.seq ?_
        refine V.block ?_
        refine V.region ?_
        refine L.rd (rd_move rfl) rfl ?_
        refine L.rd (rd_move rfl) rfl ?_
        refine L.rd (rd_move rfl) rfl ?_
        refine L.rd (rd_move rfl) rfl ?_
        (refine L.rd (rd_indexSlice (sz := 1) tok rfl rfl rfl rfl rfl rfl rfl ?_) rfl ?_; omega)
        refine L.rd (rd_load1 tok rfl rfl rfl hcx) rfl ?_
        refine L.rd (rd_xorW rfl) rfl ?_
        (refine L.rd (rd_indexSlice (sz := 1) tok rfl rfl rfl rfl rfl rfl rfl ?_) rfl ?_; omega)
        refine L.ef (e_store (vs := [_]) tok rfl rfl rfl rfl hb rfl (by simp [Value.oneCell']) (by rw [List.length_append, hpl]; simp only [List.length_cons, List.length_nil]; simp; omega) ?_)
        refine L.nil ?_
        refine X.bk ?_
        refine X.sq ?_
        refine V.region ?_
        refine L.rd (rd_move rfl) rfl ?_
        (refine L.rd (rd_add3 rfl rfl ?_) rfl ?_; omega)
        refine L.rd (rd_assign rfl) rfl ?_
        refine L.nil ?_
        have h1 := fm_put i1_len sp' ((a.take k).map (xr .i64) ++ a.drop k) k (xr .i64 x) (by rw [len_split]; omega)
        rw [put_split (xr .i64) a k x hx] at h1
        simp only [Nat.zero_add, Int.toNat_natCast]
        refine X.lp ⟨_, _, by omega, (by repeat' (first | exact trivial | refine ⟨rfl, ?_⟩)), k + 1, rfl, rfl, by omega, ?_, grown_trans hg grown_set⟩
        rw [← h1]
        exact hb.set _ _
      ·
        refine V.exit ?_
        refine X.sqExit ?_
        refine X.lpExit ?_
        refine X.bkHere ?_
        refine ret_0 Yabm.results38 ?_
        rw [split_all (xr .i64) a k (by omega)] at hb
        rw [iC_fm]
        exact ⟨hre _ _ (by simp) hb, hg⟩
end Go.Proofs.Ybxabw
