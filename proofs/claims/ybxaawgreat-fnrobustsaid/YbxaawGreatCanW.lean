/-
  The order of monomials, walked.
-/
import Derived.Test.YbxaawGreatPolyP
import Derived.Test.YbxaawGreatTypes
set_option linter.unusedVariables false
set_option linter.unusedSimpArgs false
set_option maxRecDepth 10000
namespace Go.Mw
theorem cell_at {w : World} {b o i : Nat} {e : TypeId} {cs : List Value} {v : Value} (h : Bl w b e cs) (hv : cs[i]? = some v) (ho : o = i) : w.cell? ⟨b, o, none⟩ = some v := ho ▸ h.cell hv
theorem cells_at {w : World} {b o o' i : Nat} {cs : List Value} {v : Value} (h : Cells w b o cs) (hv : cs[i]? = some v) (ho : o' = o + i) : w.cell? ⟨b, o', none⟩ = some v := ho ▸ h.at_ i v hv
/-- 26 exponents -/
structure Rv (v : List Int) : Prop where
  len : v.length = 26
  rng : ∀ x ∈ v, 0 ≤ x ∧ x ≤ 2147483647
theorem Fv.rv {v : List Int} {last : Int} (h : Fv v last) : Rv v := ⟨h.len, fun x hx => by have := h.rng x hx; omega⟩
theorem Rv.nth {v : List Int} (h : Rv v) {k : Nat} (hk : k < 26) : ∃ x, v[k]? = some x ∧ 0 ≤ x ∧ x ≤ 2147483647 := by
  obtain ⟨x, hx⟩ := nth_of_lt v k (by rw [h.len]; exact hk)
  exact ⟨x, hx, h.rng x (List.mem_of_getElem? hx)⟩
theorem Rv.sum {v : List Int} (h : Rv v) : 0 ≤ isum v ∧ isum v ≤ 55834574822 := by
  have := isum_range v 2147483647 h.rng
  rw [h.len] at this; omega
theorem Rv.rest {v : List Int} (h : Rv v) (k : Nat) : 0 ≤ isum (v.drop k) := (isum_range (v.drop k) 2147483647 (fun x hx => h.rng x (List.mem_of_mem_drop hx))).1
theorem Rv.c26 {v : List Int} (h : Rv v) (k : IntKind) : 26 = (iC k v).length := by rw [iC_len, h.len]
theorem Rv.c28 {v : List Int} (h : Rv v) (c d : Int) : 28 = (mC c v d).length := by rw [mC_len, h.len]
theorem isum_drop {v : List Int} {k : Nat} {x : Int} (h : v[k]? = some x) : isum (v.drop k) = x + isum (v.drop (k + 1)) := by rw [drop_cons h]; rfl
end Go.Mw
namespace Go.Proofs.YbxaawGreat
open Go.Mw

theorem degOf_ok (v : List Int) (hv : Rv v) (w : World) : Ret Yaam.prog 113 [.agg (iC .i32 v).toArray] w fun r w' => r = .int .i64 (isum v) ∧ Ext w.heap.size w w' := by
  have hb := Bl.new w 101 (iC .i32 v)
  have hsum := hv.sum
  refine enter1 Yaam.func113 Yaam.ntmps113 (by kernel_rfl) rfl rfl ?_
  refine V.seq ?_
  refine V.region ?_
  refine L.ef (e_box (cs := iC .i32 v) rfl rfl (by rfl) rfl ?_)
  refine L.rd (rd_assign rfl) rfl ?_
  refine L.nil ?_
  refine X.sq ?_
  refine V.seq ?_
  refine V.region ?_
  refine L.rd (rd_assign rfl) rfl ?_
  refine L.nil ?_
  refine X.sq ?_
  refine V.seq ?_
  refine V.seq ?_
  refine V.region ?_
  refine L.rd (rd_assign rfl) rfl ?_
  refine L.nil ?_
  refine X.sq ?_
  refine V.block ?_
  refine V.loop (fun m l wr => ∃ (k : Nat) (s : Int), l = [(1, .pointer (some ⟨w.heap.size, 0, none⟩)), (3, .int .i64 s), (4, .int .i64 k)] ∧ m = 26 - k ∧ k ≤ 26 ∧ addB w 101 (iC .i32 v) = wr ∧ 0 ≤ s ∧ s + isum (v.drop k) = isum v) ?_ ?_
  ·
    exact ⟨_, _, (by repeat' (first | exact trivial | refine ⟨rfl, ?_⟩)), 0, 0, rfl, rfl, by omega, rfl, by omega, by simp⟩
  ·
    rintro m l wr ⟨k, s, rfl, rfl, hk, rfl, hs0, hs⟩
    refine V.seq ?_
    refine V.seq ?_
    refine V.region ?_
    refine L.rd (rd_move rfl) rfl ?_
    refine L.rd (rd_lss rfl rfl) rfl ?_
    refine L.nil ?_
    refine X.sq ?_
    first | refine V.cond rfl (fun h6 => ?_) (fun h6 => ?_) | refine V.condB rfl (fun h6 => ?_) (fun h6 => ?_)
    ·
      obtain ⟨x, hx, hx0, hx1⟩ := hv.nth (k := k) (by omega)
      have hr := hv.rest (k + 1)
      rw [isum_drop hx] at hs
      refine V.skip ?_
      refine X.sq ?_
      refine V.seq ?_
      refine V.block ?_
      refine V.region ?_
      refine L.rd (rd_move rfl) rfl ?_
      refine L.rd (rd_move rfl) rfl ?_
      (refine L.rd (rd_indexArr (n := 26) (sz := 1) tok rfl rfl rfl rfl rfl rfl rfl rfl ?_) rfl ?_; omega)
      refine L.rd (rd_load1 tok rfl rfl rfl (cell_at hb (iC_get hx) (by simp))) rfl ?_
      refine L.rd (rd_convE (r := x) tok rfl rfl rfl rfl rfl (wrap_i64_in (by omega))) rfl ?_
      (refine L.rd (rd_add3 rfl rfl ?_) rfl ?_; omega)
      refine L.rd (rd_assign rfl) rfl ?_
      refine L.nil ?_
      refine X.bk ?_
      refine X.sq ?_
      refine V.region ?_
      refine L.rd (rd_move rfl) rfl ?_
      (refine L.rd (rd_add3 rfl rfl ?_) rfl ?_; omega)
      refine L.rd (rd_assign rfl) rfl ?_
      refine L.nil ?_
      exact X.lp ⟨_, _, by omega, (by repeat' (first | exact trivial | refine ⟨rfl, ?_⟩)), k + 1, s + x, rfl, rfl, by omega, rfl, by omega, by omega⟩
    ·
      refine V.exit ?_
      refine X.sqExit ?_
      refine X.lpExit ?_
      refine X.bkHere ?_
      refine X.sq ?_
      refine V.seq ?_
      refine V.region ?_
      refine L.rd (rd_move rfl) rfl ?_
      refine L.rd (rd_assign rfl) rfl ?_
      refine L.nil ?_
      refine X.sq ?_
      refine V.ret ?_
      refine ret_1 Yaam.results113 rfl ?_
      refine ⟨?_, (Ext.refl _ _).addNew _ _⟩
      rw [drop_end (by rw [hv.len]; omega)] at hs
      congr 1
      simp only [isum] at hs; omega

theorem monoBefore_ok (a b : List Int) (ha : Rv a) (hb : Rv b) (w : World) : Ret Yaam.prog 114 [.agg (iC .i32 a).toArray, .agg (iC .i32 b).toArray] w fun r w' => r = .bool (before a b) ∧ Ext w.heap.size w w' := by
  refine enter2 Yaam.func114 Yaam.ntmps114 (by kernel_rfl) rfl rfl ?_
  refine V.seq ?_
  refine V.region ?_
  refine L.ef (e_box (cs := iC .i32 a) rfl rfl (by rfl) rfl ?_)
  refine L.ef (e_box (cs := iC .i32 b) rfl rfl (by rfl) rfl ?_)
  refine L.rd (rd_assign rfl) rfl ?_
  refine L.nil ?_
  refine X.sq ?_
  refine V.seq ?_
  have hA := (Bl.new w 101 (iC .i32 a)).add 101 (iC .i32 b)
  have hB := Bl.new (addB w 101 (iC .i32 a)) 101 (iC .i32 b)
  have hE := ((Ext.refl _ w).addNew 101 (iC .i32 a)).addNew 101 (iC .i32 b)
  rw [size_addB] at hB ⊢
  refine V.region ?_
  refine L.rd (rd_loadN tok rfl rfl rfl hA.cells (ha.c26 _)) rfl ?_
  refine L.ef (e_call rfl (degOf_ok a ha _) rfl ?_)
  rintro _ w1 ⟨rfl, he1⟩
  replace hA := he1.bl hA.lt hA
  replace hB := he1.bl hB.lt hB
  replace hE := hE.next he1
  refine L.rd (rd_assign rfl) rfl ?_
  refine L.nil ?_
  refine X.sq ?_
  refine V.seq ?_
  refine V.region ?_
  refine L.rd (rd_loadN tok rfl rfl rfl hB.cells (hb.c26 _)) rfl ?_
  refine L.ef (e_call rfl (degOf_ok b hb _) rfl ?_)
  rintro _ w2 ⟨rfl, he2⟩
  replace hA := he2.bl hA.lt hA
  replace hB := he2.bl hB.lt hB
  replace hE := hE.next he2
  refine L.rd (rd_assign rfl) rfl ?_
  refine L.nil ?_
  refine X.sq ?_
  refine V.seq ?_
  refine V.seq ?_
  refine V.region ?_
  refine L.rd (rd_move rfl) rfl ?_
  refine L.rd (rd_move rfl) rfl ?_
  refine L.rd (rd_neq rfl rfl) rfl ?_
  refine L.nil ?_
  refine X.sq ?_
  first | refine V.cond rfl (fun h14 => ?_) (fun h14 => ?_) | refine V.condB rfl (fun h14 => ?_) (fun h14 => ?_)
  ·
    refine V.seq ?_
    refine V.region ?_
    refine L.rd (rd_move rfl) rfl ?_
    refine L.rd (rd_move rfl) rfl ?_
    refine L.rd (rd_gtr rfl rfl) rfl ?_
    refine L.rd (rd_assign rfl) rfl ?_
    refine L.nil ?_
    refine X.sq ?_
    refine V.ret ?_
    refine X.sqRet ?_
    refine ret_1 Yaam.results114 rfl ?_
    refine ⟨?_, hE⟩
    unfold before
    rw [if_neg h14]
  ·
    refine V.skip ?_
    refine X.sq ?_
    refine V.seq ?_
    refine V.seq ?_
    refine V.region ?_
    refine L.rd (rd_assign rfl) rfl ?_
    refine L.nil ?_
    refine X.sq ?_
    refine V.block ?_
    refine V.loop (fun m l wr => ∃ (k : Nat), l = [(2, .pointer (some ⟨w.heap.size, 0, none⟩)), (3, .pointer (some ⟨w.heap.size + 1, 0, none⟩)), (7, .int .i64 k)] ∧ m = 26 - k ∧ k ≤ 26 ∧ Bl wr w.heap.size 101 (iC .i32 a) ∧ Bl wr (w.heap.size + 1) 101 (iC .i32 b) ∧ Ext w.heap.size w wr ∧ Lx_ a b k) ?_ ?_
    ·
      exact ⟨_, _, (by repeat' (first | exact trivial | refine ⟨rfl, ?_⟩)), 0, rfl, rfl, by omega, hA, hB, hE, Lx_.start a b⟩
    ·
      clear hA hB hE
      rintro m l wr ⟨k, rfl, rfl, hk, hA, hB, hE, hlx⟩
      refine V.seq ?_
      refine V.seq ?_
      refine V.region ?_
      refine L.rd (rd_move rfl) rfl ?_
      refine L.rd (rd_lss rfl rfl) rfl ?_
      refine L.nil ?_
      refine X.sq ?_
      first | refine V.cond rfl (fun h19 => ?_) (fun h19 => ?_) | refine V.condB rfl (fun h19 => ?_) (fun h19 => ?_)
      ·
        obtain ⟨x, hx, hx0, hx1⟩ := ha.nth (k := k) (by omega)
        obtain ⟨y, hy, hy0, hy1⟩ := hb.nth (k := k) (by omega)
        refine V.skip ?_
        refine X.sq ?_
        refine V.seq ?_
        refine V.block ?_
        refine V.seq ?_
        refine V.draw [] mixed ?_
        refine D.take 0 [true, false, false, false, false, false, false] (.sq (.bk (.sq (.lp (.bk (.sq .bd)))))) rfl (rd_move rfl) rfl (by kernel_rfl) rfl (LeC.drew _) ?_
        (refine D.take 1 [true, true, false, false, false, false, false] (.sq (.bk (.sq (.lp (.bk (.sq .bd)))))) rfl (rd_indexArr (n := 26) (sz := 1) tok rfl rfl rfl rfl rfl rfl rfl rfl ?_) rfl (by kernel_rfl) rfl (LeC.drew _) ?_; omega)
        refine D.take 2 [true, true, true, false, false, false, false] (.sq (.bk (.sq (.lp (.bk (.sq .bd)))))) rfl (rd_load1 tok rfl rfl rfl (cell_at hA (iC_get hx) (by simp))) rfl (by kernel_rfl) rfl (LeC.drew _) ?_
        refine D.take 3 [true, true, true, true, false, false, false] (.sq (.bk (.sq (.lp (.bk (.sq .bd)))))) rfl (rd_move rfl) rfl (by kernel_rfl) rfl (LeC.drew _) ?_
        (refine D.take 4 [true, true, true, true, true, false, false] (.sq (.bk (.sq (.lp (.bk (.sq .bd)))))) rfl (rd_indexArr (n := 26) (sz := 1) tok rfl rfl rfl rfl rfl rfl rfl rfl ?_) rfl (by kernel_rfl) rfl (LeC.drew _) ?_; omega)
        refine D.take 5 [true, true, true, true, true, true, false] (.sq (.bk (.sq (.lp (.bk (.sq .bd)))))) rfl (rd_load1 tok rfl rfl rfl (cell_at hB (iC_get hy) (by simp))) rfl (by kernel_rfl) rfl (LeC.drew _) ?_
        refine D.take 6 [true, true, true, true, true, true, true] (.sq (.bk (.sq (.lp (.bk (.sq .bd)))))) rfl (rd_neq rfl rfl) rfl (by kernel_rfl) rfl (LeC.drew _) ?_
        refine D.done (by kernel_rfl) ?_
        refine X.sq ?_
        first | refine V.cond rfl (fun h28 => ?_) (fun h28 => ?_) | refine V.condB rfl (fun h28 => ?_) (fun h28 => ?_)
        ·
          replace hA := hA.drew
          replace hB := hB.drew
          refine V.seq ?_
          refine V.draw [] mixed ?_
          refine D.take 0 [true, false, false, false, false, false, false, false] (.sq (.bk (.sq (.lp (.bk (.sq .bd)))))) rfl (rd_move rfl) rfl (by kernel_rfl) rfl (LeC.drew _) ?_
          (refine D.take 1 [true, true, false, false, false, false, false, false] (.sq (.bk (.sq (.lp (.bk (.sq .bd)))))) rfl (rd_indexArr (n := 26) (sz := 1) tok rfl rfl rfl rfl rfl rfl rfl rfl ?_) rfl (by kernel_rfl) rfl (LeC.drew _) ?_; omega)
          refine D.take 2 [true, true, true, false, false, false, false, false] (.sq (.bk (.sq (.lp (.bk (.sq .bd)))))) rfl (rd_load1 tok rfl rfl rfl (cell_at hA (iC_get hx) (by simp))) rfl (by kernel_rfl) rfl (LeC.drew _) ?_
          refine D.take 3 [true, true, true, true, false, false, false, false] (.sq (.bk (.sq (.lp (.bk (.sq .bd)))))) rfl (rd_move rfl) rfl (by kernel_rfl) rfl (LeC.drew _) ?_
          (refine D.take 4 [true, true, true, true, true, false, false, false] (.sq (.bk (.sq (.lp (.bk (.sq .bd)))))) rfl (rd_indexArr (n := 26) (sz := 1) tok rfl rfl rfl rfl rfl rfl rfl rfl ?_) rfl (by kernel_rfl) rfl (LeC.drew _) ?_; omega)
          refine D.take 5 [true, true, true, true, true, true, false, false] (.sq (.bk (.sq (.lp (.bk (.sq .bd)))))) rfl (rd_load1 tok rfl rfl rfl (cell_at hB (iC_get hy) (by simp))) rfl (by kernel_rfl) rfl (LeC.drew _) ?_
          refine D.take 6 [true, true, true, true, true, true, true, false] (.sq (.bk (.sq (.lp (.bk (.sq .bd)))))) rfl (rd_gtr rfl rfl) rfl (by kernel_rfl) rfl (LeC.drew _) ?_
          refine D.take 7 [true, true, true, true, true, true, true, true] (.sq (.bk (.sq (.lp (.bk (.sq .bd)))))) rfl (rd_assign rfl) rfl (by kernel_rfl) rfl (LeC.drew _) ?_
          refine D.done (by kernel_rfl) ?_
          refine X.sq ?_
          refine V.ret ?_
          refine X.bkRet ?_
          refine X.sqRet ?_
          refine X.lpRet ?_
          refine X.bkRet ?_
          refine X.sqRet ?_
          refine ret_1 Yaam.results114 rfl ?_
          refine ⟨?_, hE.drew.drew⟩
          unfold before
          rw [if_pos (Decidable.not_not.1 h14), hlx.stop hx hy h28]
        ·
          refine V.skip ?_
          refine X.bk ?_
          refine X.sq ?_
          refine V.region ?_
          refine L.rd (rd_move rfl) rfl ?_
          (refine L.rd (rd_add3 rfl rfl ?_) rfl ?_; omega)
          refine L.rd (rd_assign rfl) rfl ?_
          refine L.nil ?_
          exact X.lp ⟨_, _, by omega, (by repeat' (first | exact trivial | refine ⟨rfl, ?_⟩)), k + 1, rfl, rfl, by omega, hA.drew, hB.drew, hE.drew, hlx.next hx hy (Decidable.not_not.1 h28)⟩
      ·
        refine V.exit ?_
        refine X.sqExit ?_
        refine X.lpExit ?_
        refine X.bkHere ?_
        refine X.sq ?_
        refine V.seq ?_
        refine V.region ?_
        refine L.rd (rd_assign rfl) rfl ?_
        refine L.nil ?_
        refine X.sq ?_
        refine V.ret ?_
        refine ret_1 Yaam.results114 rfl ?_
        refine ⟨?_, hE⟩
        unfold before
        rw [if_pos (Decidable.not_not.1 h14), hlx.done (by rw [ha.len]; omega)]

/-- cmpMono's answer -/
def cmpV (a b : List Int) : Int := if before a b then -1 else if before b a then 1 else 0
theorem before_irrefl : ∀ a : List Int, lexGt a a = false
  | [] => rfl
  | x :: a => by rw [lexGt, if_pos rfl]; exact before_irrefl a
theorem lexGt_asymm : ∀ a b : List Int, lexGt a b = true → lexGt b a = false
  | [], _, h => by simp [lexGt] at h
  | _ :: _, [], h => by simp [lexGt] at h
  | x :: a, y :: b, h => by
    rw [lexGt] at h ⊢
    by_cases e : x = y
    · rw [if_pos e] at h; rw [if_pos e.symm]; exact lexGt_asymm a b h
    · rw [if_neg e] at h; rw [if_neg (fun e' => e e'.symm)]
      simp only [decide_eq_true_eq] at h
      simp only [decide_eq_false_iff_not]; omega
theorem before_asymm {a b : List Int} (h : before a b = true) : before b a = false := by
  unfold before at *
  by_cases e : isum a = isum b
  · rw [if_pos e] at h; rw [if_pos e.symm]; exact lexGt_asymm a b h
  · rw [if_neg e] at h; rw [if_neg (fun e' => e e'.symm)]
    simp only [decide_eq_true_eq] at h
    simp only [decide_eq_false_iff_not]; omega

/-- a monomial's place: its 28 cells, the degree right -/
structure Mn (w : World) (b o : Nat) (c : Int) (v : List Int) : Prop where
  cells : Cells w b o (mC c v (isum v))
  rv : Rv v
theorem Mn.le {w w' : World} {b o : Nat} {c : Int} {v : List Int} (h : Mn w b o c v) (hle : LeC w w') : Mn w' b o c v := ⟨h.cells.le hle, h.rv⟩
theorem cmpMono_ok (b1 o1 b2 o2 : Nat) (c1 c2 : Int) (a b : List Int) (w : World) (ha : Mn w b1 o1 c1 a) (hb : Mn w b2 o2 c2 b) :
    Ret Yaam.prog 110 [.pointer (some ⟨b1, o1, none⟩), .pointer (some ⟨b2, o2, none⟩)] w fun r w' => r = .int .i64 (cmpV a b) ∧ Ext w.heap.size w w' := by
  have d1 := mC_deg (c := c1) (d := isum a) ha.rv.len
  have d2 := mC_deg (c := c2) (d := isum b) hb.rv.len
  refine enter2 Yaam.func110 Yaam.ntmps110 (by kernel_rfl) rfl rfl ?_
  refine V.seq ?_
  refine V.region ?_
  refine L.rd (rd_assign rfl) rfl ?_
  refine L.nil ?_
  refine X.sq ?_
  refine V.seq ?_
  refine V.seq ?_
  refine V.draw [] mixed ?_
  refine D.take 0 [true, false, false, false, false, false, false, false, false] (.sq (.sq .bd)) rfl (rd_move rfl) rfl (by kernel_rfl) rfl (LeC.drew _) ?_
  refine D.take 1 [true, true, false, false, false, false, false, false, false] (.sq (.sq .bd)) rfl (rd_nilCheck rfl) rfl (by kernel_rfl) rfl (LeC.drew _) ?_
  refine D.take 2 [true, true, true, false, false, false, false, false, false] (.sq (.sq .bd)) rfl (rd_fieldAddr tok rfl rfl rfl rfl rfl rfl) rfl (by kernel_rfl) rfl (LeC.drew _) ?_
  refine D.take 3 [true, true, true, true, false, false, false, false, false] (.sq (.sq .bd)) rfl (rd_load1 tok rfl rfl rfl (cells_at ha.cells d1 rfl)) rfl (by kernel_rfl) rfl (LeC.drew _) ?_
  refine D.take 4 [true, true, true, true, true, false, false, false, false] (.sq (.sq .bd)) rfl (rd_move rfl) rfl (by kernel_rfl) rfl (LeC.drew _) ?_
  refine D.take 5 [true, true, true, true, true, true, false, false, false] (.sq (.sq .bd)) rfl (rd_nilCheck rfl) rfl (by kernel_rfl) rfl (LeC.drew _) ?_
  refine D.take 6 [true, true, true, true, true, true, true, false, false] (.sq (.sq .bd)) rfl (rd_fieldAddr tok rfl rfl rfl rfl rfl rfl) rfl (by kernel_rfl) rfl (LeC.drew _) ?_
  refine D.take 7 [true, true, true, true, true, true, true, true, false] (.sq (.sq .bd)) rfl (rd_load1 tok rfl rfl rfl (cells_at hb.cells d2 rfl)) rfl (by kernel_rfl) rfl (LeC.drew _) ?_
  refine D.take 8 [true, true, true, true, true, true, true, true, true] (.sq (.sq .bd)) rfl (rd_gtr rfl rfl) rfl (by kernel_rfl) rfl (LeC.drew _) ?_
  refine D.done (by kernel_rfl) ?_
  refine X.sq ?_
  first | refine V.cond rfl (fun h14 => ?_) (fun h14 => ?_) | refine V.condB rfl (fun h14 => ?_) (fun h14 => ?_)
  ·
    refine V.seq ?_
    refine V.region ?_
    refine L.rd (rd_assign rfl) rfl ?_
    refine L.nil ?_
    refine X.sq ?_
    refine V.ret ?_
    refine X.sqRet ?_
    refine ret_1 Yaam.results110 rfl ?_
    refine ⟨?_, (Ext.refl _ _).drew⟩
    have : before a b = true := by unfold before; rw [if_neg (by omega)]; simpa using h14
    unfold cmpV; rw [this]; rfl
  ·
    refine V.skip ?_
    refine X.sq ?_
    refine V.seq ?_
    refine V.seq ?_
    replace ha := ha.le (LeC.drew w)
    replace hb := hb.le (LeC.drew w)
    refine V.draw [] mixed ?_
    refine D.take 0 [true, false, false, false, false, false, false, false, false] (.sq (.sq .bd)) rfl (rd_move rfl) rfl (by kernel_rfl) rfl (LeC.drew _) ?_
    refine D.take 1 [true, true, false, false, false, false, false, false, false] (.sq (.sq .bd)) rfl (rd_nilCheck rfl) rfl (by kernel_rfl) rfl (LeC.drew _) ?_
    refine D.take 2 [true, true, true, false, false, false, false, false, false] (.sq (.sq .bd)) rfl (rd_fieldAddr tok rfl rfl rfl rfl rfl rfl) rfl (by kernel_rfl) rfl (LeC.drew _) ?_
    refine D.take 3 [true, true, true, true, false, false, false, false, false] (.sq (.sq .bd)) rfl (rd_load1 tok rfl rfl rfl (cells_at ha.cells d1 rfl)) rfl (by kernel_rfl) rfl (LeC.drew _) ?_
    refine D.take 4 [true, true, true, true, true, false, false, false, false] (.sq (.sq .bd)) rfl (rd_move rfl) rfl (by kernel_rfl) rfl (LeC.drew _) ?_
    refine D.take 5 [true, true, true, true, true, true, false, false, false] (.sq (.sq .bd)) rfl (rd_nilCheck rfl) rfl (by kernel_rfl) rfl (LeC.drew _) ?_
    refine D.take 6 [true, true, true, true, true, true, true, false, false] (.sq (.sq .bd)) rfl (rd_fieldAddr tok rfl rfl rfl rfl rfl rfl) rfl (by kernel_rfl) rfl (LeC.drew _) ?_
    refine D.take 7 [true, true, true, true, true, true, true, true, false] (.sq (.sq .bd)) rfl (rd_load1 tok rfl rfl rfl (cells_at hb.cells d2 rfl)) rfl (by kernel_rfl) rfl (LeC.drew _) ?_
    refine D.take 8 [true, true, true, true, true, true, true, true, true] (.sq (.sq .bd)) rfl (rd_lss rfl rfl) rfl (by kernel_rfl) rfl (LeC.drew _) ?_
    refine D.done (by kernel_rfl) ?_
    refine X.sq ?_
    first | refine V.cond rfl (fun h23 => ?_) (fun h23 => ?_) | refine V.condB rfl (fun h23 => ?_) (fun h23 => ?_)
    ·
      refine V.seq ?_
      refine V.region ?_
      refine L.rd (rd_assign rfl) rfl ?_
      refine L.nil ?_
      refine X.sq ?_
      refine V.ret ?_
      refine X.sqRet ?_
      refine ret_1 Yaam.results110 rfl ?_
      refine ⟨?_, (Ext.refl _ _).drew.drew⟩
      have : before b a = true := by unfold before; rw [if_neg (by omega)]; simpa using h23
      unfold cmpV; rw [this, before_asymm this]; rfl
    ·
      refine V.skip ?_
      refine X.sq ?_
      refine V.seq ?_
      refine V.seq ?_
      refine V.region ?_
      refine L.rd (rd_assign rfl) rfl ?_
      refine L.nil ?_
      refine X.sq ?_
      refine V.block ?_
      refine V.loop (fun m l wr => ∃ (k : Nat), l = [(0, .pointer (some ⟨b1, o1, none⟩)), (1, .pointer (some ⟨b2, o2, none⟩)), (5, .int .i64 k)] ∧ m = 26 - k ∧ k ≤ 26 ∧ Ext w.heap.size w wr ∧ Mn wr b1 o1 c1 a ∧ Mn wr b2 o2 c2 b ∧ Lx_ a b k ∧ Lx_ b a k) ?_ ?_
      ·
        exact ⟨_, _, (by repeat' (first | exact trivial | refine ⟨rfl, ?_⟩)), 0, rfl, rfl, by omega, (Ext.refl _ _).drew.drew, ha.le (LeC.drew _), hb.le (LeC.drew _), Lx_.start _ _, Lx_.start _ _⟩
      ·
        have hss : isum a = isum b := by omega
        clear ha hb
        rintro m l wr ⟨k, rfl, rfl, hk, hE, ha, hb, hl1, hl2⟩
        refine V.seq ?_
        refine V.seq ?_
        refine V.region ?_
        refine L.rd (rd_move rfl) rfl ?_
        refine L.rd (rd_lss rfl rfl) rfl ?_
        refine L.nil ?_
        refine X.sq ?_
        first | refine V.cond rfl (fun h25 => ?_) (fun h25 => ?_) | refine V.condB rfl (fun h25 => ?_) (fun h25 => ?_)
        ·
          obtain ⟨x, hx, hx0, hx1⟩ := ha.rv.nth (k := k) (by omega)
          obtain ⟨y, hy, hy0, hy1⟩ := hb.rv.nth (k := k) (by omega)
          refine V.skip ?_
          refine X.sq ?_
          refine V.seq ?_
          refine V.block ?_
          refine V.seq ?_
          refine V.seq ?_
          refine V.draw [] mixed ?_
          refine D.take 0 [true, false, false, false, false, false, false, false, false, false, false, false, false] (.sq (.sq (.bk (.sq (.lp (.bk (.sq .bd))))))) rfl (rd_move rfl) rfl (by kernel_rfl) rfl (LeC.drew _) ?_
          refine D.take 1 [true, true, false, false, false, false, false, false, false, false, false, false, false] (.sq (.sq (.bk (.sq (.lp (.bk (.sq .bd))))))) rfl (rd_move rfl) rfl (by kernel_rfl) rfl (LeC.drew _) ?_
          refine D.take 2 [true, true, true, false, false, false, false, false, false, false, false, false, false] (.sq (.sq (.bk (.sq (.lp (.bk (.sq .bd))))))) rfl (rd_nilCheck rfl) rfl (by kernel_rfl) rfl (LeC.drew _) ?_
          refine D.take 3 [true, true, true, true, false, false, false, false, false, false, false, false, false] (.sq (.sq (.bk (.sq (.lp (.bk (.sq .bd))))))) rfl (rd_fieldAddr tok rfl rfl rfl rfl rfl rfl) rfl (by kernel_rfl) rfl (LeC.drew _) ?_
          (refine D.take 4 [true, true, true, true, true, false, false, false, false, false, false, false, false] (.sq (.sq (.bk (.sq (.lp (.bk (.sq .bd))))))) rfl (rd_indexArr (n := 26) (sz := 1) tok rfl rfl rfl rfl rfl rfl rfl rfl ?_) rfl (by kernel_rfl) rfl (LeC.drew _) ?_; omega)
          refine D.take 5 [true, true, true, true, true, true, false, false, false, false, false, false, false] (.sq (.sq (.bk (.sq (.lp (.bk (.sq .bd))))))) rfl (rd_load1 tok rfl rfl rfl (cells_at ha.cells (mC_get hx) (by simp; omega))) rfl (by kernel_rfl) rfl (LeC.drew _) ?_
          refine D.take 6 [true, true, true, true, true, true, true, false, false, false, false, false, false] (.sq (.sq (.bk (.sq (.lp (.bk (.sq .bd))))))) rfl (rd_move rfl) rfl (by kernel_rfl) rfl (LeC.drew _) ?_
          refine D.take 7 [true, true, true, true, true, true, true, true, false, false, false, false, false] (.sq (.sq (.bk (.sq (.lp (.bk (.sq .bd))))))) rfl (rd_move rfl) rfl (by kernel_rfl) rfl (LeC.drew _) ?_
          refine D.take 8 [true, true, true, true, true, true, true, true, true, false, false, false, false] (.sq (.sq (.bk (.sq (.lp (.bk (.sq .bd))))))) rfl (rd_nilCheck rfl) rfl (by kernel_rfl) rfl (LeC.drew _) ?_
          refine D.take 9 [true, true, true, true, true, true, true, true, true, true, false, false, false] (.sq (.sq (.bk (.sq (.lp (.bk (.sq .bd))))))) rfl (rd_fieldAddr tok rfl rfl rfl rfl rfl rfl) rfl (by kernel_rfl) rfl (LeC.drew _) ?_
          (refine D.take 10 [true, true, true, true, true, true, true, true, true, true, true, false, false] (.sq (.sq (.bk (.sq (.lp (.bk (.sq .bd))))))) rfl (rd_indexArr (n := 26) (sz := 1) tok rfl rfl rfl rfl rfl rfl rfl rfl ?_) rfl (by kernel_rfl) rfl (LeC.drew _) ?_; omega)
          refine D.take 11 [true, true, true, true, true, true, true, true, true, true, true, true, false] (.sq (.sq (.bk (.sq (.lp (.bk (.sq .bd))))))) rfl (rd_load1 tok rfl rfl rfl (cells_at hb.cells (mC_get hy) (by simp; omega))) rfl (by kernel_rfl) rfl (LeC.drew _) ?_
          refine D.take 12 [true, true, true, true, true, true, true, true, true, true, true, true, true] (.sq (.sq (.bk (.sq (.lp (.bk (.sq .bd))))))) rfl (rd_gtr rfl rfl) rfl (by kernel_rfl) rfl (LeC.drew _) ?_
          refine D.done (by kernel_rfl) ?_
          refine X.sq ?_
          first | refine V.cond rfl (fun h40 => ?_) (fun h40 => ?_) | refine V.condB rfl (fun h40 => ?_) (fun h40 => ?_)
          ·
            refine V.seq ?_
            refine V.region ?_
            refine L.rd (rd_assign rfl) rfl ?_
            refine L.nil ?_
            refine X.sq ?_
            refine V.ret ?_
            refine X.sqRet ?_
            refine X.bkRet ?_
            refine X.sqRet ?_
            refine X.lpRet ?_
            refine X.bkRet ?_
            refine X.sqRet ?_
            refine ret_1 Yaam.results110 rfl ?_
            refine ⟨?_, hE.drew⟩
            have : before a b = true := by unfold before; rw [if_pos hss, hl1.stop hx hy (by omega)]; simpa using h40
            unfold cmpV; rw [this]; rfl
          ·
            refine V.skip ?_
            refine X.sq ?_
            refine V.seq ?_
            replace ha := ha.le (LeC.drew wr)
            replace hb := hb.le (LeC.drew wr)
            refine V.draw [] mixed ?_
            refine D.take 0 [true, false, false, false, false, false, false, false, false, false, false, false, false] (.sq (.bk (.sq (.lp (.bk (.sq .bd)))))) rfl (rd_move rfl) rfl (by kernel_rfl) rfl (LeC.drew _) ?_
            refine D.take 1 [true, true, false, false, false, false, false, false, false, false, false, false, false] (.sq (.bk (.sq (.lp (.bk (.sq .bd)))))) rfl (rd_move rfl) rfl (by kernel_rfl) rfl (LeC.drew _) ?_
            refine D.take 2 [true, true, true, false, false, false, false, false, false, false, false, false, false] (.sq (.bk (.sq (.lp (.bk (.sq .bd)))))) rfl (rd_nilCheck rfl) rfl (by kernel_rfl) rfl (LeC.drew _) ?_
            refine D.take 3 [true, true, true, true, false, false, false, false, false, false, false, false, false] (.sq (.bk (.sq (.lp (.bk (.sq .bd)))))) rfl (rd_fieldAddr tok rfl rfl rfl rfl rfl rfl) rfl (by kernel_rfl) rfl (LeC.drew _) ?_
            (refine D.take 4 [true, true, true, true, true, false, false, false, false, false, false, false, false] (.sq (.bk (.sq (.lp (.bk (.sq .bd)))))) rfl (rd_indexArr (n := 26) (sz := 1) tok rfl rfl rfl rfl rfl rfl rfl rfl ?_) rfl (by kernel_rfl) rfl (LeC.drew _) ?_; omega)
            refine D.take 5 [true, true, true, true, true, true, false, false, false, false, false, false, false] (.sq (.bk (.sq (.lp (.bk (.sq .bd)))))) rfl (rd_load1 tok rfl rfl rfl (cells_at ha.cells (mC_get hx) (by simp; omega))) rfl (by kernel_rfl) rfl (LeC.drew _) ?_
            refine D.take 6 [true, true, true, true, true, true, true, false, false, false, false, false, false] (.sq (.bk (.sq (.lp (.bk (.sq .bd)))))) rfl (rd_move rfl) rfl (by kernel_rfl) rfl (LeC.drew _) ?_
            refine D.take 7 [true, true, true, true, true, true, true, true, false, false, false, false, false] (.sq (.bk (.sq (.lp (.bk (.sq .bd)))))) rfl (rd_move rfl) rfl (by kernel_rfl) rfl (LeC.drew _) ?_
            refine D.take 8 [true, true, true, true, true, true, true, true, true, false, false, false, false] (.sq (.bk (.sq (.lp (.bk (.sq .bd)))))) rfl (rd_nilCheck rfl) rfl (by kernel_rfl) rfl (LeC.drew _) ?_
            refine D.take 9 [true, true, true, true, true, true, true, true, true, true, false, false, false] (.sq (.bk (.sq (.lp (.bk (.sq .bd)))))) rfl (rd_fieldAddr tok rfl rfl rfl rfl rfl rfl) rfl (by kernel_rfl) rfl (LeC.drew _) ?_
            (refine D.take 10 [true, true, true, true, true, true, true, true, true, true, true, false, false] (.sq (.bk (.sq (.lp (.bk (.sq .bd)))))) rfl (rd_indexArr (n := 26) (sz := 1) tok rfl rfl rfl rfl rfl rfl rfl rfl ?_) rfl (by kernel_rfl) rfl (LeC.drew _) ?_; omega)
            refine D.take 11 [true, true, true, true, true, true, true, true, true, true, true, true, false] (.sq (.bk (.sq (.lp (.bk (.sq .bd)))))) rfl (rd_load1 tok rfl rfl rfl (cells_at hb.cells (mC_get hy) (by simp; omega))) rfl (by kernel_rfl) rfl (LeC.drew _) ?_
            refine D.take 12 [true, true, true, true, true, true, true, true, true, true, true, true, true] (.sq (.bk (.sq (.lp (.bk (.sq .bd)))))) rfl (rd_lss rfl rfl) rfl (by kernel_rfl) rfl (LeC.drew _) ?_
            refine D.done (by kernel_rfl) ?_
            refine X.sq ?_
            first | refine V.cond rfl (fun h53 => ?_) (fun h53 => ?_) | refine V.condB rfl (fun h53 => ?_) (fun h53 => ?_)
            ·
              refine V.seq ?_
              refine V.region ?_
              refine L.rd (rd_assign rfl) rfl ?_
              refine L.nil ?_
              refine X.sq ?_
              refine V.ret ?_
              refine X.bkRet ?_
              refine X.sqRet ?_
              refine X.lpRet ?_
              refine X.bkRet ?_
              refine X.sqRet ?_
              refine ret_1 Yaam.results110 rfl ?_
              refine ⟨?_, hE.drew.drew⟩
              have : before b a = true := by unfold before; rw [if_pos hss.symm, hl2.stop hy hx (by omega)]; simpa using h53
              unfold cmpV; rw [this, before_asymm this]; rfl
            ·
              refine V.skip ?_
              refine X.bk ?_
              refine X.sq ?_
              refine V.region ?_
              refine L.rd (rd_move rfl) rfl ?_
              (refine L.rd (rd_add3 rfl rfl ?_) rfl ?_; omega)
              refine L.rd (rd_assign rfl) rfl ?_
              refine L.nil ?_
              exact X.lp ⟨_, _, by omega, (by repeat' (first | exact trivial | refine ⟨rfl, ?_⟩)), k + 1, rfl, rfl, by omega, hE.drew.drew, ha.le (LeC.drew _), hb.le (LeC.drew _), hl1.next hx hy (by omega), hl2.next hy hx (by omega)⟩
        ·
          refine V.exit ?_
          refine X.sqExit ?_
          refine X.lpExit ?_
          refine X.bkHere ?_
          refine X.sq ?_
          refine V.seq ?_
          refine V.region ?_
          refine L.rd (rd_assign rfl) rfl ?_
          refine L.nil ?_
          refine X.sq ?_
          refine V.ret ?_
          refine ret_1 Yaam.results110 rfl ?_
          refine ⟨?_, hE⟩
          have e1 : before a b = false := by unfold before; rw [if_pos hss, hl1.done (by rw [ha.rv.len]; omega)]
          have e2 : before b a = false := by unfold before; rw [if_pos hss.symm, hl2.done (by rw [hb.rv.len]; omega)]
          unfold cmpV; rw [e1, e2]; rfl
end Go.Proofs.YbxaawGreat
