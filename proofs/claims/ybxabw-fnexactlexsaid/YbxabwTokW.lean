/-
  What the laws do with token slices.
-/
import Derived.Test.YbxabwLexW
import Derived.Test.YbxabwEnc
set_option linter.unusedVariables false
set_option linter.unusedSimpArgs false
set_option maxRecDepth 10000
namespace Go.Proofs.Ybxabw
open Go.Mw Lexp

def tokE (t : Int × Int) : List Value := [.int .i64 t.1, .int .i64 t.2]
theorem tokE_len (t : Int × Int) : (tokE t).length = 2 := rfl
theorem tokC_fm (a : List (Int × Int)) : tokC a = a.flatMap tokE := rfl
theorem tok_len (a : List (Int × Int)) : (tokC a).length = a.length * 2 := fm_length tokE_len a
theorem tok_get (a : List (Int × Int)) (k : Nat) (t : Int × Int) (h : a[k]? = some t) : ∀ j v, ([Value.int .i64 t.1, .int .i64 t.2])[j]? = some v → (tokC a)[k * 2 + j]? = some v := fm_get tokE_len a k t h
theorem get_of_lt {α : Type} (a : List α) (k : Nat) (h : k < a.length) : ∃ x, a[k]? = some x := ⟨a[k], by simp [h]⟩
theorem take_set_next {α : Type} (a c : List α) (k : Nat) (x : α) (hc : c.length = a.length) (hx : a[k]? = some x) (h : c.take k = a.take k) : (c.set k x).take (k + 1) = a.take (k + 1) := by
  have hlt := (List.getElem?_eq_some_iff.1 hx).1
  have e : a[k] = x := by simpa [hlt] using hx
  rw [List.take_succ_eq_append_getElem (by simp; omega), List.take_succ_eq_append_getElem hlt, List.take_set, List.set_eq_of_length_le (by simp; omega), h, e]
  simp

theorem take_next {α : Type} {a b : List α} {k : Nat} {x : α} (h : a.take k = b.take k) (ha : a[k]? = some x) (hb : b[k]? = some x) : a.take (k + 1) = b.take (k + 1) := by
  obtain ⟨l1, e1⟩ := List.getElem?_eq_some_iff.1 ha
  obtain ⟨l2, e2⟩ := List.getElem?_eq_some_iff.1 hb
  rw [List.take_succ_eq_append_getElem l1, List.take_succ_eq_append_getElem l2, h, e1, e2]

theorem tokOut_ok (va : Value) (a : List (Int × Int)) (w : World) (ha : Rs w 2 va a.length (tokC a)) (hla : a.length ≤ 4294967296) :
    Ret Yabm.prog 16 [va] w fun v w' => w'.ownsRow w.heap.size 97 2 v a.length (tokC a) ∧ Ext w.heap.size w w' := by
  obtain ⟨aa, ca, hva, hfa⟩ := ha.form
  subst hva
  refine enter1 Yabm.func16 Yabm.ntmps16 (by kernel_rfl) rfl rfl ?_
  refine V.seq ?_
  refine V.region ?_
  refine L.rd (rd_assign rfl) rfl ?_
  refine L.nil ?_
  refine X.sq ?_
  refine V.seq ?_
  refine V.region ?_
  refine L.rd (rd_move rfl) rfl ?_
  refine L.rd (rd_lenSlice tok rfl rfl rfl) rfl ?_
  refine L.ef (e_make (e := 97) (zs := [_, _]) tok rfl rfl rfl rfl rfl rfl rfl rfl (by first | (simp only [size_addB, size_setB, size_drew]; rfl) | rfl) rfl (by omega) (by simp only []; omega) (by omega) ?_)
  refine L.rd (rd_assign rfl) rfl ?_
  refine L.nil ?_
  refine X.sq ?_
  refine V.seq ?_
  refine V.seq ?_
  refine V.region ?_
  refine L.rd (rd_assign rfl) rfl ?_
  refine L.nil ?_
  refine X.sq ?_
  refine V.block ?_
  refine V.loop (fun m l wr => ∃ (k : Nat) (c : List (Int × Int)), l = [(0, .slice aa a.length ca), (3, .slice (some ⟨w.heap.size, 0, none⟩) a.length a.length), (4, .int .i64 k)] ∧ m = a.length - k ∧ k ≤ a.length ∧ Ext w.heap.size w wr ∧ Bl wr w.heap.size 97 (tokC c) ∧ c.length = a.length ∧ c.take k = a.take k) ?_ ?_
  ·
    exact ⟨_, _, (by repeat' (first | exact trivial | refine ⟨rfl, ?_⟩)), 0, List.replicate a.length (0, 0), rfl, rfl, by omega, (Ext.refl _ _).add (Nat.le_refl _) _ _, by have := Bl.new w 97 ((List.replicate a.length (tokE (0, 0))).flatten); rw [tokC_fm, ← fm_replicate tokE_len]; exact this, by simp, by simp⟩
  ·
    rintro m l wr ⟨k, c, rfl, rfl, hk, he, hbl, hcl, htk⟩
    refine V.seq ?_
    refine V.seq ?_
    refine V.region ?_
    refine L.rd (rd_move rfl) rfl ?_
    refine L.rd (rd_move rfl) rfl ?_
    refine L.rd (rd_lenSlice tok rfl rfl rfl) rfl ?_
    refine L.rd (rd_lss rfl rfl) rfl ?_
    refine L.nil ?_
    refine X.sq ?_
    first | refine V.cond rfl (fun h11 => ?_) (fun h11 => ?_) | refine V.condB rfl (fun h11 => ?_) (fun h11 => ?_)
    ·
      obtain ⟨b1, o1, rfl, hc1⟩ := hfa.resolve_left (by omega)
      obtain ⟨x, hx⟩ := get_of_lt a k (by omega)
      have hcx := (hc1.le he.leC).sub (k * 2) _ (tok_get a k x hx)
      have hcl2 := tok_len c
      refine V.skip ?_
      refine X.sq ?_
      refine V.seq ?_
      refine V.block ?_
      refine V.draw [14] mixed ?_
      refine D.take 0 [true, false, false, false, false, false, false, false, false, false, false, false, false, false, false] (.bk (.sq (.lp (.bk (.sq .bd))))) rfl (rd_move rfl) rfl (by kernel_rfl) rfl (LeC.drew _) ?_
      refine D.take 1 [true, true, false, false, false, false, false, false, false, false, false, false, false, false, false] (.bk (.sq (.lp (.bk (.sq .bd))))) rfl (rd_move rfl) rfl (by kernel_rfl) rfl (LeC.drew _) ?_
      refine D.take 2 [true, true, true, false, false, false, false, false, false, false, false, false, false, false, false] (.bk (.sq (.lp (.bk (.sq .bd))))) rfl (rd_move rfl) rfl (by kernel_rfl) rfl (LeC.drew _) ?_
      refine D.take 3 [true, true, true, true, false, false, false, false, false, false, false, false, false, false, false] (.bk (.sq (.lp (.bk (.sq .bd))))) rfl (rd_move rfl) rfl (by kernel_rfl) rfl (LeC.drew _) ?_
      (refine D.take 4 [true, true, true, true, true, false, false, false, false, false, false, false, false, false, false] (.bk (.sq (.lp (.bk (.sq .bd))))) rfl (rd_indexSlice (sz := 2) tok rfl rfl rfl rfl rfl rfl rfl ?_) rfl (by kernel_rfl) rfl (LeC.drew _) ?_; omega)
      refine D.take 5 [true, true, true, true, true, true, false, false, false, false, false, false, false, false, false] (.bk (.sq (.lp (.bk (.sq .bd))))) rfl (rd_fieldAddr tok rfl rfl rfl rfl rfl rfl) rfl (by kernel_rfl) rfl (LeC.drew _) ?_
      refine D.take 6 [true, true, true, true, true, true, true, false, false, false, false, false, false, false, false] (.bk (.sq (.lp (.bk (.sq .bd))))) rfl (rd_load1 tok rfl rfl rfl (hcx.at_ 0 _ rfl)) rfl (by kernel_rfl) rfl (LeC.drew _) ?_
      refine D.take 7 [true, true, true, true, true, true, true, true, false, false, false, false, false, false, false] (.bk (.sq (.lp (.bk (.sq .bd))))) rfl (rd_move rfl) rfl (by kernel_rfl) rfl (LeC.drew _) ?_
      refine D.take 8 [true, true, true, true, true, true, true, true, true, false, false, false, false, false, false] (.bk (.sq (.lp (.bk (.sq .bd))))) rfl (rd_move rfl) rfl (by kernel_rfl) rfl (LeC.drew _) ?_
      (refine D.take 9 [true, true, true, true, true, true, true, true, true, true, false, false, false, false, false] (.bk (.sq (.lp (.bk (.sq .bd))))) rfl (rd_indexSlice (sz := 2) tok rfl rfl rfl rfl rfl rfl rfl ?_) rfl (by kernel_rfl) rfl (LeC.drew _) ?_; omega)
      refine D.take 10 [true, true, true, true, true, true, true, true, true, true, true, false, false, false, false] (.bk (.sq (.lp (.bk (.sq .bd))))) rfl (rd_fieldAddr tok rfl rfl rfl rfl rfl rfl) rfl (by kernel_rfl) rfl (LeC.drew _) ?_
      refine D.take 11 [true, true, true, true, true, true, true, true, true, true, true, true, false, false, false] (.bk (.sq (.lp (.bk (.sq .bd))))) rfl (rd_load1 tok rfl rfl rfl (hcx.at_ 1 _ rfl)) rfl (by kernel_rfl) rfl (LeC.drew _) ?_
      refine D.take 12 [true, true, true, true, true, true, true, true, true, true, true, true, true, false, false] (.bk (.sq (.lp (.bk (.sq .bd))))) rfl (rd_build (out := [_, _]) tok rfl rfl rfl rfl rfl) rfl (by kernel_rfl) rfl (LeC.drew _) ?_
      (refine D.take 13 [true, true, true, true, true, true, true, true, true, true, true, true, true, true, false] (.bk (.sq (.lp (.bk (.sq .bd))))) rfl (rd_indexSlice (sz := 2) tok rfl rfl rfl rfl rfl rfl rfl ?_) rfl (by kernel_rfl) rfl (LeC.drew _) ?_; omega)
      refine D.one 14 [true, true, true, true, true, true, true, true, true, true, true, true, true, true, true] rfl (by kernel_rfl) rfl (e_store (vs := [_, _]) tok rfl rfl rfl rfl hbl.drew rfl (by simp [Value.oneCell']) (by simp; omega) ⟨fun h => (by cases h), ?_⟩)
      refine D.done (by kernel_rfl) ?_
      refine X.bk ?_
      refine X.sq ?_
      refine V.region ?_
      refine L.rd (rd_move rfl) rfl ?_
      (refine L.rd (rd_add3 rfl rfl ?_) rfl ?_; omega)
      refine L.rd (rd_assign rfl) rfl ?_
      refine L.nil ?_
      refine X.lp ⟨_, _, by omega, (by repeat' (first | exact trivial | refine ⟨rfl, ?_⟩)), k + 1, c.set k x, rfl, rfl, by omega, he.drew.set (Nat.le_refl _) _ _, ?_, by simp [hcl], take_set_next a c k x hcl hx htk⟩
      have h1 := fm_put tokE_len [] c k x (by omega)
      rw [List.append_nil, List.append_nil] at h1
      have h2 := Bl.set hbl.drew 97 ((c.set k x).flatMap tokE)
      rw [← h1] at h2
      simp only [Nat.zero_add, Int.toNat_natCast]
      show Bl _ _ _ ((c.set k x).flatMap tokE)
      rw [← h1]
      exact h2
    ·
      refine V.exit ?_
      refine X.sqExit ?_
      refine X.lpExit ?_
      refine X.bkHere ?_
      refine X.sq ?_
      refine V.seq ?_
      refine V.region ?_
      refine L.rd (rd_move rfl) rfl ?_
      refine L.rd (rd_assign rfl) rfl ?_
      refine L.nil ?_
      refine X.sq ?_
      refine V.ret ?_
      refine ret_1 Yabm.results16 rfl ?_
      have hka : k = a.length := by omega
      subst hka
      rw [List.take_of_length_le (by omega), List.take_of_length_le (by omega)] at htk
      subst htk
      exact ⟨own_of_bl hbl (tok_len _) (Nat.le_refl _) (by unfold maxLen; omega), he⟩

theorem eqTokL_ok (va vb : Value) (a b : List (Int × Int)) (w : World) (ha : Rs w 2 va a.length (tokC a)) (hb : Rs w 2 vb b.length (tokC b)) (hla : a.length ≤ 4294967296) :
    Ret Yabm.prog 18 [va, vb] w fun v w' => v = .bool (decide (a = b)) ∧ Ext w.heap.size w w' := by
  obtain ⟨aa, ca, hva, hfa⟩ := ha.form
  obtain ⟨ab, cb, hvb, hfb⟩ := hb.form
  subst hva hvb
  refine enter2 Yabm.func18 Yabm.ntmps18 (by kernel_rfl) rfl rfl ?_
  refine V.seq ?_
  refine V.region ?_
  refine L.rd (rd_assign rfl) rfl ?_
  refine L.nil ?_
  refine X.sq ?_
  refine V.seq ?_
  refine V.seq ?_
  refine V.region ?_
  refine L.rd (rd_move rfl) rfl ?_
  refine L.rd (rd_lenSlice tok rfl rfl rfl) rfl ?_
  refine L.rd (rd_move rfl) rfl ?_
  refine L.rd (rd_lenSlice tok rfl rfl rfl) rfl ?_
  refine L.rd (rd_neq rfl rfl) rfl ?_
  refine L.nil ?_
  refine X.sq ?_
  first | refine V.cond rfl (fun h10 => ?_) (fun h10 => ?_) | refine V.condB rfl (fun h10 => ?_) (fun h10 => ?_)
  ·
    refine V.seq ?_
    refine V.region ?_
    refine L.rd (rd_assign rfl) rfl ?_
    refine L.nil ?_
    refine X.sq ?_
    refine V.ret ?_
    refine X.sqRet ?_
    refine ret_1 Yabm.results18 rfl ?_
    refine ⟨congrArg Value.bool (Eq.symm (decide_eq_false ?_)), Ext.refl _ _⟩
    rintro rfl; exact h10 rfl
  ·
    have hll : a.length = b.length := by omega
    refine V.skip ?_
    refine X.sq ?_
    refine V.seq ?_
    refine V.seq ?_
    refine V.region ?_
    refine L.rd (rd_assign rfl) rfl ?_
    refine L.nil ?_
    refine X.sq ?_
    refine V.block ?_
    refine V.loop (fun m l wr => ∃ k : Nat, l = [(0, .slice aa a.length ca), (1, .slice ab b.length cb), (5, .int .i64 k)] ∧ m = a.length - k ∧ k ≤ a.length ∧ Ext w.heap.size w wr ∧ a.take k = b.take k) ?_ ?_
    ·
      exact ⟨_, _, (by repeat' (first | exact trivial | refine ⟨rfl, ?_⟩)), 0, rfl, rfl, by omega, Ext.refl _ _, by simp⟩
    ·
      rintro m l wr ⟨k, rfl, rfl, hk, he, htk⟩
      refine V.seq ?_
      refine V.seq ?_
      refine V.region ?_
      refine L.rd (rd_move rfl) rfl ?_
      refine L.rd (rd_move rfl) rfl ?_
      refine L.rd (rd_lenSlice tok rfl rfl rfl) rfl ?_
      refine L.rd (rd_lss rfl rfl) rfl ?_
      refine L.nil ?_
      refine X.sq ?_
      first | refine V.cond rfl (fun h14 => ?_) (fun h14 => ?_) | refine V.condB rfl (fun h14 => ?_) (fun h14 => ?_)
      ·
        obtain ⟨b1, o1, rfl, hc1⟩ := hfa.resolve_left (by omega)
        obtain ⟨b2, o2, rfl, hc2⟩ := hfb.resolve_left (by omega)
        obtain ⟨x, hx⟩ := get_of_lt a k (by omega)
        obtain ⟨y, hy⟩ := get_of_lt b k (by omega)
        have hcx := (hc1.le he.leC).sub (k * 2) _ (tok_get a k x hx)
        have hcy := (hc2.le he.leC).sub (k * 2) _ (tok_get b k y hy)
        refine V.skip ?_
        refine X.sq ?_
        refine V.seq ?_
        refine V.block ?_
        refine V.seq ?_
        refine V.draw [] mixed ?_
        refine D.take 0 [true, false, false, false, false, false, false, false, false, false, false, false, false, false, false, false, false, false, false, false, false, false, false, false] (.sq (.bk (.sq (.lp (.bk (.sq .bd)))))) rfl (rd_move rfl) rfl (by kernel_rfl) rfl (LeC.drew _) ?_
        refine D.take 1 [true, true, false, false, false, false, false, false, false, false, false, false, false, false, false, false, false, false, false, false, false, false, false, false] (.sq (.bk (.sq (.lp (.bk (.sq .bd)))))) rfl (rd_move rfl) rfl (by kernel_rfl) rfl (LeC.drew _) ?_
        (refine D.take 2 [true, true, true, false, false, false, false, false, false, false, false, false, false, false, false, false, false, false, false, false, false, false, false, false] (.sq (.bk (.sq (.lp (.bk (.sq .bd)))))) rfl (rd_indexSlice (sz := 2) tok rfl rfl rfl rfl rfl rfl rfl ?_) rfl (by kernel_rfl) rfl (LeC.drew _) ?_; omega)
        refine D.take 3 [true, true, true, true, false, false, false, false, false, false, false, false, false, false, false, false, false, false, false, false, false, false, false, false] (.sq (.bk (.sq (.lp (.bk (.sq .bd)))))) rfl (rd_fieldAddr tok rfl rfl rfl rfl rfl rfl) rfl (by kernel_rfl) rfl (LeC.drew _) ?_
        refine D.take 4 [true, true, true, true, true, false, false, false, false, false, false, false, false, false, false, false, false, false, false, false, false, false, false, false] (.sq (.bk (.sq (.lp (.bk (.sq .bd)))))) rfl (rd_load1 tok rfl rfl rfl (hcx.at_ 0 _ rfl)) rfl (by kernel_rfl) rfl (LeC.drew _) ?_
        refine D.take 5 [true, true, true, true, true, true, false, false, false, false, false, false, false, false, false, false, false, false, false, false, false, false, false, false] (.sq (.bk (.sq (.lp (.bk (.sq .bd)))))) rfl (rd_move rfl) rfl (by kernel_rfl) rfl (LeC.drew _) ?_
        refine D.take 6 [true, true, true, true, true, true, true, false, false, false, false, false, false, false, false, false, false, false, false, false, false, false, false, false] (.sq (.bk (.sq (.lp (.bk (.sq .bd)))))) rfl (rd_move rfl) rfl (by kernel_rfl) rfl (LeC.drew _) ?_
        (refine D.take 7 [true, true, true, true, true, true, true, true, false, false, false, false, false, false, false, false, false, false, false, false, false, false, false, false] (.sq (.bk (.sq (.lp (.bk (.sq .bd)))))) rfl (rd_indexSlice (sz := 2) tok rfl rfl rfl rfl rfl rfl rfl ?_) rfl (by kernel_rfl) rfl (LeC.drew _) ?_; omega)
        refine D.take 8 [true, true, true, true, true, true, true, true, true, false, false, false, false, false, false, false, false, false, false, false, false, false, false, false] (.sq (.bk (.sq (.lp (.bk (.sq .bd)))))) rfl (rd_fieldAddr tok rfl rfl rfl rfl rfl rfl) rfl (by kernel_rfl) rfl (LeC.drew _) ?_
        refine D.take 9 [true, true, true, true, true, true, true, true, true, true, false, false, false, false, false, false, false, false, false, false, false, false, false, false] (.sq (.bk (.sq (.lp (.bk (.sq .bd)))))) rfl (rd_load1 tok rfl rfl rfl (hcy.at_ 0 _ rfl)) rfl (by kernel_rfl) rfl (LeC.drew _) ?_
        refine D.take 10 [true, true, true, true, true, true, true, true, true, true, true, false, false, false, false, false, false, false, false, false, false, false, false, false] (.sq (.bk (.sq (.lp (.bk (.sq .bd)))))) rfl (rd_neq rfl rfl) rfl (by kernel_rfl) rfl (LeC.drew _) ?_
        refine D.take 11 [true, true, true, true, true, true, true, true, true, true, true, true, false, false, false, false, false, false, false, false, false, false, false, false] (.sq (.bk (.sq (.lp (.bk (.sq .bd)))))) rfl (rd_move rfl) rfl (by kernel_rfl) rfl (LeC.drew _) ?_
        first | refine D.part 28 rfl (fun g28 => ?_) (fun g28 => ?_) | refine D.partB 28 rfl (fun g28 => ?_) (fun g28 => ?_)
        ·
          refine D.takeNo 12 [true, true, true, true, true, true, true, true, true, true, true, true, true, false, false, false, false, false, false, false, false, false, false, false] (.sq (.bk (.sq (.lp (.bk (.sq .bd)))))) rfl rfl rfl rfl rfl (by kernel_rfl) rfl (LeC.drew _) ?_
          refine D.takeNo 13 [true, true, true, true, true, true, true, true, true, true, true, true, true, true, false, false, false, false, false, false, false, false, false, false] (.sq (.bk (.sq (.lp (.bk (.sq .bd)))))) rfl rfl rfl rfl rfl (by kernel_rfl) rfl (LeC.drew _) ?_
          refine D.takeNo 14 [true, true, true, true, true, true, true, true, true, true, true, true, true, true, true, false, false, false, false, false, false, false, false, false] (.sq (.bk (.sq (.lp (.bk (.sq .bd)))))) rfl rfl rfl rfl rfl (by kernel_rfl) rfl (LeC.drew _) ?_
          refine D.takeNo 15 [true, true, true, true, true, true, true, true, true, true, true, true, true, true, true, true, false, false, false, false, false, false, false, false] (.sq (.bk (.sq (.lp (.bk (.sq .bd)))))) rfl rfl rfl rfl rfl (by kernel_rfl) rfl (LeC.drew _) ?_
          refine D.takeNo 16 [true, true, true, true, true, true, true, true, true, true, true, true, true, true, true, true, true, false, false, false, false, false, false, false] (.sq (.bk (.sq (.lp (.bk (.sq .bd)))))) rfl rfl rfl rfl rfl (by kernel_rfl) rfl (LeC.drew _) ?_
          refine D.takeNo 17 [true, true, true, true, true, true, true, true, true, true, true, true, true, true, true, true, true, true, false, false, false, false, false, false] (.sq (.bk (.sq (.lp (.bk (.sq .bd)))))) rfl rfl rfl rfl rfl (by kernel_rfl) rfl (LeC.drew _) ?_
          refine D.takeNo 18 [true, true, true, true, true, true, true, true, true, true, true, true, true, true, true, true, true, true, true, false, false, false, false, false] (.sq (.bk (.sq (.lp (.bk (.sq .bd)))))) rfl rfl rfl rfl rfl (by kernel_rfl) rfl (LeC.drew _) ?_
          refine D.takeNo 19 [true, true, true, true, true, true, true, true, true, true, true, true, true, true, true, true, true, true, true, true, false, false, false, false] (.sq (.bk (.sq (.lp (.bk (.sq .bd)))))) rfl rfl rfl rfl rfl (by kernel_rfl) rfl (LeC.drew _) ?_
          refine D.takeNo 20 [true, true, true, true, true, true, true, true, true, true, true, true, true, true, true, true, true, true, true, true, true, false, false, false] (.sq (.bk (.sq (.lp (.bk (.sq .bd)))))) rfl rfl rfl rfl rfl (by kernel_rfl) rfl (LeC.drew _) ?_
          refine D.takeNo 21 [true, true, true, true, true, true, true, true, true, true, true, true, true, true, true, true, true, true, true, true, true, true, false, false] (.sq (.bk (.sq (.lp (.bk (.sq .bd)))))) rfl rfl rfl rfl rfl (by kernel_rfl) rfl (LeC.drew _) ?_
          refine D.takeNo 22 [true, true, true, true, true, true, true, true, true, true, true, true, true, true, true, true, true, true, true, true, true, true, true, false] (.sq (.bk (.sq (.lp (.bk (.sq .bd)))))) rfl rfl rfl rfl rfl (by kernel_rfl) rfl (LeC.drew _) ?_
          refine D.take 23 [true, true, true, true, true, true, true, true, true, true, true, true, true, true, true, true, true, true, true, true, true, true, true, true] (.sq (.bk (.sq (.lp (.bk (.sq .bd)))))) rfl (rd_pickT rfl rfl) rfl (by kernel_rfl) rfl (LeC.drew _) ?_
          refine D.done (by kernel_rfl) ?_
          refine X.sq ?_
          refine V.condT rfl ?_
          refine V.seq ?_
          refine V.region ?_
          refine L.rd (rd_assign rfl) rfl ?_
          refine L.nil ?_
          refine X.sq ?_
          refine V.ret ?_
          refine X.bkRet ?_
          refine X.sqRet ?_
          refine X.lpRet ?_
          refine X.bkRet ?_
          refine X.sqRet ?_
          refine ret_1 Yabm.results18 rfl ?_
          refine ⟨congrArg Value.bool (Eq.symm (decide_eq_false ?_)), he.drew⟩
          rintro rfl
          rw [hx] at hy
          simp only [Option.some.injEq] at hy
          subst hy
          first | exact g28 rfl | exact h40 rfl
        ·
          refine D.takeYes 12 [true, true, true, true, true, true, true, true, true, true, true, true, true, false, false, false, false, false, false, false, false, false, false, false] (.sq (.bk (.sq (.lp (.bk (.sq .bd)))))) rfl rfl rfl (rd_move rfl) rfl (by kernel_rfl) rfl (LeC.drew _) ?_
          refine D.takeYes 13 [true, true, true, true, true, true, true, true, true, true, true, true, true, true, false, false, false, false, false, false, false, false, false, false] (.sq (.bk (.sq (.lp (.bk (.sq .bd)))))) rfl rfl rfl (rd_move rfl) rfl (by kernel_rfl) rfl (LeC.drew _) ?_
          (refine D.takeYes 14 [true, true, true, true, true, true, true, true, true, true, true, true, true, true, true, false, false, false, false, false, false, false, false, false] (.sq (.bk (.sq (.lp (.bk (.sq .bd)))))) rfl rfl rfl (rd_indexSlice (sz := 2) tok rfl rfl rfl rfl rfl rfl rfl ?_) rfl (by kernel_rfl) rfl (LeC.drew _) ?_; omega)
          refine D.takeYes 15 [true, true, true, true, true, true, true, true, true, true, true, true, true, true, true, true, false, false, false, false, false, false, false, false] (.sq (.bk (.sq (.lp (.bk (.sq .bd)))))) rfl rfl rfl (rd_fieldAddr tok rfl rfl rfl rfl rfl rfl) rfl (by kernel_rfl) rfl (LeC.drew _) ?_
          refine D.takeYes 16 [true, true, true, true, true, true, true, true, true, true, true, true, true, true, true, true, true, false, false, false, false, false, false, false] (.sq (.bk (.sq (.lp (.bk (.sq .bd)))))) rfl rfl rfl (rd_load1 tok rfl rfl rfl (hcx.at_ 1 _ rfl)) rfl (by kernel_rfl) rfl (LeC.drew _) ?_
          refine D.takeYes 17 [true, true, true, true, true, true, true, true, true, true, true, true, true, true, true, true, true, true, false, false, false, false, false, false] (.sq (.bk (.sq (.lp (.bk (.sq .bd)))))) rfl rfl rfl (rd_move rfl) rfl (by kernel_rfl) rfl (LeC.drew _) ?_
          refine D.takeYes 18 [true, true, true, true, true, true, true, true, true, true, true, true, true, true, true, true, true, true, true, false, false, false, false, false] (.sq (.bk (.sq (.lp (.bk (.sq .bd)))))) rfl rfl rfl (rd_move rfl) rfl (by kernel_rfl) rfl (LeC.drew _) ?_
          (refine D.takeYes 19 [true, true, true, true, true, true, true, true, true, true, true, true, true, true, true, true, true, true, true, true, false, false, false, false] (.sq (.bk (.sq (.lp (.bk (.sq .bd)))))) rfl rfl rfl (rd_indexSlice (sz := 2) tok rfl rfl rfl rfl rfl rfl rfl ?_) rfl (by kernel_rfl) rfl (LeC.drew _) ?_; omega)
          refine D.takeYes 20 [true, true, true, true, true, true, true, true, true, true, true, true, true, true, true, true, true, true, true, true, true, false, false, false] (.sq (.bk (.sq (.lp (.bk (.sq .bd)))))) rfl rfl rfl (rd_fieldAddr tok rfl rfl rfl rfl rfl rfl) rfl (by kernel_rfl) rfl (LeC.drew _) ?_
          refine D.takeYes 21 [true, true, true, true, true, true, true, true, true, true, true, true, true, true, true, true, true, true, true, true, true, true, false, false] (.sq (.bk (.sq (.lp (.bk (.sq .bd)))))) rfl rfl rfl (rd_load1 tok rfl rfl rfl (hcy.at_ 1 _ rfl)) rfl (by kernel_rfl) rfl (LeC.drew _) ?_
          refine D.takeYes 22 [true, true, true, true, true, true, true, true, true, true, true, true, true, true, true, true, true, true, true, true, true, true, true, false] (.sq (.bk (.sq (.lp (.bk (.sq .bd)))))) rfl rfl rfl (rd_neq rfl rfl) rfl (by kernel_rfl) rfl (LeC.drew _) ?_
          refine D.take 23 [true, true, true, true, true, true, true, true, true, true, true, true, true, true, true, true, true, true, true, true, true, true, true, true] (.sq (.bk (.sq (.lp (.bk (.sq .bd)))))) rfl (rd_pickF rfl rfl) rfl (by kernel_rfl) rfl (LeC.drew _) ?_
          refine D.done (by kernel_rfl) ?_
          refine X.sq ?_
          first | refine V.cond rfl (fun h40 => ?_) (fun h40 => ?_) | refine V.condB rfl (fun h40 => ?_) (fun h40 => ?_)
          ·
            refine V.seq ?_
            refine V.region ?_
            refine L.rd (rd_assign rfl) rfl ?_
            refine L.nil ?_
            refine X.sq ?_
            refine V.ret ?_
            refine X.bkRet ?_
            refine X.sqRet ?_
            refine X.lpRet ?_
            refine X.bkRet ?_
            refine X.sqRet ?_
            refine ret_1 Yabm.results18 rfl ?_
            refine ⟨congrArg Value.bool (Eq.symm (decide_eq_false ?_)), he.drew⟩
            rintro rfl
            rw [hx] at hy
            simp only [Option.some.injEq] at hy
            subst hy
            first | exact g28 rfl | exact h40 rfl
          ·
            refine V.skip ?_
            refine X.bk ?_
            refine X.sq ?_
            refine V.region ?_
            refine L.rd (rd_move rfl) rfl ?_
            (refine L.rd (rd_add3 rfl rfl ?_) rfl ?_; omega)
            refine L.rd (rd_assign rfl) rfl ?_
            refine L.nil ?_
            have hxy : x = y := Prod.ext (Decidable.not_not.1 g28) (Decidable.not_not.1 h40)
            subst hxy
            exact X.lp ⟨_, _, by omega, (by repeat' (first | exact trivial | refine ⟨rfl, ?_⟩)), k + 1, rfl, rfl, by omega, he.drew, take_next htk hx hy⟩
      ·
        refine V.exit ?_
        refine X.sqExit ?_
        refine X.lpExit ?_
        refine X.bkHere ?_
        refine X.sq ?_
        refine V.seq ?_
        refine V.region ?_
        refine L.rd (rd_assign rfl) rfl ?_
        refine L.nil ?_
        refine X.sq ?_
        refine V.ret ?_
        refine ret_1 Yabm.results18 rfl ?_
        refine ⟨congrArg Value.bool (Eq.symm (decide_eq_true ?_)), he⟩
        have : k = a.length := by omega
        subst this
        rw [List.take_of_length_le (Nat.le_refl _), List.take_of_length_le (by omega)] at htk
        exact htk

theorem growTok_ok (va : Value) (a : List (Int × Int)) (w : World) (B : Nat) (ha : w.ownsRow B 95 2 va a.length (tokC a)) (hla : a.length ≤ 4294967296) (hB : B ≤ w.heap.size) :
    Ret Yabm.prog 19 [va] w fun v w' => w'.ownsRow B 95 2 va a.length (tokC a) ∧ w.grownBy w' va.ownBlock := by
  refine enter1 Yabm.func19 Yabm.ntmps19 (by kernel_rfl) rfl rfl ?_
  refine V.seq ?_
  refine V.region ?_
  refine L.rd (rd_assign rfl) rfl ?_
  refine L.nil ?_
  refine X.sq ?_
  refine V.seq ?_
  refine V.region ?_
  refine L.rd (rd_move rfl) rfl ?_
  refine L.rd (rd_build (out := [_, _]) tok rfl rfl rfl rfl rfl) rfl ?_
  refine L.ef (e_buildSlice1 (e := 95) (cs := [_, _]) tok rfl rfl rfl rfl rfl rfl rfl rfl rfl (by first | (simp only [size_addB, size_setB, size_drew]; rfl) | rfl) rfl ?_)
  refine L.ef (e_appendK tok rfl rfl rfl rfl rfl rfl rfl rfl rfl rfl (ha.alloc _) (Bl.new _ _ _).cells rfl (by simp [Value.oneCell']) (by unfold maxLen; omega) (by simp only []; omega) (by rw [size_addB]; omega) ?_)
  rintro v1 w1 ho1 hg1 hk1
  obtain ⟨sa1, sn1, hsv1⟩ := slice_form ho1
  subst hsv1
  refine L.rd (rd_assign rfl) rfl ?_
  refine L.nil ?_
  refine X.sq ?_
  refine V.seq ?_
  refine V.region ?_
  refine L.rd (rd_move rfl) rfl ?_
  refine L.rd (rd_lenSlice tok rfl rfl rfl) rfl ?_
  refine L.rd (rd_assign rfl) rfl ?_
  refine L.nil ?_
  refine X.sq ?_
  refine V.ret ?_
  refine ret_1 Yabm.results19 rfl ?_
  exact ⟨hk1, grown_trans (grown_ext _ ((Ext.refl _ _).add (Nat.le_refl _) _ _)) hg1⟩

def flipT (t : Int × Int) : Int × Int := (xr .i64 t.1, xr .i64 t.2)
theorem set_split {α : Type} (f : α → α) (a : List α) (k : Nat) (x : α) (hx : a[k]? = some x) : ((a.take k).map f ++ a.drop k).set k (f x) = (a.take (k + 1)).map f ++ a.drop (k + 1) := by
  have hlt := (List.getElem?_eq_some_iff.1 hx).1
  have e : a[k] = x := by simpa [hlt] using hx
  rw [List.set_append_right _ _ (by simp; omega), List.take_succ_eq_append_getElem hlt, List.drop_eq_getElem_cons hlt, e]
  have h0 : k - ((a.take k).map f).length = 0 := by simp; omega
  rw [h0]
  simp
theorem get_split {α : Type} (f : α → α) (a : List α) (k : Nat) (x : α) (hx : a[k]? = some x) : ((a.take k).map f ++ a.drop k)[k]? = some x := by
  have hlt := (List.getElem?_eq_some_iff.1 hx).1
  rw [List.getElem?_append_right (by simp; omega)]
  have h0 : k - ((a.take k).map f).length = 0 := by simp; omega
  rw [h0, List.getElem?_drop]
  simpa using hx
theorem split_len {α : Type} (f : α → α) (a : List α) (k : Nat) : ((a.take k).map f ++ a.drop k).length = a.length := by simp; omega

theorem flipToks_ok (va : Value) (a : List (Int × Int)) (w : World) (B : Nat) (ha : w.ownsRow B 95 2 va a.length (tokC a)) (hla : a.length ≤ 4294967296) :
    Ret Yabm.prog 20 [va] w fun v w' => w'.ownsRow B 95 2 va a.length (tokC (a.map flipT)) ∧ w.grownBy w' va.ownBlock := by
  rcases own_slc ha with ⟨rfl, h0, hnil⟩ | ⟨g, cap, sp, hB, hs⟩
  · have ha0 : a = [] := List.eq_nil_of_length_eq_zero h0
    subst ha0
    refine enter1 Yabm.func20 Yabm.ntmps20 (by kernel_rfl) rfl rfl ?_
    refine V.seq ?_
    refine V.region ?_
    refine L.rd (rd_assign rfl) rfl ?_
    refine L.nil ?_
    refine X.sq ?_
    refine V.block ?_
    refine V.loop (fun m l wr => l = [(0, .slice none 0 0), (2, .int .i64 0)] ∧ w = wr) ?_ ?_
    ·
      exact ⟨0, _, (by repeat' (first | exact trivial | refine ⟨rfl, ?_⟩)), rfl, rfl⟩
    ·
      rintro m l wr ⟨rfl, rfl⟩
      refine V.seq ?_
      refine V.seq ?_
      refine V.region ?_
      refine L.rd (rd_move rfl) rfl ?_
      refine L.rd (rd_move rfl) rfl ?_
      refine L.rd (rd_lenSlice tok rfl rfl rfl) rfl ?_
      refine L.rd (rd_lss rfl rfl) rfl ?_
      refine L.nil ?_
      refine X.sq ?_
      first | refine V.cond rfl (fun h7 => ?_) (fun h7 => ?_) | refine V.condB rfl (fun h7 => ?_) (fun h7 => ?_)
      ·
        exact absurd h7 (by decide)
      ·
        refine V.exit ?_
        refine X.sqExit ?_
        refine X.lpExit ?_
        refine X.bkHere ?_
        refine ret_0 Yabm.results20 ?_
        exact ⟨World.ownsRow_nil _ _ _ _, grown_refl _ _⟩
  · obtain ⟨hval, hbl, hlen, hcn, hcm, hsz⟩ := hs
    subst hval
    refine enter1 Yabm.func20 Yabm.ntmps20 (by kernel_rfl) rfl rfl ?_
    refine V.seq ?_
    refine V.region ?_
    refine L.rd (rd_assign rfl) rfl ?_
    refine L.nil ?_
    refine X.sq ?_
    refine V.block ?_
    refine V.loop (fun m l wr => ∃ k : Nat, l = [(0, .slice (some ⟨g, 0, none⟩) a.length cap), (2, .int .i64 k)] ∧ m = a.length - k ∧ k ≤ a.length ∧ Bl wr g 95 (tokC ((a.take k).map flipT ++ a.drop k) ++ sp) ∧ w.grownBy wr (some g)) ?_ ?_
    ·
      exact ⟨_, _, (by repeat' (first | exact trivial | refine ⟨rfl, ?_⟩)), 0, rfl, rfl, by omega, hbl, grown_refl _ _⟩
    ·
      rintro m l wr ⟨k, rfl, rfl, hk, hb, hg⟩
      refine V.seq ?_
      refine V.seq ?_
      refine V.region ?_
      refine L.rd (rd_move rfl) rfl ?_
      refine L.rd (rd_move rfl) rfl ?_
      refine L.rd (rd_lenSlice tok rfl rfl rfl) rfl ?_
      refine L.rd (rd_lss rfl rfl) rfl ?_
      refine L.nil ?_
      refine X.sq ?_
      first | refine V.cond rfl (fun h7 => ?_) (fun h7 => ?_) | refine V.condB rfl (fun h7 => ?_) (fun h7 => ?_)
      ·
        obtain ⟨x, hx⟩ := get_of_lt a k (by omega)
        have hcx := hb.cells.sub (k * 2) [Value.int .i64 x.1, .int .i64 x.2] (fun j v hv => by
          have h1 := tok_get _ k x (get_split flipT a k x hx) j v hv
          rw [List.getElem?_append_left (List.getElem?_eq_some_iff.1 h1).1]; exact h1)
        have hgl := hb.lt
        refine V.skip ?_
        refine X.sq ?_
        refine V.seq ?_
        refine V.block ?_
        refine V.seq ?_
        refine V.region ?_
        refine L.rd (rd_move rfl) rfl ?_
        refine L.rd (rd_move rfl) rfl ?_
        (refine L.rd (rd_indexSlice (sz := 2) tok rfl rfl rfl rfl rfl rfl rfl ?_) rfl ?_; omega)
        refine L.rd (rd_loadN tok rfl rfl rfl hcx rfl) rfl ?_
        refine L.ef (e_alloc (cs := [_, _]) tok rfl rfl (by first | (simp only [size_addB, size_setB, size_drew]; rfl) | rfl) rfl ?_)
        refine L.ef (e_store (vs := [_, _]) tok rfl rfl rfl rfl (by (repeat (first | assumption | (refine Bl.new' ?_ _ _; first | with_reducible rfl | (simp only [size_addB, size_setB, size_drew]; done)) | apply Bl.add | apply Bl.drew | (apply Bl.setNe; omega) | (refine Bl.set' ?_ _ _; (try simp only [size_addB, size_setB, size_drew]); omega)))) rfl (by simp [Value.oneCell']) (by simp) ?_)
        refine L.nil ?_
        refine X.sq ?_
        refine V.region ?_
        refine L.rd (rd_move rfl) rfl ?_
        refine L.rd (rd_move rfl) rfl ?_
        refine L.rd (rd_fieldAddr tok rfl rfl rfl rfl rfl rfl) rfl ?_
        refine L.rd (rd_load1 tok rfl rfl rfl (by first | assumption | exact Bl.cell (by (repeat (first | assumption | (refine Bl.new' ?_ _ _; first | with_reducible rfl | (simp only [size_addB, size_setB, size_drew]; done)) | apply Bl.add | apply Bl.drew | (apply Bl.setNe; omega) | (refine Bl.set' ?_ _ _; (try simp only [size_addB, size_setB, size_drew]); omega)))) rfl)) rfl ?_
        refine L.rd (rd_xorW rfl) rfl ?_
        refine L.rd (rd_fieldAddr tok rfl rfl rfl rfl rfl rfl) rfl ?_
        refine L.rd (rd_load1 tok rfl rfl rfl (by first | assumption | exact Bl.cell (by (repeat (first | assumption | (refine Bl.new' ?_ _ _; first | with_reducible rfl | (simp only [size_addB, size_setB, size_drew]; done)) | apply Bl.add | apply Bl.drew | (apply Bl.setNe; omega) | (refine Bl.set' ?_ _ _; (try simp only [size_addB, size_setB, size_drew]); omega)))) rfl)) rfl ?_
        refine L.rd (rd_xorW rfl) rfl ?_
        refine L.rd (rd_build (out := [_, _]) tok rfl rfl rfl rfl rfl) rfl ?_
        (refine L.rd (rd_indexSlice (sz := 2) tok rfl rfl rfl rfl rfl rfl rfl ?_) rfl ?_; omega)
        refine L.ef (e_store (vs := [_, _]) tok rfl rfl rfl rfl ((hb.add _ _).setNe (by omega) _ _) rfl (by simp [Value.oneCell']) (by have h1 := tok_len ((a.take k).map flipT ++ a.drop k); rw [split_len] at h1; simp only [List.length_append, h1, List.length_cons, List.length_nil]; simp; omega) ?_)
        refine L.nil ?_
        refine X.bk ?_
        refine X.sq ?_
        refine V.region ?_
        refine L.rd (rd_move rfl) rfl ?_
        (refine L.rd (rd_add3 rfl rfl ?_) rfl ?_; omega)
        refine L.rd (rd_assign rfl) rfl ?_
        refine L.nil ?_
        refine X.lp ⟨_, _, by omega, (by repeat' (first | exact trivial | refine ⟨rfl, ?_⟩)), k + 1, rfl, rfl, by omega, ?_, ?_⟩
        · have h1 := fm_put tokE_len sp ((a.take k).map flipT ++ a.drop k) k (flipT x) (by rw [split_len]; omega)
          rw [set_split flipT a k x hx] at h1
          have h2 := Bl.set ((hb.add 95 [Value.int .i64 0, .int .i64 0]).setNe (b' := wr.heap.size) (by omega) 95 (putAt [Value.int .i64 0, .int .i64 0] 0 [Value.int .i64 x.1, .int .i64 x.2])) 95 (putAt (tokC ((a.take k).map flipT ++ a.drop k) ++ sp) (k * 2) (tokE (flipT x)))
          simp only [Nat.zero_add, Int.toNat_natCast]
          show Bl _ _ _ (((a.take (k + 1)).map flipT ++ a.drop (k + 1)).flatMap tokE ++ sp)
          rw [← h1]
          exact h2
        · exact grown_trans hg (grown_trans (grown_ext _ (((Ext.refl _ _).add (Nat.le_refl _) _ _).set (Nat.le_refl _) _ _)) grown_set)
      ·
        refine V.exit ?_
        refine X.sqExit ?_
        refine X.lpExit ?_
        refine X.bkHere ?_
        refine ret_0 Yabm.results20 ?_
        have hka : k = a.length := by omega
        subst hka
        rw [List.take_of_length_le (Nat.le_refl _), List.drop_eq_nil_of_le (Nat.le_refl _), List.append_nil] at hb
        have h1 := tok_len (a.map flipT)
        rw [List.length_map] at h1
        refine ⟨Slc.own ⟨rfl, hb, h1, hcn, hcm, ?_⟩ hB, hg⟩
        rw [← hsz, List.length_append, List.length_append, h1, hlen]
end Go.Proofs.Ybxabw
