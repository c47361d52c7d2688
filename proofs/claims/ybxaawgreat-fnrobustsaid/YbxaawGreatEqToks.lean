/-
  Token slices compared.
-/
import Derived.Test.YbxaawGreatLexW
set_option linter.unusedVariables false
set_option linter.unusedSimpArgs false
set_option maxRecDepth 10000
namespace Go.Proofs.YbxaawGreat
open Go.Mw Lexp

theorem tokC_get (a : List (Int × Int)) (k : Nat) (t : Int × Int) (h : a[k]? = some t) : ∀ j v, (ints [t.1, t.2])[j]? = some v → (tokC a)[k * 2 + j]? = some v := by
  intro j v hv
  induction a generalizing k with
  | nil => simp at h
  | cons x a ih =>
    cases k with
    | zero =>
      simp at h; subst h
      match j with
      | 0 => simpa [tokC, ints] using hv
      | 1 => simpa [tokC, ints] using hv
      | j + 2 => simp [ints] at hv
    | succ k =>
      have h' : a[k]? = some t := by simpa using h
      have := ih k h'
      rw [show (k + 1) * 2 + j = (k * 2 + j) + 2 by omega]
      simpa [tokC] using this
theorem tokC_length (a : List (Int × Int)) : (tokC a).length = a.length * 2 := by
  induction a with
  | nil => rfl
  | cons x a ih => simp [tokC] at ih ⊢; omega
theorem take_snoc_eq {α : Type} {a b : List α} {k : Nat} {x : α} (h : a.take k = b.take k) (ha : a[k]? = some x) (hb : b[k]? = some x) : a.take (k + 1) = b.take (k + 1) := by
  have h1 := (List.getElem?_eq_some_iff.1 ha)
  have h2 := (List.getElem?_eq_some_iff.1 hb)
  obtain ⟨l1, e1⟩ := h1
  obtain ⟨l2, e2⟩ := h2
  rw [List.take_succ_eq_append_getElem l1, List.take_succ_eq_append_getElem l2, h, e1, e2]

theorem eqToks_ok (va vb : Value) (a b : List (Int × Int)) (w : World) (ha : Rs w 2 va a.length (tokC a)) (hb : Rs w 2 vb b.length (tokC b)) (hla : a.length ≤ 1099511627776) :
    Ret Yaam.prog 9 [va, vb] w fun v w' => v = .bool (decide (a = b)) ∧ Ext w.heap.size w w' := by
  obtain ⟨aa, ca, hva, hfa⟩ := ha.form
  obtain ⟨ab, cb, hvb, hfb⟩ := hb.form
  subst hva hvb
  refine enter2 Yaam.func9 Yaam.ntmps9 (by kernel_rfl) rfl rfl ?_
  refine V.seq ?_
  refine V.region ?_
  refine L.rd (rd_assign rfl) rfl ?_
  refine L.nil ?_
  refine X.sq ?_
  refine V.seq ?_
  refine V.seq ?_
  refine V.region ?_
  refine L.rd (rd_move rfl) rfl ?_
  refine L.rd (rd_lenSlice tok rfl rfl rfl) rfl ?_
  refine L.rd (rd_move rfl) rfl ?_
  refine L.rd (rd_lenSlice tok rfl rfl rfl) rfl ?_
  refine L.rd (rd_neq rfl rfl) rfl ?_
  refine L.nil ?_
  refine X.sq ?_
  first | refine V.cond rfl (fun h10 => ?_) (fun h10 => ?_) | refine V.condB rfl (fun h10 => ?_) (fun h10 => ?_)
  ·
    refine V.seq ?_
    refine V.region ?_
    refine L.rd (rd_assign rfl) rfl ?_
    refine L.nil ?_
    refine X.sq ?_
    refine V.ret ?_
    refine X.sqRet ?_
    refine ret_1 Yaam.results9 rfl ?_
    refine ⟨congrArg Value.bool (Eq.symm (decide_eq_false ?_)), Ext.refl _ _⟩
    rintro rfl; exact h10 rfl
  ·
    have hll : a.length = b.length := by omega
    refine V.skip ?_
    refine X.sq ?_
    refine V.seq ?_
    refine V.seq ?_
    refine V.region ?_
    refine L.rd (rd_move rfl) rfl ?_
    refine L.rd (rd_lenSlice tok rfl rfl rfl) rfl ?_
    refine L.rd (rd_move rfl) rfl ?_
    refine L.nil ?_
    refine X.sq ?_
    refine V.block ?_
    refine V.loop (fun m l wr => ∃ k : Nat, l = [(0, .slice aa a.length ca), (1, .slice ab b.length cb), (12, .int .i64 a.length), (13, .int .i64 k)] ∧ m = a.length - k ∧ k ≤ a.length ∧ Ext w.heap.size w wr ∧ a.take k = b.take k) ?_ ?_
    ·
      exact ⟨_, _, (by repeat' (first | exact trivial | refine ⟨rfl, ?_⟩)), 0, rfl, rfl, by omega, Ext.refl _ _, by simp⟩
    ·
      rintro m l wr ⟨k, rfl, rfl, hk, he, htk⟩
      refine V.seq ?_
      refine V.region ?_
      refine L.rd (rd_lss rfl rfl) rfl ?_
      refine L.nil ?_
      refine X.sq ?_
      refine V.seq ?_
      first | refine V.cond rfl (fun h14 => ?_) (fun h14 => ?_) | refine V.condB rfl (fun h14 => ?_) (fun h14 => ?_)
      ·
        obtain ⟨b1, o1, rfl, hc1⟩ := hfa.resolve_left (by omega)
        obtain ⟨b2, o2, rfl, hc2⟩ := hfb.resolve_left (by omega)
        obtain ⟨x, hx⟩ : ∃ x, a[k]? = some x := ⟨a[k]'(by omega), by simp⟩
        obtain ⟨y, hy⟩ : ∃ y, b[k]? = some y := ⟨b[k]'(by omega), by simp⟩
        have hcx := (hc1.le he.leC).sub (k * 2) (ints [x.1, x.2]) (tokC_get a k x hx)
        have hcy := (hc2.le he.leC).sub (k * 2) (ints [y.1, y.2]) (tokC_get b k y hy)
        refine V.skip ?_
        refine X.sq ?_
        refine V.seq ?_
        refine V.block ?_
        refine V.seq ?_
        refine V.region ?_
        refine L.rd (rd_move rfl) rfl ?_
        refine L.rd (rd_assign rfl) rfl ?_
        refine L.nil ?_
        refine X.sq ?_
        refine V.seq ?_
        refine V.draw [] mixed ?_
        refine D.take 0 [true, false, false, false, false, false, false, false, false] (.sq (.bk (.sq (.lp (.bk (.sq .bd)))))) rfl (rd_move rfl) rfl (by kernel_rfl) rfl (LeC.drew _) ?_
        refine D.take 1 [true, true, false, false, false, false, false, false, false] (.sq (.bk (.sq (.lp (.bk (.sq .bd)))))) rfl (rd_move rfl) rfl (by kernel_rfl) rfl (LeC.drew _) ?_
        (refine D.take 2 [true, true, true, false, false, false, false, false, false] (.sq (.bk (.sq (.lp (.bk (.sq .bd)))))) rfl (rd_indexSlice (sz := 2) tok rfl rfl rfl rfl rfl rfl rfl ?_) rfl (by kernel_rfl) rfl (LeC.drew _) ?_; omega)
        refine D.take 3 [true, true, true, true, false, false, false, false, false] (.sq (.bk (.sq (.lp (.bk (.sq .bd)))))) rfl (rd_loadN tok rfl rfl rfl hcx rfl) rfl (by kernel_rfl) rfl (LeC.drew _) ?_
        refine D.take 4 [true, true, true, true, true, false, false, false, false] (.sq (.bk (.sq (.lp (.bk (.sq .bd)))))) rfl (rd_move rfl) rfl (by kernel_rfl) rfl (LeC.drew _) ?_
        refine D.take 5 [true, true, true, true, true, true, false, false, false] (.sq (.bk (.sq (.lp (.bk (.sq .bd)))))) rfl (rd_move rfl) rfl (by kernel_rfl) rfl (LeC.drew _) ?_
        (refine D.take 6 [true, true, true, true, true, true, true, false, false] (.sq (.bk (.sq (.lp (.bk (.sq .bd)))))) rfl (rd_indexSlice (sz := 2) tok rfl rfl rfl rfl rfl rfl rfl ?_) rfl (by kernel_rfl) rfl (LeC.drew _) ?_; omega)
        refine D.take 7 [true, true, true, true, true, true, true, true, false] (.sq (.bk (.sq (.lp (.bk (.sq .bd)))))) rfl (rd_loadN tok rfl rfl rfl hcy rfl) rfl (by kernel_rfl) rfl (LeC.drew _) ?_
        refine D.take 8 [true, true, true, true, true, true, true, true, true] (.sq (.bk (.sq (.lp (.bk (.sq .bd)))))) rfl (rd_neqAgg tok eqTok rfl rfl rfl rfl) rfl (by kernel_rfl) rfl (LeC.drew _) ?_
        refine D.done (by kernel_rfl) ?_
        refine X.sq ?_
        first | refine V.cond rfl (fun h24 => ?_) (fun h24 => ?_) | refine V.condB rfl (fun h24 => ?_) (fun h24 => ?_)
        ·
          refine V.seq ?_
          refine V.region ?_
          refine L.rd (rd_assign rfl) rfl ?_
          refine L.nil ?_
          refine X.sq ?_
          refine V.ret ?_
          refine X.bkRet ?_
          refine X.sqRet ?_
          refine X.lpRet ?_
          refine X.bkRet ?_
          refine X.sqRet ?_
          refine ret_1 Yaam.results9 rfl ?_
          refine ⟨congrArg Value.bool (Eq.symm (decide_eq_false ?_)), he.drew⟩
          rintro rfl
          rw [hx] at hy
          simp only [Option.some.injEq] at hy
          subst hy
          exact h24 rfl
        ·
          refine V.skip ?_
          refine X.bk ?_
          refine X.sq ?_
          refine V.region ?_
          (refine L.rd (rd_add3 rfl rfl ?_) rfl ?_; omega)
          refine L.rd (rd_move rfl) rfl ?_
          refine L.nil ?_
          have hxy : x = y := by
            have := Decidable.not_not.1 h24
            simp only [List.cons.injEq, and_true] at this
            exact Prod.ext this.1 this.2
          subst hxy
          exact X.lp ⟨_, _, by omega, (by repeat' (first | exact trivial | refine ⟨rfl, ?_⟩)), k + 1, rfl, rfl, by omega, he.drew, take_snoc_eq htk hx hy⟩
      ·
        refine V.exit ?_
        refine X.sqExit ?_
        refine X.lpExit ?_
        refine X.bkHere ?_
        refine X.sq ?_
        refine V.seq ?_
        refine V.region ?_
        refine L.rd (rd_assign rfl) rfl ?_
        refine L.nil ?_
        refine X.sq ?_
        refine V.ret ?_
        refine ret_1 Yaam.results9 rfl ?_
        refine ⟨congrArg Value.bool (Eq.symm (decide_eq_true ?_)), he⟩
        have : k = a.length := by omega
        subst this
        rw [List.take_of_length_le (Nat.le_refl _), List.take_of_length_le (by omega)] at htk
        exact htk
end Go.Proofs.YbxaawGreat
