/-
  Sum and product of polynomials, plain.
-/
import Derived.Test.YbxaawGreatNmP
set_option linter.unusedVariables false
set_option linter.unusedSimpArgs false
namespace Go.Mw
def rawP (M : List MT) : Option (List PT) := if nfOk (nf M) = true then some (toP (nf M)) else none
def addP (p q : List PT) : Option (List PT) := if canon p = true ∧ canon q = true then rawP (ms p ++ ms q) else none
def addV (a b : List Int) : List Int := List.zipWith (· + ·) a b
def mulT (x y : MT) : MT := (w64 (x.1 * y.1), addV x.2 y.2)
def prods (A B : List MT) : List MT := A.flatMap fun x => B.map (mulT x)
def mulP (p q : List PT) : Option (List PT) := if canon p = true ∧ canon q = true ∧ p.length * q.length ≤ 100000 then rawP (prods (ms p) (ms q)) else none
/-- vectors that may be added -/
def Hv (A : List MT) : Prop := ∀ t ∈ A, t.2.length = 26 ∧ ∀ x ∈ t.2, 0 ≤ x ∧ x ≤ 1000000
theorem Hv.vl {A : List MT} (h : Hv A) : Vl A := fun t ht => ⟨(h t ht).1, fun x hx => by have := (h t ht).2 x hx; omega⟩
theorem canon_hv {q : List PT} (h : canon q = true) : Hv (ms q) := fun t ht => by
  unfold ms at ht
  rw [List.mem_map] at ht
  obtain ⟨u, hu, rfl⟩ := ht
  have hc := (canon_mem h u hu).fv
  exact ⟨hc.len, hc.rng⟩
theorem addV_len {a b : List Int} (ha : a.length = 26) (hb : b.length = 26) : (addV a b).length = 26 := by unfold addV; rw [List.length_zipWith]; omega
theorem isum_addV : ∀ (a b : List Int), a.length = b.length → isum (addV a b) = isum a + isum b
  | [], [], _ => by simp [addV, isum]
  | x :: a, y :: b, h => by
    have := isum_addV a b (by simpa using h)
    unfold addV at this ⊢
    simp only [List.zipWith_cons_cons, isum]; omega
  | [], y :: b, h => by simp at h
  | x :: a, [], h => by simp at h
theorem addV_get {a b : List Int} {k : Nat} {x y : Int} (hx : a[k]? = some x) (hy : b[k]? = some y) : (addV a b)[k]? = some (x + y) := by
  unfold addV; simp [List.getElem?_zipWith, hx, hy]
def mix (u : List Int) (k : Nat) : List Int := u.take k ++ z26.drop k
theorem mix_len {u : List Int} (h : u.length = 26) {k : Nat} (hk : k ≤ 26) : (mix u k).length = 26 := by
  unfold mix; rw [List.length_append, List.length_take, List.length_drop, z26_len]; omega
theorem mix_zero (u : List Int) : mix u 0 = z26 := by simp [mix]
theorem mix_all {u : List Int} (h : u.length = 26) : mix u 26 = u := by
  unfold mix; rw [List.take_of_length_le (by omega), List.drop_eq_nil_of_le (by rw [z26_len]; omega), List.append_nil]
theorem mix_set {u : List Int} {k : Nat} {x : Int} (h : u.length = 26) (hx : u[k]? = some x) : (mix u k).set k x = mix u (k + 1) := by
  have hk := (List.getElem?_eq_some_iff.1 hx).1
  unfold mix
  rw [List.set_append_right _ _ (by rw [List.length_take]; omega), List.length_take, Nat.min_eq_left (by omega), Nat.sub_self, take_snoc hx]
  have hz : z26.drop k = 0 :: z26.drop (k + 1) := by
    have h0 : z26[k]? = some 0 := by unfold z26; rw [List.getElem?_replicate, if_pos (by omega)]
    exact drop_cons h0
  rw [hz, List.set_cons_zero, List.append_assoc]; rfl
theorem prods_len (A B : List MT) : (prods A B).length = A.length * B.length := by
  unfold prods
  induction A with
  | nil => simp
  | cons x A ih => rw [List.flatMap_cons, List.length_append, ih, List.length_map, List.length_cons, Nat.succ_mul]; omega
theorem prods_snoc {A B : List MT} {k : Nat} {x : MT} (h : A[k]? = some x) : prods (A.take (k + 1)) B = prods (A.take k) B ++ B.map (mulT x) := by
  unfold prods; rw [take_snoc h, List.flatMap_append]; simp
theorem map_snoc {B : List MT} {f : MT → MT} {k : Nat} {y : MT} (h : B[k]? = some y) : (B.take (k + 1)).map f = (B.take k).map f ++ [f y] := by
  rw [take_snoc h, List.map_append]; rfl
theorem prods_mem {A B : List MT} {t : MT} (h : t ∈ prods A B) : ∃ x ∈ A, ∃ y ∈ B, t = mulT x y := by
  unfold prods at h
  rw [List.mem_flatMap] at h
  obtain ⟨x, hx, h⟩ := h
  rw [List.mem_map] at h
  obtain ⟨y, hy, rfl⟩ := h
  exact ⟨x, hx, y, hy, rfl⟩
theorem addV_mem {a b : List Int} {x : Int} (h : x ∈ addV a b) : ∃ u ∈ a, ∃ v ∈ b, x = u + v := by
  obtain ⟨k, hk⟩ := List.getElem?_of_mem h
  unfold addV at hk
  rw [List.getElem?_zipWith] at hk
  cases ha : a[k]? with
  | none => simp [ha] at hk
  | some u =>
    cases hb : b[k]? with
    | none => simp [ha, hb] at hk
    | some v =>
      simp [ha, hb] at hk
      exact ⟨u, List.mem_of_getElem? ha, v, List.mem_of_getElem? hb, hk.symm⟩
theorem prods_vl {A B : List MT} (hA : Hv A) (hB : Hv B) : Vl (prods A B) := fun t ht => by
  obtain ⟨x, hx, y, hy, rfl⟩ := prods_mem ht
  refine ⟨addV_len (hA x hx).1 (hB y hy).1, fun z hz => ?_⟩
  obtain ⟨u, hu, v, hv, rfl⟩ := addV_mem hz
  have := (hA x hx).2 u hu
  have := (hB y hy).2 v hv
  omega
theorem prods_cr (A B : List MT) : Cr (prods A B) := fun t ht => by
  obtain ⟨x, hx, y, hy, rfl⟩ := prods_mem ht
  exact w64_wr _
theorem app_vl {A B : List MT} (hA : Vl A) (hB : Vl B) : Vl (A ++ B) := fun t ht => (List.mem_append.1 ht).elim (hA t) (hB t)
theorem app_cr {A B : List MT} (hA : Cr A) (hB : Cr B) : Cr (A ++ B) := fun t ht => (List.mem_append.1 ht).elim (hA t) (hB t)
theorem addP_no {p q : List PT} (h : ¬ (canon p = true ∧ canon q = true)) : addP p q = none := by unfold addP; rw [if_neg h]
theorem mulP_no {p q : List PT} (h : ¬ (canon p = true ∧ canon q = true)) : mulP p q = none := by unfold mulP; rw [if_neg (fun k => h ⟨k.1, k.2.1⟩)]
theorem mulP_big {p q : List PT} (h : 100000 < p.length * q.length) : mulP p q = none := by unfold mulP; rw [if_neg (fun k => by omega)]
theorem rawP_cases (M : List MT) : (nfOk (nf M) = true ∧ rawP M = some (toP (nf M))) ∨ (nfOk (nf M) = false ∧ rawP M = none) := by
  unfold rawP
  cases h : nfOk (nf M) with
  | true => exact .inl ⟨rfl, rfl⟩
  | false => exact .inr ⟨rfl, rfl⟩
end Go.Mw
