/-
  Polynomials, plain: exponent vectors, their order, canonical form.
-/
import Derived.Test.YbxaawGreatPolyM
set_option linter.unusedVariables false
set_option linter.unusedSimpArgs false
namespace Go.Mw

def z26 : List Int := List.replicate 26 0
theorem z26_len : z26.length = 26 := by simp [z26]
def addAt (v : List Int) (i : Nat) (k : Int) : List Int := v.set i (v.getD i 0 + k)
def vecF : List (Int × Int) → List Int → List Int
  | [], v => v
  | f :: fs, v => vecF fs (addAt v f.1.toNat f.2)
def vec (fs : List (Int × Int)) : List Int := vecF fs z26
def isum : List Int → Int
  | [] => 0
  | x :: r => x + isum r
def lexGt : List Int → List Int → Bool
  | x :: a, y :: b => if x = y then lexGt a b else decide (y < x)
  | _, _ => false
def before (a b : List Int) : Bool := if isum a = isum b then lexGt a b else decide (isum b < isum a)
def facOk : List (Int × Int) → Int → Bool
  | [], _ => true
  | f :: r, last => decide (last < f.1 ∧ f.1 < 26 ∧ 1 ≤ f.2 ∧ f.2 ≤ 1000000) && facOk r f.1
def befO : Option (List Int) → List Int → Bool
  | none, _ => true
  | some p, v => before p v
def canonL : List PT → Option (List Int) → Bool
  | [], _ => true
  | t :: r, p => decide (t.1 ≠ 0) && facOk t.2 (-1) && decide (isum (vec t.2) ≤ 1000000) && befO p (vec t.2) && canonL r (some (vec t.2))
def canon (q : List PT) : Bool := decide (q.length ≤ 4096) && canonL q none

theorem isum_set : ∀ (v : List Int) (i : Nat) (x : Int), i < v.length → isum (v.set i x) = isum v - v.getD i 0 + x
  | [], i, x, h => by simp at h
  | y :: v, 0, x, h => by simp [isum]; omega
  | y :: v, i + 1, x, h => by
    have ih := isum_set v i x (by simpa using h)
    simp only [List.set_cons_succ, isum, ih, List.getD_cons_succ]; omega
theorem isum_addAt (v : List Int) (i : Nat) (k : Int) (h : i < v.length) : isum (addAt v i k) = isum v + k := by
  unfold addAt; rw [isum_set v i _ h]; omega
theorem isum_z26 : isum z26 = 0 := by decide
theorem addAt_len (v : List Int) (i : Nat) (k : Int) : (addAt v i k).length = v.length := by simp [addAt]
theorem isum_range (v : List Int) (M : Int) (h : ∀ x ∈ v, 0 ≤ x ∧ x ≤ M) : 0 ≤ isum v ∧ isum v ≤ v.length * M := by
  induction v with
  | nil => simp [isum]
  | cons x v ih =>
    obtain ⟨h1, h2⟩ := ih (fun y hy => h y (by simp [hy]))
    obtain ⟨h3, h4⟩ := h x (by simp)
    simp only [isum, List.length_cons, Int.natCast_add, Int.add_mul]
    omega

/-- a vector in the making: nothing above last -/
structure Fv (v : List Int) (last : Int) : Prop where
  len : v.length = 26
  rng : ∀ x ∈ v, 0 ≤ x ∧ x ≤ 1000000
  top : ∀ i : Nat, last < i → v.getD i 0 = 0
  last : -1 ≤ last ∧ last ≤ 25
theorem Fv.start : Fv z26 (-1) := ⟨z26_len, fun x hx => by simp [z26] at hx; omega, fun i _ => by
  have key : ∀ (n : Nat) (i : Nat), (List.replicate n (0 : Int)).getD i 0 = 0 := fun n i => by
    rw [List.getD_eq_getElem?_getD, List.getElem?_replicate]; split <;> rfl
  exact key 26 i, by omega⟩
theorem Fv.set_eq {v : List Int} {last a b : Int} (h : Fv v last) (ha : last < a) : v.set a.toNat b = addAt v a.toNat b := by
  unfold addAt
  have := h.last
  rw [h.top a.toNat (by omega)]; simp
theorem Fv.step {v : List Int} {last a b : Int} (h : Fv v last) (ha : last < a) (ha2 : a < 26) (hb : 1 ≤ b) (hb2 : b ≤ 1000000) : Fv (v.set a.toNat b) a := by
  have hl := h.last
  refine ⟨by simp [h.len], fun x hx => ?_, fun i hi => ?_, by omega⟩
  · rcases List.mem_or_eq_of_mem_set hx with h1 | h1
    · exact h.rng x h1
    · omega
  · have h1 := h.top i (by omega)
    rw [List.getD_eq_getElem?_getD] at h1 ⊢
    rw [List.getElem?_set_ne (by omega)]; exact h1
theorem Fv.sum {v : List Int} {last a b : Int} (h : Fv v last) (ha : last < a) (ha2 : a < 26) : isum (v.set a.toNat b) = isum v + b := by
  rw [h.set_eq ha, isum_addAt]
  have := h.len; have := h.last; omega
theorem Fv.bound {v : List Int} {last : Int} (h : Fv v last) : 0 ≤ isum v ∧ isum v ≤ 26000000 := by
  have := isum_range v 1000000 h.rng
  rw [h.len] at this; omega

theorem drop_cons {α : Type} {a : List α} {k : Nat} {x : α} (h : a[k]? = some x) : a.drop k = x :: a.drop (k + 1) := by
  obtain ⟨h1, h2⟩ := List.getElem?_eq_some_iff.1 h
  rw [List.drop_eq_getElem_cons h1, h2]
theorem drop_end {α : Type} {a : List α} {k : Nat} (h : a.length ≤ k) : a.drop k = [] := List.drop_eq_nil_of_le h

/-- the state of the loop over a term's factors -/
structure Fl (fs : List (Int × Int)) (j : Nat) (last : Int) (v : List Int) : Prop where
  fv : Fv v last
  ok : facOk fs (-1) = facOk (fs.drop j) last
  vc : vec fs = vecF (fs.drop j) v
theorem Fl.start (fs : List (Int × Int)) : Fl fs 0 (-1) z26 := ⟨Fv.start, rfl, rfl⟩
theorem Fl.bad {fs : List (Int × Int)} {j : Nat} {last : Int} {v : List Int} {f : Int × Int} (h : Fl fs j last v) (hf : fs[j]? = some f) (hb : ¬ (last < f.1 ∧ f.1 < 26 ∧ 1 ≤ f.2 ∧ f.2 ≤ 1000000)) : facOk fs (-1) = false := by
  rw [h.ok, drop_cons hf, facOk, decide_eq_false hb]; rfl
theorem Fl.next {fs : List (Int × Int)} {j : Nat} {last : Int} {v : List Int} {f : Int × Int} (h : Fl fs j last v) (hf : fs[j]? = some f) (hb : last < f.1 ∧ f.1 < 26 ∧ 1 ≤ f.2 ∧ f.2 ≤ 1000000) : Fl fs (j + 1) f.1 (v.set f.1.toNat f.2) := by
  refine ⟨h.fv.step hb.1 hb.2.1 hb.2.2.1 hb.2.2.2, ?_, ?_⟩
  · rw [h.ok, drop_cons hf, facOk, decide_eq_true hb]; rfl
  · rw [h.vc, drop_cons hf, vecF, h.fv.set_eq hb.1]
theorem Fl.done {fs : List (Int × Int)} {j : Nat} {last : Int} {v : List Int} (h : Fl fs j last v) (hj : fs.length ≤ j) : facOk fs (-1) = true ∧ vec fs = v := by
  have h1 := h.ok
  have h2 := h.vc
  rw [drop_end hj] at h1 h2
  exact ⟨h1, h2⟩

/-- the state of the loop over the terms -/
structure Cl (q : List PT) (k : Nat) (pv : List Int) : Prop where
  len : q.length ≤ 4096
  can : canon q = canonL (q.drop k) (if k = 0 then none else some pv)
  prv : Fv pv 25
theorem Fv.any {v : List Int} {last : Int} (h : Fv v last) : Fv v 25 := ⟨h.len, h.rng, fun i hi => by
  rw [List.getD_eq_getElem?_getD, List.getElem?_eq_none (by rw [h.len]; omega)]; rfl, by omega⟩
theorem Cl.start {q : List PT} (h : q.length ≤ 4096) : Cl q 0 z26 := ⟨h, by rw [canon, decide_eq_true h]; rfl, Fv.start.any⟩
theorem canon_long {q : List PT} (h : ¬ q.length ≤ 4096) : canon q = false := by rw [canon, decide_eq_false h]; rfl
section
variable {q : List PT} {k : Nat} {pv v : List Int} {t : PT}
theorem Cl.step (h : Cl q k pv) (ht : q[k]? = some t) : canon q = (decide (t.1 ≠ 0) && facOk t.2 (-1) && decide (isum (vec t.2) ≤ 1000000) && befO (if k = 0 then none else some pv) (vec t.2) && canonL (q.drop (k + 1)) (some (vec t.2))) := by
  rw [h.can, drop_cons ht]; rfl
theorem Cl.bad0 (h : Cl q k pv) (ht : q[k]? = some t) (hb : t.1 = 0) : canon q = false := by rw [h.step ht]; simp [hb]
theorem Cl.bad1 (h : Cl q k pv) (ht : q[k]? = some t) (hb : facOk t.2 (-1) = false) : canon q = false := by rw [h.step ht]; simp [hb]
theorem Cl.bad2 (h : Cl q k pv) (ht : q[k]? = some t) (hb : ¬ isum (vec t.2) ≤ 1000000) : canon q = false := by rw [h.step ht]; simp [hb]
theorem Cl.bad3 (h : Cl q k pv) (ht : q[k]? = some t) (hk : k ≠ 0) (hb : before pv (vec t.2) = false) : canon q = false := by rw [h.step ht]; simp [hk, befO, hb]
theorem Cl.next (h : Cl q k pv) (ht : q[k]? = some t) (h0 : t.1 ≠ 0) (h1 : facOk t.2 (-1) = true) (h2 : isum (vec t.2) ≤ 1000000) (h3 : k ≠ 0 → before pv (vec t.2) = true) (hv : Fv (vec t.2) 25) : Cl q (k + 1) (vec t.2) := by
  refine ⟨h.len, ?_, hv⟩
  rw [h.step ht]
  have e : befO (if k = 0 then none else some pv) (vec t.2) = true := by
    by_cases hk : k = 0
    · simp [hk, befO]
    · simp [hk, befO, h3 hk]
  rw [e, h1, decide_eq_true h0, decide_eq_true h2]; rfl
theorem Cl.done (h : Cl q k pv) (hk : q.length ≤ k) : canon q = true := by rw [h.can, drop_end hk]; rfl
end

/-! ### the order -/
/-- equal up to k -/
structure Lx_ (a b : List Int) (k : Nat) : Prop where
  eq : lexGt a b = lexGt (a.drop k) (b.drop k)
theorem Lx_.start (a b : List Int) : Lx_ a b 0 := ⟨rfl⟩
theorem Lx_.next {a b : List Int} {k : Nat} {x y : Int} (h : Lx_ a b k) (hx : a[k]? = some x) (hy : b[k]? = some y) (e : x = y) : Lx_ a b (k + 1) := ⟨by
  rw [h.eq, drop_cons hx, drop_cons hy, lexGt, if_pos e]⟩
theorem Lx_.stop {a b : List Int} {k : Nat} {x y : Int} (h : Lx_ a b k) (hx : a[k]? = some x) (hy : b[k]? = some y) (e : ¬ x = y) : lexGt a b = decide (y < x) := by
  rw [h.eq, drop_cons hx, drop_cons hy, lexGt, if_neg e]
theorem Lx_.done {a b : List Int} {k : Nat} (h : Lx_ a b k) (hk : a.length ≤ k) : lexGt a b = false := by
  rw [h.eq, drop_end hk]; rfl

/-! ### vectors in memory -/
def iC (k : IntKind) (v : List Int) : List Value := v.map (Value.int k)
theorem iC_len (k : IntKind) (v : List Int) : (iC k v).length = v.length := by simp [iC]
theorem iC_get {k : IntKind} {v : List Int} {i : Nat} {x : Int} (h : v[i]? = some x) : (iC k v)[i]? = some (.int k x) := by simp [iC, h]
theorem iC_put (k : IntKind) (v : List Int) (i : Nat) (x : Int) (h : i < v.length) : putAt (iC k v) i [.int k x] = iC k (v.set i x) := by
  rw [putAt_one _ _ _ (by simp [iC, h])]; simp [iC, List.map_set]
/-- a monomial: coefficient, 26 exponents, degree -/
def mC (c : Int) (v : List Int) (d : Int) : List Value := .int .i64 c :: (iC .i64 v ++ [.int .i64 d])
theorem mC_len (c : Int) (v : List Int) (d : Int) : (mC c v d).length = v.length + 2 := by simp [mC, iC]
theorem mC_coef (c : Int) (v : List Int) (d : Int) : (mC c v d)[0]? = some (.int .i64 c) := rfl
theorem mC_get {c : Int} {v : List Int} {d : Int} {i : Nat} {x : Int} (h : v[i]? = some x) : (mC c v d)[1 + i]? = some (.int .i64 x) := by
  have := (List.getElem?_eq_some_iff.1 h).1
  rw [Nat.add_comm]
  simp only [mC, List.getElem?_cons_succ]
  rw [List.getElem?_append_left (by rw [iC_len]; omega)]
  exact iC_get h
theorem mC_deg {c : Int} {v : List Int} {d : Int} (h : v.length = 26) : (mC c v d)[27]? = some (.int .i64 d) := by
  simp only [mC, List.getElem?_cons_succ]
  rw [List.getElem?_append_right (by rw [iC_len]; omega), iC_len, h]; rfl
theorem mC_putE (c : Int) (v : List Int) (d : Int) (i : Nat) (x : Int) (h : i < v.length) : putAt (mC c v d) (1 + i) [.int .i64 x] = mC c (v.set i x) d := by
  rw [putAt_one _ _ _ (by rw [mC_len]; omega), Nat.add_comm]
  simp only [mC, List.set_cons_succ]
  rw [List.set_append_left _ _ (by rw [iC_len]; omega)]
  simp [iC, List.map_set]
theorem mC_putD (c : Int) (v : List Int) (d : Int) (x : Int) (h : v.length = 26) : putAt (mC c v d) 27 [.int .i64 x] = mC c v x := by
  rw [putAt_one _ _ _ (by rw [mC_len]; omega)]
  simp only [mC, List.set_cons_succ]
  rw [List.set_append_right _ _ (by rw [iC_len]; omega), iC_len, h]; rfl
theorem mC_putC (c : Int) (v : List Int) (d : Int) (x : Int) : putAt (mC c v d) 0 [.int .i64 x] = mC x v d := by
  rw [putAt_one _ _ _ (by rw [mC_len]; omega)]; rfl
theorem putAll (cs vs : List Value) (h : vs.length = cs.length) : putAt cs 0 vs = vs := by
  simp [putAt, h]
end Go.Mw
