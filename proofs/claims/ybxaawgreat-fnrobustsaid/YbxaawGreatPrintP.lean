/-
  Printing, plain.
-/
import Derived.Test.YbxaawGreatPolyP
set_option linter.unusedVariables false
set_option linter.unusedSimpArgs false
namespace Go.Mw

/-! ### decimal digits -/
def dgsF : Nat → Nat → List Nat → List Nat
  | 0, _, acc => acc
  | f + 1, u, acc => if u = 0 then acc else dgsF f (u / 10) ((48 + u % 10) :: acc)
theorem dgsF_zero (f : Nat) (acc : List Nat) : dgsF f 0 acc = acc := by cases f <;> simp [dgsF]
theorem dgsF_step (f u : Nat) (acc : List Nat) (h : u ≠ 0) : dgsF (f + 1) u acc = dgsF f (u / 10) ((48 + u % 10) :: acc) := by rw [dgsF, if_neg h]
/-- the unsigned reading of an int64 -/
def uns (v : Int) : Nat := (v % 18446744073709551616).toNat
theorem uns_lt (v : Int) : uns v < 18446744073709551616 := by unfold uns; omega
def udec (v : Int) : List Nat := if uns v = 0 then [48] else dgsF 20 (uns v) []
theorem dgsF_len : ∀ (f u : Nat) (acc : List Nat), (dgsF f u acc).length ≤ f + acc.length
  | 0, _, acc => by simp [dgsF]
  | f + 1, u, acc => by
    rw [dgsF]
    split
    · omega
    · have := dgsF_len f (u / 10) ((48 + u % 10) :: acc)
      simp only [List.length_cons] at this; omega
theorem udec_len (v : Int) : (udec v).length ≤ 20 := by
  unfold udec
  split
  · simp
  · have := dgsF_len 20 (uns v) []
    simpa using this
theorem dgsF_lt : ∀ (f u : Nat) (acc : List Nat), (∀ x ∈ acc, x < 256) → ∀ x ∈ dgsF f u acc, x < 256
  | 0, _, acc, h => by simpa [dgsF] using h
  | f + 1, u, acc, h => by
    rw [dgsF]
    split
    · exact h
    · refine dgsF_lt f _ _ fun x hx => ?_
      rcases List.mem_cons.1 hx with rfl | hx
      · omega
      · exact h x hx
theorem udec_lt (v : Int) : ∀ x ∈ udec v, x < 256 := by
  unfold udec
  split
  · intro x hx; simp at hx; omega
  · exact dgsF_lt _ _ _ (by simp)

/-! ### from a vector back to its factors -/
def spF : List Int → Nat → List (Int × Int)
  | [], _ => []
  | x :: v, i => if x = 0 then spF v (i + 1) else ((i : Int), x) :: spF v (i + 1)
theorem spF_zero : ∀ (v : List Int) (i : Nat), (∀ x ∈ v, x = 0) → spF v i = []
  | [], _, _ => rfl
  | x :: v, i, h => by
    rw [spF, if_pos (h x (by simp))]
    exact spF_zero v (i + 1) fun y hy => h y (by simp [hy])
theorem spF_set : ∀ (v : List Int) (i a : Nat) (b : Int), a < v.length → (∀ j, a ≤ j → v.getD j 0 = 0) → b ≠ 0 → spF (v.set a b) i = spF v i ++ [(((i + a : Nat) : Int), b)]
  | [], _, a, _, h, _, _ => by simp at h
  | x :: v, i, 0, b, h, hz, hb => by
    have h0 : x = 0 := by simpa using hz 0 (Nat.le_refl _)
    have hv : ∀ y ∈ v, y = 0 := fun y hy => by
      obtain ⟨j, hj⟩ := List.getElem?_of_mem hy
      have := hz (j + 1) (Nat.zero_le _)
      rw [List.getD_cons_succ, List.getD_eq_getElem?_getD, hj] at this
      simpa using this
    rw [List.set_cons_zero, spF, if_neg hb, spF, if_pos h0, spF_zero v _ hv]
    simp
  | x :: v, i, a + 1, b, h, hz, hb => by
    have ih := spF_set v (i + 1) a b (by simpa using h) (fun j hj => by
      have := hz (j + 1) (by omega)
      rwa [List.getD_cons_succ] at this) hb
    rw [List.set_cons_succ, spF, spF, ih]
    have e : i + 1 + a = i + (a + 1) := by omega
    rw [e]
    split <;> simp
theorem spF_vecF : ∀ (fs : List (Int × Int)) (v : List Int) (last : Int), Fv v last → facOk fs last = true → spF (vecF fs v) 0 = spF v 0 ++ fs
  | [], v, last, _, _ => by simp [vecF]
  | f :: fs, v, last, hv, hf => by
    simp only [facOk, Bool.and_eq_true, decide_eq_true_eq] at hf
    obtain ⟨⟨h1, h2, h3, h4⟩, hr⟩ := hf
    have hl := hv.last
    have hn := hv.step h1 h2 h3 h4
    have ih := spF_vecF fs _ _ hn hr
    rw [vecF, ← hv.set_eq h1, ih, spF_set v 0 f.1.toNat f.2 (by rw [hv.len]; omega) (fun j hj => hv.top j (by omega)) (by omega)]
    have e : ((0 + f.1.toNat : Nat) : Int) = f.1 := by omega
    rw [e]
    simp
theorem spF_start : spF z26 0 = [] := spF_zero _ _ (fun x hx => by simp [z26] at hx; exact hx)
theorem spF_vec {fs : List (Int × Int)} (h : facOk fs (-1) = true) : spF (vec fs) 0 = fs := by
  unfold vec
  rw [spF_vecF fs z26 (-1) Fv.start h, spF_start, List.nil_append]
theorem vecF_fv : ∀ (fs : List (Int × Int)) (v : List Int) (last : Int), Fv v last → facOk fs last = true → Fv (vecF fs v) 25
  | [], v, last, hv, _ => hv.any
  | f :: fs, v, last, hv, hf => by
    simp only [facOk, Bool.and_eq_true, decide_eq_true_eq] at hf
    obtain ⟨⟨h1, h2, h3, h4⟩, hr⟩ := hf
    rw [vecF, ← hv.set_eq h1]
    exact vecF_fv fs _ _ (hv.step h1 h2 h3 h4) hr
theorem vec_fv {fs : List (Int × Int)} (h : facOk fs (-1) = true) : Fv (vec fs) 25 := vecF_fv fs z26 (-1) Fv.start h
theorem facOk_len : ∀ (fs : List (Int × Int)) (last : Int), last ≤ 25 → facOk fs last = true → (fs.length : Int) ≤ 25 - last
  | [], last, h, _ => by simp; omega
  | f :: fs, last, h, hf => by
    simp only [facOk, Bool.and_eq_true, decide_eq_true_eq] at hf
    obtain ⟨⟨h1, h2, h3, h4⟩, hr⟩ := hf
    have ih := facOk_len fs f.1 (by omega) hr
    simp only [List.length_cons]; omega
theorem facOk_mem : ∀ (fs : List (Int × Int)) (last : Int), -1 ≤ last → facOk fs last = true → ∀ f ∈ fs, 0 ≤ f.1 ∧ f.1 < 26 ∧ 1 ≤ f.2 ∧ f.2 ≤ 1000000
  | [], last, h, _, f, hf => by cases hf
  | f :: fs, last, h, hf, g, hg => by
    simp only [facOk, Bool.and_eq_true, decide_eq_true_eq] at hf
    obtain ⟨⟨h1, h2, h3, h4⟩, hr⟩ := hf
    rcases List.mem_cons.1 hg with rfl | hg
    · omega
    · exact facOk_mem fs f.1 (by omega) hr g hg

/-! ### what canonical means, term by term -/
structure CT (t : PT) : Prop where
  c0 : t.1 ≠ 0
  ok : facOk t.2 (-1) = true
  deg : isum (vec t.2) ≤ 1000000
theorem CT.fv {t : PT} (h : CT t) : Fv (vec t.2) 25 := vec_fv h.ok
theorem CT.len {t : PT} (h : CT t) : t.2.length ≤ 26 := by have := facOk_len t.2 (-1) (by omega) h.ok; omega
theorem CT.sp {t : PT} (h : CT t) : spF (vec t.2) 0 = t.2 := spF_vec h.ok
theorem CT.mem {t : PT} (h : CT t) : ∀ f ∈ t.2, 0 ≤ f.1 ∧ f.1 < 26 ∧ 1 ≤ f.2 ∧ f.2 ≤ 1000000 := facOk_mem t.2 (-1) (by omega) h.ok
theorem canonL_mem : ∀ (q : List PT) (p : Option (List Int)), canonL q p = true → ∀ t ∈ q, CT t
  | [], _, _, t, ht => by cases ht
  | u :: q, p, h, t, ht => by
    simp only [canonL, Bool.and_eq_true, decide_eq_true_eq] at h
    rcases List.mem_cons.1 ht with rfl | ht
    · exact ⟨h.1.1.1.1, h.1.1.1.2, h.1.1.2⟩
    · exact canonL_mem q _ h.2 t ht
theorem canon_len {q : List PT} (h : canon q = true) : q.length ≤ 4096 := by
  simp only [canon, Bool.and_eq_true, decide_eq_true_eq] at h; exact h.1
theorem canon_mem {q : List PT} (h : canon q = true) : ∀ t ∈ q, CT t := by
  simp only [canon, Bool.and_eq_true] at h; exact canonL_mem q none h.2
theorem canon_nth {q : List PT} (h : canon q = true) {k : Nat} {t : PT} (ht : q[k]? = some t) : CT t := canon_mem h t (List.mem_of_getElem? ht)

/-! ### the text of a polynomial -/
def fac (f : Int × Int) : List Nat := (97 + f.1.toNat) :: (if f.2 = 1 then [] else 94 :: udec f.2)
def pf : List (Int × Int) → Bool → List Nat
  | [], _ => []
  | f :: fs, first => (if first then [] else [42]) ++ (fac f ++ pf fs false)
def prT (t : PT) : List Nat := if t.2 = [] then udec t.1 else if t.1 = 1 then pf t.2 true else udec t.1 ++ pf t.2 false
def prQ : List PT → Bool → List Nat
  | [], _ => []
  | t :: r, b => (if b then [43] else []) ++ (prT t ++ prQ r true)
def printP (q : List PT) : List Nat := if q = [] then [48] else prQ q false
theorem pf_false (fs : List (Int × Int)) (h : fs ≠ []) : pf fs false = 42 :: pf fs true := by
  cases fs with
  | nil => exact absurd rfl h
  | cons f fs => simp [pf]
theorem isum_pos : ∀ (v : List Int), (∀ x ∈ v, 0 ≤ x) → isum v = 0 → ∀ x ∈ v, x = 0
  | [], _, _, x, hx => by cases hx
  | y :: v, h, hs, x, hx => by
    have h1 := h y (by simp)
    have h2 : 0 ≤ isum v := by
      have : ∀ (u : List Int), (∀ x ∈ u, 0 ≤ x) → 0 ≤ isum u := by
        intro u
        induction u with
        | nil => intro _; simp [isum]
        | cons a u ih => intro hu; have := ih (fun b hb => hu b (by simp [hb])); have := hu a (by simp); simp only [isum]; omega
      exact this v fun b hb => h b (by simp [hb])
    simp only [isum] at hs
    rcases List.mem_cons.1 hx with rfl | hx
    · omega
    · exact isum_pos v (fun b hb => h b (by simp [hb])) (by omega) x hx
/-- the degree is nought where there is no factor -/
theorem CT.deg0 {t : PT} (h : CT t) : isum (vec t.2) = 0 ↔ t.2 = [] := by
  constructor
  · intro hs
    rw [← h.sp]
    exact spF_zero _ _ (isum_pos _ (fun x hx => (h.fv.rng x hx).1) hs)
  · intro e; rw [e]; exact isum_z26
theorem fac_len (f : Int × Int) : (fac f).length ≤ 22 := by
  unfold fac
  have := udec_len f.2
  split <;> simp only [List.length_cons, List.length_nil]
  · omega
  · omega
theorem pf_len : ∀ (fs : List (Int × Int)) (b : Bool), (pf fs b).length ≤ fs.length * 23
  | [], _ => by simp [pf]
  | f :: fs, b => by
    have := pf_len fs false
    have := fac_len f
    simp only [pf, List.length_append, List.length_cons, Nat.add_mul]
    split <;> simp only [List.length_cons, List.length_nil] <;> omega
end Go.Mw
