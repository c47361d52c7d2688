/-
  Normalize, plain.
-/
import Derived.Test.YbxaawGreatDiffP
set_option linter.unusedVariables false
set_option linter.unusedSimpArgs false
namespace Go.Mw
def fgB (f : Int × Int) : Bool := decide (0 ≤ f.1 ∧ f.1 < 26 ∧ 0 ≤ f.2 ∧ f.2 ≤ 1000000)
def tgB (t : PT) : Bool := decide (t.2.length ≤ 256) && t.2.all fgB
def inOk (q : List PT) : Bool := decide (q.length ≤ 65536) && q.all tgB
theorem tgB_fg {t : PT} (h : tgB t = true) : Fg t.2 := by
  simp only [tgB, Bool.and_eq_true, decide_eq_true_eq, List.all_eq_true] at h
  exact ⟨h.1, fun f hf => by have := h.2 f hf; simpa [fgB] using this⟩
theorem inOk_fg {q : List PT} (h : inOk q = true) : ∀ t ∈ q, Fg t.2 := fun t ht => by
  simp only [inOk, Bool.and_eq_true, List.all_eq_true] at h
  exact tgB_fg (h.2 t ht)
theorem inOk_len {q : List PT} (h : inOk q = true) : q.length ≤ 65536 := by
  simp only [inOk, Bool.and_eq_true, decide_eq_true_eq] at h; exact h.1
theorem va_all : ∀ (n : Nat) (fs : List (Int × Int)) (j : Nat) (v : List Int), fs.length - j = n → j ≤ fs.length → (∀ f ∈ fs, 0 ≤ f.1 ∧ f.1 < 26 ∧ 0 ≤ f.2 ∧ f.2 ≤ 1000000) → Va fs j v → Va fs fs.length (vec fs)
  | 0, fs, j, v, hn, hj, hr, h => by
    obtain rfl : j = fs.length := by omega
    rw [h.done (Nat.le_refl _)]; exact h
  | n + 1, fs, j, v, hn, hj, hr, h => by
    obtain ⟨f, hf⟩ := nth_of_lt fs j (by omega)
    exact va_all n fs (j + 1) _ (by omega) (by omega) hr (h.next hf (hr f (List.mem_of_getElem? hf)))
theorem Fg.rv {fs : List (Int × Int)} (h : Fg fs) : Rv (vec fs) := (va_all _ fs 0 z26 rfl (Nat.zero_le _) h.rng (Va.start fs)).rv h.len
def normP (q : List PT) : Option (List PT) := if inOk q = true then (if nfOk (nf (ms q)) = true then some (toP (nf (ms q))) else none) else none
theorem ms_vl {q : List PT} (h : inOk q = true) : Vl (ms q) := fun t ht => by
  unfold ms at ht
  rw [List.mem_map] at ht
  obtain ⟨u, hu, rfl⟩ := ht
  exact (inOk_fg h u hu).rv
/-- coefficients in range -/
def Cq (q : List PT) : Prop := ∀ t ∈ q, w64 t.1 = t.1
theorem ms_cr {q : List PT} (h : Cq q) : Cr (ms q) := fun t ht => by
  unfold ms at ht
  rw [List.mem_map] at ht
  obtain ⟨u, hu, rfl⟩ := ht
  exact h u hu
theorem all_snoc {α : Type} {p : α → Bool} {a : List α} {k : Nat} {x : α} (h : a[k]? = some x) (ha : (a.take k).all p = true) (hx : p x = true) : (a.take (k + 1)).all p = true := by
  rw [take_snoc h, List.all_append, ha, Bool.true_and]; simp [hx]
theorem all_bad {α : Type} {p : α → Bool} {a : List α} {k : Nat} {x : α} (h : a[k]? = some x) (hx : p x = false) : a.all p = false := by
  rw [List.all_eq_false]
  exact ⟨x, List.mem_of_getElem? h, by simp [hx]⟩
theorem inOk_long {q : List PT} (h : 65536 < q.length) : inOk q = false := by
  unfold inOk; rw [decide_eq_false (by omega)]; rfl
theorem inOk_bad {q : List PT} {k : Nat} {t : PT} (h : q[k]? = some t) (ht : tgB t = false) : inOk q = false := by
  unfold inOk; rw [all_bad h ht, Bool.and_false]
theorem tgB_long {c : Int} {fs : List (Int × Int)} (h : 256 < fs.length) : tgB (c, fs) = false := by
  unfold tgB; simp only []; rw [decide_eq_false (by omega)]; rfl
theorem tgB_bad {c : Int} {fs : List (Int × Int)} {k : Nat} {a p : Int} (h : fs[k]? = some (a, p)) (ht : ¬ (0 ≤ a ∧ a < 26 ∧ 0 ≤ p ∧ p ≤ 1000000)) : tgB (c, fs) = false := by
  unfold tgB; simp only []; rw [all_bad h (by unfold fgB; exact decide_eq_false ht), Bool.and_false]
theorem tgB_ok {c : Int} {fs : List (Int × Int)} (h : fs.length ≤ 256) (ht : fs.all fgB = true) : tgB (c, fs) = true := by
  unfold tgB; simp only []; rw [decide_eq_true h, ht]; rfl
theorem fgB_ok {a p : Int} (h : 0 ≤ a ∧ a < 26 ∧ 0 ≤ p ∧ p ≤ 1000000) : fgB (a, p) = true := by unfold fgB; exact decide_eq_true h
theorem inOk_ok {q : List PT} (h : q.length ≤ 65536) (ht : q.all tgB = true) : inOk q = true := by
  unfold inOk; rw [decide_eq_true h, ht]; rfl
theorem normP_bad {q : List PT} (h : inOk q = false) : normP q = none := by unfold normP; rw [h]; rfl
theorem nzf_vl {a : List MT} (h : Vl a) : Vl (nzf a) := fun t ht => h t (List.mem_filter.1 ht).1
theorem nzf_cr {a : List MT} (h : Cr a) : Cr (nzf a) := fun t ht => h t (List.mem_filter.1 ht).1
theorem nzf_len (a : List MT) : (nzf a).length ≤ a.length := List.length_filter_le _ _
theorem nf_nzf {a : List MT} (h : Vl a) : nf (nzf a) = nf a := nf_cong (nzf_vl h).len h.len fun v => by rw [csum_nzf]; exact Cg.refl _
theorem nfOk_len {R : List MT} (h : 4096 < R.length) : nfOk R = false := by
  unfold nfOk; rw [decide_eq_false (by omega)]; rfl
theorem nfOk_deg {R : List MT} {k : Nat} {t : MT} (h : R[k]? = some t) (ht : 1000000 < isum t.2) : nfOk R = false := by
  unfold nfOk; rw [all_bad h (decide_eq_false (by omega)), Bool.and_false]
theorem nf_vl {a : List MT} (h : Vl a) : Vl (nf a) := fun t ht => by
  obtain ⟨y, hy, he⟩ := nf_mem ht
  rw [← he]; exact h y hy
end Go.Mw
