/-
  Trees of expressions; the parser, plain.
-/
import Derived.Test.YbxaawGreatPolyM
set_option linter.unusedVariables false
set_option linter.unusedSimpArgs false
namespace Go.Mw
/-- a tree: kind, value, variable, and 0, 1 or 2 subtrees -/
structure Tre where
  k : Int
  v : Int
  x : Int
  n : Nat
  kid : Fin n → Tre
def lf (k v x : Int) : Tre := ⟨k, v, x, 0, fun i => i.elim0⟩
def u1 (k v : Int) (a : Tre) : Tre := ⟨k, v, 0, 1, fun _ => a⟩
def b2 (k : Int) (a b : Tre) : Tre := ⟨k, 0, 0, 2, fun i => if i.val = 0 then a else b⟩
def tsz : Tre → Nat
  | ⟨_, _, _, 0, _⟩ => 1
  | ⟨_, _, _, 1, c⟩ => 1 + tsz (c 0)
  | ⟨_, _, _, _ + 2, c⟩ => 1 + tsz (c 0) + tsz (c 1)
theorem tsz_lf (k v x : Int) : tsz (lf k v x) = 1 := rfl
theorem tsz_u1 (k v : Int) (a : Tre) : tsz (u1 k v a) = 1 + tsz a := rfl
theorem tsz_b2 (k : Int) (a b : Tre) : tsz (b2 k a b) = 1 + tsz a + tsz b := rfl
abbrev Nd := Int × Int × Int × Int × Int
/-- the nodes in postorder; the first one's number is b -/
def flat : Tre → Nat → List Nd
  | ⟨k, v, x, 0, _⟩, _ => [(k, v, x, -1, -1)]
  | ⟨k, v, x, 1, c⟩, b => flat (c 0) b ++ [(k, v, x, (b : Int) + tsz (c 0) - 1, -1)]
  | ⟨k, v, x, _ + 2, c⟩, b => flat (c 0) b ++ flat (c 1) (b + tsz (c 0)) ++ [(k, v, x, (b : Int) + tsz (c 0) - 1, (b : Int) + tsz (c 0) + tsz (c 1) - 1)]
theorem flat_lf (k v x : Int) (b : Nat) : flat (lf k v x) b = [(k, v, x, -1, -1)] := rfl
theorem flat_u1 (k v : Int) (a : Tre) (b : Nat) : flat (u1 k v a) b = flat a b ++ [(k, v, 0, (b : Int) + tsz a - 1, -1)] := rfl
theorem flat_b2 (k : Int) (a c : Tre) (b : Nat) : flat (b2 k a c) b = flat a b ++ flat c (b + tsz a) ++ [(k, 0, 0, (b : Int) + tsz a - 1, (b : Int) + tsz a + tsz c - 1)] := rfl
/-- induction -/
theorem Tre.ind {p : Tre → Prop} (h0 : ∀ k v x c, p ⟨k, v, x, 0, c⟩) (h1 : ∀ k v x c, p (c 0) → p ⟨k, v, x, 1, c⟩) (h2 : ∀ k v x n (c : Fin (n + 2) → Tre), p (c 0) → p (c 1) → p ⟨k, v, x, n + 2, c⟩) : ∀ t, p t
  | ⟨k, v, x, 0, c⟩ => h0 k v x c
  | ⟨k, v, x, 1, c⟩ => h1 k v x c (Tre.ind h0 h1 h2 (c 0))
  | ⟨k, v, x, n + 2, c⟩ => h2 k v x n c (Tre.ind h0 h1 h2 (c 0)) (Tre.ind h0 h1 h2 (c 1))
theorem tsz_pos : ∀ t : Tre, 1 ≤ tsz t := Tre.ind (fun k v x c => by rw [tsz]; omega) (fun k v x c h => by rw [tsz]; omega) (fun k v x n c h1 h2 => by rw [tsz]; omega)
theorem flat_len : ∀ (t : Tre) (b : Nat), (flat t b).length = tsz t := Tre.ind (fun k v x c b => rfl)
  (fun k v x c h b => by rw [flat, tsz, List.length_append, h b]; simp; omega)
  (fun k v x n c h1 h2 b => by rw [flat, tsz, List.length_append, List.length_append, h1 b, h2 _]; simp; omega)

/-! ### the parser -/
abbrev TK := Int × Int
def hk : List TK → Int
  | [] => 0
  | t :: _ => t.1
def hv : List TK → Int
  | [] => 0
  | t :: _ => t.2
abbrev PR := Option (Tre × List TK)
section
variable (c : Bool) (E : Nat → List TK → PR)
def prim (d : Nat) (r : List TK) : PR :=
  if hk r = 1 then some (lf 1 (hv r) 0, r.tail) else if hk r = 2 then some (lf 2 0 (hv r), r.tail) else if hk r = 7 then
    (if c = true ∧ 5000 < d + 1 then none else match E (d + 1) r.tail with
      | none => none
      | some (t, r2) => if hk r2 = 8 then some (t, r2.tail) else none)
  else none
def powr (d : Nat) (r : List TK) : PR := match prim c E d r with
  | none => none
  | some (t, r1) => if hk r1 = 6 then (if hk r1.tail = 1 ∧ 0 ≤ hv r1.tail ∧ hv r1.tail ≤ 1000000 then some (u1 7 (hv r1.tail) t, r1.tail.tail) else none) else some (t, r1)
def lead : List TK → Nat
  | [] => 0
  | t :: r => if t.1 = 4 then lead r + 1 else 0
def negs : Nat → Tre → Tre
  | 0, t => t
  | n + 1, t => u1 3 0 (negs n t)
def unry (d : Nat) (r : List TK) : PR := match powr c E d (r.drop (lead r)) with
  | none => none
  | some (t, r1) => some (negs (lead r) t, r1)
def tloop (d : Nat) : Nat → Tre → List TK → PR
  | 0, l, r => some (l, r)
  | n + 1, l, r => if hk r = 5 then (match unry c E d r.tail with
      | none => none
      | some (x, r1) => tloop d n (b2 6 l x) r1) else some (l, r)
def trm (d : Nat) (r : List TK) : PR := match unry c E d r with
  | none => none
  | some (l, r1) => tloop c E d r1.length l r1
def eloop (d : Nat) : Nat → Tre → List TK → PR
  | 0, l, r => some (l, r)
  | n + 1, l, r => if hk r = 3 ∨ hk r = 4 then (match trm c E d r.tail with
      | none => none
      | some (x, r1) => eloop d n (b2 (if hk r = 4 then 5 else 4) l x) r1) else some (l, r)
def expr (d : Nat) (r : List TK) : PR := match trm c E d r with
  | none => none
  | some (l, r1) => eloop c E d r1.length l r1
end
def pE (c : Bool) : Nat → Nat → List TK → PR
  | 0, _, _ => none
  | n + 1, d, r => expr c (pE c n) d r

/-! ### what is left is a tail of what was given -/
def Sx (f : Nat → List TK → PR) : Prop := ∀ d r t r', f d r = some (t, r') → r' <:+ r
theorem tail_sx (r : List TK) : r.tail <:+ r := List.tail_suffix r
theorem hk_ne {r : List TK} (h : hk r ≠ 0) : r ≠ [] := by rintro rfl; exact h rfl
theorem tail_len {r : List TK} (h : hk r ≠ 0) : r.tail.length + 1 = r.length := by
  cases r with
  | nil => exact absurd rfl h
  | cons t r => simp
section
variable {c : Bool} {E : Nat → List TK → PR}
theorem prim_sx (hE : Sx E) : Sx (prim c E) := fun d r t r' h => by
  unfold prim at h
  split at h
  · simp only [Option.some.injEq, Prod.mk.injEq] at h; rw [← h.2]; exact tail_sx r
  · split at h
    · simp only [Option.some.injEq, Prod.mk.injEq] at h; rw [← h.2]; exact tail_sx r
    · split at h
      · split at h
        · cases h
        · split at h
          · cases h
          · rename_i t2 r2 he
            split at h
            · simp only [Option.some.injEq, Prod.mk.injEq] at h; rw [← h.2]
              exact ((tail_sx r2).trans (hE _ _ _ _ he)).trans (tail_sx r)
            · cases h
      · cases h
theorem powr_sx (hE : Sx E) : Sx (powr c E) := fun d r t r' h => by
  unfold powr at h
  split at h
  · cases h
  · rename_i t1 r1 he
    have h1 := prim_sx hE _ _ _ _ he
    split at h
    · split at h
      · simp only [Option.some.injEq, Prod.mk.injEq] at h; rw [← h.2]
        exact ((tail_sx _).trans (tail_sx _)).trans h1
      · cases h
    · simp only [Option.some.injEq, Prod.mk.injEq] at h; rw [← h.2]; exact h1
theorem unry_sx (hE : Sx E) : Sx (unry c E) := fun d r t r' h => by
  unfold unry at h
  split at h
  · cases h
  · rename_i t1 r1 he
    simp only [Option.some.injEq, Prod.mk.injEq] at h; rw [← h.2]
    exact (powr_sx hE _ _ _ _ he).trans (List.drop_suffix _ _)
theorem tloop_sx (hE : Sx E) (d : Nat) : ∀ (n : Nat) (l : Tre) (r : List TK) (t : Tre) (r' : List TK), tloop c E d n l r = some (t, r') → r' <:+ r
  | 0, l, r, t, r', h => by rw [tloop] at h; simp only [Option.some.injEq, Prod.mk.injEq] at h; rw [← h.2]; exact List.suffix_refl _
  | n + 1, l, r, t, r', h => by
    rw [tloop] at h
    split at h
    · split at h
      · cases h
      · rename_i x r1 he
        exact ((tloop_sx hE d n _ _ _ _ h).trans (unry_sx hE _ _ _ _ he)).trans (tail_sx r)
    · simp only [Option.some.injEq, Prod.mk.injEq] at h; rw [← h.2]; exact List.suffix_refl _
theorem trm_sx (hE : Sx E) : Sx (trm c E) := fun d r t r' h => by
  unfold trm at h
  split at h
  · cases h
  · rename_i l r1 he
    exact (tloop_sx hE d _ _ _ _ _ h).trans (unry_sx hE _ _ _ _ he)
theorem eloop_sx (hE : Sx E) (d : Nat) : ∀ (n : Nat) (l : Tre) (r : List TK) (t : Tre) (r' : List TK), eloop c E d n l r = some (t, r') → r' <:+ r
  | 0, l, r, t, r', h => by rw [eloop] at h; simp only [Option.some.injEq, Prod.mk.injEq] at h; rw [← h.2]; exact List.suffix_refl _
  | n + 1, l, r, t, r', h => by
    rw [eloop] at h
    split at h
    · split at h
      · cases h
      · rename_i x r1 he
        exact ((eloop_sx hE d n _ _ _ _ h).trans (trm_sx hE _ _ _ _ he)).trans (tail_sx r)
    · simp only [Option.some.injEq, Prod.mk.injEq] at h; rw [← h.2]; exact List.suffix_refl _
theorem expr_sx (hE : Sx E) : Sx (expr c E) := fun d r t r' h => by
  unfold expr at h
  split at h
  · cases h
  · rename_i l r1 he
    exact (eloop_sx hE d _ _ _ _ _ h).trans (trm_sx hE _ _ _ _ he)
end
theorem pE_sx (c : Bool) : ∀ n, Sx (pE c n)
  | 0 => fun d r t r' h => by cases h
  | n + 1 => expr_sx (pE_sx c n)
section
variable {c : Bool} {E : Nat → List TK → PR}
/-- enough rounds are enough -/
theorem tloop_fuel (hE : Sx E) (d : Nat) : ∀ (n m : Nat) (l : Tre) (r : List TK), r.length ≤ n → r.length ≤ m → tloop c E d n l r = tloop c E d m l r
  | 0, 0, l, r, _, _ => rfl
  | 0, m + 1, l, r, h, _ => by
    have : r = [] := List.eq_nil_of_length_eq_zero (by omega)
    subst this; simp [tloop, hk]
  | n + 1, 0, l, r, _, h => by
    have : r = [] := List.eq_nil_of_length_eq_zero (by omega)
    subst this; simp [tloop, hk]
  | n + 1, m + 1, l, r, h1, h2 => by
    rw [tloop, tloop]
    split
    · rename_i h5
      have hl := tail_len (r := r) (by omega)
      cases he : unry c E d r.tail with
      | none => rfl
      | some p =>
        obtain ⟨x, r1⟩ := p
        have := (unry_sx hE _ _ _ _ he).length_le
        exact tloop_fuel hE d n m _ _ (by omega) (by omega)
    · rfl
theorem eloop_fuel (hE : Sx E) (d : Nat) : ∀ (n m : Nat) (l : Tre) (r : List TK), r.length ≤ n → r.length ≤ m → eloop c E d n l r = eloop c E d m l r
  | 0, 0, l, r, _, _ => rfl
  | 0, m + 1, l, r, h, _ => by
    have : r = [] := List.eq_nil_of_length_eq_zero (by omega)
    subst this; simp [eloop, hk]
  | n + 1, 0, l, r, _, h => by
    have : r = [] := List.eq_nil_of_length_eq_zero (by omega)
    subst this; simp [eloop, hk]
  | n + 1, m + 1, l, r, h1, h2 => by
    rw [eloop, eloop]
    split
    · rename_i h5
      have hl := tail_len (r := r) (by omega)
      cases he : trm c E d r.tail with
      | none => rfl
      | some p =>
        obtain ⟨x, r1⟩ := p
        have := (trm_sx hE _ _ _ _ he).length_le
        exact eloop_fuel hE d n m _ _ (by omega) (by omega)
    · rfl
/-- one round -/
theorem tloop_step (hE : Sx E) (d : Nat) (l : Tre) (r : List TK) : tloop c E d r.length l r = if hk r = 5 then (match unry c E d r.tail with
      | none => none
      | some (x, r1) => tloop c E d r1.length (b2 6 l x) r1) else some (l, r) := by
  cases r with
  | nil => simp [tloop, hk]
  | cons t r =>
    rw [List.length_cons, tloop]
    split
    · cases he : unry c E d (List.tail (t :: r)) with
      | none => rfl
      | some p =>
        obtain ⟨x, r1⟩ := p
        have := (unry_sx hE _ _ _ _ he).length_le
        simp only [List.tail_cons] at this
        exact tloop_fuel hE d _ _ _ _ (by omega) (Nat.le_refl _)
    · rfl
theorem eloop_step (hE : Sx E) (d : Nat) (l : Tre) (r : List TK) : eloop c E d r.length l r = if hk r = 3 ∨ hk r = 4 then (match trm c E d r.tail with
      | none => none
      | some (x, r1) => eloop c E d r1.length (b2 (if hk r = 4 then 5 else 4) l x) r1) else some (l, r) := by
  cases r with
  | nil => simp [eloop, hk]
  | cons t r =>
    rw [List.length_cons, eloop]
    split
    · cases he : trm c E d (List.tail (t :: r)) with
      | none => rfl
      | some p =>
        obtain ⟨x, r1⟩ := p
        have := (trm_sx hE _ _ _ _ he).length_le
        simp only [List.tail_cons] at this
        exact eloop_fuel hE d _ _ _ _ (by omega) (Nat.le_refl _)
    · rfl
theorem unry_minus {d : Nat} {r : List TK} (h : hk r = 4) : unry c E d r = match unry c E d r.tail with
      | none => none
      | some (t, r1) => some (u1 3 0 t, r1) := by
  cases r with
  | nil => simp [hk] at h
  | cons t r =>
    have h' : t.1 = 4 := h
    have hl : lead (t :: r) = lead r + 1 := by rw [lead, if_pos h']
    unfold unry
    rw [hl, List.drop_succ_cons, List.tail_cons]
    cases powr c E d (r.drop (lead r)) with
    | none => rfl
    | some p => rfl
theorem unry_other {d : Nat} {r : List TK} (h : hk r ≠ 4) : unry c E d r = powr c E d r := by
  have hl : lead r = 0 := by
    cases r with
    | nil => rfl
    | cons t r => exact if_neg h
  unfold unry
  rw [hl, List.drop_zero]
  cases powr c E d r with
  | none => rfl
  | some p => rfl
/-! ### sizes -/
theorem tloop_size (d : Nat) : ∀ (n : Nat) (l : Tre) (r : List TK) (t : Tre) (r' : List TK), tloop c E d n l r = some (t, r') → tsz l ≤ tsz t
  | 0, l, r, t, r', h => by rw [tloop] at h; simp only [Option.some.injEq, Prod.mk.injEq] at h; rw [← h.1]; omega
  | n + 1, l, r, t, r', h => by
    rw [tloop] at h
    split at h
    · split at h
      · cases h
      · rename_i x r1 he
        have := tloop_size d n _ _ _ _ h
        rw [tsz_b2] at this; omega
    · simp only [Option.some.injEq, Prod.mk.injEq] at h; rw [← h.1]; omega
theorem eloop_size (d : Nat) : ∀ (n : Nat) (l : Tre) (r : List TK) (t : Tre) (r' : List TK), eloop c E d n l r = some (t, r') → tsz l ≤ tsz t
  | 0, l, r, t, r', h => by rw [eloop] at h; simp only [Option.some.injEq, Prod.mk.injEq] at h; rw [← h.1]; omega
  | n + 1, l, r, t, r', h => by
    rw [eloop] at h
    split at h
    · split at h
      · cases h
      · rename_i x r1 he
        have := eloop_size d n _ _ _ _ h
        rw [tsz_b2] at this; omega
    · simp only [Option.some.injEq, Prod.mk.injEq] at h; rw [← h.1]; omega
theorem tsz_negs : ∀ (n : Nat) (t : Tre), tsz (negs n t) = n + tsz t
  | 0, t => by simp [negs]
  | n + 1, t => by rw [negs, tsz_u1, tsz_negs n t]; omega
end
/-- the room for nodes -/
def lim (b : Nat) (o : PR) : PR := match o with
  | none => none
  | some (t, r) => if b + tsz t ≤ 500000 then some (t, r) else none

/-! ### the depth of parentheses -/
def dl : List TK → Nat → Option Nat
  | [], d => some d
  | t :: r, d => if t.1 = 7 then (if 5000 < d + 1 then none else dl r (d + 1)) else if t.1 = 8 then dl r (d - 1) else dl r d
structure Rl (f g : Nat → List TK → PR) : Prop where
  to : ∀ d r t r', f d r = some (t, r') → g d r = some (t, r') ∧ dl r d = dl r' d
  back : ∀ d r t r', g d r = some (t, r') → dl r d ≠ none → f d r = some (t, r')
theorem dl_tail {r : List TK} {d : Nat} (h7 : hk r ≠ 7) (h8 : hk r ≠ 8) : dl r d = dl r.tail d := by
  cases r with
  | nil => rfl
  | cons t r =>
    have h7' : ¬ t.1 = 7 := h7
    have h8' : ¬ t.1 = 8 := h8
    rw [dl, if_neg h7', if_neg h8']; rfl
theorem dl_open {r : List TK} {d : Nat} (h7 : hk r = 7) (hd : ¬ 5000 < d + 1) : dl r d = dl r.tail (d + 1) := by
  cases r with
  | nil => simp [hk] at h7
  | cons t r =>
    have h7' : t.1 = 7 := h7
    rw [dl, if_pos h7', if_neg hd]; rfl
theorem dl_open_no {r : List TK} {d : Nat} (h7 : hk r = 7) (hd : 5000 < d + 1) : dl r d = none := by
  cases r with
  | nil => simp [hk] at h7
  | cons t r =>
    have h7' : t.1 = 7 := h7
    rw [dl, if_pos h7', if_pos hd]
theorem dl_shut {r : List TK} {d : Nat} (h8 : hk r = 8) : dl r (d + 1) = dl r.tail d := by
  cases r with
  | nil => simp [hk] at h8
  | cons t r =>
    have h : t.1 = 8 := h8
    rw [dl, if_neg (by omega), if_pos h]; rfl
section
variable {E F : Nat → List TK → PR}
theorem Rl.prim (h : Rl E F) : Rl (prim true E) (prim false F) := by
  constructor
  · intro d r t r' hf
    unfold Go.Mw.prim at hf ⊢
    split at hf
    · rename_i h1
      rw [if_pos h1]
      refine ⟨hf, ?_⟩
      simp only [Option.some.injEq, Prod.mk.injEq] at hf
      rw [← hf.2]; exact dl_tail (by omega) (by omega)
    · rename_i h1
      rw [if_neg h1]
      split at hf
      · rename_i h2
        rw [if_pos h2]
        refine ⟨hf, ?_⟩
        simp only [Option.some.injEq, Prod.mk.injEq] at hf
        rw [← hf.2]; exact dl_tail (by omega) (by omega)
      · rename_i h2
        rw [if_neg h2]
        split at hf
        · rename_i h7
          rw [if_pos h7, if_neg (by simp)]
          split at hf
          · cases hf
          · rename_i hd
            have hd' : ¬ 5000 < d + 1 := fun e => hd ⟨rfl, e⟩
            cases he : E (d + 1) r.tail with
            | none => rw [he] at hf; cases hf
            | some p =>
              obtain ⟨t2, r2⟩ := p
              rw [he] at hf
              simp only [] at hf
              obtain ⟨hg, hdl⟩ := h.to _ _ _ _ he
              rw [hg]
              simp only []
              split at hf
              · rename_i h8
                rw [if_pos h8]
                refine ⟨hf, ?_⟩
                simp only [Option.some.injEq, Prod.mk.injEq] at hf
                rw [← hf.2, dl_open h7 hd', hdl, dl_shut h8]
              · cases hf
        · cases hf
  · intro d r t r' hg hdl
    unfold Go.Mw.prim at hg ⊢
    split at hg
    · rename_i h1
      rw [if_pos h1]; exact hg
    · rename_i h1
      rw [if_neg h1]
      split at hg
      · rename_i h2
        rw [if_pos h2]; exact hg
      · rename_i h2
        rw [if_neg h2]
        split at hg
        · rename_i h7
          rw [if_neg (by simp)] at hg
          rw [if_pos h7]
          by_cases hd : 5000 < d + 1
          · exact absurd (dl_open_no h7 hd) hdl
          · rw [if_neg (fun e => hd e.2)]
            cases he : F (d + 1) r.tail with
            | none => rw [he] at hg; cases hg
            | some p =>
              obtain ⟨t2, r2⟩ := p
              rw [he] at hg
              simp only [] at hg
              rw [h.back _ _ _ _ he (by rw [← dl_open h7 hd]; exact hdl)]
              exact hg
        · cases hg
theorem Rl.powr (h : Rl E F) : Rl (powr true E) (powr false F) := by
  have hp := h.prim
  constructor
  · intro d r t r' hf
    unfold Go.Mw.powr at hf ⊢
    cases he : Go.Mw.prim true E d r with
    | none => rw [he] at hf; cases hf
    | some p =>
      obtain ⟨t1, r1⟩ := p
      rw [he] at hf
      obtain ⟨hg, hdl⟩ := hp.to _ _ _ _ he
      rw [hg]
      simp only [] at hf ⊢
      split at hf
      · rename_i h6
        rw [if_pos h6]
        split at hf
        · rename_i h1
          rw [if_pos h1]
          refine ⟨hf, ?_⟩
          simp only [Option.some.injEq, Prod.mk.injEq] at hf
          rw [← hf.2, hdl, dl_tail (by omega) (by omega), dl_tail (by omega) (by omega)]
        · cases hf
      · rename_i h6
        rw [if_neg h6]
        refine ⟨hf, ?_⟩
        simp only [Option.some.injEq, Prod.mk.injEq] at hf
        rw [← hf.2, hdl]
  · intro d r t r' hg hdl
    unfold Go.Mw.powr at hg ⊢
    cases he : Go.Mw.prim false F d r with
    | none => rw [he] at hg; cases hg
    | some p =>
      obtain ⟨t1, r1⟩ := p
      rw [he] at hg
      rw [hp.back _ _ _ _ he hdl]
      exact hg
theorem dl_lead (d : Nat) : ∀ r : List TK, dl r d = dl (r.drop (lead r)) d
  | [] => rfl
  | t :: r => by
    by_cases h : t.1 = 4
    · have hl : lead (t :: r) = lead r + 1 := by rw [lead, if_pos h]
      rw [hl, List.drop_succ_cons, dl, if_neg (by omega), if_neg (by omega)]
      exact dl_lead d r
    · have hl : lead (t :: r) = 0 := by rw [lead, if_neg h]
      rw [hl, List.drop_zero]
theorem Rl.unry (h : Rl E F) : Rl (unry true E) (unry false F) := by
  have hp := h.powr
  constructor
  · intro d r t r' hf
    unfold Go.Mw.unry at hf ⊢
    cases he : Go.Mw.powr true E d (r.drop (lead r)) with
    | none => rw [he] at hf; cases hf
    | some p =>
      obtain ⟨t1, r1⟩ := p
      rw [he] at hf
      obtain ⟨hg, hdl⟩ := hp.to _ _ _ _ he
      rw [hg]
      refine ⟨hf, ?_⟩
      simp only [Option.some.injEq, Prod.mk.injEq] at hf
      rw [← hf.2, dl_lead, hdl]
  · intro d r t r' hg hdl
    unfold Go.Mw.unry at hg ⊢
    cases he : Go.Mw.powr false F d (r.drop (lead r)) with
    | none => rw [he] at hg; cases hg
    | some p =>
      obtain ⟨t1, r1⟩ := p
      rw [he] at hg
      rw [hp.back _ _ _ _ he (by rw [← dl_lead]; exact hdl)]
      exact hg
theorem Rl.tloop (h : Rl E F) (d : Nat) : ∀ (n : Nat) (l : Tre) (r : List TK) (t : Tre) (r' : List TK), (tloop true E d n l r = some (t, r') → tloop false F d n l r = some (t, r') ∧ dl r d = dl r' d) ∧ (tloop false F d n l r = some (t, r') → dl r d ≠ none → tloop true E d n l r = some (t, r'))
  | 0, l, r, t, r' => by
    constructor
    · intro hf
      refine ⟨hf, ?_⟩
      rw [Go.Mw.tloop] at hf
      simp only [Option.some.injEq, Prod.mk.injEq] at hf
      rw [← hf.2]
    · intro hf _; exact hf
  | n + 1, l, r, t, r' => by
    have hu := h.unry
    rw [Go.Mw.tloop, Go.Mw.tloop]
    by_cases h5 : hk r = 5
    · rw [if_pos h5, if_pos h5]
      have ht : dl r d = dl r.tail d := dl_tail (by omega) (by omega)
      constructor
      · intro hf
        cases he : Go.Mw.unry true E d r.tail with
        | none => rw [he] at hf; cases hf
        | some p =>
          obtain ⟨x, r1⟩ := p
          rw [he] at hf
          obtain ⟨hg, hdl⟩ := hu.to _ _ _ _ he
          rw [hg]
          obtain ⟨h1, h2⟩ := (Rl.tloop h d n _ _ _ _).1 hf
          exact ⟨h1, by rw [ht, hdl, h2]⟩
      · intro hg hdl
        cases he : Go.Mw.unry false F d r.tail with
        | none => rw [he] at hg; cases hg
        | some p =>
          obtain ⟨x, r1⟩ := p
          rw [he] at hg
          have hb := hu.back _ _ _ _ he (by rw [← ht]; exact hdl)
          rw [hb]
          exact (Rl.tloop h d n _ _ _ _).2 hg (by rw [← (hu.to _ _ _ _ hb).2, ← ht]; exact hdl)
    · rw [if_neg h5, if_neg h5]
      constructor
      · intro hf
        refine ⟨hf, ?_⟩
        simp only [Option.some.injEq, Prod.mk.injEq] at hf
        rw [← hf.2]
      · intro hf _; exact hf
theorem Rl.trm (h : Rl E F) : Rl (trm true E) (trm false F) := by
  have hu := h.unry
  constructor
  · intro d r t r' hf
    unfold Go.Mw.trm at hf ⊢
    cases he : Go.Mw.unry true E d r with
    | none => rw [he] at hf; cases hf
    | some p =>
      obtain ⟨x, r1⟩ := p
      rw [he] at hf
      obtain ⟨hg, hdl⟩ := hu.to _ _ _ _ he
      rw [hg]
      obtain ⟨h1, h2⟩ := (Rl.tloop h d _ _ _ _ _).1 hf
      exact ⟨h1, by rw [hdl, h2]⟩
  · intro d r t r' hg hdl
    unfold Go.Mw.trm at hg ⊢
    cases he : Go.Mw.unry false F d r with
    | none => rw [he] at hg; cases hg
    | some p =>
      obtain ⟨x, r1⟩ := p
      rw [he] at hg
      have hb := hu.back _ _ _ _ he hdl
      rw [hb]
      exact (Rl.tloop h d _ _ _ _ _).2 hg (by rw [← (hu.to _ _ _ _ hb).2]; exact hdl)
theorem Rl.eloop (h : Rl E F) (d : Nat) : ∀ (n : Nat) (l : Tre) (r : List TK) (t : Tre) (r' : List TK), (eloop true E d n l r = some (t, r') → eloop false F d n l r = some (t, r') ∧ dl r d = dl r' d) ∧ (eloop false F d n l r = some (t, r') → dl r d ≠ none → eloop true E d n l r = some (t, r'))
  | 0, l, r, t, r' => by
    constructor
    · intro hf
      refine ⟨hf, ?_⟩
      rw [Go.Mw.eloop] at hf
      simp only [Option.some.injEq, Prod.mk.injEq] at hf
      rw [← hf.2]
    · intro hf _; exact hf
  | n + 1, l, r, t, r' => by
    have hu := h.trm
    rw [Go.Mw.eloop, Go.Mw.eloop]
    by_cases h5 : hk r = 3 ∨ hk r = 4
    · rw [if_pos h5, if_pos h5]
      have ht : dl r d = dl r.tail d := dl_tail (by omega) (by omega)
      constructor
      · intro hf
        cases he : Go.Mw.trm true E d r.tail with
        | none => rw [he] at hf; cases hf
        | some p =>
          obtain ⟨x, r1⟩ := p
          rw [he] at hf
          obtain ⟨hg, hdl⟩ := hu.to _ _ _ _ he
          rw [hg]
          obtain ⟨h1, h2⟩ := (Rl.eloop h d n _ _ _ _).1 hf
          exact ⟨h1, by rw [ht, hdl, h2]⟩
      · intro hg hdl
        cases he : Go.Mw.trm false F d r.tail with
        | none => rw [he] at hg; cases hg
        | some p =>
          obtain ⟨x, r1⟩ := p
          rw [he] at hg
          have hb := hu.back _ _ _ _ he (by rw [← ht]; exact hdl)
          rw [hb]
          exact (Rl.eloop h d n _ _ _ _).2 hg (by rw [← (hu.to _ _ _ _ hb).2, ← ht]; exact hdl)
    · rw [if_neg h5, if_neg h5]
      constructor
      · intro hf
        refine ⟨hf, ?_⟩
        simp only [Option.some.injEq, Prod.mk.injEq] at hf
        rw [← hf.2]
      · intro hf _; exact hf
theorem Rl.expr (h : Rl E F) : Rl (expr true E) (expr false F) := by
  have hu := h.trm
  constructor
  · intro d r t r' hf
    unfold Go.Mw.expr at hf ⊢
    cases he : Go.Mw.trm true E d r with
    | none => rw [he] at hf; cases hf
    | some p =>
      obtain ⟨x, r1⟩ := p
      rw [he] at hf
      obtain ⟨hg, hdl⟩ := hu.to _ _ _ _ he
      rw [hg]
      obtain ⟨h1, h2⟩ := (Rl.eloop h d _ _ _ _ _).1 hf
      exact ⟨h1, by rw [hdl, h2]⟩
  · intro d r t r' hg hdl
    unfold Go.Mw.expr at hg ⊢
    cases he : Go.Mw.trm false F d r with
    | none => rw [he] at hg; cases hg
    | some p =>
      obtain ⟨x, r1⟩ := p
      rw [he] at hg
      have hb := hu.back _ _ _ _ he hdl
      rw [hb]
      exact (Rl.eloop h d _ _ _ _ _).2 hg (by rw [← (hu.to _ _ _ _ hb).2]; exact hdl)
end
theorem pE_rl : ∀ n, Rl (pE true n) (pE false n)
  | 0 => ⟨fun d r t r' h => (by cases h), fun d r t r' h => (by cases h)⟩
  | n + 1 => (pE_rl n).expr

/-! ### the whole -/
def tokOk (t : TK) : Bool := decide (1 ≤ t.1 ∧ t.1 ≤ 8 ∧ (t.1 = 2 → 0 ≤ t.2 ∧ t.2 ≤ 25) ∧ (t.1 ≠ 1 → t.1 ≠ 2 → t.2 = 0))
def parseP (ts : List TK) : Option Tre :=
  if ts.length = 0 ∨ 2000000 < ts.length ∨ ts.all tokOk = false ∨ dl ts 0 = none then none else match pE false (ts.length + 1) 0 ts with
    | none => none
    | some (t, r) => if r.length = 0 ∧ tsz t ≤ 500000 then some t else none
theorem parse_impl {ts : List TK} (h0 : ts.length ≠ 0) (h1 : ts.length ≤ 2000000) (h2 : ts.all tokOk = true) : parseP ts = match lim 0 (pE true (ts.length + 1) 0 ts) with
    | none => none
    | some (t, r) => if r.length = 0 then some t else none := by
  unfold parseP
  have hr := pE_rl (ts.length + 1)
  by_cases hd : dl ts 0 = none
  · rw [if_pos (.inr (.inr (.inr hd)))]
    cases he : pE true (ts.length + 1) 0 ts with
    | none => rfl
    | some p =>
      obtain ⟨t, r⟩ := p
      have h3 := (hr.to _ _ _ _ he).2
      rw [hd] at h3
      unfold lim
      simp only []
      split
      · rfl
      · rename_i t2 r2 hl
        split at hl
        · simp only [Option.some.injEq, Prod.mk.injEq] at hl
          rw [if_neg]
          intro e
          have : r = [] := List.eq_nil_of_length_eq_zero (by rw [hl.2]; exact e)
          rw [this] at h3
          cases h3
        · cases hl
  · rw [if_neg (by rintro (h | h | h | h) <;> first | omega | (rw [h2] at h; cases h) | exact hd h)]
    cases he : pE false (ts.length + 1) 0 ts with
    | some p =>
      obtain ⟨t, r⟩ := p
      rw [hr.back _ _ _ _ he hd]
      unfold lim
      simp only [Nat.zero_add]
      by_cases hs : tsz t ≤ 500000
      · rw [if_pos hs]
        simp only [hs, and_true]
      · rw [if_neg hs, if_neg (fun e => hs e.2)]
    | none =>
      cases he2 : pE true (ts.length + 1) 0 ts with
      | none => rfl
      | some p =>
        obtain ⟨t, r⟩ := p
        rw [(hr.to _ _ _ _ he2).1] at he
        cases he
end Go.Mw
