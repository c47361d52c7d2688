/-
  The canonical form of a tree, plain.
-/
import Derived.Test.YbxaawGreatWfP
import Derived.Test.YbxaawGreatEvalP
set_option linter.unusedVariables false
set_option linter.unusedSimpArgs false
namespace Go.Mw
def kid0 : Tre → Tre
  | ⟨_, _, _, 0, _⟩ => lf 0 0 0
  | ⟨_, _, _, _ + 1, c⟩ => c 0
def negR (a : Tre) : Tre := if a.k = 1 then lf 1 (w64 (-a.v)) 0 else if a.k = 3 then kid0 a else u1 3 0 a
def addR (a b : Tre) : Tre := if a.k = 1 ∧ b.k = 1 then lf 1 (w64 (a.v + b.v)) 0 else if a.k = 1 ∧ a.v = 0 then b else if b.k = 1 ∧ b.v = 0 then a else b2 4 a b
def subR (a b : Tre) : Tre := if a.k = 1 ∧ b.k = 1 then lf 1 (w64 (a.v - b.v)) 0 else if b.k = 1 ∧ b.v = 0 then a else if a.k = 1 ∧ a.v = 0 then negR b else b2 5 a b
def mulR (a b : Tre) : Tre := if a.k = 1 ∧ b.k = 1 then lf 1 (w64 (a.v * b.v)) 0 else if (a.k = 1 ∧ a.v = 0) ∨ (b.k = 1 ∧ b.v = 0) then lf 1 0 0 else if a.k = 1 ∧ a.v = 1 then b else if b.k = 1 ∧ b.v = 1 then a else b2 6 a b
def powR (a : Tre) (n : Int) : Tre := if n = 0 then lf 1 1 0 else if n = 1 then a else if a.k = 1 then lf 1 (pw a.v n.toNat) 0 else if a.k = 7 ∧ a.v * n ≤ 1000000 then u1 7 (a.v * n) (kid0 a) else u1 7 n a
def cn : Tre → Tre
  | ⟨k, v, x, 0, _⟩ => lf k v x
  | ⟨k, v, x, 1, c⟩ => if k = 3 then negR (cn (c 0)) else powR (cn (c 0)) v
  | ⟨k, v, x, _ + 2, c⟩ => if k = 4 then addR (cn (c 0)) (cn (c 1)) else if k = 5 then subR (cn (c 0)) (cn (c 1)) else mulR (cn (c 0)) (cn (c 1))
theorem wt_kid {t : Tre} (h : Wt t) (hk : t.k = 3 ∨ t.k = 7) : t.n = 1 ∧ Wt (kid0 t) ∧ tsz t = 1 + tsz (kid0 t) ∧ (t.k = 7 → 0 ≤ t.v ∧ t.v ≤ 1000000) := by
  match t, h, hk with
  | ⟨k, v, x, 0, c⟩, h, hk => rcases h with h | h <;> (simp only [] at hk; omega)
  | ⟨k, v, x, 1, c⟩, h, hk =>
    obtain ⟨h1, h2, h3⟩ := h
    refine ⟨rfl, h3, rfl, fun h7 => ?_⟩
    simp only [] at h7
    rcases h2 with h2 | h2
    · omega
    · exact h2.2
  | ⟨k, v, x, n + 2, c⟩, h, hk =>
    obtain ⟨_, _, _, h4, _⟩ := h
    simp only [] at hk; omega
theorem wt_leaf {t : Tre} (h : Wt t) (hk : t.k = 1 ∨ t.k = 2) : t.n = 0 := by
  match t, h, hk with
  | ⟨k, v, x, 0, c⟩, h, hk => rfl
  | ⟨k, v, x, 1, c⟩, h, hk =>
    obtain ⟨h1, h2, h3⟩ := h
    simp only [] at hk; omega
  | ⟨k, v, x, n + 2, c⟩, h, hk =>
    obtain ⟨_, _, _, h4, _⟩ := h
    simp only [] at hk; omega
structure Wz (t : Tre) (n : Nat) : Prop where
  wt : Wt t
  sz : tsz t ≤ n
theorem Wz.neg {a : Tre} {n : Nat} (h : Wz a n) : Wz (negR a) (1 + n) := by
  have hz := h.sz
  have hp := tsz_pos a
  unfold negR
  split
  · exact ⟨wt_num _, by rw [tsz_lf]; omega⟩
  · split
    · rename_i h3
      obtain ⟨-, h1, h2, -⟩ := wt_kid h.wt (.inl h3)
      exact ⟨h1, by omega⟩
    · exact ⟨wt_neg h.wt, by rw [tsz_u1]; omega⟩
theorem Wz.add {a b : Tre} {n m : Nat} (h : Wz a n) (k : Wz b m) : Wz (addR a b) (1 + n + m) := by
  have hz := h.sz
  have kz := k.sz
  unfold addR
  split
  · exact ⟨wt_num _, by rw [tsz_lf]; omega⟩
  · split
    · exact ⟨k.wt, by omega⟩
    · split
      · exact ⟨h.wt, by omega⟩
      · exact ⟨wt_bin (.inl rfl) h.wt k.wt, by rw [tsz_b2]; omega⟩
theorem Wz.sub {a b : Tre} {n m : Nat} (h : Wz a n) (k : Wz b m) : Wz (subR a b) (1 + n + m) := by
  have hz := h.sz
  have kz := k.sz
  unfold subR
  split
  · exact ⟨wt_num _, by rw [tsz_lf]; omega⟩
  · split
    · exact ⟨h.wt, by omega⟩
    · split
      · exact ⟨k.neg.wt, by have := k.neg.sz; omega⟩
      · exact ⟨wt_bin (.inr (.inl rfl)) h.wt k.wt, by rw [tsz_b2]; omega⟩
theorem Wz.mul {a b : Tre} {n m : Nat} (h : Wz a n) (k : Wz b m) : Wz (mulR a b) (1 + n + m) := by
  have hz := h.sz
  have kz := k.sz
  unfold mulR
  split
  · exact ⟨wt_num _, by rw [tsz_lf]; omega⟩
  · split
    · exact ⟨wt_num _, by rw [tsz_lf]; omega⟩
    · split
      · exact ⟨k.wt, by omega⟩
      · split
        · exact ⟨h.wt, by omega⟩
        · exact ⟨wt_bin (.inr (.inr rfl)) h.wt k.wt, by rw [tsz_b2]; omega⟩
theorem Wz.pow {a : Tre} {n : Nat} {v : Int} (h : Wz a n) (hv : 0 ≤ v ∧ v ≤ 1000000) : Wz (powR a v) (1 + n) := by
  have hz := h.sz
  unfold powR
  split
  · exact ⟨wt_num _, by rw [tsz_lf]; omega⟩
  · split
    · exact ⟨h.wt, by omega⟩
    · split
      · exact ⟨wt_num _, by rw [tsz_lf]; omega⟩
      · split
        · rename_i h7
          obtain ⟨-, h1, h2, h3⟩ := wt_kid h.wt (.inr h7.1)
          have h4 := h3 h7.1
          exact ⟨wt_pow ⟨Int.mul_nonneg h4.1 hv.1, h7.2⟩ h1, by rw [tsz_u1]; omega⟩
        · exact ⟨wt_pow hv h.wt, by rw [tsz_u1]; omega⟩
theorem cn_wz : ∀ t : Tre, Wt t → Wz (cn t) (tsz t) := by
  refine Tre.ind (fun k v x c hw => ?_) (fun k v x c ih hw => ?_) (fun k v x n c ih1 ih2 hw => ?_)
  · exact ⟨hw, Nat.le_refl _⟩
  · obtain ⟨h1, h2, h3⟩ := hw
    have := ih h3
    rw [cn, tsz]
    split
    · exact this.neg
    · rename_i hk
      rcases h2 with h2 | h2
      · exact absurd h2.1 hk
      · exact this.pow h2.2
  · obtain ⟨rfl, _, _, hk, h1, h2⟩ := hw
    have k1 := ih1 h1
    have k2 := ih2 h2
    rw [cn, tsz]
    split
    · exact k1.add k2
    · split
      · exact k1.sub k2
      · exact k1.mul k2
/-- a node of a tree of pointers -/
theorem Tm.node {eM : TypeId} {w : World} {lo : Nat} : ∀ {t : Tre} {v : Value}, Tm eM w lo t v → ∃ b q q2, v = .pointer (some ⟨b, 0, none⟩) ∧ lo ≤ b ∧ Bl w b eM [.int .i64 t.k, .int .i64 t.v, .int .i64 t.x, .pointer q, .pointer q2] ∧ (1 ≤ t.n → Tm eM w lo (kid0 t) (.pointer q)) := by
  have ptr : ∀ {t : Tre} {v : Value}, Tm eM w lo t v → ∃ a, v = .pointer a := fun {t v} h => by
    match t, h with
    | ⟨k, v, x, 0, c⟩, ⟨b, hp, _⟩ => exact ⟨_, hp⟩
    | ⟨k, v, x, 1, c⟩, ⟨b, q, hp, _⟩ => exact ⟨_, hp⟩
    | ⟨k, v, x, n + 2, c⟩, ⟨b, q, q2, hp, _⟩ => exact ⟨_, hp⟩
  intro t v h
  match t, h with
  | ⟨k, v, x, 0, c⟩, ⟨b, hp, hl, hb⟩ => exact ⟨b, none, none, hp, hl, hb, fun h => by simp at h⟩
  | ⟨k, v, x, 1, c⟩, ⟨b, q, hp, hl, hb, h1⟩ =>
    obtain ⟨a, rfl⟩ := ptr h1
    exact ⟨b, a, none, hp, hl, hb, fun _ => h1⟩
  | ⟨k, v, x, n + 2, c⟩, ⟨b, q, q2, hp, hl, hb, h1, h2⟩ =>
    obtain ⟨a, rfl⟩ := ptr h1
    obtain ⟨a2, rfl⟩ := ptr h2
    exact ⟨b, a, a2, hp, hl, hb, fun _ => h1⟩
def CPost (eM : TypeId) (lo : Nat) (t : Tre) (w : World) (v : Value) (w' : World) : Prop := ∃ a, v = .pointer a ∧ Tm eM w' lo t (.pointer a) ∧ Ext w.heap.size w w'
end Go.Mw
