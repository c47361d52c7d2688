/-
  The derivative of a tree, plain.
-/
import Derived.Test.YbxaawGreatCanQ
import Derived.Test.YbxaawGreatXpW
set_option linter.unusedVariables false
set_option linter.unusedSimpArgs false
namespace Go.Mw
def dT (y : Int) : Tre → Tre
  | ⟨k, _, x, 0, _⟩ => if k = 2 then (if x = y then lf 1 1 0 else lf 1 0 0) else lf 1 0 0
  | ⟨k, v, _, 1, c⟩ => if k = 3 then u1 3 0 (dT y (c 0)) else if v = 0 then lf 1 0 0 else b2 6 (b2 6 (lf 1 v 0) (u1 7 (v - 1) (c 0))) (dT y (c 0))
  | ⟨k, _, _, _ + 2, c⟩ => if k = 6 then b2 4 (b2 6 (dT y (c 0)) (c 1)) (b2 6 (c 0) (dT y (c 1))) else b2 k (dT y (c 0)) (dT y (c 1))
def ds : Tre → Nat
  | ⟨_, _, _, 0, _⟩ => 1
  | ⟨k, v, _, 1, c⟩ => if k = 3 then 1 + ds (c 0) else if v = 0 then 1 else 4 + tsz (c 0) + ds (c 0)
  | ⟨k, _, _, _ + 2, c⟩ => if k = 6 then 3 + ds (c 0) + tsz (c 1) + tsz (c 0) + ds (c 1) else 1 + ds (c 0) + ds (c 1)
theorem tsz_dT (y : Int) : ∀ t : Tre, tsz (dT y t) = ds t := by
  refine Tre.ind (fun k v x c => ?_) (fun k v x c ih => ?_) (fun k v x n c ih1 ih2 => ?_)
  · rw [dT, ds]; split
    · split <;> rfl
    · rfl
  · rw [dT, ds]; split
    · rw [tsz_u1, ih]
    · split
      · rfl
      · rw [tsz_b2, tsz_b2, tsz_lf, tsz_u1, ih]; omega
  · rw [dT, ds]; split
    · rw [tsz_b2, tsz_b2, tsz_b2, ih1, ih2]; omega
    · rw [tsz_b2, ih1, ih2]
theorem ds_le : ∀ t : Tre, ds t ≤ 5 * (tsz t * tsz t) := by
  refine Tre.ind (fun k v x c => ?_) (fun k v x c ih => ?_) (fun k v x n c ih1 ih2 => ?_)
  · rw [ds, tsz]; omega
  · rw [ds, tsz]
    generalize tsz (c 0) = a at *
    generalize ds (c 0) = d at *
    have e : (1 + a) * (1 + a) = 1 + 2 * a + a * a := by simp only [Nat.add_mul, Nat.mul_add, Nat.one_mul, Nat.mul_one]; omega
    rw [e]
    split
    · omega
    · split <;> omega
  · rw [ds, tsz]
    generalize tsz (c 0) = a at *
    generalize tsz (c 1) = b at *
    generalize ds (c 0) = d at *
    generalize ds (c 1) = f at *
    have e : (1 + a + b) * (1 + a + b) = 1 + 2 * a + 2 * b + a * a + b * b + 2 * (a * b) := by
      simp only [Nat.add_mul, Nat.mul_add, Nat.one_mul, Nat.mul_one, Nat.mul_comm b a]; omega
    rw [e]
    split <;> omega
theorem ds_small {t : Tre} (h : tsz t ≤ 500000) : ds t ≤ 1250000000000 := by
  have h1 := ds_le t
  have h2 := Nat.mul_le_mul h h
  omega
theorem ds_pos : ∀ t : Tre, 1 ≤ ds t := by
  refine Tre.ind (fun k v x c => ?_) (fun k v x c ih => ?_) (fun k v x n c ih1 ih2 => ?_)
  · rw [ds]; omega
  · rw [ds]; split
    · omega
    · split <;> omega
  · rw [ds]; split <;> omega
def capd (t : Tre) : Nat := min (ds t) 500001
def difT (y : Int) (t : Tre) : Option Tre := if 0 ≤ y ∧ y ≤ 25 ∧ ds t ≤ 500000 then some (dT y t) else none
theorem dT_wt (y : Int) : ∀ t : Tre, Wt t → Wt (dT y t) := by
  refine Tre.ind (fun k v x c hw => ?_) (fun k v x c ih hw => ?_) (fun k v x n c ih1 ih2 hw => ?_)
  · rw [dT]; split
    · split <;> exact wt_num _
    · exact wt_num _
  · obtain ⟨hx, hk, hw1⟩ := hw
    rw [dT]; split
    · exact wt_neg (ih hw1)
    · split
      · exact wt_num _
      · rename_i h3 h0
        refine wt_bin (.inr (.inr rfl)) (wt_bin (.inr (.inr rfl)) (wt_num _) (wt_pow ?_ hw1)) (ih hw1)
        rcases hk with hk | hk
        · exact absurd hk.1 h3
        · omega
  · obtain ⟨rfl, hv, hx, hk, hw1, hw2⟩ := hw
    rw [dT]; split
    · exact wt_bin (.inl rfl) (wt_bin (.inr (.inr rfl)) (ih1 hw1) hw2) (wt_bin (.inr (.inr rfl)) hw1 (ih2 hw2))
    · exact wt_bin hk (ih1 hw1) (ih2 hw2)
theorem dT_wi (y : Int) : ∀ t : Tre, Wt t → Wi t → Wi (dT y t) := by
  refine Tre.ind (fun k v x c hw hi => ?_) (fun k v x c ih hw hi => ?_) (fun k v x n c ih1 ih2 hw hi => ?_)
  · rw [dT]; split
    · split
      · exact (by decide : w64 1 = 1)
      · exact (by decide : w64 0 = 0)
    · exact (by decide : w64 0 = 0)
  · obtain ⟨hx, hk, hw1⟩ := hw
    rw [dT]; split
    · exact ih hw1 hi
    · split
      · exact (by decide : w64 0 = 0)
      · rename_i h3 h0
        refine ⟨⟨?_, hi⟩, ih hw1 hi⟩
        rcases hk with hk | hk
        · exact absurd hk.1 h3
        · exact wrap_i64_in (by omega)
  · obtain ⟨rfl, hv, hx, hk, hw1, hw2⟩ := hw
    rw [dT]; split
    · exact ⟨⟨ih1 hw1 hi.1, hi.2⟩, ⟨hi.1, ih2 hw2 hi.2⟩⟩
    · exact ⟨ih1 hw1 hi.1, ih2 hw2 hi.2⟩
theorem subs_sz : ∀ t s : Tre, s ∈ subs t → tsz s ≤ tsz t := by
  refine Tre.ind (fun k v x c s hs => ?_) (fun k v x c ih s hs => ?_) (fun k v x n c ih1 ih2 s hs => ?_)
  · rw [subs] at hs
    simp only [List.mem_cons, List.not_mem_nil, or_false] at hs; subst hs; exact Nat.le_refl _
  · rw [subs] at hs
    rcases List.mem_append.1 hs with hs | hs
    · have := ih s hs; rw [tsz]; omega
    · simp only [List.mem_cons, List.not_mem_nil, or_false] at hs; subst hs; exact Nat.le_refl _
  · rw [subs] at hs
    rcases List.mem_append.1 hs with hs | hs
    · rcases List.mem_append.1 hs with hs | hs
      · have := ih1 s hs; rw [tsz]; omega
      · have := ih2 s hs; rw [tsz]; omega
    · simp only [List.mem_cons, List.not_mem_nil, or_false] at hs; subst hs; exact Nat.le_refl _
theorem ds_u3 (v : Int) (a : Tre) : ds (u1 3 v a) = 1 + ds a := rfl
theorem ds_u70 (a : Tre) : ds (u1 7 0 a) = 1 := rfl
theorem ds_u7 {v : Int} (a : Tre) (h : ¬ v = 0) : ds (u1 7 v a) = 4 + tsz a + ds a := by
  unfold u1; rw [ds, if_neg (by omega), if_neg h]
theorem ds_b45 {k : Int} (a b : Tre) (h : k = 4 ∨ k = 5) : ds (b2 k a b) = 1 + ds a + ds b := by
  unfold b2; rw [ds, if_neg (by omega)]; rfl
theorem ds_b6 (a b : Tre) : ds (b2 6 a b) = 3 + ds a + tsz b + tsz a + ds b := rfl
theorem dT_u7 {y v : Int} (a : Tre) (h : ¬ v = 0) : dT y (u1 7 v a) = b2 6 (b2 6 (lf 1 v 0) (u1 7 (v - 1) a)) (dT y a) := by
  unfold u1; rw [dT, if_neg (by omega), if_neg h]; rfl
theorem dT_b45 {y k : Int} (a b : Tre) (h : k = 4 ∨ k = 5) : dT y (b2 k a b) = b2 k (dT y a) (dT y b) := by
  unfold b2; rw [dT, if_neg (by omega)]; rfl
theorem dT_b6 (y : Int) (a b : Tre) : dT y (b2 6 a b) = b2 4 (b2 6 (dT y a) b) (b2 6 a (dT y b)) := rfl
theorem dT_var (y x : Int) : dT y (lf 2 0 x) = lf 1 (if x = y then 1 else 0) 0 := by
  unfold lf; rw [dT, if_pos rfl]; split <;> rfl
theorem tup2 {a b a' b' : Int} (h1 : a = a') (h2 : b = b') : Value.tuple #[.int .i64 a, .int .i64 b] = .tuple #[.int .i64 a', .int .i64 b'] := by rw [h1, h2]
end Go.Mw
