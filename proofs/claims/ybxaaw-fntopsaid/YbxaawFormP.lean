/-
  Formal sums of terms, plain: sums, products, powers; the polynomial that a tree means.
-/
import Derived.Test.YbxaawSimpP
set_option linter.unusedVariables false
set_option linter.unusedSimpArgs false
namespace Go.Mw
/-- a sum of terms under a functional -/
def evG (g : List Int → Int) : List MT → Int
  | [] => 0
  | t :: r => t.1 * g t.2 + evG g r
theorem evG_append (g : List Int → Int) : ∀ a b : List MT, evG g (a ++ b) = evG g a + evG g b
  | [], b => by simp [evG]
  | t :: a, b => by rw [List.cons_append, evG, evG, evG_append g a b, Int.add_assoc]
theorem evG_ins (g : List Int → Int) (t : MT) : ∀ R : List MT, Cg (evG g (ins t R)) (t.1 * g t.2 + evG g R)
  | [] => by
    rw [ins]
    split
    · rename_i h
      simp only [evG]
      have : Cg t.1 0 := Cg.of (by rw [h]; decide)
      have := this.mul (Cg.refl (g t.2))
      rw [Int.zero_mul] at this
      exact (this.add (Cg.refl 0)).symm
    · simp only [evG]
      exact ((Cg.w64 _).mul (Cg.refl _)).add (Cg.refl _)
  | u :: r => by
    rw [ins]
    split
    · rename_i e
      have e2 : t.1 * g t.2 + evG g (u :: r) = (t.1 + u.1) * g u.2 + evG g r := by rw [evG, e, Int.add_mul]; omega
      rw [e2]
      split
      · rename_i h
        have : Cg (t.1 + u.1) 0 := Cg.of (by rw [h]; decide)
        have := (this.mul (Cg.refl (g u.2))).add (Cg.refl (evG g r))
        rw [Int.zero_mul, Int.zero_add] at this
        exact this.symm
      · simp only [evG]
        exact ((Cg.w64 _).mul (Cg.refl _)).add (Cg.refl _)
    · split
      · split
        · rename_i h
          have : Cg t.1 0 := Cg.of (by rw [h]; decide)
          have := (this.mul (Cg.refl (g t.2))).add (Cg.refl (evG g (u :: r)))
          rw [Int.zero_mul, Int.zero_add] at this
          exact this.symm
        · rw [evG]
          exact ((Cg.w64 _).mul (Cg.refl _)).add (Cg.refl _)
      · rw [evG, evG]
        have := (Cg.refl (u.1 * g u.2)).add (evG_ins g t r)
        refine this.trans ?_
        rw [Int.add_left_comm]
        exact Cg.refl _
theorem evG_nf (g : List Int → Int) : ∀ a : List MT, Cg (evG g (nf a)) (evG g a)
  | [] => Cg.refl _
  | t :: r => by
    rw [nf, evG]
    exact (evG_ins g t (nf r)).trans ((Cg.refl _).add (evG_nf g r))
/-- the same formal sum, modulo 2^64 -/
def Eqv (A B : List MT) : Prop := ∀ g : List Int → Int, Cg (evG g A) (evG g B)
theorem Eqv.refl (A : List MT) : Eqv A A := fun g => Cg.refl _
theorem Eqv.symm {A B : List MT} (h : Eqv A B) : Eqv B A := fun g => (h g).symm
theorem Eqv.trans {A B C : List MT} (h : Eqv A B) (k : Eqv B C) : Eqv A C := fun g => (h g).trans (k g)
theorem Eqv.of_eq {A B : List MT} (h : A = B) : Eqv A B := h ▸ Eqv.refl A
theorem Eqv.nf (A : List MT) : Eqv (nf A) A := fun g => evG_nf g A
theorem Eqv.app {A B C D : List MT} (h : Eqv A B) (k : Eqv C D) : Eqv (A ++ C) (B ++ D) := fun g => by rw [evG_append, evG_append]; exact (h g).add (k g)
theorem evG_delta (v : List Int) : ∀ A : List MT, evG (fun u => if u = v then 1 else 0) A = csum A v
  | [] => rfl
  | t :: A => by
    rw [evG, csum, evG_delta v A]
    by_cases e : t.2 = v
    · rw [if_pos e, if_pos e, Int.mul_one]
    · rw [if_neg e, if_neg e, Int.mul_zero]
theorem Eqv.csum {A B : List MT} (h : Eqv A B) (v : List Int) : Cg (csum A v) (csum B v) := by
  have := h (fun u => if u = v then 1 else 0)
  rwa [evG_delta, evG_delta] at this
theorem CM.eq_of {R S : List MT} (hR : CM R) (hS : CM S) (h : Eqv R S) : R = S := norm_uniq R S hR.nm.sb hS.nm.sb hR.nm.nz hS.nm.nz hR.nm.vl hS.nm.vl h.csum
/-! ### functionals -/
theorem evG_congr {g h : List Int → Int} : ∀ {A : List MT}, (∀ t ∈ A, Cg (g t.2) (h t.2)) → Cg (evG g A) (evG h A)
  | [], _ => Cg.refl _
  | t :: A, H => by
    rw [evG, evG]
    exact ((Cg.refl _).mul (H t (by simp))).add (evG_congr fun u hu => H u (by simp [hu]))
theorem evG_add (g h : List Int → Int) : ∀ A : List MT, evG (fun u => g u + h u) A = evG g A + evG h A
  | [] => rfl
  | t :: A => by simp only [evG]; rw [evG_add g h A, Int.mul_add]; omega
theorem evG_zero : ∀ A : List MT, evG (fun _ => 0) A = 0
  | [] => rfl
  | t :: A => by rw [evG, evG_zero A, Int.mul_zero]; rfl
theorem evG_smul (c : Int) (g : List Int → Int) : ∀ A : List MT, evG (fun u => c * g u) A = c * evG g A
  | [] => by simp [evG]
  | t :: A => by simp only [evG]; rw [evG_smul c g A, Int.mul_add, Int.mul_left_comm]
theorem evG_swap (k : List Int → List Int → Int) (B : List MT) : ∀ A : List MT, evG (fun u => evG (fun w => k u w) B) A = evG (fun w => evG (fun u => k u w) A) B
  | [] => (evG_zero B).symm
  | t :: A => by
    rw [evG, evG_swap k B A]
    have : (fun w => evG (fun u => k u w) (t :: A)) = fun w => t.1 * k t.2 w + evG (fun u => k u w) A := rfl
    rw [this, evG_add, evG_smul]
/-! ### products -/
theorem evG_map (g : List Int → Int) (x : MT) : ∀ B : List MT, Cg (evG g (B.map (mulT x))) (x.1 * evG (fun w => g (addV x.2 w)) B)
  | [] => by simp [evG, Cg]
  | y :: B => by
    rw [List.map_cons, evG, evG, Int.mul_add]
    refine Cg.add ?_ (evG_map g x B)
    simp only [mulT]
    refine ((Cg.w64 _).mul (Cg.refl _)).trans ?_
    rw [Int.mul_assoc]; exact Cg.refl _
theorem prods_cons (x : MT) (A B : List MT) : prods (x :: A) B = B.map (mulT x) ++ prods A B := by simp [prods]
theorem evG_prods (g : List Int → Int) (B : List MT) : ∀ A : List MT, Cg (evG g (prods A B)) (evG (fun u => evG (fun w => g (addV u w)) B) A)
  | [] => Cg.refl _
  | x :: A => by
    rw [prods_cons, evG_append, evG]
    exact (evG_map g x B).add (evG_prods g B A)
theorem Eqv.prods {A A' B B' : List MT} (h : Eqv A A') (k : Eqv B B') : Eqv (prods A B) (prods A' B') := fun g =>
  ((evG_prods g B A).trans ((h _).trans (evG_congr fun t _ => k _))).trans (evG_prods g B' A').symm
theorem prods_comm (A B : List MT) : Eqv (prods A B) (prods B A) := fun g => by
  refine ((evG_prods g B A).trans ?_).trans (evG_prods g A B).symm
  rw [evG_swap]
  refine evG_congr fun t _ => evG_congr fun u _ => ?_
  rw [addV_comm]; exact Cg.refl _
theorem addV_assoc : ∀ a b c : List Int, addV (addV a b) c = addV a (addV b c)
  | [], b, c => by simp [addV]
  | x :: a, [], c => by simp [addV]
  | x :: a, y :: b, [] => by simp [addV]
  | x :: a, y :: b, z :: c => by
    have := addV_assoc a b c
    unfold addV at this ⊢
    simp only [List.zipWith_cons_cons, this, Int.add_assoc]
theorem prods_assoc (A B C : List MT) : Eqv (prods (prods A B) C) (prods A (prods B C)) := fun g => by
  refine (evG_prods g C _).trans ?_
  refine (evG_prods _ B A).trans ?_
  refine Cg.trans ?_ (evG_prods g _ A).symm
  refine evG_congr fun t _ => ?_
  refine Cg.trans ?_ (evG_prods _ C B).symm
  refine evG_congr fun u _ => evG_congr fun v _ => ?_
  rw [addV_assoc]; exact Cg.refl _
theorem prods_app_l (A B C : List MT) : prods (A ++ B) C = prods A C ++ prods B C := by simp [prods]
theorem prods_app_r (A B C : List MT) : Eqv (prods A (B ++ C)) (prods A B ++ prods A C) :=
  (prods_comm _ _).trans ((Eqv.of_eq (prods_app_l B C A)).trans ((prods_comm _ _).app (prods_comm _ _)))
/-- all vectors have 26 places -/
def L26 (A : List MT) : Prop := ∀ t ∈ A, t.2.length = 26
theorem L26.app {A B : List MT} (h : L26 A) (k : L26 B) : L26 (A ++ B) := fun t ht => (List.mem_append.1 ht).elim (h t) (k t)
theorem L26.prods {A B : List MT} (h : L26 A) (k : L26 B) : L26 (prods A B) := fun t ht => by
  obtain ⟨x, hx, y, hy, rfl⟩ := prods_mem ht
  exact addV_len (h x hx) (k y hy)
theorem L26.negM {A : List MT} (h : L26 A) : L26 (negM A) := fun t ht => by
  unfold Go.Mw.negM at ht
  rw [List.mem_map] at ht
  obtain ⟨u, hu, rfl⟩ := ht
  exact h u hu
theorem L26.one {c : Int} {v : List Int} (h : v.length = 26) : L26 [(c, v)] := fun t ht => by
  simp only [List.mem_cons, List.not_mem_nil, or_false] at ht; subst ht; exact h
theorem Vl.l26 {A : List MT} (h : Vl A) : L26 A := fun t ht => (h t ht).len
theorem addV_zero : ∀ v : List Int, addV (List.replicate v.length 0) v = v
  | [] => rfl
  | x :: v => by
    have := addV_zero v
    unfold addV at this ⊢
    simp only [List.length_cons, List.replicate_succ, List.zipWith_cons_cons, this, Int.zero_add]
theorem addV_z26 {v : List Int} (h : v.length = 26) : addV z26 v = v := by
  have := addV_zero v
  rwa [h] at this
/-- a number times a sum -/
theorem prods_num (c : Int) {A : List MT} (h : L26 A) (g : List Int → Int) : Cg (evG g (prods [(c, z26)] A)) (c * evG g A) := by
  refine (evG_prods g A _).trans ?_
  simp only [evG, Int.add_zero]
  refine (Cg.refl _).mul (evG_congr fun t ht => ?_)
  rw [addV_z26 (h t ht)]; exact Cg.refl _
theorem prods_one {A : List MT} (h : L26 A) : Eqv (prods oneM A) A := fun g => by
  have := prods_num 1 h g
  rwa [Int.one_mul] at this
theorem prods_one_r {A : List MT} (h : L26 A) : Eqv (prods A oneM) A := (prods_comm _ _).trans (prods_one h)
theorem evG_neg (g : List Int → Int) : ∀ A : List MT, Cg (evG g (negM A)) (-(evG g A))
  | [] => Cg.refl _
  | t :: A => by
    have ih := evG_neg g A
    have e : negM (t :: A) = (w64 (-t.1), t.2) :: negM A := rfl
    rw [e, evG, evG, Int.neg_add]
    refine Cg.add ?_ ih
    refine ((Cg.w64 _).mul (Cg.refl _)).trans ?_
    rw [Int.neg_mul]; exact Cg.refl _
theorem Cg.neg {a b : Int} (h : Cg a b) : Cg (-a) (-b) := by unfold Cg at *; omega
theorem Eqv.neg {A B : List MT} (h : Eqv A B) : Eqv (negM A) (negM B) := fun g => (evG_neg g A).trans ((h g).neg.trans (evG_neg g B).symm)
theorem neg_neg (A : List MT) : Eqv (negM (negM A)) A := fun g => by
  refine (evG_neg g _).trans ?_
  have := (evG_neg g A).neg
  rwa [Int.neg_neg] at this
/-! ### powers -/
def pwr : Nat → List MT → List MT
  | 0, _ => oneM
  | n + 1, A => prods (pwr n A) A
theorem L26.unit : L26 oneM := L26.one z26_len
theorem L26.pwr {A : List MT} (h : L26 A) : ∀ n, L26 (pwr n A)
  | 0 => L26.unit
  | n + 1 => (L26.pwr h n).prods h
theorem Eqv.pwr {A B : List MT} (h : Eqv A B) : ∀ n, Eqv (pwr n A) (pwr n B)
  | 0 => Eqv.refl _
  | n + 1 => (Eqv.pwr h n).prods h
theorem pwr_one {A : List MT} (h : L26 A) : Eqv (pwr 1 A) A := prods_one h
theorem pwr_add {A : List MT} (h : L26 A) (m : Nat) : ∀ n, Eqv (pwr (m + n) A) (prods (pwr m A) (pwr n A))
  | 0 => (prods_one_r (h.pwr m)).symm
  | n + 1 => ((pwr_add h m n).prods (Eqv.refl A)).trans (prods_assoc _ _ _)
theorem pwr_mul {A : List MT} (h : L26 A) (m : Nat) : ∀ n, Eqv (pwr (m * n) A) (pwr n (pwr m A))
  | 0 => Eqv.refl _
  | n + 1 => by
    rw [Nat.mul_succ]
    exact (pwr_add h _ _).trans ((pwr_mul h m n).prods (Eqv.refl _))
theorem pwr_num (c : Int) : ∀ n, Eqv (pwr n [(c, z26)]) [(c ^ n, z26)]
  | 0 => by rw [Int.pow_zero]; exact Eqv.refl _
  | n + 1 => fun g => by
    refine ((pwr_num c n).prods (Eqv.refl _) g).trans ?_
    refine (prods_num _ (L26.one z26_len) g).trans ?_
    simp only [evG, Int.add_zero, Int.pow_succ, Int.mul_assoc]; exact Cg.refl _
/-! ### the polynomial of a tree -/
def fp : Tre → List MT
  | ⟨k, v, x, 0, _⟩ => if k = 1 then [(v, z26)] else [(1, eV x)]
  | ⟨k, v, x, 1, c⟩ => if k = 3 then negM (fp (c 0)) else pwr v.toNat (fp (c 0))
  | ⟨k, v, x, _ + 2, c⟩ => if k = 4 then fp (c 0) ++ fp (c 1) else if k = 5 then fp (c 0) ++ negM (fp (c 1)) else prods (fp (c 0)) (fp (c 1))
theorem eV_len (x : Int) : (eV x).length = 26 := by unfold eV; rw [List.length_set, z26_len]
theorem fp_l26 : ∀ t : Tre, L26 (fp t) := by
  refine Tre.ind (fun k v x c => ?_) (fun k v x c ih => ?_) (fun k v x n c ih1 ih2 => ?_)
  · rw [fp]; split
    · exact L26.one z26_len
    · exact L26.one (eV_len x)
  · rw [fp]; split
    · exact ih.negM
    · exact ih.pwr _
  · rw [fp]; split
    · exact ih1.app ih2
    · split
      · exact ih1.app ih2.negM
      · exact ih1.prods ih2
theorem fp_num (v : Int) : fp (lf 1 v 0) = [(v, z26)] := rfl
theorem fp_k1 {a : Tre} (h : Wt a) (hk : a.k = 1) : fp a = [(a.v, z26)] := by
  have hn := wt_leaf h (.inl hk)
  match a, h, hk, hn with
  | ⟨k, v, x, 0, c⟩, h, hk, hn => rw [fp, if_pos hk]
theorem fp_k3 {a : Tre} (h : Wt a) (hk : a.k = 3) : fp a = negM (fp (kid0 a)) := by
  have hn := (wt_kid h (.inl hk)).1
  match a, h, hk, hn with
  | ⟨k, v, x, 1, c⟩, h, hk, hn => rw [fp, if_pos hk]; rfl
theorem fp_k7 {a : Tre} (h : Wt a) (hk : a.k = 7) : fp a = pwr a.v.toNat (fp (kid0 a)) := by
  have hn := (wt_kid h (.inr hk)).1
  match a, h, hk, hn with
  | ⟨k, v, x, 1, c⟩, h, hk, hn => 
    have : k = 7 := hk
    rw [fp, if_neg (by omega)]; rfl
theorem fp_u3 (v : Int) (a : Tre) : fp (u1 3 v a) = negM (fp a) := rfl
theorem fp_u7 (v : Int) (a : Tre) : fp (u1 7 v a) = pwr v.toNat (fp a) := rfl
theorem fp_b4 (a b : Tre) : fp (b2 4 a b) = fp a ++ fp b := rfl
theorem fp_b5 (a b : Tre) : fp (b2 5 a b) = fp a ++ negM (fp b) := rfl
theorem fp_b6 (a b : Tre) : fp (b2 6 a b) = prods (fp a) (fp b) := rfl
theorem eqv_num {c d : Int} (h : Cg c d) : Eqv [(c, z26)] [(d, z26)] := fun g => by
  simp only [evG]; exact (h.mul (Cg.refl _)).add (Cg.refl _)
theorem negR_fp {a : Tre} (h : Wt a) : Eqv (fp (negR a)) (negM (fp a)) := by
  unfold negR
  split
  · rename_i hk
    rw [fp_num, fp_k1 h hk]
    exact Eqv.refl _
  · split
    · rename_i hk
      rw [fp_k3 h hk]
      exact (neg_neg _).symm
    · exact Eqv.refl _
theorem addR_fp {a b : Tre} (h : Wt a) (k : Wt b) : Eqv (fp (addR a b)) (fp a ++ fp b) := by
  unfold addR
  split
  · rename_i hk
    rw [fp_num, fp_k1 h hk.1, fp_k1 k hk.2]
    intro g
    rw [evG_append]
    simp only [evG, Int.add_zero, ← Int.add_mul]
    exact (Cg.w64 _).mul (Cg.refl _)
  · split
    · rename_i hk
      rw [fp_k1 h hk.1, hk.2]
      intro g
      rw [evG_append]
      simp only [evG, Int.zero_mul, Int.zero_add, Int.add_zero]
      exact Cg.refl _
    · split
      · rename_i hk
        rw [fp_k1 k hk.1, hk.2]
        intro g
        rw [evG_append]
        simp only [evG, Int.zero_mul, Int.zero_add, Int.add_zero]
        exact Cg.refl _
      · exact Eqv.refl _
theorem subR_fp {a b : Tre} (h : Wt a) (k : Wt b) : Eqv (fp (subR a b)) (fp a ++ negM (fp b)) := by
  unfold subR
  split
  · rename_i hk
    rw [fp_num, fp_k1 h hk.1, fp_k1 k hk.2]
    intro g
    rw [evG_append]
    refine Cg.trans ?_ ((Cg.refl _).add (evG_neg g _)).symm
    simp only [evG, Int.add_zero]
    rw [← Int.sub_eq_add_neg, ← Int.sub_mul]
    exact (Cg.w64 _).mul (Cg.refl _)
  · split
    · rename_i hk
      rw [fp_k1 k hk.1, hk.2]
      intro g
      rw [evG_append]
      refine Cg.trans ?_ ((Cg.refl _).add (evG_neg g _)).symm
      simp only [evG, Int.zero_mul, Int.add_zero, Int.neg_zero]
      exact Cg.refl _
    · split
      · rename_i hk
        refine (negR_fp k).trans ?_
        rw [fp_k1 h hk.1, hk.2]
        intro g
        rw [evG_append]
        simp only [evG, Int.zero_mul, Int.zero_add, Int.add_zero]
        exact Cg.refl _
      · exact Eqv.refl _
theorem zero_prods {A : List MT} : Eqv [(0, z26)] (prods [(0, z26)] A) := fun g => by
  refine Cg.trans ?_ (evG_prods g A _).symm
  simp only [evG, Int.zero_mul]; exact Cg.refl _
theorem mulR_fp {a b : Tre} (h : Wt a) (k : Wt b) : Eqv (fp (mulR a b)) (prods (fp a) (fp b)) := by
  unfold mulR
  split
  · rename_i hk
    rw [fp_num, fp_k1 h hk.1, fp_k1 k hk.2]
    intro g
    refine Cg.trans ?_ (prods_num _ (L26.one z26_len) g).symm
    simp only [evG, Int.add_zero, ← Int.mul_assoc]
    exact (Cg.w64 _).mul (Cg.refl _)
  · split
    · rename_i hk
      rw [fp_num]
      rcases hk with hk | hk
      · rw [fp_k1 h hk.1, hk.2]; exact zero_prods
      · rw [fp_k1 k hk.1, hk.2]; exact zero_prods.trans (prods_comm _ _)
    · split
      · rename_i hk
        rw [fp_k1 h hk.1, hk.2]; exact (prods_one (fp_l26 b)).symm
      · split
        · rename_i hk
          rw [fp_k1 k hk.1, hk.2]; exact (prods_one_r (fp_l26 a)).symm
        · exact Eqv.refl _
theorem powR_fp {a : Tre} {n : Int} (h : Wt a) (hn : 0 ≤ n) : Eqv (fp (powR a n)) (pwr n.toNat (fp a)) := by
  unfold powR
  split
  · rename_i h0
    subst h0
    exact Eqv.refl _
  · split
    · rename_i h1
      subst h1
      exact (pwr_one (fp_l26 a)).symm
    · split
      · rename_i hk
        rw [fp_num, fp_k1 h hk]
        refine Eqv.trans (eqv_num ?_) (pwr_num _ _).symm
        unfold pw
        exact Cg.w64 _
      · split
        · rename_i hk
          obtain ⟨-, h1, h2, h3⟩ := wt_kid h (.inr hk.1)
          have h4 := h3 hk.1
          rw [fp_u7, fp_k7 h hk.1, Int.toNat_mul h4.1 hn]
          exact pwr_mul (fp_l26 _) _ _
        · exact Eqv.refl _
theorem cn_fp : ∀ t : Tre, Wt t → Eqv (fp (cn t)) (fp t) := by
  refine Tre.ind (fun k v x c hw => ?_) (fun k v x c ih hw => ?_) (fun k v x n c ih1 ih2 hw => ?_)
  · rw [cn, fp]
    exact Eqv.refl _
  · obtain ⟨h1, h2, h3⟩ := hw
    have ih := ih h3
    have hz := (cn_wz (c 0) h3).wt
    rw [cn, fp]
    split
    · exact (negR_fp hz).trans ih.neg
    · rename_i hk
      rcases h2 with h2 | h2
      · exact absurd h2.1 hk
      · exact (powR_fp hz h2.2.1).trans (ih.pwr _)
  · obtain ⟨rfl, _, _, hk, h1, h2⟩ := hw
    have k1 := ih1 h1
    have k2 := ih2 h2
    have z1 := (cn_wz (c 0) h1).wt
    have z2 := (cn_wz (c 1) h2).wt
    rw [cn, fp]
    split
    · exact (addR_fp z1 z2).trans (k1.app k2)
    · split
      · exact (subR_fp z1 z2).trans (k1.app k2.neg)
      · exact (mulR_fp z1 z2).trans (k1.prods k2)
/-! ### the expansion means the same -/
theorem opM_eqv {M R : List MT} {u u1 : Nat} (h : opM M u = some (R, u1)) : Eqv R M := by
  unfold opM at h
  split at h
  · simp only [Option.some.injEq, Prod.mk.injEq] at h
    obtain ⟨rfl, rfl⟩ := h
    exact Eqv.nf M
  · cases h
theorem bind_eqv {o : Option Nat} {M R : List MT} {u1 : Nat} (h : o.bind (opM M) = some (R, u1)) : Eqv R M := by
  cases o with
  | none => cases h
  | some u => exact opM_eqv h
theorem pwL_eqv : ∀ (f k : Nat) (r q : List MT) (u : Nat) (R : List MT) (u1 : Nat), 1 ≤ k → k ≤ f → L26 r → L26 q → CM r → CM q → pwL f k r q u = some (R, u1) → Eqv R (prods r (pwr k q))
  | 0, k, r, q, u, R, u1, h1, h2, _, _, _, _, h => by omega
  | f + 1, k, r, q, u, R, u1, hk1, hk2, hr, hq, cr, cq, h => by
    rw [pwL] at h
    obtain ⟨⟨r1, v1⟩, h1, h2⟩ := Option.bind_eq_some_iff.1 h
    have hr1 : CM r1 := by
      split at h1
      · exact bind_opM (prods_vl cr.hv cq.hv) h1
      · simp only [Option.some.injEq, Prod.mk.injEq] at h1
        obtain ⟨rfl, rfl⟩ := h1
        exact cr
    have he : Eqv r1 (prods r (pwr (k % 2) q)) := by
      split at h1
      · rename_i ho
        rw [ho]
        exact (bind_eqv h1).trans ((Eqv.refl r).prods (pwr_one hq).symm)
      · rename_i ho
        simp only [Option.some.injEq, Prod.mk.injEq] at h1
        obtain ⟨rfl, rfl⟩ := h1
        rw [show k % 2 = 0 by omega]
        exact (prods_one_r hr).symm
    split at h2
    · rename_i h0
      simp only [Option.some.injEq, Prod.mk.injEq] at h2
      obtain ⟨rfl, rfl⟩ := h2
      rwa [show k % 2 = k by omega] at he
    · rename_i h0
      obtain ⟨⟨q1, v2⟩, h3, h4⟩ := Option.bind_eq_some_iff.1 h2
      have hq1 := bind_opM (prods_vl cq.hv cq.hv) h3
      have hqe : Eqv q1 (pwr 2 q) := (bind_eqv h3).trans ((pwr_one hq).symm.prods (Eqv.refl q))
      have ih := pwL_eqv f (k / 2) r1 q1 v2 R u1 (by omega) (by omega) hr1.vl.l26 hq1.vl.l26 hr1 hq1 h4
      refine ih.trans ?_
      refine (he.prods (hqe.pwr _)).trans ?_
      refine (prods_assoc _ _ _).trans ((Eqv.refl r).prods ?_)
      refine ((Eqv.refl _).prods (pwr_mul hq 2 (k / 2)).symm).trans ?_
      have := (pwr_add hq (k % 2) (2 * (k / 2))).symm
      rwa [show k % 2 + 2 * (k / 2) = k by omega] at this
theorem xp_eqv : ∀ t : Tre, Wt t → Wi t → ∀ (u : Nat) (R : List MT) (u1 : Nat), xp t u = some (R, u1) → CM R ∧ Eqv R (fp t) := by
  refine Tre.ind (fun k v x c hw hi u R u1 h => ?_) (fun k v x c ih hw hi u R u1 h => ?_) (fun k v x n c ih1 ih2 hw hi u R u1 h => ?_)
  · rw [xp] at h
    have hw' : k = 1 ∨ k = 2 := or_map hw (fun e => e.1) (fun e => e.1)
    refine ⟨stA_cm (fun hk => ?_) (fun hk => ?_) CM.nil CM.nil h, ?_⟩
    · exact hi
    · rcases hw with hw | hw
      · omega
      · exact hw.2.2
    · rw [fp]
      unfold stA at h
      rcases hw' with rfl | rfl
      · rw [if_pos rfl] at h ⊢
        obtain ⟨a, _, h2⟩ := Option.map_eq_some_iff.1 h
        simp only [Prod.mk.injEq] at h2
        obtain ⟨rfl, -⟩ := h2
        unfold numM
        split
        · rename_i h0
          intro g
          rw [h0]
          simp only [evG, Int.zero_mul]; exact Cg.refl _
        · exact Eqv.refl _
      · rw [if_neg (by omega), if_pos rfl] at h
        rw [if_neg (by omega)]
        obtain ⟨a, _, h2⟩ := Option.map_eq_some_iff.1 h
        simp only [Prod.mk.injEq] at h2
        obtain ⟨rfl, -⟩ := h2
        exact Eqv.refl _
  · obtain ⟨hx, hk, hw1⟩ := hw
    rw [xp] at h
    obtain ⟨⟨A, v1⟩, h1, h2⟩ := Option.bind_eq_some_iff.1 h
    obtain ⟨hA, eA⟩ := ih hw1 hi u A v1 h1
    refine ⟨stA_cm (fun hk' => by omega) (fun hk' => by omega) hA CM.nil h2, ?_⟩
    rw [fp]
    unfold stA at h2
    simp only [] at h2
    rcases hk with ⟨rfl, -⟩ | ⟨rfl, hv0, hv1⟩
    · rw [if_neg (by omega), if_neg (by omega), if_pos rfl] at h2
      rw [if_pos rfl]
      obtain ⟨a, _, h3⟩ := Option.map_eq_some_iff.1 h2
      simp only [Prod.mk.injEq] at h3
      obtain ⟨rfl, -⟩ := h3
      exact eA.neg
    · rw [if_neg (by omega), if_neg (by omega), if_neg (by omega), if_neg (by omega), if_neg (by omega), if_neg (by omega)] at h2
      rw [if_neg (by omega)]
      split at h2
      · rename_i h0
        obtain ⟨a, _, h3⟩ := Option.map_eq_some_iff.1 h2
        simp only [Prod.mk.injEq] at h3
        obtain ⟨rfl, -⟩ := h3
        rw [h0]; exact Eqv.refl _
      · rename_i h0
        have := pwL_eqv _ _ _ _ _ _ _ (by omega) (Nat.le_refl _) L26.unit hA.vl.l26 CM.unit hA h2
        exact this.trans ((prods_one (hA.vl.l26.pwr _)).trans (eA.pwr _))
  · obtain ⟨rfl, hv, hx, hk, hw1, hw2⟩ := hw
    rw [xp] at h
    obtain ⟨⟨A, v1⟩, h1, h2⟩ := Option.bind_eq_some_iff.1 h
    obtain ⟨⟨B, v2⟩, h3, h4⟩ := Option.bind_eq_some_iff.1 h2
    obtain ⟨hA, eA⟩ := ih1 hw1 hi.1 u A v1 h1
    obtain ⟨hB, eB⟩ := ih2 hw2 hi.2 v1 B v2 h3
    refine ⟨stA_cm (fun hk' => by omega) (fun hk' => by omega) hA hB h4, ?_⟩
    rw [fp]
    unfold stA at h4
    simp only [] at h4
    rcases hk with rfl | rfl | rfl
    · rw [if_neg (by omega), if_neg (by omega), if_neg (by omega), if_pos rfl] at h4
      rw [if_pos rfl]
      exact (bind_eqv h4).trans (eA.app eB)
    · rw [if_neg (by omega), if_neg (by omega), if_neg (by omega), if_neg (by omega), if_pos rfl] at h4
      rw [if_neg (by omega), if_pos rfl]
      exact (bind_eqv h4).trans (eA.app eB.neg)
    · rw [if_neg (by omega), if_neg (by omega), if_neg (by omega), if_neg (by omega), if_neg (by omega), if_pos rfl] at h4
      rw [if_neg (by omega), if_neg (by omega)]
      exact (bind_eqv h4).trans (eA.prods eB)
end Go.Mw
