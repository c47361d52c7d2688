/-
  Formal sums, plain: values at a point, and the derivative.
-/
import Derived.Test.YbxaawGreatTxtP
import Derived.Test.YbxaawGreatDfP
set_option linter.unusedVariables false
set_option linter.unusedSimpArgs false
namespace Go.Mw
/-! ### values -/
def evT (pt : List Int) : Tre → Int
  | ⟨k, v, x, 0, _⟩ => if k = 1 then v else ptv pt x
  | ⟨k, v, _, 1, c⟩ => if k = 3 then w64 (-(evT pt (c 0))) else pw (evT pt (c 0)) v.toNat
  | ⟨k, _, _, _ + 2, c⟩ => if k = 4 then w64 (evT pt (c 0) + evT pt (c 1)) else if k = 5 then w64 (evT pt (c 0) - evT pt (c 1)) else w64 (evT pt (c 0) * evT pt (c 1))
def Nn (A : List MT) : Prop := ∀ t ∈ A, t.2.length = 26 ∧ ∀ x ∈ t.2, 0 ≤ x
theorem Nn.app {A B : List MT} (h : Nn A) (k : Nn B) : Nn (A ++ B) := fun t ht => (List.mem_append.1 ht).elim (h t) (k t)
theorem Nn.prods {A B : List MT} (h : Nn A) (k : Nn B) : Nn (prods A B) := fun t ht => by
  obtain ⟨x, hx, y, hy, rfl⟩ := prods_mem ht
  refine ⟨addV_len (h x hx).1 (k y hy).1, fun z hz => ?_⟩
  obtain ⟨u, hu, v, hv, rfl⟩ := addV_mem hz
  have := (h x hx).2 u hu
  have := (k y hy).2 v hv
  omega
theorem Nn.negM {A : List MT} (h : Nn A) : Nn (negM A) := fun t ht => by
  unfold Go.Mw.negM at ht
  rw [List.mem_map] at ht
  obtain ⟨u, hu, rfl⟩ := ht
  exact h u hu
theorem Nn.one {c : Int} {v : List Int} (h : v.length = 26) (k : ∀ x ∈ v, 0 ≤ x) : Nn [(c, v)] := fun t ht => by
  simp only [List.mem_cons, List.not_mem_nil, or_false] at ht; subst ht; exact ⟨h, k⟩
theorem Nn.num (c : Int) : Nn [(c, z26)] := Nn.one z26_len fun x hx => (rv_z26.rng x hx).1
theorem Nn.var (c x : Int) : Nn [(c, eV x)] := Nn.one (eV_len x) fun y hy => by
  unfold eV at hy
  rcases List.mem_or_eq_of_mem_set hy with hy | rfl
  · exact (rv_z26.rng y hy).1
  · omega
theorem Nn.pwr {A : List MT} (h : Nn A) : ∀ n, Nn (pwr n A)
  | 0 => Nn.num 1
  | n + 1 => (Nn.pwr h n).prods h
theorem fp_nn : ∀ t : Tre, Nn (fp t) := by
  refine Tre.ind (fun k v x c => ?_) (fun k v x c ih => ?_) (fun k v x n c ih1 ih2 => ?_)
  · rw [fp]; split
    · exact Nn.num v
    · exact Nn.var 1 x
  · rw [fp]; split
    · exact ih.negM
    · exact ih.pwr _
  · rw [fp]; split
    · exact ih1.app ih2
    · split
      · exact ih1.app ih2.negM
      · exact ih1.prods ih2
def mv (pt : List Int) (v : List Int) : Int := mvF pt v 0
theorem mv_prods (pt : List Int) {A B : List MT} (hA : Nn A) (hB : Nn B) : Cg (evG (mv pt) (prods A B)) (evG (mv pt) A * evG (mv pt) B) := by
  refine (evG_prods _ B A).trans ?_
  have h1 : Cg (evG (fun u => evG (fun w => mv pt (addV u w)) B) A) (evG (fun u => evG (mv pt) B * mv pt u) A) := evG_congr fun t ht => by
    have h2 : Cg (evG (fun w => mv pt (addV t.2 w)) B) (evG (fun w => mv pt t.2 * mv pt w) B) := evG_congr fun u hu => by
      unfold mv
      rw [mvF_addV pt t.2 u.2 0 ((hA t ht).1.trans (hB u hu).1.symm) (hA t ht).2 (hB u hu).2]
      exact Cg.refl _
    refine h2.trans ?_
    rw [evG_smul, Int.mul_comm]; exact Cg.refl _
  refine h1.trans ?_
  rw [evG_smul, Int.mul_comm]; exact Cg.refl _
theorem mv_z26 (pt : List Int) : mv pt z26 = 1 := by unfold mv z26; exact mvF_zero pt 26 0
theorem mv_pwr (pt : List Int) {A : List MT} (hA : Nn A) : ∀ n, Cg (evG (mv pt) (pwr n A)) (evG (mv pt) A ^ n)
  | 0 => by
    rw [Int.pow_zero]
    show Cg (1 * mv pt z26 + 0) 1
    rw [mv_z26]; exact Cg.refl _
  | n + 1 => by
    rw [Int.pow_succ]
    exact (mv_prods pt (hA.pwr n) hA).trans ((mv_pwr pt hA n).mul (Cg.refl _))
theorem mv_eV (pt : List Int) {x : Int} (h : 0 ≤ x ∧ x ≤ 25) : mv pt (eV x) = ptv pt x := by
  unfold mv ptv
  rw [eV_at (by omega), mvF_add z26 0 _ 1 (by rw [z26_len]; omega) (fun y hy => (rv_z26.rng y hy).1) (by omega)]
  have := mv_z26 pt
  unfold mv at this
  rw [this, Int.one_mul, Nat.zero_add]
  show _ ^ 1 = _
  rw [Int.pow_succ, Int.pow_zero, Int.one_mul]
theorem evT_fp (pt : List Int) : ∀ t : Tre, Wt t → Cg (evT pt t) (evG (mv pt) (fp t)) := by
  refine Tre.ind (fun k v x c hw => ?_) (fun k v x c ih hw => ?_) (fun k v x n c ih1 ih2 hw => ?_)
  · rw [evT, fp]
    split
    · simp only [evG, Int.add_zero, mv_z26, Int.mul_one]; exact Cg.refl _
    · rename_i hk
      rcases hw with hw | hw
      · exact absurd hw.1 hk
      · simp only [evG, Int.add_zero, Int.one_mul, mv_eV pt hw.2.2]; exact Cg.refl _
  · obtain ⟨hx, hk, hw1⟩ := hw
    have ih := ih hw1
    rw [evT, fp]
    split
    · exact (Cg.w64 _).trans (ih.neg.trans (evG_neg _ _).symm)
    · unfold pw
      exact (Cg.w64 _).trans ((ih.pow _).trans (mv_pwr pt (fp_nn _) _).symm)
  · obtain ⟨rfl, hv, hx, hk, hw1, hw2⟩ := hw
    have ih1 := ih1 hw1
    have ih2 := ih2 hw2
    rw [evT, fp]
    split
    · rw [evG_append]
      exact (Cg.w64 _).trans (ih1.add ih2)
    · split
      · rw [evG_append]
        refine (Cg.w64 _).trans ?_
        rw [Int.sub_eq_add_neg]
        exact ih1.add (ih2.neg.trans (evG_neg _ _).symm)
      · exact (Cg.w64 _).trans ((ih1.mul ih2).trans (mv_prods pt (fp_nn _) (fp_nn _)).symm)
theorem evT_w {pt : List Int} (hp : ∀ x ∈ pt, w64 x = x) : ∀ t : Tre, Wi t → w64 (evT pt t) = evT pt t := by
  refine Tre.ind (fun k v x c hi => ?_) (fun k v x c ih hi => ?_) (fun k v x n c ih1 ih2 hi => ?_)
  · rw [evT]
    split
    · exact hi
    · unfold ptv
      rw [List.getD_eq_getElem?_getD]
      cases h : pt[x.toNat]? with
      | none => exact (by decide : w64 0 = 0)
      | some a => exact hp a (List.mem_of_getElem? h)
  · rw [evT]
    split
    · exact w64_wr _
    · unfold pw; exact w64_wr _
  · rw [evT]
    split
    · exact w64_wr _
    · split
      · exact w64_wr _
      · exact w64_wr _
theorem evT_eq {pt : List Int} (hp : ∀ x ∈ pt, w64 x = x) {s t : Tre} (ws : Wt s) (is : Wi s) (wt : Wt t) (it : Wi t) (h : Eqv (fp s) (fp t)) : evT pt s = evT pt t := by
  rw [← evT_w hp s is, ← evT_w hp t it]
  exact ((evT_fp pt s ws).trans ((h _).trans (evT_fp pt t wt).symm)).eq
/-! ### the derivative -/
def dec (y : Nat) (u : List Int) : List Int := u.set y (u.getD y 0 - 1)
def dL (y : Nat) (A : List MT) : List MT := A.map fun t => (t.1 * t.2.getD y 0, dec y t.2)
theorem evG_dL (g : List Int → Int) (y : Nat) : ∀ A : List MT, evG g (dL y A) = evG (fun u => u.getD y 0 * g (dec y u)) A
  | [] => rfl
  | t :: A => by
    have e : dL y (t :: A) = (t.1 * t.2.getD y 0, dec y t.2) :: dL y A := rfl
    rw [e, evG, evG, evG_dL g y A, Int.mul_assoc]
theorem Eqv.dL {A B : List MT} (h : Eqv A B) (y : Nat) : Eqv (dL y A) (dL y B) := fun g => by rw [evG_dL, evG_dL]; exact h _
theorem L26.dL {A : List MT} (h : L26 A) (y : Nat) : L26 (dL y A) := fun t ht => by
  unfold Go.Mw.dL at ht
  rw [List.mem_map] at ht
  obtain ⟨u, hu, rfl⟩ := ht
  simp only [dec, List.length_set]; exact h u hu
theorem addV_at {u w : List Int} {y : Nat} (hu : u.length = 26) (hw : w.length = 26) (hy : y < 26) : (addV u w).getD y 0 = u.getD y 0 + w.getD y 0 ∧ dec y (addV u w) = addV (dec y u) w ∧ dec y (addV u w) = addV u (dec y w) := by
  obtain ⟨a, ha⟩ : ∃ a, u[y]? = some a := ⟨_, List.getElem?_eq_getElem (by omega)⟩
  obtain ⟨b, hb⟩ : ∃ b, w[y]? = some b := ⟨_, List.getElem?_eq_getElem (by omega)⟩
  have hab := addV_get ha hb
  have ea : u.getD y 0 = a := by rw [List.getD_eq_getElem?_getD, ha]; rfl
  have eb : w.getD y 0 = b := by rw [List.getD_eq_getElem?_getD, hb]; rfl
  have eab : (addV u w).getD y 0 = a + b := by rw [List.getD_eq_getElem?_getD, hab]; rfl
  have hl := addV_len hu hw
  have g1 : ∀ (v : List Int) (i : Nat) (c : Int), y < v.length → (v.set y c)[i]? = if y = i then some c else v[i]? := fun v i c hv => by
    rw [List.getElem?_set]; split
    · rename_i e; subst e; simp [hv]
    · rfl
  have g2 : ∀ (p q : List Int) (i : Nat), (addV p q)[i]? = match p[i]?, q[i]? with
      | some a, some b => some (a + b)
      | _, _ => none := fun p q i => by unfold addV; rw [List.getElem?_zipWith]; cases p[i]? <;> cases q[i]? <;> rfl
  refine ⟨by rw [eab, ea, eb], ?_, ?_⟩
  · apply List.ext_getElem?
    intro i
    unfold dec
    rw [eab, ea, g1 (addV u w) i _ (by omega), g2 u w, g2 (u.set y (a - 1)) w, g1 u i _ (by omega)]
    by_cases e : y = i
    · subst e; rw [if_pos rfl, if_pos rfl, hb]; simp only [Option.some.injEq]; omega
    · rw [if_neg e, if_neg e]
  · apply List.ext_getElem?
    intro i
    unfold dec
    rw [eab, eb, g1 (addV u w) i _ (by omega), g2 u w, g2 u (w.set y (b - 1)), g1 w i _ (by omega)]
    by_cases e : y = i
    · subst e; rw [if_pos rfl, if_pos rfl, ha]; simp only [Option.some.injEq]; omega
    · rw [if_neg e, if_neg e]
theorem leibniz {A B : List MT} {y : Nat} (hA : L26 A) (hB : L26 B) (hy : y < 26) : Eqv (dL y (prods A B)) (prods (dL y A) B ++ prods A (dL y B)) := fun g => by
  rw [evG_dL, evG_append]
  refine (evG_prods _ B A).trans ?_
  refine Cg.trans ?_ ((evG_prods g B (dL y A)).add (evG_prods g (dL y B) A)).symm
  rw [evG_dL, ← evG_add]
  refine evG_congr fun t ht => ?_
  rw [evG_dL, ← evG_smul, ← evG_add]
  refine evG_congr fun u hu => ?_
  obtain ⟨h1, h2, h3⟩ := addV_at (hA t ht) (hB u hu) hy
  rw [h1, Int.add_mul]
  conv => lhs; lhs; rw [h2]
  conv => lhs; rhs; rw [h3]
  exact Cg.refl _
theorem dL_app (y : Nat) (A B : List MT) : dL y (A ++ B) = dL y A ++ dL y B := by simp [dL]
theorem dL_neg (y : Nat) (A : List MT) : Eqv (dL y (negM A)) (negM (dL y A)) := fun g => by
  rw [evG_dL]
  refine (evG_neg _ A).trans ?_
  refine Cg.trans ?_ (evG_neg g _).symm
  rw [evG_dL]; exact Cg.refl _
theorem dL_num (y : Nat) (hy : y < 26) (c : Int) : Eqv (dL y [(c, z26)]) [(0, z26)] := fun g => by
  rw [evG_dL]
  have : z26.getD y 0 = 0 := by
    unfold z26
    rw [List.getD_eq_getElem?_getD, List.getElem?_replicate]
    split <;> rfl
  simp only [evG, this, Int.zero_mul, Int.mul_zero]; exact Cg.refl _
theorem dL_pwr {A : List MT} {y : Nat} (hA : L26 A) (hy : y < 26) : ∀ n : Nat, Eqv (dL y (pwr (n + 1) A)) (prods [(((n + 1 : Nat) : Int), z26)] (prods (pwr n A) (dL y A)))
  | 0 => by
    refine ((pwr_one hA).dL y).trans ?_
    have := (prods_one (L26.unit.prods (hA.dL y))).trans (prods_one (hA.dL y))
    exact this.symm
  | n + 1 => fun g => by
    have hl := (leibniz (hA.pwr (n + 1)) hA hy) g
    refine hl.trans ?_
    rw [evG_append]
    have hY : L26 (prods (pwr (n + 1) A) (dL y A)) := (hA.pwr _).prods (hA.dL y)
    refine Cg.trans ?_ (prods_num _ hY g).symm
    have h1 : Eqv (prods (dL y (pwr (n + 1) A)) A) (prods [(((n + 1 : Nat) : Int), z26)] (prods (pwr (n + 1) A) (dL y A))) := by
      refine ((dL_pwr hA hy n).prods (Eqv.refl A)).trans ?_
      refine (prods_assoc _ _ _).trans ((Eqv.refl _).prods ?_)
      refine (prods_assoc _ _ _).trans ?_
      refine ((Eqv.refl _).prods (prods_comm _ _)).trans ?_
      exact (prods_assoc _ _ _).symm
    refine (((h1 g).trans (prods_num _ hY g)).add (Cg.refl _)).trans ?_
    have : ((n + 1 + 1 : Nat) : Int) = ((n + 1 : Nat) : Int) + 1 := by omega
    rw [this, Int.add_mul, Int.one_mul]; exact Cg.refl _
theorem eqv_zero {c : Int} (u v : List Int) : Eqv [(0, u)] [(0, v)] := fun g => by
  simp only [evG, Int.zero_mul]; exact Cg.refl _
theorem eV_get : ∀ x y : Fin 26, (eV (x.val : Int)).getD y.val 0 = if x = y then 1 else 0 := by decide
theorem eV_dec : ∀ x : Fin 26, dec x.val (eV (x.val : Int)) = z26 := by decide
theorem dT_fp {y : Int} (hy : 0 ≤ y ∧ y ≤ 25) : ∀ t : Tre, Wt t → Eqv (fp (dT y t)) (dL y.toNat (fp t)) := by
  have hyn : y.toNat < 26 := by omega
  refine Tre.ind (fun k v x c hw => ?_) (fun k v x c ih hw => ?_) (fun k v x n c ih1 ih2 hw => ?_)
  · rw [dT, fp]
    rcases hw with hw | hw
    · obtain ⟨rfl, -⟩ := hw
      rw [if_neg (show ¬ (1 : Int) = 2 by decide), if_pos rfl]
      exact (dL_num _ hyn v).symm
    · have hk := hw.1
      subst hk
      rw [if_pos rfl, if_neg (show ¬ (2 : Int) = 1 by decide)]
      have h1 := eV_get ⟨x.toNat, by omega⟩ ⟨y.toNat, hyn⟩
      simp only [Int.toNat_of_nonneg hw.2.2.1] at h1
      have hg : Eqv (dL y.toNat [(1, eV x)]) [((eV x).getD y.toNat 0, dec y.toNat (eV x))] := fun g => by
        simp only [dL, List.map_cons, List.map_nil, Int.one_mul]; exact Cg.refl _
      refine Eqv.trans ?_ hg.symm
      rw [h1]
      split
      · rename_i e
        rw [if_pos (by subst e; rfl)]
        have h2 := eV_dec ⟨x.toNat, by omega⟩
        simp only [Int.toNat_of_nonneg hw.2.2.1] at h2
        rw [← e, h2]
        exact Eqv.refl _
      · rename_i e
        rw [if_neg (by simp only [Fin.mk.injEq]; omega)]
        exact eqv_zero (c := 0) _ _
  · obtain ⟨hx, hk, hw1⟩ := hw
    have ih := ih hw1
    rw [dT, fp]
    rcases hk with ⟨rfl, -⟩ | ⟨rfl, hv⟩
    · rw [if_pos rfl, if_pos rfl, fp_u3]
      exact ih.neg.trans (dL_neg _ _).symm
    · rw [if_neg (show ¬ (7 : Int) = 3 by decide), if_neg (show ¬ (7 : Int) = 3 by decide)]
      split
      · rename_i h0
        rw [h0]
        exact (dL_num _ hyn 1).symm
      · rename_i h0
        have e : v.toNat = (v - 1).toNat + 1 := by omega
        rw [fp_b6, fp_b6, fp_u7, fp_num, e]
        have := dL_pwr (fp_l26 (c 0)) hyn (v - 1).toNat
        refine Eqv.trans ?_ this.symm
        have e2 : (((v - 1).toNat + 1 : Nat) : Int) = v := by omega
        rw [e2]
        exact (prods_assoc _ _ _).trans ((Eqv.refl _).prods ((Eqv.refl _).prods ih))
  · obtain ⟨rfl, hv, hx, hk, hw1, hw2⟩ := hw
    have ih1 := ih1 hw1
    have ih2 := ih2 hw2
    rw [dT, fp]
    rcases hk with rfl | rfl | rfl
    · rw [if_neg (show ¬ (4 : Int) = 6 by decide), if_pos rfl, fp_b4, dL_app]
      exact ih1.app ih2
    · rw [if_neg (show ¬ (5 : Int) = 6 by decide), if_neg (show ¬ (5 : Int) = 4 by decide), if_pos rfl, fp_b5, dL_app]
      exact ih1.app (ih2.neg.trans (dL_neg _ _).symm)
    · rw [if_pos rfl, if_neg (show ¬ (6 : Int) = 4 by decide), if_neg (show ¬ (6 : Int) = 5 by decide), fp_b4, fp_b6, fp_b6]
      refine Eqv.trans ?_ (leibniz (fp_l26 _) (fp_l26 _) hyn).symm
      exact (ih1.prods (Eqv.refl _)).app ((Eqv.refl _).prods ih2)
theorem dM_eqv (y : Nat) : ∀ A : List MT, Vl A → y < 26 → Eqv (A.filterMap (dM y)) (dL y A)
  | [], _, _ => Eqv.refl _
  | t :: A, hA, hy => by
    have ih := dM_eqv y A (fun u hu => hA u (by simp [hu])) hy
    have e : dL y (t :: A) = [(t.1 * t.2.getD y 0, dec y t.2)] ++ dL y A := rfl
    have e2 : (t :: A).filterMap (dM y) = (dM y t).toList ++ A.filterMap (dM y) := by
      rw [List.filterMap_cons]
      cases dM y t <;> rfl
    rw [e, e2]
    refine Eqv.app ?_ ih
    obtain ⟨a, ha, ha0, -⟩ := (hA t (by simp)).nth hy
    have hg : t.2.getD y 0 = a := by rw [List.getD_eq_getElem?_getD, ha]; rfl
    unfold dM
    rw [hg]
    split
    · have : a = 0 := by omega
      intro g
      rw [this]
      simp only [Option.toList_none, evG, Int.mul_zero, Int.zero_mul]; exact Cg.refl _
    · split
      · rename_i h0
        intro g
        have : Cg (t.1 * a) 0 := Cg.of (by rw [h0]; decide)
        have := this.mul (Cg.refl (g (dec y t.2)))
        rw [Int.zero_mul] at this
        simp only [Option.toList_none, evG, Int.add_zero]; exact this.symm
      · intro g
        simp only [Option.toList_some, evG, Int.add_zero, dec, hg]
        exact (Cg.w64 _).mul (Cg.refl _)
/-- the derivative's polynomial is the polynomial's derivative -/
theorem der_eq {R0 S : List MT} {y : Int} {t : Tre} (hy : 0 ≤ y ∧ y ≤ 25) (h0 : CM R0) (hS : CM S) (hw : Wt t) (e0 : Eqv R0 (fp t)) (eS : Eqv S (fp (dT y t))) : difP (toP R0) y = some (toP S) := by
  have hyn : y.toNat < 26 := by omega
  have hg := dms_good h0.canon hyn
  have hc := CM.of_nf hg.1 hg.2.2.2
  unfold difP
  rw [if_pos ⟨h0.canon, by omega, by omega⟩]
  congr 2
  refine hc.eq_of hS ?_
  refine (Eqv.nf _).trans ?_
  have h1 : Eqv (dms (toP R0) y.toNat) (dL y.toNat R0) := by
    unfold dms
    rw [h0.ms]
    exact dM_eqv _ R0 h0.vl hyn
  exact h1.trans ((e0.dL _).trans ((dT_fp hy t hw).symm.trans eS.symm))
theorem tpP_raw {t : Tre} {R : List MT} (hw : Wt t) (hi : Wi t) (hR : CM R) (he : Eqv (fp t) R) {q : List PT} (h : tpP t = some q) : q = toP R := by
  unfold tpP at h
  cases hx : xp t 0 with
  | none => rw [hx] at h; cases h
  | some a =>
    obtain ⟨S, u1⟩ := a
    rw [hx] at h
    simp only [Option.map_some, Option.some.injEq] at h
    subst h
    have h1 := xp_eqv t hw hi 0 S u1 hx
    rw [h1.1.eq_of hR (h1.2.trans he)]
theorem tpP_cm {t : Tre} (hw : Wt t) (hi : Wi t) {q : List PT} (h : tpP t = some q) : ∃ R, CM R ∧ q = toP R ∧ Eqv R (fp t) := by
  unfold tpP at h
  cases hx : xp t 0 with
  | none => rw [hx] at h; cases h
  | some a =>
    obtain ⟨S, u1⟩ := a
    rw [hx] at h
    simp only [Option.map_some, Option.some.injEq] at h
    have h1 := xp_eqv t hw hi 0 S u1 hx
    exact ⟨S, h1.1, h.symm, h1.2⟩
end Go.Mw
