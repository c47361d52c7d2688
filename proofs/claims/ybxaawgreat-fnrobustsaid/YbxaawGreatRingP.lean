/-
  Value of sums and products; the normal form is canonical. Plain.
-/
import Derived.Test.YbxaawGreatAmP
set_option linter.unusedVariables false
set_option linter.unusedSimpArgs false
namespace Go.Mw
/-! ### the value of a vector -/
def mvF (pt : List Int) : List Int → Nat → Int
  | [], _ => 1
  | x :: v, i => pt.getD i 0 ^ x.toNat * mvF pt v (i + 1)
def evM (pt : List Int) : List MT → Int
  | [] => 0
  | t :: r => t.1 * mvF pt t.2 0 + evM pt r
theorem mvF_add {pt : List Int} : ∀ (v : List Int) (i a : Nat) (p : Int), a < v.length → (∀ x ∈ v, 0 ≤ x) → 0 ≤ p → mvF pt (addAt v a p) i = mvF pt v i * pt.getD (i + a) 0 ^ p.toNat
  | [], _, a, _, h, _, _ => by simp at h
  | x :: v, i, 0, p, h, hv, hp => by
    have hx := hv x (by simp)
    simp only [addAt, List.set_cons_zero, List.getD_cons_zero, mvF, Nat.add_zero]
    rw [Int.toNat_add hx hp, Int.pow_add]
    rw [Int.mul_assoc, Int.mul_assoc, Int.mul_comm (pt.getD i 0 ^ p.toNat)]
  | x :: v, i, a + 1, p, h, hv, hp => by
    have ih := mvF_add (pt := pt) v (i + 1) a p (by simpa using h) (fun y hy => hv y (by simp [hy])) hp
    unfold addAt at ih ⊢
    simp only [List.set_cons_succ, List.getD_cons_succ, mvF]
    rw [ih, Int.mul_assoc, show i + 1 + a = i + (a + 1) by omega]
def fvl (pt : List Int) : List (Int × Int) → Int
  | [] => 1
  | f :: fs => ptv pt f.1 ^ f.2.toNat * fvl pt fs
/-- factors in range -/
def Fr (fs : List (Int × Int)) : Prop := ∀ f ∈ fs, 0 ≤ f.1 ∧ f.1 < 26 ∧ 0 ≤ f.2
theorem mvF_vecF (pt : List Int) : ∀ (fs : List (Int × Int)) (v : List Int), Fr fs → v.length = 26 → (∀ x ∈ v, 0 ≤ x) → mvF pt (vecF fs v) 0 = mvF pt v 0 * fvl pt fs
  | [], v, _, _, _ => by simp [vecF, fvl]
  | f :: fs, v, hf, hl, hv => by
    have h0 := hf f (by simp)
    rw [vecF, mvF_vecF pt fs _ (fun g hg => hf g (by simp [hg])) (by rw [addAt_len]; exact hl) (fun x hx => ?_), mvF_add v 0 _ _ (by omega) hv h0.2.2, fvl, ptv, Nat.zero_add, Int.mul_assoc]
    rcases addAt_mem hx with hx | ⟨hi, rfl⟩
    · exact hv x hx
    · have hm : v.getD f.1.toNat 0 ∈ v := by rw [List.getD_eq_getElem?_getD, List.getElem?_eq_getElem hi]; simp
      have := hv _ hm
      omega
theorem mvF_zero (pt : List Int) : ∀ (n i : Nat), mvF pt (List.replicate n 0) i = 1
  | 0, _ => rfl
  | n + 1, i => by rw [List.replicate_succ, mvF, mvF_zero pt n]; simp
theorem mvF_vec (pt : List Int) {fs : List (Int × Int)} (h : Fr fs) : mvF pt (vec fs) 0 = fvl pt fs := by
  unfold vec
  rw [mvF_vecF pt fs z26 h z26_len (fun x hx => by simp [z26] at hx; omega)]
  unfold z26
  rw [mvF_zero, Int.one_mul]
theorem evF_cg (pt : List Int) : ∀ (fs : List (Int × Int)) (x : Int), Cg (evF pt fs x) (x * fvl pt fs)
  | [], x => by rw [evF, fvl, Int.mul_one]; exact Cg.refl _
  | f :: fs, x => by
    rw [evF, fvl]
    refine (evF_cg pt fs _).trans ?_
    rw [← Int.mul_assoc]
    refine Cg.mul ((Cg.w64 _).trans ?_) (Cg.refl _)
    exact (Cg.refl _).mul (Cg.w64 _)
theorem evQ_cg (pt : List Int) : ∀ (q : List PT) (s : Int), (∀ t ∈ q, Fr t.2) → Cg (evQ pt q s) (s + evM pt (ms q))
  | [], s, _ => by simp [evQ, ms, evM, Cg]
  | t :: q, s, h => by
    rw [evQ]
    refine (evQ_cg pt q _ fun u hu => h u (by simp [hu])).trans ?_
    have e : evM pt (ms (t :: q)) = t.1 * fvl pt t.2 + evM pt (ms q) := by
      simp only [ms, List.map_cons, evM]
      rw [mvF_vec pt (h t (by simp))]
    rw [e, ← Int.add_assoc]
    exact ((Cg.w64 _).trans ((Cg.refl _).add (evF_cg pt t.2 t.1))).add (Cg.refl _)
theorem evQ_w (pt : List Int) : ∀ (q : List PT) (s : Int), w64 s = s → w64 (evQ pt q s) = evQ pt q s
  | [], s, h => h
  | t :: q, s, h => by rw [evQ]; exact evQ_w pt q _ (w64_wr _)
theorem evalP_eq {q : List PT} (pt : List Int) (h : ∀ t ∈ q, Fr t.2) : evalP q pt = w64 (evM pt (ms q)) := by
  unfold evalP
  rw [← evQ_w pt q 0 (by decide)]
  have := evQ_cg pt q 0 h
  rw [Int.zero_add] at this
  exact this.eq
theorem canon_fr {q : List PT} (h : canon q = true) : ∀ t ∈ q, Fr t.2 := fun t ht f hf => by
  have := (canon_mem h t ht).mem f hf
  omega
/-! ### the normal form keeps the value -/
theorem evM_ins (pt : List Int) (t : MT) : ∀ R : List MT, Cg (evM pt (ins t R)) (t.1 * mvF pt t.2 0 + evM pt R)
  | [] => by
    rw [ins]
    split
    · rename_i h
      simp only [evM]
      have : Cg t.1 0 := Cg.of (by rw [h]; decide)
      have := this.mul (Cg.refl (mvF pt t.2 0))
      rw [Int.zero_mul] at this
      exact (this.add (Cg.refl 0)).symm
    · simp only [evM]
      exact ((Cg.w64 _).mul (Cg.refl _)).add (Cg.refl _)
  | u :: r => by
    rw [ins]
    split
    · rename_i e
      have e2 : t.1 * mvF pt t.2 0 + evM pt (u :: r) = (t.1 + u.1) * mvF pt u.2 0 + evM pt r := by rw [evM, e, Int.add_mul]; omega
      rw [e2]
      split
      · rename_i h
        have : Cg (t.1 + u.1) 0 := Cg.of (by rw [h]; decide)
        have := (this.mul (Cg.refl (mvF pt u.2 0))).add (Cg.refl (evM pt r))
        rw [Int.zero_mul, Int.zero_add] at this
        exact this.symm
      · simp only [evM]
        exact ((Cg.w64 _).mul (Cg.refl _)).add (Cg.refl _)
    · split
      · split
        · rename_i h
          have : Cg t.1 0 := Cg.of (by rw [h]; decide)
          have := (this.mul (Cg.refl (mvF pt t.2 0))).add (Cg.refl (evM pt (u :: r)))
          rw [Int.zero_mul, Int.zero_add] at this
          exact this.symm
        · rw [evM]
          exact ((Cg.w64 _).mul (Cg.refl _)).add (Cg.refl _)
      · rw [evM, evM]
        have := (Cg.refl (u.1 * mvF pt u.2 0)).add (evM_ins pt t r)
        refine this.trans ?_
        rw [Int.add_left_comm]
        exact Cg.refl _
theorem evM_nf (pt : List Int) : ∀ a : List MT, Cg (evM pt (nf a)) (evM pt a)
  | [] => Cg.refl _
  | t :: r => by
    rw [nf, evM]
    exact (evM_ins pt t (nf r)).trans ((Cg.refl _).add (evM_nf pt r))
theorem evM_append (pt : List Int) : ∀ a b : List MT, evM pt (a ++ b) = evM pt a + evM pt b
  | [], b => by simp [evM]
  | t :: a, b => by rw [List.cons_append, evM, evM, evM_append pt a b, Int.add_assoc]
/-! ### products -/
theorem mvF_addV (pt : List Int) : ∀ (a b : List Int) (i : Nat), a.length = b.length → (∀ x ∈ a, 0 ≤ x) → (∀ x ∈ b, 0 ≤ x) → mvF pt (addV a b) i = mvF pt a i * mvF pt b i
  | [], [], _, _, _, _ => by simp [addV, mvF]
  | x :: a, y :: b, i, h, ha, hb => by
    have ih := mvF_addV pt a b (i + 1) (by simpa using h) (fun z hz => ha z (by simp [hz])) (fun z hz => hb z (by simp [hz]))
    unfold addV at ih ⊢
    simp only [List.zipWith_cons_cons, mvF]
    rw [ih, Int.toNat_add (ha x (by simp)) (hb y (by simp)), Int.pow_add]
    simp only [Int.mul_assoc, Int.mul_left_comm, Int.mul_comm]
  | [], y :: b, _, h, _, _ => by simp at h
  | x :: a, [], _, h, _, _ => by simp at h
theorem evM_map (pt : List Int) {x : MT} (hx : x.2.length = 26 ∧ ∀ z ∈ x.2, 0 ≤ z ∧ z ≤ 1000000) : ∀ B : List MT, Hv B → Cg (evM pt (B.map (mulT x))) (x.1 * mvF pt x.2 0 * evM pt B)
  | [], _ => by simp [evM, Cg]
  | y :: B, hB => by
    have hy := hB y (by simp)
    have ih := evM_map pt hx B fun t ht => hB t (by simp [ht])
    rw [List.map_cons, evM, evM, Int.mul_add]
    refine Cg.add ?_ ih
    simp only [mulT]
    rw [mvF_addV pt x.2 y.2 0 (hx.1.trans hy.1.symm) (fun z hz => (hx.2 z hz).1) (fun z hz => (hy.2 z hz).1)]
    refine ((Cg.w64 _).mul (Cg.refl _)).trans ?_
    have e : x.1 * y.1 * (mvF pt x.2 0 * mvF pt y.2 0) = x.1 * mvF pt x.2 0 * (y.1 * mvF pt y.2 0) := by
      simp only [Int.mul_assoc, Int.mul_left_comm, Int.mul_comm]
    rw [e]; exact Cg.refl _
theorem evM_prods (pt : List Int) {B : List MT} (hB : Hv B) : ∀ A : List MT, Hv A → Cg (evM pt (prods A B)) (evM pt A * evM pt B)
  | [], _ => by simp [prods, evM, Cg]
  | x :: A, hA => by
    have ih := evM_prods pt hB A fun t ht => hA t (by simp [ht])
    have e : prods (x :: A) B = B.map (mulT x) ++ prods A B := by simp [prods]
    rw [e, evM_append, evM, Int.add_mul]
    exact (evM_map pt (hA x (by simp)) B hB).add ih
theorem addV_comm (a b : List Int) : addV a b = addV b a := by
  unfold addV
  rw [List.zipWith_comm]
  congr 1
  funext x y; exact Int.add_comm _ _
theorem mulT_comm (x y : MT) : mulT x y = mulT y x := by unfold mulT; rw [Int.mul_comm, addV_comm]
theorem csum_prods_right (y : MT) (B : List MT) (v : List Int) : ∀ A : List MT, csum (prods A (y :: B)) v = csum (A.map (mulT y)) v + csum (prods A B) v
  | [] => by simp [prods, csum]
  | x :: A => by
    have ih := csum_prods_right y B v A
    have e : ∀ C : List MT, prods (x :: A) C = C.map (mulT x) ++ prods A C := fun C => by simp [prods]
    rw [e, e, csum_append, csum_append, ih, List.map_cons, csum, List.map_cons, csum, mulT_comm x y]
    omega
theorem csum_prods (A : List MT) (v : List Int) : ∀ B : List MT, csum (prods A B) v = csum (prods B A) v
  | [] => by
    have : prods A ([] : List MT) = [] := by unfold prods; simp
    rw [this]; rfl
  | y :: B => by
    have e : prods (y :: B) A = A.map (mulT y) ++ prods B A := by simp [prods]
    rw [csum_prods_right, e, csum_append, csum_prods A v B]
theorem addP_comm (p q : List PT) : addP p q = addP q p := by
  unfold addP
  by_cases hc : canon p = true ∧ canon q = true
  case neg => rw [if_neg hc, if_neg (fun h => hc ⟨h.2, h.1⟩)]
  rw [if_pos hc, if_pos ⟨hc.2, hc.1⟩]
  obtain ⟨hp, hq⟩ := hc
  have hA := (canon_hv hp).vl
  have hB := (canon_hv hq).vl
  unfold rawP
  rw [nf_cong (app_vl hA hB).len (app_vl hB hA).len (fun v => by rw [csum_append, csum_append, Int.add_comm]; exact Cg.refl _)]
theorem mulP_comm (p q : List PT) : mulP p q = mulP q p := by
  unfold mulP
  rw [Nat.mul_comm p.length]
  by_cases hc : canon p = true ∧ canon q = true ∧ q.length * p.length ≤ 100000
  · rw [if_pos hc, if_pos ⟨hc.2.1, hc.1, hc.2.2⟩]
    have hA := canon_hv hc.1
    have hB := canon_hv hc.2.1
    unfold rawP
    rw [nf_cong (prods_vl hA hB).len (prods_vl hB hA).len (fun v => by rw [csum_prods]; exact Cg.refl _)]
  · rw [if_neg hc, if_neg (fun h => hc ⟨h.2.1, h.1, h.2.2⟩)]
/-! ### the normal form is canonical -/
theorem facOk_spF : ∀ (v : List Int) (i : Nat) (last : Int), last < i → i + v.length ≤ 26 → (∀ x ∈ v, 0 ≤ x ∧ x ≤ 1000000) → facOk (spF v i) last = true
  | [], _, _, _, _, _ => by simp [spF, facOk]
  | x :: v, i, last, hl, hi, hv => by
    simp only [List.length_cons] at hi
    have hx := hv x (by simp)
    rw [spF]
    split
    · exact facOk_spF v (i + 1) last (by omega) (by omega) fun y hy => hv y (by simp [hy])
    · rw [facOk]
      simp only [Bool.and_eq_true, decide_eq_true_eq]
      exact ⟨⟨by omega, by omega, by omega, by omega⟩, facOk_spF v (i + 1) i (by omega) (by omega) fun y hy => hv y (by simp [hy])⟩
theorem addAt_mid (pre rest : List Int) (x y : Int) : addAt (pre ++ x :: rest) pre.length y = pre ++ (x + y) :: rest := by
  unfold addAt
  rw [List.set_append_right _ _ (Nat.le_refl _), Nat.sub_self, List.set_cons_zero, List.getD_eq_getElem?_getD, List.getElem?_append_right (Nat.le_refl _), Nat.sub_self]
  rfl
theorem vecF_spF : ∀ (v pre : List Int) (i : Nat), pre.length = i → vecF (spF v i) (pre ++ List.replicate v.length 0) = pre ++ v
  | [], pre, _, _ => by simp [spF, vecF]
  | x :: v, pre, i, h => by
    have ih := vecF_spF v (pre ++ [x]) (i + 1) (by simp [h])
    rw [List.append_assoc, List.append_assoc] at ih
    rw [spF]
    split
    · rename_i h0
      subst h0
      simpa [List.replicate_succ] using ih
    · rw [vecF]
      have e : ((i : Int), x).1.toNat = pre.length := by simp [h]
      rw [e, List.length_cons, List.replicate_succ, addAt_mid, Int.zero_add]
      simpa using ih
theorem vec_spF {v : List Int} (h : v.length = 26) : vec (spF v 0) = v := by
  have := vecF_spF v [] 0 rfl
  rw [h] at this
  simpa [vec, z26] using this
theorem ms_toP {R : List MT} (h : ∀ t ∈ R, t.2.length = 26) : ms (toP R) = R := by
  unfold ms toP
  rw [List.map_map]
  conv => rhs; rw [← List.map_id R]
  refine List.map_congr_left fun t ht => ?_
  simp only [Function.comp, id]
  rw [vec_spF (h t ht)]
theorem le_isum : ∀ (v : List Int), (∀ x ∈ v, 0 ≤ x) → 0 ≤ isum v ∧ ∀ x ∈ v, x ≤ isum v
  | [], _ => ⟨by simp [isum], fun x hx => (by cases hx)⟩
  | y :: v, h => by
    have ih := le_isum v fun x hx => h x (by simp [hx])
    have hy := h y (by simp)
    rw [isum]
    refine ⟨by omega, fun x hx => ?_⟩
    rcases List.mem_cons.1 hx with rfl | hx
    · omega
    · have := ih.2 x hx; omega
theorem canonL_toP : ∀ (R : List MT) (p : Option (List Int)), SB R → (∀ t ∈ R, befO p t.2 = true) → (∀ t ∈ R, t.1 ≠ 0) → (∀ t ∈ R, t.2.length = 26 ∧ (∀ x ∈ t.2, 0 ≤ x) ∧ isum t.2 ≤ 1000000) → canonL (toP R) p = true
  | [], _, _, _, _, _ => by simp [toP, canonL]
  | t :: R, p, hs, hb, hn, hv => by
    have h1 := List.pairwise_cons.1 hs
    obtain ⟨hl, h0, hd⟩ := hv t (by simp)
    have hle := le_isum t.2 h0
    have ih := canonL_toP R (some t.2) h1.2 (fun u hu => h1.1 u hu) (fun u hu => hn u (by simp [hu])) (fun u hu => hv u (by simp [hu]))
    have e : toP (t :: R) = (t.1, spF t.2 0) :: toP R := rfl
    rw [e, canonL]
    simp only []
    rw [vec_spF hl, facOk_spF t.2 0 (-1) (by omega) (by omega) (fun x hx => ⟨h0 x hx, by have := hle.2 x hx; omega⟩), hb t (by simp), ih, decide_eq_true (hn t (by simp)), decide_eq_true hd]
    rfl
theorem nfOk_le' {R : List MT} (h : nfOk R = true) : R.length ≤ 4096 ∧ ∀ t ∈ R, isum t.2 ≤ 1000000 := by
  unfold nfOk at h
  simp only [Bool.and_eq_true, decide_eq_true_eq, List.all_eq_true] at h
  exact h
theorem canon_toP {M : List MT} (hV : Vl M) (h : nfOk (nf M) = true) : canon (toP (nf M)) = true := by
  have hn := nf_norm M hV.len
  have hl := nfOk_le' h
  unfold canon
  rw [decide_eq_true (by rw [toP_len]; exact hl.1), Bool.true_and]
  exact canonL_toP _ none hn.sb (fun t _ => rfl) (fun t ht => (hn.nz t ht).1) (fun t ht => ⟨hn.vl t ht, fun x hx => ((nf_vl hV t ht).rng x hx).1, hl.2 t ht⟩)
theorem rawP_canon {M : List MT} {r : List PT} (hV : Vl M) (h : rawP M = some r) : canon r = true ∧ ms r = nf M := by
  unfold rawP at h
  split at h
  · rename_i hk
    simp only [Option.some.injEq] at h
    subst h
    exact ⟨canon_toP hV hk, ms_toP (nf_norm M hV.len).vl⟩
  · cases h
theorem addP_ev {p q s : List PT} (pt : List Int) (h : addP p q = some s) : canon s = true ∧ evalP s pt = w64 (evalP p pt + evalP q pt) := by
  unfold addP at h
  split at h
  · rename_i hc
    obtain ⟨h1, h2⟩ := rawP_canon (app_vl (canon_hv hc.1).vl (canon_hv hc.2).vl) h
    refine ⟨h1, ?_⟩
    rw [evalP_eq pt (canon_fr h1), evalP_eq pt (canon_fr hc.1), evalP_eq pt (canon_fr hc.2), h2]
    refine Cg.eq ?_
    refine (evM_nf pt _).trans ?_
    rw [evM_append]
    exact ((Cg.w64 _).add (Cg.w64 _)).symm
  · cases h
theorem mulP_ev {p q s : List PT} (pt : List Int) (h : mulP p q = some s) : canon s = true ∧ evalP s pt = w64 (evalP p pt * evalP q pt) := by
  unfold mulP at h
  split at h
  · rename_i hc
    obtain ⟨h1, h2⟩ := rawP_canon (prods_vl (canon_hv hc.1) (canon_hv hc.2.1)) h
    refine ⟨h1, ?_⟩
    rw [evalP_eq pt (canon_fr h1), evalP_eq pt (canon_fr hc.1), evalP_eq pt (canon_fr hc.2.1), h2]
    refine Cg.eq ?_
    refine (evM_nf pt _).trans ?_
    refine (evM_prods pt (canon_hv hc.2.1) _ (canon_hv hc.1)).trans ?_
    exact ((Cg.w64 _).mul (Cg.w64 _)).symm
  · cases h
theorem normP_good {q r : List PT} (h : normP q = some r) : inOk q = true ∧ canon r = true ∧ ms r = nf (ms q) ∧ Cq r := by
  unfold normP at h
  split at h
  · rename_i hi
    have hr : rawP (ms q) = some r := h
    obtain ⟨h1, h2⟩ := rawP_canon (ms_vl hi) hr
    refine ⟨hi, h1, h2, fun t ht => ?_⟩
    have : (t.1, vec t.2) ∈ ms r := List.mem_map.2 ⟨t, ht, rfl⟩
    rw [h2] at this
    exact ((nf_norm _ (ms_vl hi).len).nz _ this).2
  · cases h
end Go.Mw
