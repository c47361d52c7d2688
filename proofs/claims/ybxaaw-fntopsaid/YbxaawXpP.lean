/-
  A tree's polynomial, plain.
-/
import Derived.Test.YbxaawCanQ
import Derived.Test.YbxaawRingP
set_option linter.unusedVariables false
set_option linter.unusedSimpArgs false
namespace Go.Mw
/-- a normal form within the bounds -/
structure CM (R : List MT) : Prop where
  nm : Norm R R
  vl : Vl R
  ok : nfOk R = true
theorem CM.nf {R : List MT} (h : CM R) : nf R = R := (h.nm.nf h.nm.vl).symm
theorem CM.canon {R : List MT} (h : CM R) : canon (toP R) = true := by
  have := canon_toP h.vl (by rw [h.nf]; exact h.ok)
  rwa [h.nf] at this
theorem CM.ms {R : List MT} (h : CM R) : ms (toP R) = R := ms_toP h.nm.vl
theorem CM.hv {R : List MT} (h : CM R) : Hv R := by
  have := canon_hv h.canon
  rwa [h.ms] at this
theorem CM.cr {R : List MT} (h : CM R) : Cr R := fun t ht => (h.nm.nz t ht).2
theorem CM.cq {R : List MT} (h : CM R) : Cq (toP R) := fun t ht => by
  unfold toP at ht
  rw [List.mem_map] at ht
  obtain ⟨u, hu, rfl⟩ := ht
  exact h.cr u hu
theorem CM.len {R : List MT} (h : CM R) : R.length ≤ 4096 := (nfOk_le' h.ok).1
theorem CM.of_nf {M : List MT} (hV : Vl M) (h : nfOk (Go.Mw.nf M) = true) : CM (Go.Mw.nf M) := by
  have hn := nf_norm M hV.len
  exact ⟨⟨hn.sb, hn.nz, hn.vl, fun v => Cg.refl _⟩, nf_vl hV, h⟩
theorem CM.nil : CM [] := ⟨⟨List.Pairwise.nil, fun t ht => (by cases ht), fun t ht => (by cases ht), fun v => Cg.refl _⟩, fun t ht => (by cases ht), rfl⟩
theorem CM.one {c : Int} {e : List Int} (hc : c ≠ 0) (hw : w64 c = c) (hv : Rv e) (hs : isum e ≤ 1000000) : CM [(c, e)] := by
  refine ⟨⟨List.pairwise_singleton _ _, fun t ht => ?_, fun t ht => ?_, fun v => Cg.refl _⟩, fun t ht => ?_, ?_⟩
  · simp only [List.mem_cons, List.not_mem_nil, or_false] at ht; subst ht; exact ⟨hc, hw⟩
  · simp only [List.mem_cons, List.not_mem_nil, or_false] at ht; subst ht; exact hv.len
  · simp only [List.mem_cons, List.not_mem_nil, or_false] at ht; subst ht; exact hv
  · unfold nfOk
    rw [decide_eq_true (by simp), Bool.true_and, List.all_cons, List.all_nil, decide_eq_true hs]; rfl
def negM (A : List MT) : List MT := A.map fun t => (w64 (-t.1), t.2)
theorem negM_len (A : List MT) : (negM A).length = A.length := by simp [negM]
theorem w64_neg0 {c : Int} (hw : w64 c = c) (h : c ≠ 0) : w64 (-c) ≠ 0 := by
  intro e
  have h1 : Cg (-c) 0 := by
    have := (Cg.w64 (-c)).symm
    rw [e] at this; exact this.symm.symm
  have h2 : Cg c 0 := by
    unfold Cg at h1 ⊢
    omega
  exact h (cg_zero h2 hw)
theorem CM.neg {R : List MT} (h : CM R) : CM (negM R) := by
  have hm : ∀ t ∈ negM R, ∃ u ∈ R, t = (w64 (-u.1), u.2) := fun t ht => by
    unfold negM at ht
    rw [List.mem_map] at ht
    obtain ⟨u, hu, rfl⟩ := ht
    exact ⟨u, hu, rfl⟩
  refine ⟨⟨?_, fun t ht => ?_, fun t ht => ?_, fun v => Cg.refl _⟩, fun t ht => ?_, ?_⟩
  · unfold SB negM
    rw [List.pairwise_map]
    exact h.nm.sb
  · obtain ⟨u, hu, rfl⟩ := hm t ht; exact ⟨w64_neg0 (h.nm.nz u hu).2 (h.nm.nz u hu).1, w64_wr _⟩
  · obtain ⟨u, hu, rfl⟩ := hm t ht; exact h.nm.vl u hu
  · obtain ⟨u, hu, rfl⟩ := hm t ht; exact h.vl u hu
  · have := nfOk_le' h.ok
    unfold nfOk
    rw [decide_eq_true (by rw [negM_len]; exact this.1), Bool.true_and, List.all_eq_true]
    intro t ht
    obtain ⟨u, hu, rfl⟩ := hm t ht
    exact decide_eq_true (this.2 u hu)
def numM (v : Int) : List MT := if v = 0 then [] else [(v, z26)]
def eV (x : Int) : List Int := z26.set x.toNat 1
def varM (x : Int) : List MT := [(1, eV x)]
def oneM : List MT := [(1, z26)]
theorem rv_z26 : Rv z26 := ⟨z26_len, fun x hx => by unfold z26 at hx; have := List.eq_of_mem_replicate hx; omega⟩
theorem CM.num {v : Int} (hw : w64 v = v) : CM (numM v) := by
  unfold numM
  split
  · exact CM.nil
  · exact CM.one (by assumption) hw rv_z26 (by rw [isum_z26]; omega)
theorem CM.unit : CM oneM := CM.one (by decide) (by decide) rv_z26 (by rw [isum_z26]; omega)
theorem eV_all : ∀ n : Fin 26, isum (eV (n.val : Int)) = 1 ∧ spF (eV (n.val : Int)) 0 = [((n.val : Int), 1)] := by decide
theorem eV_ok {x : Int} (h : 0 ≤ x ∧ x ≤ 25) : Rv (eV x) ∧ isum (eV x) = 1 ∧ spF (eV x) 0 = [(x, 1)] := by
  have h1 := eV_all ⟨x.toNat, by omega⟩
  simp only [Int.toNat_of_nonneg h.1] at h1
  refine ⟨⟨by unfold eV; rw [List.length_set, z26_len], fun y hy => ?_⟩, h1⟩
  unfold eV at hy
  rcases List.mem_or_eq_of_mem_set hy with hy | rfl
  · have := rv_z26.rng y hy; omega
  · omega
theorem CM.var {x : Int} (h : 0 ≤ x ∧ x ≤ 25) : CM (varM x) := CM.one (by decide) (by decide) (eV_ok h).1 (by rw [(eV_ok h).2.1]; omega)
theorem toP_var {x : Int} (h : 0 ≤ x ∧ x ≤ 25) : toP (varM x) = [(1, [(x, 1)])] := by
  unfold toP varM
  rw [List.map_cons, List.map_nil, (eV_ok h).2.2]
theorem spF_z26 : spF z26 0 = [] := by decide
theorem toP_num (v : Int) : toP (numM v) = if v = 0 then [] else [(v, [])] := by
  unfold numM
  split
  · rfl
  · unfold toP; rw [List.map_cons, List.map_nil, spF_z26]
theorem toP_one : toP oneM = [(1, [])] := by unfold toP oneM; rw [List.map_cons, List.map_nil, spF_z26]
theorem toP_neg (A : List MT) : toP (negM A) = (toP A).map fun t => (w64 (-t.1), t.2) := by simp [toP, negM, Function.comp_def]

/-! ### what it costs -/
def chg (u c : Nat) : Option Nat := if u + max c 1 ≤ 100000 then some (u + max c 1) else none
def opM (M : List MT) (u : Nat) : Option (List MT × Nat) := if nfOk (nf M) = true then some (nf M, u) else none
def pwL : Nat → Nat → List MT → List MT → Nat → Option (List MT × Nat)
  | 0, _, r, _, u => some (r, u)
  | f + 1, k, r, q, u => (if k % 2 = 1 then (chg u (r.length * q.length)).bind (opM (prods r q)) else some (r, u)).bind fun p =>
      if k / 2 = 0 then some p else ((chg p.2 (q.length * q.length)).bind (opM (prods q q))).bind fun s => pwL f (k / 2) p.1 s.1 s.2
/-- one node, its children's polynomials given -/
def stA (k v x : Int) (A B : List MT) (u : Nat) : Option (List MT × Nat) :=
  if k = 1 then (chg u 1).map fun u1 => (numM v, u1)
  else if k = 2 then (chg u 1).map fun u1 => (varM x, u1)
  else if k = 3 then (chg u A.length).map fun u1 => (negM A, u1)
  else if k = 4 then (chg u (A.length + B.length)).bind (opM (A ++ B))
  else if k = 5 then (chg u (A.length + B.length)).bind (opM (A ++ negM B))
  else if k = 6 then (chg u (A.length * B.length)).bind (opM (prods A B))
  else if v = 0 then (chg u 1).map fun u1 => (oneM, u1) else pwL v.toNat v.toNat oneM A u
def xp : Tre → Nat → Option (List MT × Nat)
  | ⟨k, v, x, 0, _⟩, u => stA k v x [] [] u
  | ⟨k, v, x, 1, c⟩, u => (xp (c 0) u).bind fun a => stA k v x a.1 [] a.2
  | ⟨k, v, x, _ + 2, c⟩, u => (xp (c 0) u).bind fun a => (xp (c 1) a.2).bind fun b => stA k v x a.1 b.1 b.2
theorem opM_cm {M R : List MT} {u u1 : Nat} (hV : Vl M) (h : opM M u = some (R, u1)) : CM R := by
  unfold opM at h
  split at h
  · simp only [Option.some.injEq, Prod.mk.injEq] at h
    obtain ⟨rfl, rfl⟩ := h
    exact CM.of_nf hV (by assumption)
  · cases h
theorem bind_opM {o : Option Nat} {M R : List MT} {u1 : Nat} (hV : Vl M) (h : o.bind (opM M) = some (R, u1)) : CM R := by
  cases o with
  | none => cases h
  | some u => exact opM_cm hV h
theorem pwL_cm : ∀ (f k : Nat) (r q : List MT) (u : Nat) (R : List MT) (u1 : Nat), CM r → CM q → pwL f k r q u = some (R, u1) → CM R
  | 0, k, r, q, u, R, u1, hr, hq, h => by
    simp only [pwL, Option.some.injEq, Prod.mk.injEq] at h
    obtain ⟨rfl, rfl⟩ := h
    exact hr
  | f + 1, k, r, q, u, R, u1, hr, hq, h => by
    rw [pwL] at h
    obtain ⟨⟨r1, v1⟩, h1, h2⟩ := Option.bind_eq_some_iff.1 h
    have hr1 : CM r1 := by
      split at h1
      · exact bind_opM (prods_vl hr.hv hq.hv) h1
      · simp only [Option.some.injEq, Prod.mk.injEq] at h1
        obtain ⟨rfl, rfl⟩ := h1
        exact hr
    split at h2
    · simp only [Option.some.injEq, Prod.mk.injEq] at h2
      obtain ⟨rfl, rfl⟩ := h2
      exact hr1
    · obtain ⟨⟨q1, v2⟩, h3, h4⟩ := Option.bind_eq_some_iff.1 h2
      exact pwL_cm f _ _ _ _ _ _ hr1 (bind_opM (prods_vl hq.hv hq.hv) h3) h4
theorem stA_cm {k v x : Int} {A B R : List MT} {u u1 : Nat} (hv : k = 1 → w64 v = v) (hx : k = 2 → 0 ≤ x ∧ x ≤ 25) (hA : CM A) (hB : CM B) (h : stA k v x A B u = some (R, u1)) : CM R := by
  unfold stA at h
  split at h
  · obtain ⟨a, _, h2⟩ := Option.map_eq_some_iff.1 h
    simp only [Prod.mk.injEq] at h2
    obtain ⟨rfl, -⟩ := h2
    exact CM.num (hv (by assumption))
  split at h
  · obtain ⟨a, _, h2⟩ := Option.map_eq_some_iff.1 h
    simp only [Prod.mk.injEq] at h2
    obtain ⟨rfl, -⟩ := h2
    exact CM.var (hx (by assumption))
  split at h
  · obtain ⟨a, _, h2⟩ := Option.map_eq_some_iff.1 h
    simp only [Prod.mk.injEq] at h2
    obtain ⟨rfl, -⟩ := h2
    exact hA.neg
  split at h
  · exact bind_opM (app_vl hA.vl hB.vl) h
  split at h
  · exact bind_opM (app_vl hA.vl hB.neg.vl) h
  split at h
  · exact bind_opM (prods_vl hA.hv hB.hv) h
  split at h
  · obtain ⟨a, _, h2⟩ := Option.map_eq_some_iff.1 h
    simp only [Prod.mk.injEq] at h2
    obtain ⟨rfl, -⟩ := h2
    exact CM.unit
  · exact pwL_cm _ _ _ _ _ _ _ CM.unit hA h

/-! ### node by node -/
def stN (Ps : List (List MT)) (u : Nat) (nd : Nd) : Option (List MT × Nat) := stA nd.1 nd.2.1 nd.2.2.1 (Ps[nd.2.2.2.1.toNat]?.getD []) (Ps[nd.2.2.2.2.toNat]?.getD []) u
def prun : List Nd → List (List MT) → Nat → Option (List (List MT) × Nat)
  | [], Ps, u => some (Ps, u)
  | nd :: r, Ps, u => (stN Ps u nd).bind fun a => prun r (Ps ++ [a.1]) a.2
/-- all results, in postorder -/
theorem run_flat : ∀ (t : Tre), Wt t → ∀ (Ps : List (List MT)) (u : Nat) (rest : List Nd), (xp t u = none → prun (flat t Ps.length ++ rest) Ps u = none) ∧ ∀ R u1, xp t u = some (R, u1) → ∃ Q, Q.length = tsz t ∧ Q[tsz t - 1]? = some R ∧ prun (flat t Ps.length ++ rest) Ps u = prun rest (Ps ++ Q) u1 := by
  have stA_leaf : ∀ {k v x : Int} {A B : List MT} {u : Nat}, (k = 1 ∨ k = 2) → stA k v x A B u = stA k v x [] [] u := by
    intro k v x A B u hk
    unfold stA
    rcases hk with rfl | rfl
    · rfl
    · rfl
  have stA_un : ∀ {k v x : Int} {A B : List MT} {u : Nat}, (k = 3 ∨ k = 7) → stA k v x A B u = stA k v x A [] u := by
    intro k v x A B u hk
    unfold stA
    rcases hk with rfl | rfl
    · rfl
    · rfl
  refine Tre.ind (fun k v x c hw Ps u rest => ?_) (fun k v x c ih hw Ps u rest => ?_) (fun k v x n c ih1 ih2 hw Ps u rest => ?_)
  · have hk : k = 1 ∨ k = 2 := or_map hw (fun e => e.1) (fun e => e.1)
    have e : prun (flat ⟨k, v, x, 0, c⟩ Ps.length ++ rest) Ps u = (stA k v x [] [] u).bind fun a => prun rest (Ps ++ [a.1]) a.2 := by
      rw [flat, List.singleton_append, prun]
      unfold stN
      rw [stA_leaf hk]
    refine ⟨fun h => ?_, fun R u1 h => ?_⟩
    · rw [xp] at h; rw [e, h]; rfl
    · rw [xp] at h; rw [e, h]; exact ⟨[R], rfl, rfl, rfl⟩
  · obtain ⟨hx, hk, hw1⟩ := hw
    have hk' : k = 3 ∨ k = 7 := or_map hk (fun e => e.1) (fun e => e.1)
    have hI := ih hw1 Ps u ([(k, v, x, (Ps.length : Int) + tsz (c 0) - 1, -1)] ++ rest)
    have hp := tsz_pos (c 0)
    rw [xp, flat, List.append_assoc]
    cases h0 : xp (c 0) u with
    | none => exact ⟨fun _ => hI.1 h0, fun R u1 h => by cases h⟩
    | some a =>
      obtain ⟨A, u1⟩ := a
      obtain ⟨Q, hQ1, hQ2, hQ3⟩ := hI.2 A u1 h0
      have hga : (Ps ++ Q)[((Ps.length : Int) + tsz (c 0) - 1).toNat]? = some A := by
        rw [show ((Ps.length : Int) + tsz (c 0) - 1).toNat = Ps.length + (tsz (c 0) - 1) by omega, List.getElem?_append_right (by omega), Nat.add_sub_cancel_left]
        exact hQ2
      have e : prun ([(k, v, x, (Ps.length : Int) + tsz (c 0) - 1, -1)] ++ rest) (Ps ++ Q) u1 = (stA k v x A [] u1).bind fun a => prun rest (Ps ++ Q ++ [a.1]) a.2 := by
        rw [List.singleton_append, prun]
        unfold stN
        simp only []
        rw [hga, Option.getD_some, stA_un hk']
      rw [hQ3, e]
      simp only [Option.bind_some]
      refine ⟨fun h => by rw [h]; rfl, fun R u2 h => ⟨Q ++ [R], ?_, ?_, ?_⟩⟩
      · rw [tsz, List.length_append, hQ1]; simp only [List.length_cons, List.length_nil]; omega
      · rw [tsz, show 1 + tsz (c 0) - 1 = Q.length by omega]; exact last_get _ _
      · rw [h, Option.bind_some, List.append_assoc]
  · obtain ⟨rfl, hv, hx, hk, hw1, hw2⟩ := hw
    have hp := tsz_pos (c 0)
    have hp2 := tsz_pos (c 1)
    have hI := ih1 hw1 Ps u (flat (c 1) (Ps.length + tsz (c 0)) ++ ([(k, v, x, (Ps.length : Int) + tsz (c 0) - 1, (Ps.length : Int) + tsz (c 0) + tsz (c 1) - 1)] ++ rest))
    rw [xp, flat, List.append_assoc, List.append_assoc]
    cases h0 : xp (c 0) u with
    | none => exact ⟨fun _ => hI.1 h0, fun R u1 h => by cases h⟩
    | some a =>
      obtain ⟨A, u1⟩ := a
      obtain ⟨Q, hQ1, hQ2, hQ3⟩ := hI.2 A u1 h0
      have hI2 := ih2 hw2 (Ps ++ Q) u1 ([(k, v, x, (Ps.length : Int) + tsz (c 0) - 1, (Ps.length : Int) + tsz (c 0) + tsz (c 1) - 1)] ++ rest)
      rw [List.length_append, hQ1] at hI2
      rw [hQ3]
      simp only [Option.bind_some]
      cases h1 : xp (c 1) u1 with
      | none => exact ⟨fun _ => hI2.1 h1, fun R u1 h => by cases h⟩
      | some b =>
        obtain ⟨B, u2⟩ := b
        obtain ⟨Q2, hR1, hR2, hR3⟩ := hI2.2 B u2 h1
        have hga : (Ps ++ Q ++ Q2)[((Ps.length : Int) + tsz (c 0) - 1).toNat]? = some A := by
          rw [show ((Ps.length : Int) + tsz (c 0) - 1).toNat = Ps.length + (tsz (c 0) - 1) by omega, List.append_assoc, List.getElem?_append_right (by omega), Nat.add_sub_cancel_left]
          exact app_some hQ2
        have hgb : (Ps ++ Q ++ Q2)[((Ps.length : Int) + tsz (c 0) + tsz (c 1) - 1).toNat]? = some B := by
          rw [show ((Ps.length : Int) + tsz (c 0) + tsz (c 1) - 1).toNat = (Ps ++ Q).length + (tsz (c 1) - 1) by rw [List.length_append]; omega, List.getElem?_append_right (by omega), Nat.add_sub_cancel_left]
          exact hR2
        have e : prun ([(k, v, x, (Ps.length : Int) + tsz (c 0) - 1, (Ps.length : Int) + tsz (c 0) + tsz (c 1) - 1)] ++ rest) (Ps ++ Q ++ Q2) u2 = (stA k v x A B u2).bind fun a => prun rest (Ps ++ Q ++ Q2 ++ [a.1]) a.2 := by
          rw [List.singleton_append, prun]
          unfold stN
          simp only []
          rw [hga, hgb, Option.getD_some, Option.getD_some]
        rw [hR3, e]
        simp only [Option.bind_some]
        refine ⟨fun h => by rw [h]; rfl, fun R u3 h => ⟨Q ++ Q2 ++ [R], ?_, ?_, ?_⟩⟩
        · rw [tsz, List.length_append, List.length_append, hQ1, hR1]; simp only [List.length_cons, List.length_nil]; omega
        · rw [tsz, show 1 + tsz (c 0) + tsz (c 1) - 1 = (Q ++ Q2).length by rw [List.length_append]; omega]; exact last_get _ _
        · rw [h, Option.bind_some]; simp only [List.append_assoc]
/-- the answer of ToPoly -/
def tpP (t : Tre) : Option (List PT) := (xp t 0).map fun a => toP a.1
theorem run_none {t : Tre} (hw : Wt t) (h : prun (flat t 0) [] 0 = none) : tpP t = none := by
  unfold tpP
  cases h0 : xp t 0 with
  | none => rfl
  | some a =>
    obtain ⟨R, u1⟩ := a
    obtain ⟨Q, _, _, h3⟩ := (run_flat t hw [] 0 []).2 R u1 h0
    rw [List.append_nil] at h3
    rw [List.length_nil, h] at h3
    cases h3
theorem run_some {t : Tre} (hw : Wt t) {Ps : List (List MT)} {u : Nat} (h : prun (flat t 0) [] 0 = some (Ps, u)) : ∃ R, Ps[tsz t - 1]? = some R ∧ tpP t = some (toP R) := by
  unfold tpP
  have hI := run_flat t hw [] 0 []
  rw [List.append_nil, List.length_nil] at hI
  cases h0 : xp t 0 with
  | none => rw [hI.1 h0] at h; cases h
  | some a =>
    obtain ⟨R, u1⟩ := a
    obtain ⟨Q, _, h2, h3⟩ := hI.2 R u1 h0
    rw [h] at h3
    simp only [prun, List.nil_append, Option.some.injEq, Prod.mk.injEq] at h3
    obtain ⟨rfl, rfl⟩ := h3
    exact ⟨R, h2, rfl⟩
end Go.Mw
