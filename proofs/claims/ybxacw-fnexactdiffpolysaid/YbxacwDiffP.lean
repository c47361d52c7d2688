/-
  The derivative of a polynomial, plain.
-/
import Derived.Test.YbxacwMonoW
set_option linter.unusedVariables false
set_option linter.unusedSimpArgs false
namespace Go.Mw
def dM (v : Nat) (t : MT) : Option MT :=
  if t.2.getD v 0 < 1 then none else if w64 (t.1 * t.2.getD v 0) = 0 then none else some (w64 (t.1 * t.2.getD v 0), t.2.set v (t.2.getD v 0 - 1))
def dms (q : List PT) (v : Nat) : List MT := (ms q).filterMap (dM v)
theorem dms_snoc {q : List PT} {k v : Nat} {t : PT} (h : q[k]? = some t) : ((ms q).take (k + 1)).filterMap (dM v) = ((ms q).take k).filterMap (dM v) ++ (dM v (t.1, vec t.2)).toList := by
  rw [take_snoc (ms_get h), List.filterMap_append]
  congr 1
theorem dM_rv {v : Nat} {t u : MT} (h : dM v t = some u) (hv : v < 26) (ht : Rv t.2) : Rv u.2 ∧ w64 u.1 = u.1 ∧ isum u.2 = isum t.2 - 1 := by
  unfold dM at h
  split at h
  · cases h
  · split at h
    · cases h
    · simp only [Option.some.injEq] at h
      subst h
      obtain ⟨x, hx, hx0, hx1⟩ := ht.nth hv
      have hg : t.2.getD v 0 = x := by rw [List.getD_eq_getElem?_getD, hx]; rfl
      refine ⟨⟨by simp [ht.len], fun y hy => ?_⟩, w64_wr _, ?_⟩
      · rcases List.mem_or_eq_of_mem_set hy with hy | hy
        · exact ht.rng y hy
        · omega
      · simp only []
        rw [isum_set _ _ _ (by rw [ht.len]; exact hv)]; omega
theorem ins_len (t : MT) : ∀ R : List MT, (ins t R).length ≤ R.length + 1
  | [] => by rw [ins]; split <;> simp
  | u :: r => by
    have := ins_len t r
    rw [ins]
    split
    · split <;> simp only [List.length_cons] <;> omega
    · split
      · split <;> simp only [List.length_cons] <;> omega
      · simp only [List.length_cons]; omega
theorem nf_len : ∀ a : List MT, (nf a).length ≤ a.length
  | [] => by simp [nf]
  | t :: r => by have := nf_len r; have := ins_len t (nf r); rw [nf]; simp only [List.length_cons]; omega
theorem dms_mem {q : List PT} {v : Nat} {u : MT} (h : u ∈ dms q v) : ∃ t ∈ q, dM v (t.1, vec t.2) = some u := by
  unfold dms at h
  rw [List.mem_filterMap] at h
  obtain ⟨x, hx, hd⟩ := h
  unfold ms at hx
  rw [List.mem_map] at hx
  obtain ⟨t, ht, rfl⟩ := hx
  exact ⟨t, ht, hd⟩
theorem dms_good {q : List PT} {v : Nat} (hq : canon q = true) (hv : v < 26) : Vl (dms q v) ∧ Cr (dms q v) ∧ (dms q v).length ≤ 4096 ∧ nfOk (nf (dms q v)) = true := by
  have h1 : ∀ u ∈ dms q v, Rv u.2 ∧ w64 u.1 = u.1 ∧ isum u.2 ≤ 1000000 := fun u hu => by
    obtain ⟨t, ht, hd⟩ := dms_mem hu
    have hct := canon_mem hq t ht
    obtain ⟨a1, a2, a3⟩ := dM_rv hd hv hct.fv.rv
    have a4 := hct.deg
    exact ⟨a1, a2, by simp only [] at a3; omega⟩
  have hl : (dms q v).length ≤ 4096 := by
    have h2 := canon_len hq
    have h3 : (dms q v).length ≤ (ms q).length := List.length_filterMap_le _ _
    rw [ms_len] at h3; omega
  refine ⟨fun u hu => (h1 u hu).1, fun u hu => (h1 u hu).2.1, hl, nfOk_true (Nat.le_trans (nf_len _) hl) fun t ht => ?_⟩
  obtain ⟨y, hy, he⟩ := nf_mem ht
  rw [← he]; exact (h1 y hy).2.2
/-- the answer of DiffPoly -/
def difP (q : List PT) (v : Int) : Option (List PT) := if canon q = true ∧ 0 ≤ v ∧ v < 26 then some (toP (nf (dms q v.toNat))) else none
/-- an answer (polynomial, ok) -/
def RPost (eT eF : TypeId) (R : Option (List PT)) (w : World) (r : Value) (w' : World) : Prop := ∃ v Ls, r = .tuple #[.agg #[v], .bool R.isSome] ∧ OwnT w' w.heap.size w'.heap.size eT eF v Ls ∧ pol Ls = R.getD [] ∧ Ext w.heap.size w w'
theorem cI_putC (c : Int) (v : List Int) (x : Int) : putAt (.int .i64 c :: iC .i32 v) 0 [.int .i64 x] = .int .i64 x :: iC .i32 v := by
  rw [putAt_one _ _ _ (by simp)]; rfl
end Go.Mw
