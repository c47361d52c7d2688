/-
  The row's side: what a slice of terms that comes in reads as.
-/
import Derived.Test.YbxabwRow
import Derived.Test.YbxabwPolyM
import Derived.Deep.SlicePairs
import Derived.Carry
import Derived.SizedLaws
set_option linter.unusedVariables false
set_option linter.unusedSimpArgs false
namespace Go.Mw
open Go.RowKit Go.Deep

theorem post_belowE {H : Type} {enc : TypeId × Value → H} {P : Program} {f : Func} {s : ChangeSpec} {apart fresh handsOn : Bool} {W W' : World} {args : Array Value} {v : Value} {ds gs : List (DataW H)} {before pa pv : List MemPlace}
    (hW : DataW.Whole enc P f.params.toList s.vars apart W args.toList ds gs before)
    (hres : ∀ (b : Nat) (sp : Nat → Bool) (hd : Bool), DataW.TrodAll enc P W' b sp hd f.resultTypes.toList (v.resultList f.resultTypes.size) (s.fn H (ds ++ gs)).results [])
    (hargs : DataW.TrodAll enc P W' 0 (fun b => decide (b < W.heap.size)) true f.params.toList args.toList (s.fn H (ds ++ gs)).args pa)
    (hvars : DataW.TrodVars enc P W' (fun b => decide (b < W.heap.size)) s.vars (s.fn H (ds ++ gs)).vars pv)
    (hps : before = pa ++ pv) (hk : Ext W.heap.size W W') : s.post enc P f apart fresh handsOn false W args v W' := by
  refine ⟨ds, gs, before, [], pa, pv, hW, hres _ _ _, hargs, hvars, World.keptBut_mono (fun p hp => ⟨hp, ?_⟩) (hk.below.frame (· ∈ before)), fun h => by cases h⟩
  rw [hps, List.mem_append] at hp
  exact Or.inr hp

def I64 (n : Int) : Prop := -9223372036854775808 ≤ n ∧ n ≤ 9223372036854775807
theorem i64_wf {n : Int} (h : (Lit.int .i64 n).wf = true) : I64 n := by
  have e1 : IntKind.i64.min = -9223372036854775808 := by decide
  have e2 : IntKind.i64.max = 9223372036854775807 := by decide
  simp only [Lit.wf, Bool.and_eq_true, decide_eq_true_eq, e1, e2] at h
  exact h
theorem spot_of_cell {w : World} {a : Addr} {v : Value} (h : w.cell? a = some v) : a = ⟨a.block, a.off, none⟩ := by
  obtain ⟨b, o, s⟩ := a
  cases s with
  | none => rfl
  | some k =>
    simp only [World.cell?, Option.isSome_some, if_true] at h
    split at h <;> cases h
section
variable {H : Type} {enc : TypeId × Value → H} {P : Program} {W : World} {spare : Nat → Bool} {held : Bool}
theorem cells_pairs {b o len : Nat} {α : Type} {en : α → List Value} (hen : ∀ x, (en x).length = 2) (f : Nat → α) (hc : ∀ i, i < len → ∃ v0 v1, en (f i) = [v0, v1] ∧ W.cell? ⟨b, o + i * 2, none⟩ = some v0 ∧ W.cell? ⟨b, o + (i * 2 + 1), none⟩ = some v1) :
    Cells W b o (((List.range len).map f).flatMap en) := by
  refine ⟨fun j v hv => ?_⟩
  have hj := (List.getElem?_eq_some_iff.1 hv).1
  rw [fm_length hen, List.length_map, List.length_range] at hj
  have hq : j / 2 < len := by omega
  obtain ⟨v0, v1, he, h0, h1⟩ := hc (j / 2) hq
  have hg : ((List.range len).map f)[j / 2]? = some (f (j / 2)) := by simp [hq]
  have key := fm_get hen _ (j / 2) _ hg (j % 2)
  rw [he] at key
  rcases Nat.mod_two_eq_zero_or_one j with e | e
  · rw [e] at key
    have := key v0 rfl
    rw [show j / 2 * 2 + 0 = j by omega] at this
    rw [this] at hv
    simp only [Option.some.injEq] at hv
    subst hv
    rw [show j / 2 * 2 = j by omega] at h0
    exact h0
  · rw [e] at key
    have := key v1 rfl
    rw [show j / 2 * 2 + 1 = j by omega] at this
    rw [this] at hv
    simp only [Option.some.injEq] at hv
    subst hv
    rw [show j / 2 * 2 + 1 = j by omega] at h1
    exact h1
theorem slice_len {t e : TypeId} {D : Nat → DataW H} {rest : List (DataW H)} {len : Nat} {ps : List MemPlace} (ht : P.underlying t = some (.slice e)) (hby : 1 ≤ P.bytesOf e)
    (hw : ∀ n ∈ ((.slice ((List.range len).map D) rest, ps) : DataW H × List MemPlace).1.weights P t, n ≤ reachBytes) : len ≤ reachBytes := by
  simp only [DataW.weights, ht, List.mem_cons] at hw
  have h1 := hw _ (.inl rfl)
  simp only [List.length_map, List.length_range] at h1
  have h2 : (len + rest.length) * 1 ≤ (len + rest.length) * P.bytesOf e := Nat.mul_le_mul_left _ hby
  omega
theorem weightsAll_mem {e : TypeId} : ∀ {l : List (DataW H)} {d : DataW H}, d ∈ l → ∀ n ∈ d.weights P e, n ∈ DataW.weightsAll P e l
  | [], d, h, _, _ => by cases h
  | x :: l, d, h, n, hn => by
    simp only [DataW.weightsAll, List.mem_append]
    rcases List.mem_cons.1 h with rfl | h
    · exact .inl hn
    · exact .inr (weightsAll_mem h n hn)
theorem slice_elem {t e : TypeId} {f0 f1 : Field} {D0 D1 : Nat → DataW H} {rest : List (DataW H)} {len i : Nat} {ps qs : List MemPlace} (ht : P.underlying t = some (.slice e)) (he : P.underlying e = some (.struct #[f0, f1]))
    (hw : ∀ n ∈ ((.slice ((List.range len).map fun i => .agg [D0 i, D1 i]) rest, ps) : DataW H × List MemPlace).1.weights P t, n ≤ reachBytes) (hi : i < len) : ∀ n ∈ ((D1 i, qs) : DataW H × List MemPlace).1.weights P f1.type, n ≤ reachBytes := by
  intro n hn
  refine hw n ?_
  simp only [DataW.weights, ht, List.mem_cons, List.mem_append]
  refine .inr (.inl ?_)
  refine weightsAll_mem (d := .agg [D0 i, D1 i]) (List.mem_map.2 ⟨i, List.mem_range.2 hi, rfl⟩) n ?_
  simp only [DataW.weights, he]
  simp [DataW.weightsEach]
  exact .inr hn
/-- a slice of pairs of ints -/
theorem prs_of_trod {t e : TypeId} {f0 f1 : Field} {fuel : Nat} {v : Value} {x : DataW H × List MemPlace} (ht : P.underlying t = some (.slice e)) (he : P.underlying e = some (.struct #[f0, f1]))
    (ce : P.cellsOf e = 2) (o0 : f0.offset = 0) (o1 : f1.offset = 1) (c0 : P.cellsOf f0.type = 1) (c1 : P.cellsOf f1.type = 1) (i0 : P.underlying f0.type = some (.int .i64)) (i1 : P.underlying f1.type = some (.int .i64))
    (hby : 1 ≤ P.bytesOf e) (h : DataW.trod enc P W 0 (fun _ => true) true fuel t [v] = some x) (hw : ∀ n ∈ x.1.weights P t, n ≤ reachBytes) :
    ∃ fs : List (Int × Int), Rr W 0 W.heap.size 2 v fs.length (prC fs) ∧ fs.length ≤ reachBytes ∧ ∀ f ∈ fs, I64 f.1 ∧ I64 f.2 := by
  rcases open_slice_pairs ht he ce o0 o1 c0 c1 h with ⟨h1, _⟩ | ⟨a, len, cap, m, n, V0, V1, D0, D1, P0, P1, hcs, -, hl, hm, hmm, hx, hall⟩
  · simp only [List.cons.injEq, and_true] at h1
    subst h1
    exact ⟨[], Rr.nil _ _ _ _ _ _, by simp, fun f hf => by cases hf⟩
  · simp only [List.cons.injEq, and_true] at hcs
    subst hcs hx
    simp only [if_true] at hmm
    have hlen : len ≤ reachBytes := slice_len ht hby hw
    have hint : ∀ i, i < len → ∃ p : Int × Int, V0 i = .int .i64 p.1 ∧ V1 i = .int .i64 p.2 ∧ I64 p.1 ∧ I64 p.2 := fun i hi => by
      obtain ⟨_, _, q0, q1⟩ := hall i (by omega)
      obtain ⟨n0, e0, _, w0⟩ := DataW.trod_int i0 q0
      obtain ⟨n1, e1, _, w1⟩ := DataW.trod_int i1 q1
      simp only [List.cons.injEq, and_true] at e0 e1
      exact ⟨(n0, n1), e0, e1, i64_wf w0, i64_wf w1⟩
    obtain ⟨f, hf⟩ := choose_lt (α := Int × Int) hint
    refine ⟨(List.range len).map f, ?_, by simpa using hlen, ?_⟩
    · rw [List.length_map, List.length_range]
      refine ⟨by rw [pr_len]; simp, some a, cap, rfl, ?_⟩
      rcases Nat.eq_zero_or_pos len with h0 | hp
      · exact .inl h0
      · have hz := (hall 0 (by omega)).1
        have ha := spot_of_cell hz
        have ha' : a = ⟨a.block, a.off, none⟩ := by
          simp [Addr.add] at ha; exact ha
        refine .inr ⟨a.block, a.off, by rw [← ha'], Nat.zero_le _, ?_, ?_⟩
        · have := World.block_lt_of_cell? W _ hz
          simpa [Addr.add] using this
        · refine cells_pairs prE_len f fun i hi => ⟨V0 i, V1 i, ?_, ?_, ?_⟩
          · rw [(hf i hi).1, (hf i hi).2.1]; rfl
          · have := (hall i (by omega)).1
            rw [ha', addr_add] at this; exact this
          · have := (hall i (by omega)).2.1
            rw [ha', addr_add] at this; exact this
    · intro p hp
      simp only [List.mem_map, List.mem_range] at hp
      obtain ⟨i, hi, rfl⟩ := hp
      exact (hf i hi).2.2
/-- a slice of terms -/
theorem tl_of_trod {t e ef : TypeId} {f0 f1 g0 g1 : Field} {fuel : Nat} {v : Value} {x : DataW H × List MemPlace} (ht : P.underlying t = some (.slice e)) (he : P.underlying e = some (.struct #[f0, f1]))
    (ce : P.cellsOf e = 2) (o0 : f0.offset = 0) (o1 : f1.offset = 1) (c0 : P.cellsOf f0.type = 1) (c1 : P.cellsOf f1.type = 1) (i0 : P.underlying f0.type = some (.int .i64))
    (ht' : P.underlying f1.type = some (.slice ef)) (he' : P.underlying ef = some (.struct #[g0, g1]))
    (ce' : P.cellsOf ef = 2) (o0' : g0.offset = 0) (o1' : g1.offset = 1) (c0' : P.cellsOf g0.type = 1) (c1' : P.cellsOf g1.type = 1) (i0' : P.underlying g0.type = some (.int .i64)) (i1' : P.underlying g1.type = some (.int .i64))
    (hby : 1 ≤ P.bytesOf e) (hby' : 1 ≤ P.bytesOf ef) (h : DataW.trod enc P W 0 (fun _ => true) true fuel t [v] = some x) (hw : ∀ n ∈ x.1.weights P t, n ≤ reachBytes) :
    ∃ Ls : List Lt, Tl W 0 W.heap.size v Ls ∧ Ls.length ≤ reachBytes ∧ ∀ t ∈ Ls, I64 t.1 ∧ t.2.2.length ≤ reachBytes ∧ ∀ f ∈ t.2.2, I64 f.1 ∧ I64 f.2 := by
  rcases open_slice_pairs ht he ce o0 o1 c0 c1 h with ⟨h1, _⟩ | ⟨a, len, cap, m, n, V0, V1, D0, D1, P0, P1, hcs, -, hl, hm, hmm, hx, hall⟩
  · simp only [List.cons.injEq, and_true] at h1
    subst h1
    exact ⟨[], Tl.nil _ _ _ _ _, by simp, fun f hf => by cases hf⟩
  · simp only [List.cons.injEq, and_true] at hcs
    subst hcs hx
    simp only [if_true] at hmm
    have hlen : len ≤ reachBytes := slice_len ht hby hw
    have hint : ∀ i, i < len → ∃ p : Int × List (Int × Int), V0 i = .int .i64 p.1 ∧ I64 p.1 ∧ Rr W 0 W.heap.size 2 (V1 i) p.2.length (prC p.2) ∧ p.2.length ≤ reachBytes ∧ ∀ f ∈ p.2, I64 f.1 ∧ I64 f.2 := fun i hi => by
      obtain ⟨_, _, q0, q1⟩ := hall i (by omega)
      obtain ⟨n0, e0, _, w0⟩ := DataW.trod_int i0 q0
      obtain ⟨fs, r1, r2, r3⟩ := prs_of_trod ht' he' ce' o0' o1' c0' c1' i0' i1' hby' q1 (slice_elem ht he hw hi)
      simp only [List.cons.injEq, and_true] at e0
      exact ⟨(n0, fs), e0, i64_wf w0, r1, r2, r3⟩
    obtain ⟨f, hf⟩ := choose_lt (α := Int × List (Int × Int)) hint
    refine ⟨(List.range len).map fun i => ((f i).1, V1 i, (f i).2), ⟨?_, ?_⟩, by simpa using hlen, ?_⟩
    · rw [List.length_map, List.length_range]
      refine ⟨by rw [lt_len]; simp, some a, cap, rfl, ?_⟩
      rcases Nat.eq_zero_or_pos len with h0 | hp
      · exact .inl h0
      · have hz := (hall 0 (by omega)).1
        have ha := spot_of_cell hz
        have ha' : a = ⟨a.block, a.off, none⟩ := by
          simp [Addr.add] at ha; exact ha
        refine .inr ⟨a.block, a.off, by rw [← ha'], Nat.zero_le _, ?_, ?_⟩
        · have := World.block_lt_of_cell? W _ hz
          simpa [Addr.add] using this
        · refine cells_pairs ltE_len (fun i => ((f i).1, V1 i, (f i).2)) fun i hi => ⟨V0 i, V1 i, ?_, ?_, ?_⟩
          · rw [(hf i hi).1]; rfl
          · have := (hall i (by omega)).1
            rw [ha', addr_add] at this; exact this
          · have := (hall i (by omega)).2.1
            rw [ha', addr_add] at this; exact this
    · intro u hu
      simp only [List.mem_map, List.mem_range] at hu
      obtain ⟨i, hi, rfl⟩ := hu
      exact (hf i hi).2.2.1
    · intro u hu
      simp only [List.mem_map, List.mem_range] at hu
      obtain ⟨i, hi, rfl⟩ := hu
      exact ⟨(hf i hi).2.1, (hf i hi).2.2.2.1, (hf i hi).2.2.2.2⟩
end
end Go.Mw
namespace Go.Mw
open Go.RowKit Go.Deep
section
variable {H : Type} {enc : TypeId × Value → H} {P : Program} {W : World}
/-- a struct of one field of one cell -/
theorem open_one {t : TypeId} {f : Field} (ht : P.underlying t = some (.struct #[f])) (o0 : f.offset = 0) (c0 : P.cellsOf f.type = 1) (ct : P.cellsOf t = 1) {r : Reach} {b : Nat} {v : Value} {d : DataW H} {ps : List MemPlace}
    (hv : Value.okWide P W r b t v) (h : DataW.Trod enc P W 0 (fun _ => true) true t v d ps) :
    ∃ u fuel y, v = .agg #[u] ∧ DataW.trod enc P W 0 (fun _ => true) true fuel f.type [u] = some y ∧ ∀ n ∈ y.1.weights P f.type, n ∈ d.weights P t := by
  simp only [Value.okWide, ht] at hv
  obtain ⟨cs, rfl, hcs, -⟩ := hv
  rw [ct] at hcs
  obtain ⟨fuel, h⟩ := h
  obtain ⟨xs, n, rfl, hx, hl, hxl, hall⟩ := DataW.trod_struct ht h
  have h0 := hall 0 f rfl
  obtain ⟨c, rfl⟩ : ∃ c, cs = #[c] := by
    obtain ⟨l⟩ := cs
    match l, hcs with
    | [c], _ => exact ⟨c, rfl⟩
  match xs, hxl with
  | [y], _ =>
    refine ⟨c, n, y, rfl, ?_, ?_⟩
    · rw [o0, c0] at h0
      simpa [Value.cells] using h0
    · simp only [Prod.mk.injEq] at hx
      intro q hq
      rw [hx.1]
      simp only [DataW.weights, ht]
      simp [DataW.weightsEach]
      exact hq
theorem weights_arg {ts us : List TypeId} {ds gs : List (DataW H)} (h : (DataW.weightsEach P (ts ++ us) (ds ++ gs)).all (· ≤ reachBytes) = true) {j : Nat} {t : TypeId} {d : DataW H} (ht : ts[j]? = some t) (hd : ds[j]? = some d) : ∀ n ∈ d.weights P t, n ≤ reachBytes := by
  intro n hn
  rw [List.all_eq_true] at h
  have h1 : (ts ++ us)[j]? = some t := by rw [List.getElem?_append_left (List.getElem?_eq_some_iff.1 ht).1]; exact ht
  have h2 : (ds ++ gs)[j]? = some d := by rw [List.getElem?_append_left (List.getElem?_eq_some_iff.1 hd).1]; exact hd
  simpa using h n (DataW.weights_mem_each h1 h2 n hn)
end
end Go.Mw
namespace Go.Mw
open Go.RowKit Go.Deep
section
variable {H : Type} {enc : TypeId × Value → H} {P : Program} {W : World}
/-- a slice that comes in is one cell -/
theorem one_cell {t e : TypeId} (ht : P.underlying t = some (.slice e)) {r : Reach} {b : Nat} {v : Value} (hv : Value.okWide P W r b t v) : v.cells.toList = [v] := by
  simp only [Value.okWide, ht, Cell.okWide] at hv
  cases v <;> first | rfl | (simp [Cell.ok, ht] at hv)
/-- a slice of ints -/
theorem ints_of_trod {t e : TypeId} {fuel : Nat} {v : Value} {x : DataW H × List MemPlace} (ht : P.underlying t = some (.slice e)) (he : P.underlying e = some (.int .i64)) (hc : P.cellsOf e = 1) (hby : 1 ≤ P.bytesOf e)
    (h : DataW.trod enc P W 0 (fun _ => true) true fuel t [v] = some x) (hw : ∀ n ∈ x.1.weights P t, n ≤ reachBytes) :
    ∃ zs : List Int, Rr W 0 W.heap.size 1 v zs.length (zs.map (Value.int .i64)) ∧ zs.length ≤ reachBytes ∧ ∀ z ∈ zs, I64 z := by
  rcases open_slice1 ht hc h with ⟨h1, _⟩ | ⟨a, len, cap, m, n, V, D, Pl, hcs, -, hl, hm, hmm, hx, hall⟩
  · simp only [List.cons.injEq, and_true] at h1
    subst h1
    exact ⟨[], Rr.nil _ _ _ _ _ _, by simp, fun f hf => by cases hf⟩
  · simp only [List.cons.injEq, and_true] at hcs
    subst hcs hx
    simp only [if_true] at hmm
    have hlen : len ≤ reachBytes := slice_len ht hby hw
    have hint : ∀ i, i < len → ∃ z : Int, V i = .int .i64 z ∧ I64 z := fun i hi => by
      obtain ⟨_, q0⟩ := hall i (by omega)
      obtain ⟨n0, e0, _, w0⟩ := DataW.trod_int he q0
      simp only [List.cons.injEq, and_true] at e0
      exact ⟨n0, e0, i64_wf w0⟩
    obtain ⟨f, hf⟩ := choose_lt (α := Int) hint
    refine ⟨(List.range len).map f, ?_, by simpa using hlen, ?_⟩
    · rw [List.length_map, List.length_range]
      refine ⟨by simp, some a, cap, rfl, ?_⟩
      rcases Nat.eq_zero_or_pos len with h0 | hp
      · exact .inl h0
      · have hz := (hall 0 (by omega)).1
        have ha := spot_of_cell hz
        have ha' : a = ⟨a.block, a.off, none⟩ := by
          simp [Addr.add] at ha; exact ha
        refine .inr ⟨a.block, a.off, by rw [← ha'], Nat.zero_le _, ?_, ⟨fun i u hu => ?_⟩⟩
        · have := World.block_lt_of_cell? W _ hz
          simpa [Addr.add] using this
        · have hi : i < len := by have := (List.getElem?_eq_some_iff.1 hu).1; simpa using this
          have h1 := (hall i (by omega)).1
          rw [ha', addr_add, (hf i hi).1] at h1
          simp [hi] at hu
          rw [h1, hu]
    · intro p hp
      simp only [List.mem_map, List.mem_range] at hp
      obtain ⟨i, hi, rfl⟩ := hp
      exact (hf i hi).2
end
end Go.Mw
