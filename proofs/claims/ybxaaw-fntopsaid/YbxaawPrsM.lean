/-
  Nodes and the state of the implementation's parser in memory.
-/
import Derived.Test.YbxaawPrsP
import Derived.Test.YbxaawSortW2
import Derived.Test.YbxaawBufW
import Derived.Test.YbxaawDraw2
set_option linter.unusedVariables false
set_option linter.unusedSimpArgs false
namespace Go.Mw
def ndE (t : Nd) : List Value := [.int .i64 t.1, .int .i64 t.2.1, .int .i64 t.2.2.1, .int .i64 t.2.2.2.1, .int .i64 t.2.2.2.2]
theorem ndE_len (t : Nd) : (ndE t).length = 5 := rfl
theorem ndE_one (t : Nd) : ∀ u ∈ ndE t, u.oneCell' = true := by
  intro u hu
  simp only [ndE, List.mem_cons, List.not_mem_nil, or_false] at hu
  rcases hu with rfl | rfl | rfl | rfl | rfl <;> rfl
theorem Rr.low {w w' : World} {lo hi sz n : Nat} {v : Value} {xs : List Value} (h : Rr w lo hi sz v n xs) (he : Ext hi w w') : Rr w' lo hi sz v n xs := by
  obtain ⟨ad, c, hv, hf⟩ := h.form
  refine ⟨h.len, ad, c, hv, or_map hf id fun ⟨g, o, ha, h1, h2, hc⟩ => ⟨g, o, ha, h1, h2, ⟨fun i u hu => ?_⟩⟩⟩
  have h3 := hc.at_ i u hu
  have h5 := he.block g h2
  simpa [World.cell?, h5] using h3
theorem sx_get {ts r : List TK} (h : r <:+ ts) (hr : hk r ≠ 0 ∨ 0 < r.length) : ts[ts.length - r.length]? = some (hk r, hv r) := by
  obtain ⟨p, rfl⟩ := h
  cases r with
  | nil => rcases hr with h | h; exact absurd rfl h; simp at h
  | cons t r =>
    rw [List.length_append, Nat.add_sub_cancel, List.getElem?_append_right (Nat.le_refl _), Nat.sub_self]
    rfl
/-- the parser's state -/
structure IP (eP eN : TypeId) (bp : Nat) (tv : Value) (ts : List TK) (w : World) (r : List TK) (nv : Value) (ns : List Nd) (d : Nat) : Prop where
  bl : Bl w bp eP [tv, .int .i64 ((ts.length - r.length : Nat) : Int), nv, .int .i64 d]
  own : w.ownsRow (bp + 1) eN 5 nv ns.length (ns.flatMap ndE)
  tk : Rr w 0 bp 2 tv ts.length (prC ts)
  sx : r <:+ ts
section
variable {eP eN : TypeId} {bp : Nat} {tv : Value} {ts r : List TK} {w w' : World} {nv : Value} {ns : List Nd} {d : Nat}
theorem IP.ext (h : IP eP eN bp tv ts w r nv ns d) (he : Ext w.heap.size w w') : IP eP eN bp tv ts w' r nv ns d := ⟨he.bl h.bl.lt h.bl, own_ext h.own he, h.tk.ext he, h.sx⟩
theorem IP.put (h : IP eP eN bp tv ts w r nv ns d) {r' : List TK} {d' : Nat} (hs : r' <:+ ts) (hw : setB w bp eP [tv, .int .i64 ((ts.length - r'.length : Nat) : Int), nv, .int .i64 d'] = w') : IP eP eN bp tv ts w' r' nv ns d' ∧ Ext bp w w' := by
  subst hw
  have he : Ext bp w (setB w bp eP [tv, .int .i64 ((ts.length - r'.length : Nat) : Int), nv, .int .i64 d']) := (Ext.refl bp w).set (Nat.le_refl _) _ _
  refine ⟨⟨h.bl.set _ _, own_same h.own fun k hk => ?_, h.tk.low he, hs⟩, he⟩
  have := (own_block_lt h.own hk).1
  exact (Rg.set (w := w) (lo := bp) (hi := bp + 1) (by omega) eP _).block k (own_block_lt h.own hk).2 (by omega)
theorem IP.made {w : World} {cs : List Value} (hb : Bl w bp eP cs) (ho : w.ownsRow (bp + 1) eN 5 nv ns.length (ns.flatMap ndE)) (ht : Rr w 0 bp 2 tv ts.length (prC ts)) (hs : r <:+ ts) (hw : setB w bp eP [tv, .int .i64 ((ts.length - r.length : Nat) : Int), nv, .int .i64 d] = w') : IP eP eN bp tv ts w' r nv ns d ∧ Ext bp w w' := by
  subst hw
  have he : Ext bp w (setB w bp eP [tv, .int .i64 ((ts.length - r.length : Nat) : Int), nv, .int .i64 d]) := (Ext.refl bp w).set (Nat.le_refl _) _ _
  refine ⟨⟨hb.set _ _, own_same ho fun k hk => ?_, ht.low he, hs⟩, he⟩
  have := (own_block_lt ho hk).1
  exact (Rg.set (w := w) (lo := bp) (hi := bp + 1) (by omega) eP _).block k (own_block_lt ho hk).2 (by omega)
theorem sx_tail (h : r <:+ ts) : r.tail <:+ ts := (tail_sx r).trans h
theorem pos_next (h : r <:+ ts) (hr : hk r ≠ 0) : ((ts.length - r.length : Nat) : Int) + 1 = ((ts.length - r.tail.length : Nat) : Int) := by
  have h1 := h.length_le
  have h2 := tail_len hr
  omega
/-- one token on -/
theorem IP.next (h : IP eP eN bp tv ts w r nv ns d) (hr : hk r ≠ 0) (hw : setB w bp eP (putAt [tv, .int .i64 ((ts.length - r.length : Nat) : Int), nv, .int .i64 d] 1 [.int .i64 (((ts.length - r.length : Nat) : Int) + 1)]) = w') : IP eP eN bp tv ts w' r.tail nv ns d ∧ Ext bp w w' := by
  refine h.put (sx_tail h.sx) ?_
  rw [← hw, pos_next h.sx hr]; rfl
theorem IP.deep (h : IP eP eN bp tv ts w r nv ns d) {d' : Nat} (hw : setB w bp eP (putAt [tv, .int .i64 ((ts.length - r.length : Nat) : Int), nv, .int .i64 d] 3 [.int .i64 d']) = w') : IP eP eN bp tv ts w' r nv ns d' ∧ Ext bp w w' := h.put h.sx hw
/-- what a part of the parser gives back -/
def IPost (eP eN : TypeId) (bp : Nat) (tv : Value) (ts : List TK) (ns : List Nd) (d : Nat) (o : PR) (w : World) (v : Value) (w' : World) : Prop :=
  ∃ i : Int, v = .tuple #[.int .i64 i, .bool (lim ns.length o).isSome] ∧ Ext bp w w' ∧ ∀ t r1, lim ns.length o = some (t, r1) → i = (ns.length : Int) + tsz t - 1 ∧ ∃ nv, IP eP eN bp tv ts w' r1 nv (ns ++ flat t ns.length) d
/-- what adding a node gives back -/
def APost (eP eN : TypeId) (bp : Nat) (tv : Value) (ts r : List TK) (ns : List Nd) (d : Nat) (nd : Nd) (w : World) (v : Value) (w' : World) : Prop :=
  ∃ i : Int, v = .tuple #[.int .i64 i, .bool (decide (ns.length < 500000))] ∧ Ext bp w w' ∧ (ns.length < 500000 → i = (ns.length : Int) ∧ ∃ nv, IP eP eN bp tv ts w' r nv (ns ++ [nd]) d)
theorem IPost.bad {o : PR} {i : Int} (h : lim ns.length o = none) (he : Ext bp w w') : IPost eP eN bp tv ts ns d o w (.tuple #[.int .i64 i, .bool false]) w' :=
  ⟨i, by rw [h]; rfl, he, fun t r1 h1 => by rw [h] at h1; cases h1⟩
theorem lim_none {b : Nat} : lim b none = none := rfl
theorem lim_some {b : Nat} {o : PR} {t : Tre} {r : List TK} (h : lim b o = some (t, r)) : o = some (t, r) ∧ b + tsz t ≤ 500000 := by
  unfold lim at h
  split at h
  · cases h
  · split at h
    · simp only [Option.some.injEq, Prod.mk.injEq] at h
      obtain ⟨rfl, rfl⟩ := h
      exact ⟨rfl, by assumption⟩
    · cases h
theorem lim_yes {b : Nat} {t : Tre} {r : List TK} (h : b + tsz t ≤ 500000) : lim b (some (t, r)) = some (t, r) := by unfold lim; simp only []; rw [if_pos h]
theorem lim_no {b : Nat} {t : Tre} {r : List TK} (h : 500000 < b + tsz t) : lim b (some (t, r)) = none := by unfold lim; simp only []; rw [if_neg (by omega)]
theorem lim_big {b : Nat} {o : PR} (h : ∀ t r, o = some (t, r) → 500000 < b + tsz t) : lim b o = none := by
  cases o with
  | none => rfl
  | some p => exact lim_no (h _ _ rfl)
theorem lim_out {b : Nat} {o : PR} (h : lim b o = none) : o = none ∨ ∃ t r, o = some (t, r) ∧ 500000 < b + tsz t := by
  cases o with
  | none => exact .inl rfl
  | some p =>
    refine .inr ⟨p.1, p.2, rfl, ?_⟩
    unfold lim at h
    split at h
    · rename_i he; cases he
    · rename_i t r he
      simp only [Option.some.injEq] at he
      subst he
      split at h
      · cases h
      · simp only []; omega
theorem lim_is {b : Nat} {t : Tre} {r : List TK} : (lim b (some (t, r))).isSome = decide (b + tsz t ≤ 500000) := by
  by_cases h : b + tsz t ≤ 500000
  · rw [lim_yes h, decide_eq_true h]; rfl
  · rw [lim_no (by omega), decide_eq_false h]; rfl
theorem IPost.add {o : PR} {t : Tre} {r1 : List TK} {pre : List Nd} {nd : Nd} {i : Int} (ho : o = some (t, r1)) (hf : flat t ns.length = pre ++ [nd]) (he : Ext bp w w') (hs : (ns ++ pre).length < 500000 → i = ((ns ++ pre).length : Int) ∧ ∃ nv, IP eP eN bp tv ts w' r1 nv (ns ++ pre ++ [nd]) d) :
    IPost eP eN bp tv ts ns d o w (.tuple #[.int .i64 i, .bool (decide ((ns ++ pre).length < 500000))]) w' := by
  have hl := flat_len t ns.length
  rw [hf, List.length_append] at hl
  simp only [List.length_cons, List.length_nil] at hl
  subst ho
  refine ⟨i, ?_, he, fun t2 r2 h2 => ?_⟩
  · rw [lim_is]
    have e : decide ((ns ++ pre).length < 500000) = decide (ns.length + tsz t ≤ 500000) := by
      rw [List.length_append, ← hl]
      by_cases hq : ns.length + pre.length < 500000
      · rw [decide_eq_true hq, decide_eq_true (by omega)]
      · rw [decide_eq_false hq, decide_eq_false (by omega)]
    rw [e]
  · obtain ⟨h3, h4⟩ := lim_some h2
    simp only [Option.some.injEq, Prod.mk.injEq] at h3
    obtain ⟨rfl, rfl⟩ := h3
    obtain ⟨h5, nv, h6⟩ := hs (by rw [List.length_append]; omega)
    rw [hf, ← List.append_assoc]
    refine ⟨?_, nv, h6⟩
    rw [h5, List.length_append]
    omega
theorem IPost.leaf {o : PR} {t : Tre} {r1 : List TK} {nd : Nd} {i : Int} (ho : o = some (t, r1)) (hf : flat t ns.length = [nd]) (he : Ext bp w w') (hs : ns.length < 500000 → i = (ns.length : Int) ∧ ∃ nv, IP eP eN bp tv ts w' r1 nv (ns ++ [nd]) d) :
    IPost eP eN bp tv ts ns d o w (.tuple #[.int .i64 i, .bool (decide (ns.length < 500000))]) w' := by
  have := IPost.add (eP := eP) (eN := eN) (bp := bp) (tv := tv) (ts := ts) (w := w) (w' := w') (ns := ns) (d := d) (pre := []) (i := i) ho hf he (by simpa using hs)
  simpa using this
theorem IPost.same {o : PR} {t : Tre} {r1 : List TK} {i : Int} (ho : lim ns.length o = some (t, r1)) (he : Ext bp w w') (hi : i = (ns.length : Int) + tsz t - 1) (h : IP eP eN bp tv ts w' r1 nv (ns ++ flat t ns.length) d) : IPost eP eN bp tv ts ns d o w (.tuple #[.int .i64 i, .bool true]) w' :=
  ⟨i, by rw [ho]; rfl, he, fun t2 r2 h2 => by
    rw [ho] at h2
    simp only [Option.some.injEq, Prod.mk.injEq] at h2
    obtain ⟨rfl, rfl⟩ := h2
    exact ⟨hi, nv, h⟩⟩
end
end Go.Mw
