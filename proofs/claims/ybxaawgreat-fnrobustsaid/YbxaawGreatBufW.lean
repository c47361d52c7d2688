/-
  A byte buffer that grows by append.
-/
import Derived.Test.YbxaawGreatStrW
set_option linter.unusedVariables false
set_option linter.unusedSimpArgs false
namespace Go.Mw

theorem Bl.off_own {w w' : World} {b B e e' sz n : Nat} {v : Value} {cs xs : List Value} (h : Bl w b e cs) (ho : w.ownsRow B e' sz v n xs) (hne : Nat.beq e e' = false) (hg : w.grownBy w' v.ownBlock) : Bl w' b e cs := by
  refine ⟨(hg.block b h.lt ?_).trans h.at_⟩
  intro hb
  rcases own_slc ho with ⟨rfl, _⟩ | ⟨g, cap, sp, _, hs⟩
  · simp [Value.ownBlock] at hb
  · rw [hs.val] at hb
    simp only [Value.ownBlock, Option.some.injEq] at hb
    subst hb
    have h1 := h.at_
    rw [hs.bl.at_] at h1
    simp only [Option.some.injEq, Obj.cells.injEq] at h1
    have : e = e' := h1.2.1.symm
    subst this
    simp at hne
/-- The slice bv holds the bytes acc; nothing of w0 is touched. -/
structure Bf (u8 : TypeId) (w0 w : World) (bv : Value) (acc : List Nat) : Prop where
  own : w.ownsRow w0.heap.size u8 1 bv acc.length (bC acc)
  ext : Ext w0.heap.size w0 w
section
variable {u8 : TypeId} {w0 w w' : World} {bv : Value} {acc : List Nat}
theorem Bf.next (h : Bf u8 w0 w bv acc) (he : Ext w.heap.size w w') : Bf u8 w0 w' bv acc :=
  ⟨own_same h.own fun k hk => he.block k (own_block_lt h.own hk).2, h.ext.next he⟩
theorem Bf.add (h : Bf u8 w0 w bv acc) (e : TypeId) (cs : List Value) : Bf u8 w0 (addB w e cs) bv acc := h.next ((Ext.refl _ _).addNew e cs)
theorem Bf.drew (h : Bf u8 w0 w bv acc) : Bf u8 w0 w.drew bv acc := h.next (Ext.refl _ _).drew
theorem Bf.set (h : Bf u8 w0 w bv acc) {b e : Nat} {cs : List Value} (hb : Bl w b e cs) (hne : Nat.beq e u8 = false) (hlo : w0.heap.size ≤ b) (e' : TypeId) (cs' : List Value) : Bf u8 w0 (setB w b e' cs') bv acc := by
  refine ⟨own_same h.own fun k hk => ?_, h.ext.set hlo _ _⟩
  simp only [setB]
  rw [Array.getElem?_setIfInBounds_ne]
  intro e1
  subst e1
  rcases own_slc h.own with ⟨rfl, _⟩ | ⟨g, cap, sp, _, hs⟩
  · simp [Value.ownBlock] at hk
  · rw [hs.val] at hk
    simp only [Value.ownBlock, Option.some.injEq] at hk
    subst hk
    have h1 := hb.at_
    rw [hs.bl.at_] at h1
    simp only [Option.some.injEq, Obj.cells.injEq] at h1
    have : e = u8 := h1.2.1.symm
    subst this
    simp at hne
theorem Bf.form (h : Bf u8 w0 w bv acc) : ∃ a c, bv = .slice a acc.length c := by
  rcases own_slc h.own with ⟨rfl, h0, _⟩ | ⟨g, cap, sp, _, hs⟩
  · rw [h0]; exact ⟨_, _, rfl⟩
  · exact ⟨_, _, hs.val⟩
/-- not empty: where it lies -/
theorem Bf.cells (h : Bf u8 w0 w bv acc) (hne : acc ≠ []) : ∃ g c, bv = .slice (some ⟨g, 0, none⟩) acc.length c ∧ Cells w g 0 (bC acc) := by
  rcases own_slc h.own with ⟨rfl, h0, _⟩ | ⟨g, cap, sp, _, hs⟩
  · exact absurd (List.eq_nil_of_length_eq_zero h0) hne
  · refine ⟨g, cap, hs.val, ⟨fun i u hu => ?_⟩⟩
    exact hs.bl.cells.at_ i u (by rw [List.getElem?_append_left (List.getElem?_eq_some_iff.1 hu).1]; exact hu)
end
/-- what is kept -/
def KeptBut (u8 : TypeId) (w w' : World) : Prop := ∀ b e cs, Bl w b e cs → Nat.beq e u8 = false → Bl w' b e cs
section
variable {P : Program} {n : Nat} {l : List (Nat × Value)} {w w0 : World} {d : Nat} {ty : TypeId} {pos : String} {af : Array Edge} {g : Option (Nat × Bool)} {T : List (Nat × TI)} {K : List (Nat × Value) → World → Prop}
theorem e_appB (hT : TOk P T) {t e : Nat} {x y : Operand} {i j : TI} {v : Value} {b cap : Nat} {c : Nat} {acc : List Nat} (ht : T.lookup t = some i) (h3 : i.tag = 3) (he : i.a = e) (hj : T.lookup e = some j) (hjs : Nat.beq (vcells j.zero).length j.size = true) (hjz : j.size = 1) (hjb : j.bytes = 1)
    (hx : ev l x = some v) (hy : ev l y = some (.slice (some ⟨b, 0, none⟩) 1 cap)) (hbs : b = w.heap.size) (hd : Nat.blt d n = true) (hB : Bf e w0 w v acc) (hle : acc.length ≤ 1099511627776)
    (k : ∀ v' w', Bf e w0 w' v' (acc ++ [c]) → KeptBut e w w' → K ((d, v') :: l) w') :
    E P n ⟨some d, .call { callee := .builtin .append, args := #[x, y], argTypes := #[t, t] }, ty, pos, af, g⟩ l (addB w e [.int .u8 (c : Nat)]) K := by
  subst hbs
  have ho : (addB w e [.int .u8 (c : Nat)]).ownsRow w0.heap.size e 1 v acc.length (bC acc) := hB.own.alloc _
  refine e_append (m := 1) (news := [.int .u8 (c : Nat)]) hT ht h3 he hj hjs (by rw [hjz]; rfl) hjz hx hy hd ho (Bl.new _ _ _).cells rfl (by simp [Value.oneCell']) (by unfold maxLen; omega) (by rw [hjb]; omega) (by rw [size_addB]; have := hB.ext.size; omega) ?_
  intro v' w' h1 h2
  have hb := hB.own
  refine k v' w' ⟨?_, ?_⟩ ?_
  · rw [List.length_append, bC_append]; exact h1
  · refine (hB.ext.addNew _ _).grown h2 (by rw [size_addB]; have := hB.ext.size; omega) (fun k hk => (own_block_lt hB.own hk).1)
  · intro b e' cs hbl hne
    exact (hbl.add e [.int .u8 (c : Nat)]).off_own ho hne h2
theorem rd_bytesBf (hT : TOk P T) {d : Option Nat} {x : Operand} {t u e : Nat} {i j k2 : TI} {v : Value} {acc : List Nat} (ht : T.lookup t = some i) (h3 : i.tag = 3) (he : i.a = e) (hj : T.lookup e = some j) (hjt : j.tag = 0) (hjk : j.kind = .u8)
    (hu : T.lookup u = some k2) (h2 : k2.tag = 2) (hx : ev l x = some v) (hB : Bf e w0 w v acc) : Rd P ⟨d, .convert t u x, ty, pos, af, g⟩ l w (.string (mkS acc)) := by
  by_cases hne : acc = []
  · subst hne
    rcases own_slc hB.own with ⟨rfl, _⟩ | ⟨g, cap, sp, _, hs⟩
    · exact ⟨fun ρ hρ w' hle => by
        have h1 := run_convert_bytes_string (P := P) w' t u e none 0 0 ((hT.get ht).slice h3 he) ((hT.get hj).int hjt hjk) ((hT.get hu).string h2)
        have h5 : (Conv.bytesToString (.slice none 0 0)).run P w' = .ok (.string (mkS [])) w' := rfl
        simp [execOp, hρ x _ hx, h1, h5]⟩
    · exact rd_bytesStr hT ht h3 he hj hjt hjk hu h2 (by rw [hx, hs.val]) (xs := []) ⟨fun i v hv => by simp [bC] at hv⟩ rfl
  · obtain ⟨g, c, hv, hc⟩ := hB.cells hne
    exact rd_bytesStr hT ht h3 he hj hjt hjk hu h2 (by rw [hx, hv]) hc rfl
theorem e_appS (hT : TOk P T) {t u e : Nat} {x y : Operand} {i j k2 : TI} {v : Value} {acc : List Nat} {s : ByteArray} (ht : T.lookup t = some i) (h3 : i.tag = 3) (he : i.a = e) (hj : T.lookup e = some j) (hjz : j.zero = .int .u8 0) (hjs : j.size = 1) (hjb : j.bytes = 1)
    (hu : T.lookup u = some k2) (h2 : k2.tag = 2) (hx : ev l x = some v) (hy : ev l y = some (.string s)) (hd : Nat.blt d n = true) (hB : Bf e w0 w v acc) (hle : acc.length + s.size ≤ 1099511627776)
    (k : ∀ v' w', Bf e w0 w' v' (acc ++ bl s) → KeptBut e w w' → K ((d, v') :: l) w') :
    E P n ⟨some d, .call { callee := .builtin .append, args := #[x, y], argTypes := #[t, u] }, ty, pos, af, g⟩ l w K := by
  refine e_appendS hT ht h3 he hj hjz hjs hjb hu h2 hx hy hd hB.own (by omega) (by have := hB.ext.size; omega) ?_
  intro v' w' h1 h4
  refine k v' w' ⟨?_, ?_⟩ ?_
  · rw [List.length_append, bl_length]; exact h1
  · exact hB.ext.grown h4 hB.ext.size (fun k hk => (own_block_lt hB.own hk).1)
  · intro b e' cs hbl hne
    exact hbl.off_own hB.own hne h4
end
end Go.Mw
