/-
  Facts that live through a law, continued.
-/
import Derived.Test.YbxaawPolyM
set_option linter.unusedVariables false
namespace Go.Mw
theorem Bl.ext {w w' : World} {b e : Nat} {cs : List Value} (h : Bl w b e cs) (he : Ext w.heap.size w w') : Bl w' b e cs := he.bl h.lt h
theorem Bl.rg {w w' : World} {b e lo hi : Nat} {cs : List Value} (h : Bl w b e cs) (hr : Rg lo hi w w') (hd : b < lo ∨ hi ≤ b) : Bl w' b e cs := ⟨(hr.block b h.lt (by omega)).trans h.at_⟩
theorem Ext.ext {a w w' : World} (h : Ext a.heap.size a w) (he : Ext w.heap.size w w') : Ext a.heap.size a w' := h.next he
theorem Ext.rg {a w w' : World} {lo hi : Nat} (h : Ext a.heap.size a w) (hr : Rg lo hi w w') (hd : a.heap.size ≤ lo) : Ext a.heap.size a w' := h.nextR hr hd
theorem ext_of_add {w wm : World} {e : TypeId} {cs : List Value} (h : addB w e cs = wm) : Ext w.heap.size w wm := h ▸ (Ext.refl _ _).addNew _ _
theorem bl_of_add {w wm : World} {e : TypeId} {cs : List Value} (h : addB w e cs = wm) : Bl wm w.heap.size e cs := h ▸ Bl.new _ _ _
theorem ext_of_new {w wm : World} {e : TypeId} {cs cs' : List Value} (h : setB (addB w e cs) w.heap.size e cs' = wm) : Ext w.heap.size w wm := h ▸ ((Ext.refl _ _).addNew _ _).set (Nat.le_refl _) _ _
theorem bl_of_new {w wm : World} {e : TypeId} {cs cs' : List Value} (h : setB (addB w e cs) w.heap.size e cs' = wm) : Bl wm w.heap.size e cs' := h ▸ Bl.set' (by rw [size_addB]; omega) _ _
theorem size_of_new {w wm : World} {e : TypeId} {cs cs' : List Value} (h : setB (addB w e cs) w.heap.size e cs' = wm) : wm.heap.size = w.heap.size + 1 := by rw [← h, size_setB, size_addB]
end Go.Mw
