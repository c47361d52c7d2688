/-
  The decoders' reader, walked.
-/
import Derived.Test.YbxaawGreatLawB
import Derived.Test.YbxaawGreatPrsM
import Derived.Test.YbxaawGreatBufW
import Derived.Test.YbxaawGreatEvalP
import Derived.Test.YbxaawGreatSortW2
set_option linter.unusedVariables false
set_option linter.unusedSimpArgs false
set_option maxRecDepth 10000
namespace Go.Mw
section
variable {P : Program} {n : Nat} {l : List (Nat × Value)} {w : World} {d : Option Nat} {ty : TypeId} {pos : String} {af : Array Edge} {g : Option (Nat × Bool)}
theorem rd_shlW {x y : Operand} {t u : TypeId} {k k2 : IntKind} {a b : Int} (hx : ev l x = some (.int k a)) (hy : ev l y = some (.int k2 b)) (hb : 0 ≤ b) :
    Rd P ⟨d, .binOp .shl t x y u, ty, pos, af, g⟩ l w (.int k (k.wrap (a * 2 ^ min b.toNat k.bits))) :=
  ⟨fun ρ hρ w' _ => by simp [execOp, hρ x _ hx, hρ y _ hy, eqGuard, binOp, Op.shift, Int.not_lt.2 hb]⟩
theorem rd_orW {x y : Operand} {t u : TypeId} {k : IntKind} {a b : Int} (hx : ev l x = some (.int k a)) (hy : ev l y = some (.int k b)) :
    Rd P ⟨d, .binOp .or t x y u, ty, pos, af, g⟩ l w (.int k (k.wrap ((BitVec.ofInt k.bits a ||| BitVec.ofInt k.bits b).toNat : Nat))) :=
  ⟨fun ρ hρ w' _ => by simp [execOp, hρ x _ hx, hρ y _ hy, eqGuard, binOp, Op.intBits]⟩
end
/-- a reader: bytes and the place in them -/
structure RD (eR : TypeId) (bp : Nat) (bv : Value) (bs : List Nat) (w : World) (i : Nat) : Prop where
  bl : Bl w bp eR [bv, .int .i64 (i : Nat)]
  by_ : Rr w 0 bp 1 bv bs.length (bC bs)
  lt : ∀ c ∈ bs, c < 256
  le : i ≤ bs.length
  sm : bs.length ≤ 1048576
section
variable {eR : TypeId} {bp : Nat} {bv : Value} {bs : List Nat} {w w' : World} {i : Nat}
theorem RD.low (h : RD eR bp bv bs w i) (he : Ext (bp + 1) w w') : RD eR bp bv bs w' i := ⟨⟨(he.block bp (by omega)).trans h.bl.at_⟩, h.by_.low (he.low (by omega)), h.lt, h.le, h.sm⟩
theorem RD.ext (h : RD eR bp bv bs w i) (he : Ext w.heap.size w w') : RD eR bp bv bs w' i := h.low (he.low (by have := h.bl.lt; omega))
theorem RD.rg {lo hi : Nat} (h : RD eR bp bv bs w i) (hr : Rg lo hi w w') (hd : bp < lo) : RD eR bp bv bs w' i := ⟨h.bl.rg hr (.inl hd), h.by_.rg hr (by omega), h.lt, h.le, h.sm⟩
theorem RD.drew (h : RD eR bp bv bs w i) : RD eR bp bv bs w.drew i := h.ext (Ext.refl _ _).drew
end
/-- what a step of the reader gives -/
def NxP (eR : TypeId) (bp : Nat) (bv : Value) (bs : List Nat) (i : Nat) (w : World) (r : Value) (w' : World) : Prop :=
  ∃ (c : Int) (i' : Nat), r = .int .i64 c ∧ 0 ≤ c ∧ c ≤ 255 ∧ RD eR bp bv bs w' i' ∧ i ≤ i' ∧ (i < bs.length → i' = i + 1) ∧ Rg bp (bp + 1) w w'
def WdP (eR : TypeId) (bp : Nat) (bv : Value) (bs : List Nat) (i : Nat) (w : World) (r : Value) (w' : World) : Prop :=
  ∃ (c : Int) (i' : Nat), r = .int .i64 c ∧ w64 c = c ∧ RD eR bp bv bs w' i' ∧ i ≤ i' ∧ Rg bp (bp + 1) w w'
theorem own_offR {w w' : World} {B e sz n lo hi : Nat} {v : Value} {xs : List Value} (h : w.ownsRow B e sz v n xs) (hr : Rg lo hi w w') (hd : hi ≤ B) : w'.ownsRow B e sz v n xs :=
  own_same h fun k hk => hr.block k (own_block_lt h hk).2 (by have := (own_block_lt h hk).1; omega)
theorem ext_of_rg {B lo hi : Nat} {w w' : World} (hr : Rg lo hi w w') (hB : B ≤ lo) (hs : B ≤ w.heap.size) : Ext B w w' := ⟨hr.os, hr.tape, hr.output, hr.size, fun k hk => hr.block k (by omega) (by omega)⟩
theorem u8_i64 {c : Nat} (h : c < 256) : IntKind.i64.wrap (c : Int) = c := wrap_i64_in (by omega)
end Go.Mw
namespace Go.Proofs.YbxaawGreat
open Go.Mw
abbrev RDq := RD 56
abbrev NxPq := NxP 56
abbrev WdPq := WdP 56

theorem left_ok {bp : Nat} {bv : Value} {bs : List Nat} {i : Nat} (w : World) (h : RDq bp bv bs w i) : Ret Yaam.prog 30 [.pointer (some ⟨bp, 0, none⟩)] w fun r w' => r = .int .i64 ((bs.length : Int) - i) ∧ Ext w.heap.size w w' := by
  have hb := h.bl
  obtain ⟨ba, bc, rfl, hfb⟩ := h.by_.form
  have hle := h.le
  have hsm := h.sm
  refine enter1 Yaam.func30 Yaam.ntmps30 (by kernel_rfl) rfl rfl ?_
  refine V.seq ?_
  refine V.region ?_
  refine L.rd (rd_assign rfl) rfl ?_
  refine L.nil ?_
  refine X.sq ?_
  refine V.seq ?_
  refine V.draw [] mixed ?_
  refine D.take 0 [true, false, false, false, false, false, false, false, false, false, false] (.sq .bd) rfl (rd_move rfl) rfl (by kernel_rfl) rfl (LeC.drew _) ?_
  refine D.take 1 [true, true, false, false, false, false, false, false, false, false, false] (.sq .bd) rfl (rd_nilCheck rfl) rfl (by kernel_rfl) rfl (LeC.drew _) ?_
  refine D.take 2 [true, true, true, false, false, false, false, false, false, false, false] (.sq .bd) rfl (rd_fieldAddr tok rfl rfl rfl rfl rfl rfl) rfl (by kernel_rfl) rfl (LeC.drew _) ?_
  refine D.take 3 [true, true, true, true, false, false, false, false, false, false, false] (.sq .bd) rfl (rd_load1 tok rfl rfl rfl (hb.cell rfl)) rfl (by kernel_rfl) rfl (LeC.drew _) ?_
  refine D.take 4 [true, true, true, true, true, false, false, false, false, false, false] (.sq .bd) rfl (rd_lenSlice tok rfl rfl rfl) rfl (by kernel_rfl) rfl (LeC.drew _) ?_
  refine D.take 5 [true, true, true, true, true, true, false, false, false, false, false] (.sq .bd) rfl (rd_move rfl) rfl (by kernel_rfl) rfl (LeC.drew _) ?_
  refine D.take 6 [true, true, true, true, true, true, true, false, false, false, false] (.sq .bd) rfl (rd_nilCheck rfl) rfl (by kernel_rfl) rfl (LeC.drew _) ?_
  refine D.take 7 [true, true, true, true, true, true, true, true, false, false, false] (.sq .bd) rfl (rd_fieldAddr tok rfl rfl rfl rfl rfl rfl) rfl (by kernel_rfl) rfl (LeC.drew _) ?_
  refine D.take 8 [true, true, true, true, true, true, true, true, true, false, false] (.sq .bd) rfl (rd_load1 tok rfl rfl rfl (hb.cell (i := 1) rfl)) rfl (by kernel_rfl) rfl (LeC.drew _) ?_
  (refine D.take 9 [true, true, true, true, true, true, true, true, true, true, false] (.sq .bd) rfl (rd_sub3 rfl rfl ?_) rfl (by kernel_rfl) rfl (LeC.drew _) ?_; omega)
  refine D.take 10 [true, true, true, true, true, true, true, true, true, true, true] (.sq .bd) rfl (rd_assign rfl) rfl (by kernel_rfl) rfl (LeC.drew _) ?_
  refine D.done (by kernel_rfl) ?_
  refine X.sq ?_
  refine V.ret ?_
  refine ret_1 Yaam.results30 rfl ?_
  exact ⟨rfl, (Ext.refl _ _).drew⟩

theorem next_ok {bp : Nat} {bv : Value} {bs : List Nat} {i : Nat} (w : World) (h : RDq bp bv bs w i) : Ret Yaam.prog 31 [.pointer (some ⟨bp, 0, none⟩)] w (NxPq bp bv bs i w) := by
  have hb := h.bl
  obtain ⟨ba, bc, rfl, hfb⟩ := h.by_.form
  have hle := h.le
  have hsm := h.sm
  refine enter1 Yaam.func31 Yaam.ntmps31 (by kernel_rfl) rfl rfl ?_
  refine V.seq ?_
  refine V.region ?_
  refine L.rd (rd_assign rfl) rfl ?_
  refine L.nil ?_
  refine X.sq ?_
  refine V.seq ?_
  refine V.seq ?_
  refine V.draw [] mixed ?_
  refine D.take 0 [true, false, false, false, false, false, false, false, false, false] (.sq (.sq .bd)) rfl (rd_move rfl) rfl (by kernel_rfl) rfl (LeC.drew _) ?_
  refine D.take 1 [true, true, false, false, false, false, false, false, false, false] (.sq (.sq .bd)) rfl (rd_nilCheck rfl) rfl (by kernel_rfl) rfl (LeC.drew _) ?_
  refine D.take 2 [true, true, true, false, false, false, false, false, false, false] (.sq (.sq .bd)) rfl (rd_fieldAddr tok rfl rfl rfl rfl rfl rfl) rfl (by kernel_rfl) rfl (LeC.drew _) ?_
  refine D.take 3 [true, true, true, true, false, false, false, false, false, false] (.sq (.sq .bd)) rfl (rd_load1 tok rfl rfl rfl (hb.cell (i := 1) rfl)) rfl (by kernel_rfl) rfl (LeC.drew _) ?_
  refine D.take 4 [true, true, true, true, true, false, false, false, false, false] (.sq (.sq .bd)) rfl (rd_move rfl) rfl (by kernel_rfl) rfl (LeC.drew _) ?_
  refine D.take 5 [true, true, true, true, true, true, false, false, false, false] (.sq (.sq .bd)) rfl (rd_nilCheck rfl) rfl (by kernel_rfl) rfl (LeC.drew _) ?_
  refine D.take 6 [true, true, true, true, true, true, true, false, false, false] (.sq (.sq .bd)) rfl (rd_fieldAddr tok rfl rfl rfl rfl rfl rfl) rfl (by kernel_rfl) rfl (LeC.drew _) ?_
  refine D.take 7 [true, true, true, true, true, true, true, true, false, false] (.sq (.sq .bd)) rfl (rd_load1 tok rfl rfl rfl (hb.cell rfl)) rfl (by kernel_rfl) rfl (LeC.drew _) ?_
  refine D.take 8 [true, true, true, true, true, true, true, true, true, false] (.sq (.sq .bd)) rfl (rd_lenSlice tok rfl rfl rfl) rfl (by kernel_rfl) rfl (LeC.drew _) ?_
  refine D.take 9 [true, true, true, true, true, true, true, true, true, true] (.sq (.sq .bd)) rfl (rd_lss rfl rfl) rfl (by kernel_rfl) rfl (LeC.drew _) ?_
  refine D.done (by kernel_rfl) ?_
  refine X.sq ?_
  first | refine V.cond rfl (fun h13 => ?_) (fun h13 => ?_) | refine V.condB rfl (fun h13 => ?_) (fun h13 => ?_)
  ·
    obtain ⟨bb, bo, rfl, -, hbb, hcb⟩ := hfb.resolve_left (by omega)
    obtain ⟨c, hc⟩ := nth_of_lt bs i (by omega)
    have hc8 := h.lt c (List.mem_of_getElem? hc)
    have hcc := hcb.le (LeC.drew _)
    refine V.seq ?_
    refine V.draw [] mixed ?_
    refine D.take 0 [true, false, false, false, false, false, false, false, false, false, false, false] (.sq (.sq .bd)) rfl (rd_move rfl) rfl (by kernel_rfl) rfl (LeC.drew _) ?_
    refine D.take 1 [true, true, false, false, false, false, false, false, false, false, false, false] (.sq (.sq .bd)) rfl (rd_nilCheck rfl) rfl (by kernel_rfl) rfl (LeC.drew _) ?_
    refine D.take 2 [true, true, true, false, false, false, false, false, false, false, false, false] (.sq (.sq .bd)) rfl (rd_fieldAddr tok rfl rfl rfl rfl rfl rfl) rfl (by kernel_rfl) rfl (LeC.drew _) ?_
    refine D.take 3 [true, true, true, true, false, false, false, false, false, false, false, false] (.sq (.sq .bd)) rfl (rd_load1 tok rfl rfl rfl (hb.drew.cell rfl)) rfl (by kernel_rfl) rfl (LeC.drew _) ?_
    refine D.take 4 [true, true, true, true, true, false, false, false, false, false, false, false] (.sq (.sq .bd)) rfl (rd_move rfl) rfl (by kernel_rfl) rfl (LeC.drew _) ?_
    refine D.take 5 [true, true, true, true, true, true, false, false, false, false, false, false] (.sq (.sq .bd)) rfl (rd_nilCheck rfl) rfl (by kernel_rfl) rfl (LeC.drew _) ?_
    refine D.take 6 [true, true, true, true, true, true, true, false, false, false, false, false] (.sq (.sq .bd)) rfl (rd_fieldAddr tok rfl rfl rfl rfl rfl rfl) rfl (by kernel_rfl) rfl (LeC.drew _) ?_
    refine D.take 7 [true, true, true, true, true, true, true, true, false, false, false, false] (.sq (.sq .bd)) rfl (rd_load1 tok rfl rfl rfl (hb.drew.cell (i := 1) rfl)) rfl (by kernel_rfl) rfl (LeC.drew _) ?_
    (refine D.take 8 [true, true, true, true, true, true, true, true, true, false, false, false] (.sq (.sq .bd)) rfl (rd_indexSlice (sz := 1) tok rfl rfl rfl rfl rfl rfl rfl ?_) rfl (by kernel_rfl) rfl (LeC.drew _) ?_; omega)
    refine D.take 9 [true, true, true, true, true, true, true, true, true, true, false, false] (.sq (.sq .bd)) rfl (rd_load1 tok rfl rfl rfl (cells_at hcc (bC_get hc) (by simp))) rfl (by kernel_rfl) rfl (LeC.drew _) ?_
    refine D.take 10 [true, true, true, true, true, true, true, true, true, true, true, false] (.sq (.sq .bd)) rfl (rd_convInt tok rfl rfl rfl rfl rfl) rfl (by kernel_rfl) rfl (LeC.drew _) ?_
    refine D.take 11 [true, true, true, true, true, true, true, true, true, true, true, true] (.sq (.sq .bd)) rfl (rd_assign rfl) rfl (by kernel_rfl) rfl (LeC.drew _) ?_
    refine D.done (by kernel_rfl) ?_
    refine X.sq ?_
    refine V.seq ?_
    refine V.region ?_
    refine L.rd (rd_move rfl) rfl ?_
    refine L.rd (rd_nilCheck rfl) rfl ?_
    refine L.rd (rd_fieldAddr tok rfl rfl rfl rfl rfl rfl) rfl ?_
    refine L.rd (rd_load1 tok rfl rfl rfl (hb.drew.drew.cell (i := 1) rfl)) rfl ?_
    (refine L.rd (rd_add3 rfl rfl ?_) rfl ?_; omega)
    refine L.rd (rd_nilCheck rfl) rfl ?_
    refine L.rd (rd_fieldAddr tok rfl rfl rfl rfl rfl rfl) rfl ?_
    refine L.ef (e_store (vs := [_]) tok rfl rfl rfl rfl hb.drew.drew rfl (by simp [Value.oneCell']) (by simp) ?_)
    refine L.nil ?_
    refine X.sq ?_
    refine V.seq ?_
    refine V.region ?_
    refine L.rd (rd_move rfl) rfl ?_
    refine L.rd (rd_assign rfl) rfl ?_
    refine L.nil ?_
    refine X.sq ?_
    refine V.ret ?_
    refine X.sqRet ?_
    refine ret_1 Yaam.results31 rfl ?_
    rw [u8_i64 hc8]
    have hrg : Rg bp (bp + 1) w (setB w.drew.drew bp 56 [.slice (some ⟨bb, bo, none⟩) bs.length bc, .int .i64 ((i : Int) + 1)]) := ((Rg.refl _ _ _).drew.drew).trans (Rg.set (by omega) _ _)
    refine ⟨c, i + 1, rfl, by omega, by omega, ⟨?_, h.by_.rg hrg (.inl (Nat.le_refl _)), h.lt, by omega, hsm⟩, by omega, fun _ => rfl, hrg⟩
    exact hb.drew.drew.set _ _
  ·
    refine V.skip ?_
    refine X.sq ?_
    refine V.seq ?_
    refine V.region ?_
    refine L.rd (rd_assign rfl) rfl ?_
    refine L.nil ?_
    refine X.sq ?_
    refine V.ret ?_
    refine ret_1 Yaam.results31 rfl ?_
    exact ⟨0, i, rfl, by omega, by omega, h.drew, by omega, fun hlt => by omega, (Rg.refl _ _ _).drew⟩

theorem peek_ok {bp : Nat} {bv : Value} {bs : List Nat} {i : Nat} (w : World) (h : RDq bp bv bs w i) : Ret Yaam.prog 38 [.pointer (some ⟨bp, 0, none⟩)] w fun r w' => ∃ c : Int, r = .int .i64 c ∧ 0 ≤ c ∧ c ≤ 255 ∧ Ext w.heap.size w w' := by
  have hb := h.bl
  obtain ⟨ba, bc, rfl, hfb⟩ := h.by_.form
  have hle := h.le
  have hsm := h.sm
  refine enter1 Yaam.func38 Yaam.ntmps38 (by kernel_rfl) rfl rfl ?_
  refine V.seq ?_
  refine V.region ?_
  refine L.rd (rd_assign rfl) rfl ?_
  refine L.nil ?_
  refine X.sq ?_
  refine V.seq ?_
  refine V.seq ?_
  refine V.draw [] mixed ?_
  refine D.take 0 [true, false, false, false, false, false, false, false, false, false] (.sq (.sq .bd)) rfl (rd_move rfl) rfl (by kernel_rfl) rfl (LeC.drew _) ?_
  refine D.take 1 [true, true, false, false, false, false, false, false, false, false] (.sq (.sq .bd)) rfl (rd_nilCheck rfl) rfl (by kernel_rfl) rfl (LeC.drew _) ?_
  refine D.take 2 [true, true, true, false, false, false, false, false, false, false] (.sq (.sq .bd)) rfl (rd_fieldAddr tok rfl rfl rfl rfl rfl rfl) rfl (by kernel_rfl) rfl (LeC.drew _) ?_
  refine D.take 3 [true, true, true, true, false, false, false, false, false, false] (.sq (.sq .bd)) rfl (rd_load1 tok rfl rfl rfl (hb.cell (i := 1) rfl)) rfl (by kernel_rfl) rfl (LeC.drew _) ?_
  refine D.take 4 [true, true, true, true, true, false, false, false, false, false] (.sq (.sq .bd)) rfl (rd_move rfl) rfl (by kernel_rfl) rfl (LeC.drew _) ?_
  refine D.take 5 [true, true, true, true, true, true, false, false, false, false] (.sq (.sq .bd)) rfl (rd_nilCheck rfl) rfl (by kernel_rfl) rfl (LeC.drew _) ?_
  refine D.take 6 [true, true, true, true, true, true, true, false, false, false] (.sq (.sq .bd)) rfl (rd_fieldAddr tok rfl rfl rfl rfl rfl rfl) rfl (by kernel_rfl) rfl (LeC.drew _) ?_
  refine D.take 7 [true, true, true, true, true, true, true, true, false, false] (.sq (.sq .bd)) rfl (rd_load1 tok rfl rfl rfl (hb.cell rfl)) rfl (by kernel_rfl) rfl (LeC.drew _) ?_
  refine D.take 8 [true, true, true, true, true, true, true, true, true, false] (.sq (.sq .bd)) rfl (rd_lenSlice tok rfl rfl rfl) rfl (by kernel_rfl) rfl (LeC.drew _) ?_
  refine D.take 9 [true, true, true, true, true, true, true, true, true, true] (.sq (.sq .bd)) rfl (rd_lss rfl rfl) rfl (by kernel_rfl) rfl (LeC.drew _) ?_
  refine D.done (by kernel_rfl) ?_
  refine X.sq ?_
  first | refine V.cond rfl (fun h12 => ?_) (fun h12 => ?_) | refine V.condB rfl (fun h12 => ?_) (fun h12 => ?_)
  ·
    obtain ⟨bb, bo, rfl, -, hbb, hcb⟩ := hfb.resolve_left (by omega)
    obtain ⟨c, hc⟩ := nth_of_lt bs i (by omega)
    have hc8 := h.lt c (List.mem_of_getElem? hc)
    have hcc := hcb.le (LeC.drew _)
    refine V.seq ?_
    refine V.draw [] mixed ?_
    refine D.take 0 [true, false, false, false, false, false, false, false, false, false, false, false] (.sq (.sq .bd)) rfl (rd_move rfl) rfl (by kernel_rfl) rfl (LeC.drew _) ?_
    refine D.take 1 [true, true, false, false, false, false, false, false, false, false, false, false] (.sq (.sq .bd)) rfl (rd_nilCheck rfl) rfl (by kernel_rfl) rfl (LeC.drew _) ?_
    refine D.take 2 [true, true, true, false, false, false, false, false, false, false, false, false] (.sq (.sq .bd)) rfl (rd_fieldAddr tok rfl rfl rfl rfl rfl rfl) rfl (by kernel_rfl) rfl (LeC.drew _) ?_
    refine D.take 3 [true, true, true, true, false, false, false, false, false, false, false, false] (.sq (.sq .bd)) rfl (rd_load1 tok rfl rfl rfl (hb.drew.cell rfl)) rfl (by kernel_rfl) rfl (LeC.drew _) ?_
    refine D.take 4 [true, true, true, true, true, false, false, false, false, false, false, false] (.sq (.sq .bd)) rfl (rd_move rfl) rfl (by kernel_rfl) rfl (LeC.drew _) ?_
    refine D.take 5 [true, true, true, true, true, true, false, false, false, false, false, false] (.sq (.sq .bd)) rfl (rd_nilCheck rfl) rfl (by kernel_rfl) rfl (LeC.drew _) ?_
    refine D.take 6 [true, true, true, true, true, true, true, false, false, false, false, false] (.sq (.sq .bd)) rfl (rd_fieldAddr tok rfl rfl rfl rfl rfl rfl) rfl (by kernel_rfl) rfl (LeC.drew _) ?_
    refine D.take 7 [true, true, true, true, true, true, true, true, false, false, false, false] (.sq (.sq .bd)) rfl (rd_load1 tok rfl rfl rfl (hb.drew.cell (i := 1) rfl)) rfl (by kernel_rfl) rfl (LeC.drew _) ?_
    (refine D.take 8 [true, true, true, true, true, true, true, true, true, false, false, false] (.sq (.sq .bd)) rfl (rd_indexSlice (sz := 1) tok rfl rfl rfl rfl rfl rfl rfl ?_) rfl (by kernel_rfl) rfl (LeC.drew _) ?_; omega)
    refine D.take 9 [true, true, true, true, true, true, true, true, true, true, false, false] (.sq (.sq .bd)) rfl (rd_load1 tok rfl rfl rfl (cells_at hcc (bC_get hc) (by simp))) rfl (by kernel_rfl) rfl (LeC.drew _) ?_
    refine D.take 10 [true, true, true, true, true, true, true, true, true, true, true, false] (.sq (.sq .bd)) rfl (rd_convInt tok rfl rfl rfl rfl rfl) rfl (by kernel_rfl) rfl (LeC.drew _) ?_
    refine D.take 11 [true, true, true, true, true, true, true, true, true, true, true, true] (.sq (.sq .bd)) rfl (rd_assign rfl) rfl (by kernel_rfl) rfl (LeC.drew _) ?_
    refine D.done (by kernel_rfl) ?_
    refine X.sq ?_
    refine V.ret ?_
    refine X.sqRet ?_
    refine ret_1 Yaam.results38 rfl ?_
    rw [u8_i64 hc8]
    exact ⟨c, rfl, by omega, by omega, (Ext.refl _ _).drew.drew⟩
  ·
    refine V.skip ?_
    refine X.sq ?_
    refine V.seq ?_
    refine V.region ?_
    refine L.rd (rd_assign rfl) rfl ?_
    refine L.nil ?_
    refine X.sq ?_
    refine V.ret ?_
    refine ret_1 Yaam.results38 rfl ?_
    exact ⟨0, rfl, by omega, by omega, (Ext.refl _ _).drew⟩

theorem word_ok {bp : Nat} {bv : Value} {bs : List Nat} {i : Nat} (w : World) (h : RDq bp bv bs w i) : Ret Yaam.prog 34 [.pointer (some ⟨bp, 0, none⟩)] w (WdPq bp bv bs i w) := by
  refine enter1 Yaam.func34 Yaam.ntmps34 (by kernel_rfl) rfl rfl ?_
  refine V.seq ?_
  refine V.region ?_
  refine L.rd (rd_assign rfl) rfl ?_
  refine L.nil ?_
  refine X.sq ?_
  refine V.seq ?_
  refine V.region ?_
  refine L.rd (rd_assign rfl) rfl ?_
  refine L.nil ?_
  refine X.sq ?_
  refine V.seq ?_
  refine V.seq ?_
  refine V.region ?_
  refine L.rd (rd_assign rfl) rfl ?_
  refine L.nil ?_
  refine X.sq ?_
  refine V.block ?_
  refine V.loop (fun m l w' => ∃ (k : Nat) (u : Int) (j : Nat), l = [(0, .pointer (some ⟨bp, 0, none⟩)), (3, .int .u64 u), (4, .int .i64 k)] ∧ m = 8 - k ∧ k ≤ 8 ∧ i ≤ j ∧ RDq bp bv bs w' j ∧ Rg bp (bp + 1) w w') ?_ ?_
  ·
    exact ⟨_, _, (by repeat' (first | exact trivial | refine ⟨rfl, ?_⟩)), 0, 0, i, rfl, rfl, by omega, by omega, h, Rg.refl _ _ _⟩
  ·
    rintro m l w1 ⟨k, u, j, rfl, rfl, hk, hij, h1, hr1⟩
    refine V.seq ?_
    refine V.seq ?_
    refine V.region ?_
    refine L.rd (rd_move rfl) rfl ?_
    refine L.rd (rd_lss rfl rfl) rfl ?_
    refine L.nil ?_
    refine X.sq ?_
    first | refine V.cond rfl (fun h6 => ?_) (fun h6 => ?_) | refine V.condB rfl (fun h6 => ?_) (fun h6 => ?_)
    ·
      refine V.skip ?_
      refine X.sq ?_
      refine V.seq ?_
      refine V.block ?_
      refine V.region ?_
      refine L.rd (rd_move rfl) rfl ?_
      refine L.rd (rd_shlW rfl rfl (by decide)) rfl ?_
      refine L.rd (rd_move rfl) rfl ?_
      refine L.ef (e_call rfl (next_ok _ h1) rfl ?_)
      rintro _ w2 ⟨c, j2, rfl, hc0, hc1, h2, hj2, -, hr2⟩
      refine L.rd (rd_convInt tok rfl rfl rfl rfl rfl) rfl ?_
      refine L.rd (rd_orW rfl rfl) rfl ?_
      refine L.rd (rd_assign rfl) rfl ?_
      refine L.nil ?_
      refine X.bk ?_
      refine X.sq ?_
      refine V.region ?_
      refine L.rd (rd_move rfl) rfl ?_
      (refine L.rd (rd_add3 rfl rfl ?_) rfl ?_; omega)
      refine L.rd (rd_assign rfl) rfl ?_
      refine L.nil ?_
      exact X.lp ⟨_, _, by omega, (by repeat' (first | exact trivial | refine ⟨rfl, ?_⟩)), k + 1, _, j2, rfl, rfl, by omega, by omega, h2, hr1.trans hr2⟩
    ·
      refine V.exit ?_
      refine X.sqExit ?_
      refine X.lpExit ?_
      refine X.bkHere ?_
      refine X.sq ?_
      refine V.seq ?_
      refine V.region ?_
      refine L.rd (rd_move rfl) rfl ?_
      refine L.rd (rd_convInt tok rfl rfl rfl rfl rfl) rfl ?_
      refine L.rd (rd_assign rfl) rfl ?_
      refine L.nil ?_
      refine X.sq ?_
      refine V.ret ?_
      refine ret_1 Yaam.results34 rfl ?_
      exact ⟨_, j, rfl, w64_wr _, h1, hij, hr1⟩
end Go.Proofs.YbxaawGreat
