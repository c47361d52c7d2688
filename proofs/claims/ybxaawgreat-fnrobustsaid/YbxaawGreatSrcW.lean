/-
  The decoder of source texts, walked: it returns, and its text is not too long.
-/
import Derived.Test.YbxaawGreatRdW
import Derived.Test.YbxaawGreatUdecW
import Derived.Test.YbxaawGreatSxW
set_option linter.unusedVariables false
set_option linter.unusedSimpArgs false
set_option maxRecDepth 10000
namespace Go.Mw
/-- the state: a reader and the text so far -/
structure SD (eR u8 : TypeId) (w0 : World) (bv : Value) (bs : List Nat) (w : World) (i : Nat) (ov : Value) (acc : List Nat) : Prop where
  bl : Bl w w0.heap.size eR [bv, .int .i64 (i : Nat)]
  by0 : Rr w0 0 w0.heap.size 1 bv bs.length (bC bs)
  lt : ∀ c ∈ bs, c < 256
  le : i ≤ bs.length
  sm : bs.length ≤ 1048576
  bf : Bf u8 w0 w ov acc
section
variable {eR u8 : TypeId} {w0 w w' : World} {bv ov : Value} {bs acc : List Nat} {i : Nat}
theorem SD.rd (h : SD eR u8 w0 bv bs w i ov acc) : RD eR w0.heap.size bv bs w i := ⟨h.bl, h.by0.low h.bf.ext, h.lt, h.le, h.sm⟩
theorem SD.ext (h : SD eR u8 w0 bv bs w i ov acc) (he : Ext w.heap.size w w') : SD eR u8 w0 bv bs w' i ov acc := ⟨he.bl h.bl.lt h.bl, h.by0, h.lt, h.le, h.sm, h.bf.next he⟩
theorem SD.step (h : SD eR u8 w0 bv bs w i ov acc) {i' : Nat} (hr : RD eR w0.heap.size bv bs w' i') (hg : Rg w0.heap.size (w0.heap.size + 1) w w') (hne : Nat.beq u8 eR = false) : SD eR u8 w0 bv bs w' i' ov acc :=
  ⟨hr.bl, h.by0, h.lt, hr.le, h.sm, own_rgT h.bf.own h.bl hg hne, h.bf.ext.nextR hg (Nat.le_refl _)⟩
theorem SD.app (h : SD eR u8 w0 bv bs w i ov acc) {ov' : Value} {acc' : List Nat} (hB : Bf u8 w0 w' ov' acc') (hk : KeptBut u8 w w') (hne : Nat.beq eR u8 = false) : SD eR u8 w0 bv bs w' i ov' acc' := ⟨hk _ _ _ h.bl hne, h.by0, h.lt, h.le, h.sm, hB⟩
end
def SxP (eR u8 : TypeId) (w0 : World) (bv : Value) (bs : List Nat) (i : Nat) (acc : List Nat) (r : Value) (w' : World) : Prop :=
  ∃ (i' : Nat) (acc' : List Nat), SD eR u8 w0 bv bs w' i' r acc' ∧ i ≤ i' ∧ acc'.length + 64 * (bs.length - i') ≤ acc.length + 64 * (bs.length - i) + 32
def u8n (x : Int) : Nat := (IntKind.u8.wrap x).toNat
theorem u8n_eq (x : Int) : IntKind.u8.wrap x = ((u8n x : Nat) : Int) := by
  have : 0 ≤ IntKind.u8.wrap x := by
    simp only [IntKind.wrap, IntKind.bits, IntKind.signed]
    simp
    omega
  unfold u8n; omega
end Go.Mw
namespace Go.Proofs.YbxaawGreat
open Go.Mw
abbrev SDq := SD 56 5
abbrev SxPq := SxP 56 5

theorem sExpo_ok {bp : Nat} {bv : Value} {bs : List Nat} {i : Nat} (w : World) (h : RDq bp bv bs w i) : Ret Yaam.prog 142 [.pointer (some ⟨bp, 0, none⟩)] w fun r w' => ∃ (c : Int) (i' : Nat), r = .int .i64 c ∧ RDq bp bv bs w' i' ∧ i ≤ i' ∧ Rg bp (bp + 1) w w' := by
  refine enter1 Yaam.func142 Yaam.ntmps142 (by kernel_rfl) rfl rfl ?_
  refine V.seq ?_
  refine V.region ?_
  refine L.rd (rd_assign rfl) rfl ?_
  refine L.nil ?_
  refine X.sq ?_
  refine V.seq ?_
  refine V.region ?_
  refine L.rd (rd_move rfl) rfl ?_
  refine L.ef (e_call rfl (next_ok _ h) rfl ?_)
  rintro _ w1 ⟨c, i1, rfl, hc0, hc1, h1, hi1, -, hr1⟩
  refine L.rd (rd_assign rfl) rfl ?_
  refine L.nil ?_
  refine X.sq ?_
  refine V.seq ?_
  refine V.seq ?_
  refine V.region ?_
  refine L.rd (rd_move rfl) rfl ?_
  refine L.rd (rd_lss rfl rfl) rfl ?_
  refine L.nil ?_
  refine X.sq ?_
  first | refine V.cond rfl (fun h7 => ?_) (fun h7 => ?_) | refine V.condB rfl (fun h7 => ?_) (fun h7 => ?_)
  ·
    refine V.seq ?_
    refine V.region ?_
    refine L.rd (rd_move rfl) rfl ?_
    refine L.rd (rd_remW rfl rfl (by decide)) rfl ?_
    refine L.rd (rd_assign rfl) rfl ?_
    refine L.nil ?_
    refine X.sq ?_
    refine V.ret ?_
    refine X.sqRet ?_
    refine ret_1 Yaam.results142 rfl ?_
    exact ⟨_, i1, rfl, h1, hi1, hr1⟩
  ·
    refine V.skip ?_
    refine X.sq ?_
    refine V.seq ?_
    refine V.seq ?_
    refine V.region ?_
    refine L.rd (rd_move rfl) rfl ?_
    refine L.rd (rd_lss rfl rfl) rfl ?_
    refine L.nil ?_
    refine X.sq ?_
    first | refine V.cond rfl (fun h11 => ?_) (fun h11 => ?_) | refine V.condB rfl (fun h11 => ?_) (fun h11 => ?_)
    ·
      refine V.seq ?_
      refine V.region ?_
      refine L.rd (rd_move rfl) rfl ?_
      refine L.rd (rd_remW rfl rfl (by decide)) rfl ?_
      refine L.rd (rd_assign rfl) rfl ?_
      refine L.nil ?_
      refine X.sq ?_
      refine V.ret ?_
      refine X.sqRet ?_
      refine ret_1 Yaam.results142 rfl ?_
      exact ⟨_, i1, rfl, h1, hi1, hr1⟩
    ·
      refine V.skip ?_
      refine X.sq ?_
      refine V.seq ?_
      refine V.seq ?_
      refine V.region ?_
      refine L.rd (rd_move rfl) rfl ?_
      refine L.rd (rd_lss rfl rfl) rfl ?_
      refine L.nil ?_
      refine X.sq ?_
      first | refine V.cond rfl (fun h15 => ?_) (fun h15 => ?_) | refine V.condB rfl (fun h15 => ?_) (fun h15 => ?_)
      ·
        refine V.seq ?_
        refine V.region ?_
        refine L.rd (rd_move rfl) rfl ?_
        refine L.rd (rd_remW rfl rfl (by decide)) rfl ?_
        refine L.rd (rd_subW rfl rfl) rfl ?_
        refine L.rd (rd_assign rfl) rfl ?_
        refine L.nil ?_
        refine X.sq ?_
        refine V.ret ?_
        refine X.sqRet ?_
        refine ret_1 Yaam.results142 rfl ?_
        exact ⟨_, i1, rfl, h1, hi1, hr1⟩
      ·
        refine V.skip ?_
        refine X.sq ?_
        refine V.seq ?_
        refine V.seq ?_
        refine V.region ?_
        refine L.rd (rd_move rfl) rfl ?_
        refine L.ef (e_call rfl (next_ok _ h1) rfl ?_)
        rintro _ w2 ⟨c2, i2, rfl, hc20, hc21, h2, hi2, -, hr2⟩
        refine L.rd (rd_remW rfl rfl (by decide)) rfl ?_
        refine L.rd (rd_eql rfl rfl) rfl ?_
        refine L.nil ?_
        refine X.sq ?_
        first | refine V.cond rfl (fun h22 => ?_) (fun h22 => ?_) | refine V.condB rfl (fun h22 => ?_) (fun h22 => ?_)
        ·
          refine V.seq ?_
          refine V.region ?_
          refine L.rd (rd_assign rfl) rfl ?_
          refine L.nil ?_
          refine X.sq ?_
          refine V.ret ?_
          refine X.sqRet ?_
          refine ret_1 Yaam.results142 rfl ?_
          exact ⟨_, i2, rfl, h2, by omega, hr1.trans hr2⟩
        ·
          refine V.skip ?_
          refine X.sq ?_
          refine V.seq ?_
          refine V.region ?_
          refine L.rd (rd_move rfl) rfl ?_
          refine L.rd (rd_mulW rfl rfl) rfl ?_
          refine L.rd (rd_assign rfl) rfl ?_
          refine L.nil ?_
          refine X.sq ?_
          refine V.ret ?_
          refine ret_1 Yaam.results142 rfl ?_
          exact ⟨_, i2, rfl, h2, by omega, hr1.trans hr2⟩

theorem sAtom_ok {w0 : World} {bv ov : Value} {bs acc : List Nat} {i : Nat} (c : Int) (hc : 0 ≤ c ∧ c ≤ 255) (w : World) (h : SDq w0 bv bs w i ov acc) (hK : acc.length ≤ 1000000000) : Ret Yaam.prog 143 [.pointer (some ⟨w0.heap.size, 0, none⟩), ov, .int .i64 c] w (SxPq w0 bv bs i acc) := by
  refine enter3 Yaam.func143 Yaam.ntmps143 (by kernel_rfl) rfl rfl ?_
  refine V.seq ?_
  refine V.region ?_
  refine L.rd (rd_assign rfl) rfl ?_
  refine L.nil ?_
  refine X.sq ?_
  refine V.seq ?_
  refine V.seq ?_
  refine V.region ?_
  refine L.rd (rd_move rfl) rfl ?_
  refine L.rd (rd_remW rfl rfl (by decide)) rfl ?_
  refine L.rd (rd_eql rfl rfl) rfl ?_
  refine L.nil ?_
  refine X.sq ?_
  first | refine V.cond rfl (fun h9 => ?_) (fun h9 => ?_) | refine V.condB rfl (fun h9 => ?_) (fun h9 => ?_)
  ·
    refine V.seq ?_
    refine V.seq ?_
    refine V.region ?_
    refine L.rd (rd_move rfl) rfl ?_
    refine L.rd (rd_lss rfl rfl) rfl ?_
    refine L.nil ?_
    refine X.sq ?_
    first | refine V.cond rfl (fun h11 => ?_) (fun h11 => ?_) | refine V.condB rfl (fun h11 => ?_) (fun h11 => ?_)
    ·
      refine V.seq ?_
      refine V.region ?_
      refine L.rd (rd_move rfl) rfl ?_
      refine L.rd (rd_move rfl) rfl ?_
      refine L.rd (rd_remW rfl rfl (by decide)) rfl ?_
      refine L.ef (e_call rfl (UDec_ok _ _) rfl ?_)
      rintro _ w1 ⟨rfl, he1⟩
      have h1 := h.ext he1
      refine L.ef (e_appS tok rfl rfl rfl rfl rfl rfl rfl rfl rfl rfl rfl rfl h1.bf (by rw [mkS_size]; have := udec_len (c.tmod 23); omega) ?_)
      rintro v2 w2 hB2 hkp2
      rw [bl_mkS _ (udec_lt _)] at hB2
      refine L.rd (rd_assign rfl) rfl ?_
      refine L.nil ?_
      refine X.sq ?_
      refine V.ret ?_
      refine X.sqRet ?_
      refine X.sqRet ?_
      refine ret_1 Yaam.results143 rfl ?_
      exact ⟨i, _, h1.app hB2 hkp2 rfl, Nat.le_refl _, by rw [List.length_append]; have := udec_len (c.tmod 23); omega⟩
    ·
      refine V.skip ?_
      refine X.sq ?_
      refine V.seq ?_
      refine V.seq ?_
      refine V.region ?_
      refine L.rd (rd_move rfl) rfl ?_
      refine L.rd (rd_eql rfl rfl) rfl ?_
      refine L.rd (rd_move rfl) rfl ?_
      first | refine L.partG rfl rfl (fun g19 => ?_) (fun g19 => ?_) | refine L.partGB rfl rfl (fun g19 => ?_) (fun g19 => ?_)
      ·
        refine L.yes rfl rfl ?_
        refine L.rd (rd_move rfl) rfl ?_
        refine L.yes rfl rfl ?_
        refine L.ef (e_call rfl (next_ok _ h.rd) rfl ?_)
        rintro _ w1 ⟨c1, i1, rfl, hc0, hc1, h1, hi1, -, hr1⟩
        replace h := h.step h1 hr1 rfl
        refine L.yes rfl rfl ?_
        refine L.rd (rd_remW rfl rfl (by decide)) rfl ?_
        refine L.yes rfl rfl ?_
        refine L.rd (rd_eql rfl rfl) rfl ?_
        refine L.rd (rd_pickT rfl rfl) rfl ?_
        refine L.nil ?_
        refine X.sq ?_
        first | refine V.cond rfl (fun h24 => ?_) (fun h24 => ?_) | refine V.condB rfl (fun h24 => ?_) (fun h24 => ?_)
        ·
          refine V.seq ?_
          refine V.region ?_
          refine L.rd (rd_move rfl) rfl ?_
          refine L.ef (e_appS tok rfl rfl rfl rfl rfl rfl rfl rfl rfl rfl rfl rfl h.bf (by have : (ByteArray.mk #[49, 56, 52, 52, 54, 55, 52, 52, 48, 55, 51, 55, 48, 57, 53, 53, 49, 54, 49, 54]).size = 20 := rfl; omega) ?_)
          rintro v2 w2 hB2 hkp2
          refine L.rd (rd_assign rfl) rfl ?_
          refine L.nil ?_
          refine X.sq ?_
          refine V.ret ?_
          refine X.sqRet ?_
          refine X.sqRet ?_
          refine ret_1 Yaam.results143 rfl ?_
          exact ⟨_, _, h.app hB2 hkp2 rfl, by omega, by rw [List.length_append, bl_length]; have : (ByteArray.mk #[49, 56, 52, 52, 54, 55, 52, 52, 48, 55, 51, 55, 48, 57, 53, 53, 49, 54, 49, 54]).size = 20 := rfl; omega⟩
        ·
          refine V.skip ?_
          refine X.sq ?_
          refine V.seq ?_
          refine V.region ?_
          refine L.rd (rd_move rfl) rfl ?_
          refine L.rd (rd_move rfl) rfl ?_
          refine L.ef (e_call rfl (word_ok _ h.rd) rfl ?_)
          rintro _ w1 ⟨c1, i1, rfl, -, h1, hi1, hr1⟩
          replace h := h.step h1 hr1 rfl
          refine L.ef (e_call rfl (UDec_ok _ _) rfl ?_)
          rintro _ w2 ⟨rfl, he2⟩
          replace h := h.ext he2
          refine L.ef (e_appS tok rfl rfl rfl rfl rfl rfl rfl rfl rfl rfl rfl rfl h.bf (by rw [mkS_size]; have := udec_len c1; omega) ?_)
          rintro v3 w3 hB3 hkp3
          rw [bl_mkS _ (udec_lt _)] at hB3
          refine L.rd (rd_assign rfl) rfl ?_
          refine L.nil ?_
          refine X.sq ?_
          refine V.ret ?_
          refine X.sqRet ?_
          refine ret_1 Yaam.results143 rfl ?_
          exact ⟨_, _, h.app hB3 hkp3 rfl, by omega, by rw [List.length_append]; have := udec_len c1; omega⟩
      ·
        refine L.no rfl rfl rfl rfl ?_
        refine L.no rfl rfl rfl rfl ?_
        refine L.no rfl rfl rfl rfl ?_
        refine L.no rfl rfl rfl rfl ?_
        refine L.rd (rd_pickF rfl rfl) rfl ?_
        refine L.nil ?_
        refine X.sq ?_
        refine V.condF rfl ?_
        refine V.skip ?_
        refine X.sq ?_
        refine V.seq ?_
        refine V.region ?_
        refine L.rd (rd_move rfl) rfl ?_
        refine L.rd (rd_move rfl) rfl ?_
        refine L.ef (e_call rfl (word_ok _ h.rd) rfl ?_)
        rintro _ w1 ⟨c1, i1, rfl, -, h1, hi1, hr1⟩
        replace h := h.step h1 hr1 rfl
        refine L.ef (e_call rfl (UDec_ok _ _) rfl ?_)
        rintro _ w2 ⟨rfl, he2⟩
        replace h := h.ext he2
        refine L.ef (e_appS tok rfl rfl rfl rfl rfl rfl rfl rfl rfl rfl rfl rfl h.bf (by rw [mkS_size]; have := udec_len c1; omega) ?_)
        rintro v3 w3 hB3 hkp3
        rw [bl_mkS _ (udec_lt _)] at hB3
        refine L.rd (rd_assign rfl) rfl ?_
        refine L.nil ?_
        refine X.sq ?_
        refine V.ret ?_
        refine X.sqRet ?_
        refine ret_1 Yaam.results143 rfl ?_
        exact ⟨_, _, h.app hB3 hkp3 rfl, by omega, by rw [List.length_append]; have := udec_len c1; omega⟩
  ·
    refine V.skip ?_
    refine X.sq ?_
    refine V.seq ?_
    refine V.seq ?_
    refine V.region ?_
    refine L.rd (rd_move rfl) rfl ?_
    refine L.rd (rd_eql rfl rfl) rfl ?_
    refine L.rd (rd_move rfl) rfl ?_
    first | refine L.partG rfl rfl (fun g34 => ?_) (fun g34 => ?_) | refine L.partGB rfl rfl (fun g34 => ?_) (fun g34 => ?_)
    ·
      refine L.yes rfl rfl ?_
      refine L.rd (rd_move rfl) rfl ?_
      refine L.yes rfl rfl ?_
      refine L.ef (e_call rfl (next_ok _ h.rd) rfl ?_)
      rintro _ w1 ⟨c1, i1, rfl, hc0, hc1, h1, hi1, -, hr1⟩
      replace h := h.step h1 hr1 rfl
      refine L.yes rfl rfl ?_
      refine L.rd (rd_remW rfl rfl (by decide)) rfl ?_
      refine L.yes rfl rfl ?_
      refine L.rd (rd_eql rfl rfl) rfl ?_
      refine L.rd (rd_pickT rfl rfl) rfl ?_
      refine L.nil ?_
      refine X.sq ?_
      first | refine V.cond rfl (fun h39 => ?_) (fun h39 => ?_) | refine V.condB rfl (fun h39 => ?_) (fun h39 => ?_)
      ·
        refine V.seq ?_
        refine V.region ?_
        refine L.rd (rd_move rfl) rfl ?_
        refine L.ef (e_buildSlice1 (e := 5) (cs := [_]) tok rfl rfl rfl rfl rfl rfl rfl rfl rfl (by first | (simp only [size_addB, size_setB, size_drew]; rfl) | rfl) rfl ?_)
        refine L.ef (e_appB (c := 88) tok rfl rfl rfl rfl rfl rfl rfl rfl rfl (by first | rfl | (simp only [size_addB, size_setB, size_drew])) rfl h.bf (by omega) ?_)
        rintro v2 w2 hB2 hkp2
        refine L.rd (rd_assign rfl) rfl ?_
        refine L.nil ?_
        refine X.sq ?_
        refine V.ret ?_
        refine X.sqRet ?_
        refine ret_1 Yaam.results143 rfl ?_
        exact ⟨_, _, h.app hB2 hkp2 rfl, by omega, by simp only [List.length_append, List.length_cons, List.length_nil]; omega⟩
      ·
        refine V.skip ?_
        refine X.sq ?_
        refine V.seq ?_
        refine V.seq ?_
        refine V.region ?_
        refine L.rd (rd_move rfl) rfl ?_
        refine L.rd (rd_geq rfl rfl) rfl ?_
        refine L.nil ?_
        refine X.sq ?_
        first | refine V.cond rfl (fun h44 => ?_) (fun h44 => ?_) | refine V.condB rfl (fun h44 => ?_) (fun h44 => ?_)
        ·
          refine V.seq ?_
          refine V.region ?_
          refine L.rd (rd_move rfl) rfl ?_
          refine L.rd (rd_move rfl) rfl ?_
          refine L.rd (rd_remW rfl rfl (by decide)) rfl ?_
          refine L.rd (rd_addW rfl rfl) rfl ?_
          refine L.rd (rd_convE tok rfl rfl rfl rfl rfl (u8n_eq _)) rfl ?_
          refine L.ef (e_buildSlice1 (e := 5) (cs := [_]) tok rfl rfl rfl rfl rfl rfl rfl rfl rfl (by first | (simp only [size_addB, size_setB, size_drew]; rfl) | rfl) rfl ?_)
          refine L.ef (e_appB tok rfl rfl rfl rfl rfl rfl rfl rfl rfl (by first | rfl | (simp only [size_addB, size_setB, size_drew])) rfl h.bf (by omega) ?_)
          rintro v2 w2 hB2 hkp2
          refine L.rd (rd_assign rfl) rfl ?_
          refine L.nil ?_
          refine X.sq ?_
          refine V.ret ?_
          refine X.sqRet ?_
          refine ret_1 Yaam.results143 rfl ?_
          exact ⟨_, _, h.app hB2 hkp2 rfl, by omega, by simp only [List.length_append, List.length_cons, List.length_nil]; omega⟩
        ·
          refine V.skip ?_
          refine X.sq ?_
          refine V.seq ?_
          refine V.region ?_
          refine L.rd (rd_move rfl) rfl ?_
          refine L.rd (rd_move rfl) rfl ?_
          refine L.rd (rd_remW rfl rfl (by decide)) rfl ?_
          refine L.rd (rd_addW rfl rfl) rfl ?_
          refine L.rd (rd_convE tok rfl rfl rfl rfl rfl (u8n_eq _)) rfl ?_
          refine L.ef (e_buildSlice1 (e := 5) (cs := [_]) tok rfl rfl rfl rfl rfl rfl rfl rfl rfl (by first | (simp only [size_addB, size_setB, size_drew]; rfl) | rfl) rfl ?_)
          refine L.ef (e_appB tok rfl rfl rfl rfl rfl rfl rfl rfl rfl (by first | rfl | (simp only [size_addB, size_setB, size_drew])) rfl h.bf (by omega) ?_)
          rintro v2 w2 hB2 hkp2
          refine L.rd (rd_assign rfl) rfl ?_
          refine L.nil ?_
          refine X.sq ?_
          refine V.ret ?_
          refine ret_1 Yaam.results143 rfl ?_
          exact ⟨_, _, h.app hB2 hkp2 rfl, by omega, by simp only [List.length_append, List.length_cons, List.length_nil]; omega⟩
    ·
      refine L.no rfl rfl rfl rfl ?_
      refine L.no rfl rfl rfl rfl ?_
      refine L.no rfl rfl rfl rfl ?_
      refine L.no rfl rfl rfl rfl ?_
      refine L.rd (rd_pickF rfl rfl) rfl ?_
      refine L.nil ?_
      refine X.sq ?_
      refine V.condF rfl ?_
      refine V.skip ?_
      refine X.sq ?_
      refine V.seq ?_
      refine V.seq ?_
      refine V.region ?_
      refine L.rd (rd_move rfl) rfl ?_
      refine L.rd (rd_geq rfl rfl) rfl ?_
      refine L.nil ?_
      refine X.sq ?_
      first | refine V.cond rfl (fun h44 => ?_) (fun h44 => ?_) | refine V.condB rfl (fun h44 => ?_) (fun h44 => ?_)
      ·
        refine V.seq ?_
        refine V.region ?_
        refine L.rd (rd_move rfl) rfl ?_
        refine L.rd (rd_move rfl) rfl ?_
        refine L.rd (rd_remW rfl rfl (by decide)) rfl ?_
        refine L.rd (rd_addW rfl rfl) rfl ?_
        refine L.rd (rd_convE tok rfl rfl rfl rfl rfl (u8n_eq _)) rfl ?_
        refine L.ef (e_buildSlice1 (e := 5) (cs := [_]) tok rfl rfl rfl rfl rfl rfl rfl rfl rfl (by first | (simp only [size_addB, size_setB, size_drew]; rfl) | rfl) rfl ?_)
        refine L.ef (e_appB tok rfl rfl rfl rfl rfl rfl rfl rfl rfl (by first | rfl | (simp only [size_addB, size_setB, size_drew])) rfl h.bf (by omega) ?_)
        rintro v2 w2 hB2 hkp2
        refine L.rd (rd_assign rfl) rfl ?_
        refine L.nil ?_
        refine X.sq ?_
        refine V.ret ?_
        refine X.sqRet ?_
        refine ret_1 Yaam.results143 rfl ?_
        exact ⟨_, _, h.app hB2 hkp2 rfl, by omega, by simp only [List.length_append, List.length_cons, List.length_nil]; omega⟩
      ·
        refine V.skip ?_
        refine X.sq ?_
        refine V.seq ?_
        refine V.region ?_
        refine L.rd (rd_move rfl) rfl ?_
        refine L.rd (rd_move rfl) rfl ?_
        refine L.rd (rd_remW rfl rfl (by decide)) rfl ?_
        refine L.rd (rd_addW rfl rfl) rfl ?_
        refine L.rd (rd_convE tok rfl rfl rfl rfl rfl (u8n_eq _)) rfl ?_
        refine L.ef (e_buildSlice1 (e := 5) (cs := [_]) tok rfl rfl rfl rfl rfl rfl rfl rfl rfl (by first | (simp only [size_addB, size_setB, size_drew]; rfl) | rfl) rfl ?_)
        refine L.ef (e_appB tok rfl rfl rfl rfl rfl rfl rfl rfl rfl (by first | rfl | (simp only [size_addB, size_setB, size_drew])) rfl h.bf (by omega) ?_)
        rintro v2 w2 hB2 hkp2
        refine L.rd (rd_assign rfl) rfl ?_
        refine L.nil ?_
        refine X.sq ?_
        refine V.ret ?_
        refine ret_1 Yaam.results143 rfl ?_
        exact ⟨_, _, h.app hB2 hkp2 rfl, by omega, by simp only [List.length_append, List.length_cons, List.length_nil]; omega⟩

def SxC (w0 : World) (bv : Value) (bs : List Nat) (F : Nat) (f : Nat) : Prop := ∀ (i : Nat) (acc : List Nat) (ov : Value) (d : Int) (w : World), bs.length - i ≤ f → 0 ≤ d → d ≤ 40 → SDq w0 bv bs w i ov acc → acc.length + 64 * (bs.length - i) ≤ 100000000 → Ret Yaam.prog F [.pointer (some ⟨w0.heap.size, 0, none⟩), ov, .int .i64 d] w (SxPq w0 bv bs i acc)

theorem sPrimary_ok {w0 : World} {bv : Value} {bs : List Nat} {f : Nat} (ih : ∀ g, g < f → SxC w0 bv bs 76 g) : SxC w0 bv bs 141 f := by
  intro i acc ov d w hf hd0 hd1 h hK
  refine enter3 Yaam.func141 Yaam.ntmps141 (by kernel_rfl) rfl rfl ?_
  refine V.seq ?_
  refine V.region ?_
  refine L.rd (rd_assign rfl) rfl ?_
  refine L.nil ?_
  refine X.sq ?_
  refine V.seq ?_
  refine V.region ?_
  refine L.rd (rd_move rfl) rfl ?_
  refine L.ef (e_call rfl (next_ok _ h.rd) rfl ?_)
  rintro _ w1 ⟨c, i1, rfl, hc0, hc1, h1, hi1, hlt1, hr1⟩
  have g1 := h.step h1 hr1 rfl
  have hle := h.le
  have hle1 := g1.le
  refine L.rd (rd_assign rfl) rfl ?_
  refine L.nil ?_
  refine X.sq ?_
  refine V.seq ?_
  refine V.seq ?_
  refine V.region ?_
  refine L.rd (rd_move rfl) rfl ?_
  refine L.ef (e_call rfl (left_ok _ h1) rfl ?_)
  rintro _ w2 ⟨rfl, he2⟩
  replace g1 := g1.ext he2
  refine L.rd (rd_gtr rfl rfl) rfl ?_
  refine L.rd (rd_move rfl) rfl ?_
  first | refine L.partG rfl rfl (fun g13 => ?_) (fun g13 => ?_) | refine L.partGB rfl rfl (fun g13 => ?_) (fun g13 => ?_)
  ·
    refine L.yes rfl rfl ?_
    refine L.rd (rd_move rfl) rfl ?_
    refine L.yes rfl rfl ?_
    refine L.rd (rd_lss rfl rfl) rfl ?_
    refine L.rd (rd_pickT rfl rfl) rfl ?_
    refine L.rd (rd_move rfl) rfl ?_
    first | refine L.partG rfl rfl (fun g17 => ?_) (fun g17 => ?_) | refine L.partGB rfl rfl (fun g17 => ?_) (fun g17 => ?_)
    ·
      refine L.yes rfl rfl ?_
      refine L.rd (rd_move rfl) rfl ?_
      refine L.yes rfl rfl ?_
      refine L.rd (rd_remW rfl rfl (by decide)) rfl ?_
      refine L.yes rfl rfl ?_
      refine L.rd (rd_eql rfl rfl) rfl ?_
      refine L.rd (rd_pickT rfl rfl) rfl ?_
      refine L.nil ?_
      refine X.sq ?_
      first | refine V.cond rfl (fun h21 => ?_) (fun h21 => ?_) | refine V.condB rfl (fun h21 => ?_) (fun h21 => ?_)
      ·
        refine V.seq ?_
        have hlt : i < bs.length := by omega
        have hi1e := hlt1 hlt
        refine V.region ?_
        refine L.rd (rd_move rfl) rfl ?_
        refine L.ef (e_buildSlice1 (e := 5) (cs := [_]) tok rfl rfl rfl rfl rfl rfl rfl rfl rfl (by first | (simp only [size_addB, size_setB, size_drew]; rfl) | rfl) rfl ?_)
        refine L.ef (e_appB (c := 40) tok rfl rfl rfl rfl rfl rfl rfl rfl rfl (by first | rfl | (simp only [size_addB, size_setB, size_drew])) rfl g1.bf (by omega) ?_)
        rintro v3 w3 hB3 hkp3
        have g3 := g1.app hB3 hkp3 rfl
        refine L.rd (rd_assign rfl) rfl ?_
        refine L.nil ?_
        refine X.sq ?_
        refine V.seq ?_
        refine V.region ?_
        refine L.rd (rd_move rfl) rfl ?_
        refine L.rd (rd_move rfl) rfl ?_
        refine L.rd (rd_move rfl) rfl ?_
        (refine L.rd (rd_add3 rfl rfl ?_) rfl ?_; omega)
        refine L.ef (e_call rfl (ih (f - 1) (by omega) i1 _ _ _ _ (by omega) (by omega) (by omega) g3 (by simp only [List.length_append, List.length_cons, List.length_nil]; omega)) rfl ?_)
        rintro v4 w4 ⟨i4, acc4, g4, hi4, hl4⟩
        simp only [List.length_append, List.length_cons, List.length_nil] at hl4
        have hle4 := g4.le
        refine L.rd (rd_assign rfl) rfl ?_
        refine L.nil ?_
        refine X.sq ?_
        refine V.seq ?_
        refine V.region ?_
        refine L.rd (rd_move rfl) rfl ?_
        refine L.ef (e_buildSlice1 (e := 5) (cs := [_]) tok rfl rfl rfl rfl rfl rfl rfl rfl rfl (by first | (simp only [size_addB, size_setB, size_drew]; rfl) | rfl) rfl ?_)
        refine L.ef (e_appB (c := 41) tok rfl rfl rfl rfl rfl rfl rfl rfl rfl (by first | rfl | (simp only [size_addB, size_setB, size_drew])) rfl g4.bf (by omega) ?_)
        rintro v5 w5 hB5 hkp5
        refine L.rd (rd_assign rfl) rfl ?_
        refine L.nil ?_
        refine X.sq ?_
        refine V.ret ?_
        refine X.sqRet ?_
        refine ret_1 Yaam.results141 rfl ?_
        exact ⟨_, _, g4.app hB5 hkp5 rfl, by omega, by simp only [List.length_append, List.length_cons, List.length_nil]; omega⟩
      ·
        refine V.skip ?_
        refine X.sq ?_
        refine V.seq ?_
        refine V.region ?_
        refine L.rd (rd_move rfl) rfl ?_
        refine L.rd (rd_move rfl) rfl ?_
        refine L.rd (rd_move rfl) rfl ?_
        refine L.ef (e_call rfl (sAtom_ok c ⟨hc0, hc1⟩ _ g1 (by omega)) rfl ?_)
        rintro v3 w3 ⟨i3, acc3, g3, hi3, hl3⟩
        refine L.rd (rd_assign rfl) rfl ?_
        refine L.nil ?_
        refine X.sq ?_
        refine V.ret ?_
        refine ret_1 Yaam.results141 rfl ?_
        exact ⟨i3, acc3, g3, by omega, by omega⟩
    ·
      refine L.no rfl rfl rfl rfl ?_
      refine L.no rfl rfl rfl rfl ?_
      refine L.no rfl rfl rfl rfl ?_
      refine L.rd (rd_pickF rfl rfl) rfl ?_
      refine L.nil ?_
      refine X.sq ?_
      refine V.condF rfl ?_
      refine V.skip ?_
      refine X.sq ?_
      refine V.seq ?_
      refine V.region ?_
      refine L.rd (rd_move rfl) rfl ?_
      refine L.rd (rd_move rfl) rfl ?_
      refine L.rd (rd_move rfl) rfl ?_
      refine L.ef (e_call rfl (sAtom_ok c ⟨hc0, hc1⟩ _ g1 (by omega)) rfl ?_)
      rintro v3 w3 ⟨i3, acc3, g3, hi3, hl3⟩
      refine L.rd (rd_assign rfl) rfl ?_
      refine L.nil ?_
      refine X.sq ?_
      refine V.ret ?_
      refine ret_1 Yaam.results141 rfl ?_
      exact ⟨i3, acc3, g3, by omega, by omega⟩
  ·
    refine L.no rfl rfl rfl rfl ?_
    refine L.no rfl rfl rfl rfl ?_
    refine L.rd (rd_pickF rfl rfl) rfl ?_
    refine L.rd (rd_move rfl) rfl ?_
    refine L.no rfl rfl rfl rfl ?_
    refine L.no rfl rfl rfl rfl ?_
    refine L.no rfl rfl rfl rfl ?_
    refine L.rd (rd_pickF rfl rfl) rfl ?_
    refine L.nil ?_
    refine X.sq ?_
    refine V.condF rfl ?_
    refine V.skip ?_
    refine X.sq ?_
    refine V.seq ?_
    refine V.region ?_
    refine L.rd (rd_move rfl) rfl ?_
    refine L.rd (rd_move rfl) rfl ?_
    refine L.rd (rd_move rfl) rfl ?_
    refine L.ef (e_call rfl (sAtom_ok c ⟨hc0, hc1⟩ _ g1 (by omega)) rfl ?_)
    rintro v3 w3 ⟨i3, acc3, g3, hi3, hl3⟩
    refine L.rd (rd_assign rfl) rfl ?_
    refine L.nil ?_
    refine X.sq ?_
    refine V.ret ?_
    refine ret_1 Yaam.results141 rfl ?_
    exact ⟨i3, acc3, g3, by omega, by omega⟩

theorem sPower_ok {w0 : World} {bv : Value} {bs : List Nat} {f : Nat} (ih : SxC w0 bv bs 141 f) : SxC w0 bv bs 138 f := by
  intro i acc ov d w hf hd0 hd1 h hK
  refine enter3 Yaam.func138 Yaam.ntmps138 (by kernel_rfl) rfl rfl ?_
  refine V.seq ?_
  refine V.region ?_
  refine L.rd (rd_assign rfl) rfl ?_
  refine L.nil ?_
  refine X.sq ?_
  refine V.seq ?_
  refine V.region ?_
  refine L.rd (rd_move rfl) rfl ?_
  refine L.rd (rd_move rfl) rfl ?_
  refine L.rd (rd_move rfl) rfl ?_
  refine L.ef (e_call rfl (ih i _ _ _ _ hf hd0 hd1 h hK) rfl ?_)
  rintro v1 w1 ⟨i1, acc1, g1, hi1, hl1⟩
  have hle := h.le
  have hle1 := g1.le
  refine L.rd (rd_assign rfl) rfl ?_
  refine L.nil ?_
  refine X.sq ?_
  refine V.seq ?_
  refine V.seq ?_
  refine V.region ?_
  refine L.rd (rd_move rfl) rfl ?_
  refine L.ef (e_call rfl (left_ok _ g1.rd) rfl ?_)
  rintro _ w2 ⟨rfl, he2⟩
  replace g1 := g1.ext he2
  refine L.rd (rd_gtr rfl rfl) rfl ?_
  refine L.rd (rd_move rfl) rfl ?_
  first | refine L.partG rfl rfl (fun g14 => ?_) (fun g14 => ?_) | refine L.partGB rfl rfl (fun g14 => ?_) (fun g14 => ?_)
  ·
    refine L.yes rfl rfl ?_
    refine L.rd (rd_move rfl) rfl ?_
    refine L.yes rfl rfl ?_
    refine L.ef (e_call rfl (peek_ok _ g1.rd) rfl ?_)
    rintro _ w3 ⟨c3, rfl, hc30, hc31, he3⟩
    replace g1 := g1.ext he3
    refine L.yes rfl rfl ?_
    refine L.rd (rd_remW rfl rfl (by decide)) rfl ?_
    refine L.yes rfl rfl ?_
    refine L.rd (rd_eql rfl rfl) rfl ?_
    refine L.rd (rd_pickT rfl rfl) rfl ?_
    refine L.nil ?_
    refine X.sq ?_
    first | refine V.cond rfl (fun h19 => ?_) (fun h19 => ?_) | refine V.condB rfl (fun h19 => ?_) (fun h19 => ?_)
    ·
      refine V.seq ?_
      refine V.region ?_
      refine L.rd (rd_move rfl) rfl ?_
      refine L.ef (e_call rfl (next_ok _ g1.rd) rfl ?_)
      rintro _ w4 ⟨c4, i4, rfl, hc40, hc41, h4, hi4, hlt4, hr4⟩
      have hi4e := hlt4 (by omega)
      replace g1 := g1.step h4 hr4 rfl
      refine L.nil ?_
      refine X.sq ?_
      refine V.seq ?_
      refine V.region ?_
      refine L.rd (rd_move rfl) rfl ?_
      refine L.ef (e_buildSlice1 (e := 5) (cs := [_]) tok rfl rfl rfl rfl rfl rfl rfl rfl rfl (by first | (simp only [size_addB, size_setB, size_drew]; rfl) | rfl) rfl ?_)
      refine L.ef (e_appB (c := 94) tok rfl rfl rfl rfl rfl rfl rfl rfl rfl (by first | rfl | (simp only [size_addB, size_setB, size_drew])) rfl g1.bf (by omega) ?_)
      rintro v5 w5 hB5 hkp5
      replace g1 := g1.app hB5 hkp5 rfl
      refine L.rd (rd_assign rfl) rfl ?_
      refine L.nil ?_
      refine X.sq ?_
      refine V.region ?_
      refine L.rd (rd_move rfl) rfl ?_
      refine L.rd (rd_move rfl) rfl ?_
      refine L.ef (e_call rfl (sExpo_ok _ g1.rd) rfl ?_)
      rintro _ w6 ⟨c6, i6, rfl, h6, hi6, hr6⟩
      replace g1 := g1.step h6 hr6 rfl
      refine L.ef (e_call rfl (UDec_ok _ _) rfl ?_)
      rintro _ w7 ⟨rfl, he7⟩
      replace g1 := g1.ext he7
      have hle6 := g1.le
      refine L.ef (e_appS tok rfl rfl rfl rfl rfl rfl rfl rfl rfl rfl rfl rfl g1.bf (by rw [mkS_size]; have := udec_len c6; simp only [List.length_append, List.length_cons, List.length_nil]; omega) ?_)
      rintro v8 w8 hB8 hkp8
      rw [bl_mkS _ (udec_lt _)] at hB8
      replace g1 := g1.app hB8 hkp8 rfl
      have hul := udec_len c6
      refine L.rd (rd_assign rfl) rfl ?_
      refine L.nil ?_
      refine X.sq ?_
      refine V.seq ?_
      refine V.region ?_
      refine L.rd (rd_move rfl) rfl ?_
      refine L.rd (rd_assign rfl) rfl ?_
      refine L.nil ?_
      refine X.sq ?_
      refine V.ret ?_
      refine ret_1 Yaam.results138 rfl ?_
      exact ⟨_, _, g1, by omega, by (try simp only [List.length_append, List.length_cons, List.length_nil]); omega⟩
    ·
      refine V.skip ?_
      refine X.sq ?_
      refine V.seq ?_
      refine V.region ?_
      refine L.rd (rd_move rfl) rfl ?_
      refine L.rd (rd_assign rfl) rfl ?_
      refine L.nil ?_
      refine X.sq ?_
      refine V.ret ?_
      refine ret_1 Yaam.results138 rfl ?_
      exact ⟨_, _, g1, by omega, by (try simp only [List.length_append, List.length_cons, List.length_nil]); omega⟩
  ·
    refine L.no rfl rfl rfl rfl ?_
    refine L.no rfl rfl rfl rfl ?_
    refine L.no rfl rfl rfl rfl ?_
    refine L.no rfl rfl rfl rfl ?_
    refine L.rd (rd_pickF rfl rfl) rfl ?_
    refine L.nil ?_
    refine X.sq ?_
    refine V.condF rfl ?_
    refine V.skip ?_
    refine X.sq ?_
    refine V.seq ?_
    refine V.region ?_
    refine L.rd (rd_move rfl) rfl ?_
    refine L.rd (rd_assign rfl) rfl ?_
    refine L.nil ?_
    refine X.sq ?_
    refine V.ret ?_
    refine ret_1 Yaam.results138 rfl ?_
    exact ⟨_, _, g1, by omega, by (try simp only [List.length_append, List.length_cons, List.length_nil]); omega⟩

theorem sUnary_ok {w0 : World} {bv : Value} {bs : List Nat} {f : Nat} (ih : SxC w0 bv bs 138 f) : SxC w0 bv bs 134 f := by
  intro i acc ov d w hf hd0 hd1 h hK
  have hle := h.le
  refine enter3 Yaam.func134 Yaam.ntmps134 (by kernel_rfl) rfl rfl ?_
  refine V.seq ?_
  refine V.region ?_
  refine L.rd (rd_assign rfl) rfl ?_
  refine L.nil ?_
  refine X.sq ?_
  refine V.seq ?_
  refine V.block ?_
  refine V.loop (fun m l w' => ∃ (j : Nat) (ov' : Value) (acc' : List Nat), l = [(0, .pointer (some ⟨w0.heap.size, 0, none⟩)), (1, ov'), (2, .int .i64 d)] ∧ m = bs.length - j ∧ i ≤ j ∧ j ≤ bs.length ∧ SDq w0 bv bs w' j ov' acc' ∧ acc'.length + 64 * (bs.length - j) ≤ acc.length + 64 * (bs.length - i)) ?_ ?_
  ·
    exact ⟨_, _, (by repeat' (first | exact trivial | refine ⟨rfl, ?_⟩)), i, _, _, rfl, rfl, by omega, hle, h, by omega⟩
  ·
    rintro m l w1 ⟨j, ov1, acc1, rfl, rfl, hij, hjn, g1, hl1⟩
    refine V.seq ?_
    refine V.seq ?_
    refine V.region ?_
    refine L.rd (rd_move rfl) rfl ?_
    refine L.ef (e_call rfl (left_ok _ g1.rd) rfl ?_)
    rintro _ w2 ⟨rfl, he2⟩
    replace g1 := g1.ext he2
    refine L.rd (rd_gtr rfl rfl) rfl ?_
    refine L.rd (rd_move rfl) rfl ?_
    first | refine L.partG rfl rfl (fun g10 => ?_) (fun g10 => ?_) | refine L.partGB rfl rfl (fun g10 => ?_) (fun g10 => ?_)
    ·
      refine L.yes rfl rfl ?_
      refine L.rd (rd_move rfl) rfl ?_
      refine L.yes rfl rfl ?_
      refine L.ef (e_call rfl (peek_ok _ g1.rd) rfl ?_)
      rintro _ w3 ⟨c3, rfl, hc30, hc31, he3⟩
      replace g1 := g1.ext he3
      refine L.yes rfl rfl ?_
      refine L.rd (rd_remW rfl rfl (by decide)) rfl ?_
      refine L.yes rfl rfl ?_
      refine L.rd (rd_eql rfl rfl) rfl ?_
      refine L.rd (rd_pickT rfl rfl) rfl ?_
      refine L.nil ?_
      refine X.sq ?_
      first | refine V.cond rfl (fun h15 => ?_) (fun h15 => ?_) | refine V.condB rfl (fun h15 => ?_) (fun h15 => ?_)
      ·
        refine V.skip ?_
        refine X.sq ?_
        refine V.block ?_
        refine V.seq ?_
        refine V.region ?_
        refine L.rd (rd_move rfl) rfl ?_
        refine L.ef (e_call rfl (next_ok _ g1.rd) rfl ?_)
        rintro _ w4 ⟨c4, i4, rfl, hc40, hc41, h4, hi4, hlt4, hr4⟩
        have hi4e := hlt4 (by omega)
        replace g1 := g1.step h4 hr4 rfl
        refine L.nil ?_
        refine X.sq ?_
        refine V.region ?_
        refine L.rd (rd_move rfl) rfl ?_
        refine L.ef (e_buildSlice1 (e := 5) (cs := [_]) tok rfl rfl rfl rfl rfl rfl rfl rfl rfl (by first | (simp only [size_addB, size_setB, size_drew]; rfl) | rfl) rfl ?_)
        refine L.ef (e_appB (c := 45) tok rfl rfl rfl rfl rfl rfl rfl rfl rfl (by first | rfl | (simp only [size_addB, size_setB, size_drew])) rfl g1.bf (by omega) ?_)
        rintro v5 w5 hB5 hkp5
        replace g1 := g1.app hB5 hkp5 rfl
        refine L.rd (rd_assign rfl) rfl ?_
        refine L.nil ?_
        refine X.bk ?_
        exact X.lp ⟨_, _, by omega, (by repeat' (first | exact trivial | refine ⟨rfl, ?_⟩)), i4, _, _, rfl, rfl, by omega, g1.le, g1, by simp only [List.length_append, List.length_cons, List.length_nil]; omega⟩
      ·
        refine V.exit ?_
        refine X.sqExit ?_
        refine X.lpExit ?_
        refine X.bkHere ?_
        refine X.sq ?_
        refine V.seq ?_
        refine V.region ?_
        refine L.rd (rd_move rfl) rfl ?_
        refine L.rd (rd_move rfl) rfl ?_
        refine L.rd (rd_move rfl) rfl ?_
        refine L.ef (e_call rfl (ih j _ _ _ _ (by omega) hd0 hd1 g1 (by omega)) rfl ?_)
        rintro v6 w6 ⟨i6, acc6, g6, hi6, hl6⟩
        refine L.rd (rd_assign rfl) rfl ?_
        refine L.nil ?_
        refine X.sq ?_
        refine V.ret ?_
        refine ret_1 Yaam.results134 rfl ?_
        exact ⟨_, _, g6, by omega, by omega⟩
    ·
      refine L.no rfl rfl rfl rfl ?_
      refine L.no rfl rfl rfl rfl ?_
      refine L.no rfl rfl rfl rfl ?_
      refine L.no rfl rfl rfl rfl ?_
      refine L.rd (rd_pickF rfl rfl) rfl ?_
      refine L.nil ?_
      refine X.sq ?_
      refine V.condF rfl ?_
      refine V.exit ?_
      refine X.sqExit ?_
      refine X.lpExit ?_
      refine X.bkHere ?_
      refine X.sq ?_
      refine V.seq ?_
      refine V.region ?_
      refine L.rd (rd_move rfl) rfl ?_
      refine L.rd (rd_move rfl) rfl ?_
      refine L.rd (rd_move rfl) rfl ?_
      refine L.ef (e_call rfl (ih j _ _ _ _ (by omega) hd0 hd1 g1 (by omega)) rfl ?_)
      rintro v6 w6 ⟨i6, acc6, g6, hi6, hl6⟩
      refine L.rd (rd_assign rfl) rfl ?_
      refine L.nil ?_
      refine X.sq ?_
      refine V.ret ?_
      refine ret_1 Yaam.results134 rfl ?_
      exact ⟨_, _, g6, by omega, by omega⟩

theorem sTerm_ok {w0 : World} {bv : Value} {bs : List Nat} {f : Nat} (ih : SxC w0 bv bs 134 f) : SxC w0 bv bs 119 f := by
  intro i acc ov d w hf hd0 hd1 h hK
  have hle := h.le
  refine enter3 Yaam.func119 Yaam.ntmps119 (by kernel_rfl) rfl rfl ?_
  refine V.seq ?_
  refine V.region ?_
  refine L.rd (rd_assign rfl) rfl ?_
  refine L.nil ?_
  refine X.sq ?_
  refine V.seq ?_
  refine V.region ?_
  refine L.rd (rd_move rfl) rfl ?_
  refine L.rd (rd_move rfl) rfl ?_
  refine L.rd (rd_move rfl) rfl ?_
  refine L.ef (e_call rfl (ih i _ _ _ _ hf hd0 hd1 h hK) rfl ?_)
  rintro v0 w0' ⟨i0, acc0, g0, hi0, hl0⟩
  refine L.rd (rd_assign rfl) rfl ?_
  refine L.nil ?_
  refine X.sq ?_
  refine V.seq ?_
  refine V.block ?_
  refine V.loop (fun m l w' => ∃ (j : Nat) (ov' : Value) (acc' : List Nat), l = [(0, .pointer (some ⟨w0.heap.size, 0, none⟩)), (1, ov'), (2, .int .i64 d)] ∧ m = bs.length - j ∧ i ≤ j ∧ j ≤ bs.length ∧ SDq w0 bv bs w' j ov' acc' ∧ acc'.length + 64 * (bs.length - j) ≤ acc.length + 64 * (bs.length - i) + 32) ?_ ?_
  ·
    exact ⟨_, _, (by repeat' (first | exact trivial | refine ⟨rfl, ?_⟩)), i0, _, _, rfl, rfl, by omega, g0.le, g0, by omega⟩
  ·
    rintro m l w1 ⟨j, ov1, acc1, rfl, rfl, hij, hjn, g1, hl1⟩
    refine V.seq ?_
    refine V.seq ?_
    refine V.region ?_
    refine L.rd (rd_move rfl) rfl ?_
    refine L.ef (e_call rfl (left_ok _ g1.rd) rfl ?_)
    rintro _ w2 ⟨rfl, he2⟩
    replace g1 := g1.ext he2
    refine L.rd (rd_gtr rfl rfl) rfl ?_
    refine L.rd (rd_move rfl) rfl ?_
    first | refine L.partG rfl rfl (fun g14 => ?_) (fun g14 => ?_) | refine L.partGB rfl rfl (fun g14 => ?_) (fun g14 => ?_)
    ·
      refine L.yes rfl rfl ?_
      refine L.rd (rd_move rfl) rfl ?_
      refine L.yes rfl rfl ?_
      refine L.ef (e_call rfl (peek_ok _ g1.rd) rfl ?_)
      rintro _ w3 ⟨c3, rfl, hc30, hc31, he3⟩
      replace g1 := g1.ext he3
      refine L.yes rfl rfl ?_
      refine L.rd (rd_remW rfl rfl (by decide)) rfl ?_
      refine L.yes rfl rfl ?_
      refine L.rd (rd_eql rfl rfl) rfl ?_
      refine L.rd (rd_pickT rfl rfl) rfl ?_
      refine L.nil ?_
      refine X.sq ?_
      first | refine V.cond rfl (fun h19 => ?_) (fun h19 => ?_) | refine V.condB rfl (fun h19 => ?_) (fun h19 => ?_)
      ·
        refine V.skip ?_
        refine X.sq ?_
        refine V.block ?_
        refine V.seq ?_
        refine V.region ?_
        refine L.rd (rd_move rfl) rfl ?_
        refine L.ef (e_call rfl (next_ok _ g1.rd) rfl ?_)
        rintro _ w4 ⟨c4, i4, rfl, hc40, hc41, h4, hi4, hlt4, hr4⟩
        have hi4e := hlt4 (by omega)
        replace g1 := g1.step h4 hr4 rfl
        refine L.nil ?_
        refine X.sq ?_
        refine V.seq ?_
        refine V.region ?_
        refine L.rd (rd_move rfl) rfl ?_
        refine L.ef (e_buildSlice1 (e := 5) (cs := [_]) tok rfl rfl rfl rfl rfl rfl rfl rfl rfl (by first | (simp only [size_addB, size_setB, size_drew]; rfl) | rfl) rfl ?_)
        refine L.ef (e_appB (c := 42) tok rfl rfl rfl rfl rfl rfl rfl rfl rfl (by first | rfl | (simp only [size_addB, size_setB, size_drew])) rfl g1.bf (by omega) ?_)
        rintro v5 w5 hB5 hkp5
        replace g1 := g1.app hB5 hkp5 rfl
        have hle4 := g1.le
        refine L.rd (rd_assign rfl) rfl ?_
        refine L.nil ?_
        refine X.sq ?_
        refine V.region ?_
        refine L.rd (rd_move rfl) rfl ?_
        refine L.rd (rd_move rfl) rfl ?_
        refine L.rd (rd_move rfl) rfl ?_
        refine L.ef (e_call rfl (ih i4 _ _ _ _ (by omega) hd0 hd1 g1 (by simp only [List.length_append, List.length_cons, List.length_nil]; omega)) rfl ?_)
        rintro v6 w6 ⟨i6, acc6, g6, hi6, hl6⟩
        simp only [List.length_append, List.length_cons, List.length_nil] at hl6
        refine L.rd (rd_assign rfl) rfl ?_
        refine L.nil ?_
        refine X.bk ?_
        exact X.lp ⟨_, _, by have := g6.le; omega, (by repeat' (first | exact trivial | refine ⟨rfl, ?_⟩)), i6, _, _, rfl, rfl, by omega, g6.le, g6, by have := g6.le; omega⟩
      ·
        refine V.exit ?_
        refine X.sqExit ?_
        refine X.lpExit ?_
        refine X.bkHere ?_
        refine X.sq ?_
        refine V.seq ?_
        refine V.region ?_
        refine L.rd (rd_move rfl) rfl ?_
        refine L.rd (rd_assign rfl) rfl ?_
        refine L.nil ?_
        refine X.sq ?_
        refine V.ret ?_
        refine ret_1 Yaam.results119 rfl ?_
        exact ⟨_, _, g1, by omega, by omega⟩
    ·
      refine L.no rfl rfl rfl rfl ?_
      refine L.no rfl rfl rfl rfl ?_
      refine L.no rfl rfl rfl rfl ?_
      refine L.no rfl rfl rfl rfl ?_
      refine L.rd (rd_pickF rfl rfl) rfl ?_
      refine L.nil ?_
      refine X.sq ?_
      refine V.condF rfl ?_
      refine V.exit ?_
      refine X.sqExit ?_
      refine X.lpExit ?_
      refine X.bkHere ?_
      refine X.sq ?_
      refine V.seq ?_
      refine V.region ?_
      refine L.rd (rd_move rfl) rfl ?_
      refine L.rd (rd_assign rfl) rfl ?_
      refine L.nil ?_
      refine X.sq ?_
      refine V.ret ?_
      refine ret_1 Yaam.results119 rfl ?_
      exact ⟨_, _, g1, by omega, by omega⟩

theorem sExpr_st {w0 : World} {bv : Value} {bs : List Nat} {f : Nat} (ih : SxC w0 bv bs 119 f) : SxC w0 bv bs 76 f := by
  intro i acc ov d w hf hd0 hd1 h hK
  have hle := h.le
  refine enter3 Yaam.func76 Yaam.ntmps76 (by kernel_rfl) rfl rfl ?_
  refine V.seq ?_
  refine V.region ?_
  refine L.rd (rd_assign rfl) rfl ?_
  refine L.nil ?_
  refine X.sq ?_
  refine V.seq ?_
  refine V.region ?_
  refine L.rd (rd_move rfl) rfl ?_
  refine L.rd (rd_move rfl) rfl ?_
  refine L.rd (rd_move rfl) rfl ?_
  refine L.ef (e_call rfl (ih i _ _ _ _ hf hd0 hd1 h hK) rfl ?_)
  rintro v0 w0' ⟨i0, acc0, g0, hi0, hl0⟩
  refine L.rd (rd_assign rfl) rfl ?_
  refine L.nil ?_
  refine X.sq ?_
  refine V.seq ?_
  refine V.cut (fun l w' => ∃ (j : Nat) (ov' : Value) (acc' : List Nat), l = [(0, .pointer (some ⟨w0.heap.size, 0, none⟩)), (1, ov'), (2, .int .i64 d)] ∧ i ≤ j ∧ j ≤ bs.length ∧ SDq w0 bv bs w' j ov' acc' ∧ acc'.length + 64 * (bs.length - j) ≤ acc.length + 64 * (bs.length - i) + 32) ?_ ?_
  ·
    refine V.block ?_
    refine V.loop (fun m l w' => ∃ (j : Nat) (ov' : Value) (acc' : List Nat), l = [(0, .pointer (some ⟨w0.heap.size, 0, none⟩)), (1, ov'), (2, .int .i64 d)] ∧ m = bs.length - j ∧ i ≤ j ∧ j ≤ bs.length ∧ SDq w0 bv bs w' j ov' acc' ∧ acc'.length + 64 * (bs.length - j) ≤ acc.length + 64 * (bs.length - i) + 32) ?_ ?_
    ·
      exact ⟨_, _, (by repeat' (first | exact trivial | refine ⟨rfl, ?_⟩)), i0, _, _, rfl, rfl, by omega, g0.le, g0, by omega⟩
    ·
      rintro m l w1 ⟨j, ov1, acc1, rfl, rfl, hij, hjn, g1, hl1⟩
      refine V.seq ?_
      refine V.seq ?_
      refine V.region ?_
      refine L.rd (rd_move rfl) rfl ?_
      refine L.ef (e_call rfl (left_ok _ g1.rd) rfl ?_)
      rintro _ w2 ⟨rfl, he2⟩
      replace g1 := g1.ext he2
      refine L.rd (rd_gtr rfl rfl) rfl ?_
      refine L.nil ?_
      refine X.sq ?_
      first | refine V.cond rfl (fun h14 => ?_) (fun h14 => ?_) | refine V.condB rfl (fun h14 => ?_) (fun h14 => ?_)
      ·
        refine V.skip ?_
        refine X.sq ?_
        refine V.block ?_
        refine V.seq ?_
        refine V.region ?_
        refine L.rd (rd_move rfl) rfl ?_
        refine L.ef (e_call rfl (next_ok _ g1.rd) rfl ?_)
        rintro _ w4 ⟨c4, i4, rfl, hc40, hc41, h4, hi4, hlt4, hr4⟩
        have hi4e := hlt4 (by omega)
        replace g1 := g1.step h4 hr4 rfl
        have hle4 := g1.le
        refine L.rd (rd_assign rfl) rfl ?_
        refine L.nil ?_
        refine X.sq ?_
        refine V.seq ?_
        refine V.seq ?_
        refine V.region ?_
        refine L.rd (rd_move rfl) rfl ?_
        refine L.rd (rd_remW rfl rfl (by decide)) rfl ?_
        refine L.rd (rd_lss rfl rfl) rfl ?_
        refine L.nil ?_
        refine X.sq ?_
        first | refine V.cond rfl (fun h19 => ?_) (fun h19 => ?_) | refine V.condB rfl (fun h19 => ?_) (fun h19 => ?_)
        ·
          refine V.exit ?_
          refine X.sqExit ?_
          refine X.bkOut rfl ?_
          refine X.lpExit ?_
          refine X.bkHere ?_
          exact X.ct ⟨_, (by repeat' (first | exact trivial | refine ⟨rfl, ?_⟩)), _, _, _, rfl, by omega, g1.le, g1, by have := g1.le; omega⟩
        ·
          refine V.skip ?_
          refine X.sq ?_
          refine V.seq ?_
          refine V.seq ?_
          refine V.region ?_
          refine L.rd (rd_move rfl) rfl ?_
          refine L.rd (rd_remW rfl rfl (by decide)) rfl ?_
          refine L.rd (rd_lss rfl rfl) rfl ?_
          refine L.nil ?_
          refine X.sq ?_
          refine V.cut (fun l w' => ∃ (ov' : Value) (acc' : List Nat), l = [(0, .pointer (some ⟨w0.heap.size, 0, none⟩)), (1, ov'), (2, .int .i64 d), (7, .int .i64 c4)] ∧ SDq w0 bv bs w' i4 ov' acc' ∧ acc'.length = acc1.length + 1) ?_ ?_
          ·
            first | refine V.cond rfl (fun h22 => ?_) (fun h22 => ?_) | refine V.condB rfl (fun h22 => ?_) (fun h22 => ?_)
            ·
              refine V.region ?_
              refine L.rd (rd_move rfl) rfl ?_
              refine L.ef (e_buildSlice1 (e := 5) (cs := [_]) tok rfl rfl rfl rfl rfl rfl rfl rfl rfl (by first | (simp only [size_addB, size_setB, size_drew]; rfl) | rfl) rfl ?_)
              refine L.ef (e_appB (c := 43) tok rfl rfl rfl rfl rfl rfl rfl rfl rfl (by first | rfl | (simp only [size_addB, size_setB, size_drew])) rfl g1.bf (by omega) ?_)
              rintro v5 w5 hB5 hkp5
              replace g1 := g1.app hB5 hkp5 rfl
              refine L.rd (rd_assign rfl) rfl ?_
              refine L.nil ?_
              exact X.ct ⟨_, (by repeat' (first | exact trivial | refine ⟨rfl, ?_⟩)), _, _, rfl, g1, by simp only [List.length_append, List.length_cons, List.length_nil]⟩
            ·
              refine V.region ?_
              refine L.rd (rd_move rfl) rfl ?_
              refine L.ef (e_buildSlice1 (e := 5) (cs := [_]) tok rfl rfl rfl rfl rfl rfl rfl rfl rfl (by first | (simp only [size_addB, size_setB, size_drew]; rfl) | rfl) rfl ?_)
              refine L.ef (e_appB (c := 45) tok rfl rfl rfl rfl rfl rfl rfl rfl rfl (by first | rfl | (simp only [size_addB, size_setB, size_drew])) rfl g1.bf (by omega) ?_)
              rintro v5 w5 hB5 hkp5
              replace g1 := g1.app hB5 hkp5 rfl
              refine L.rd (rd_assign rfl) rfl ?_
              refine L.nil ?_
              exact X.ct ⟨_, (by repeat' (first | exact trivial | refine ⟨rfl, ?_⟩)), _, _, rfl, g1, by simp only [List.length_append, List.length_cons, List.length_nil]⟩
          ·
            rintro l w5 ⟨ov5, acc5, rfl, g5, hl5⟩
            refine X.sq ?_
            refine V.seq ?_
            refine V.seq ?_
            refine V.region ?_
            refine L.rd (rd_move rfl) rfl ?_
            refine L.rd (rd_geq rfl rfl) rfl ?_
            refine L.nil ?_
            refine X.sq ?_
            refine V.cut (fun l w' => ∃ (ov' : Value) (acc' : List Nat), l = [(0, .pointer (some ⟨w0.heap.size, 0, none⟩)), (1, ov'), (2, .int .i64 d)] ∧ SDq w0 bv bs w' i4 ov' acc' ∧ acc'.length ≤ acc1.length + 2) ?_ ?_
            ·
              first | refine V.cond rfl (fun h30 => ?_) (fun h30 => ?_) | refine V.condB rfl (fun h30 => ?_) (fun h30 => ?_)
              ·
                refine V.region ?_
                refine L.rd (rd_move rfl) rfl ?_
                refine L.ef (e_buildSlice1 (e := 5) (cs := [_]) tok rfl rfl rfl rfl rfl rfl rfl rfl rfl (by first | (simp only [size_addB, size_setB, size_drew]; rfl) | rfl) rfl ?_)
                refine L.ef (e_appB (c := 32) tok rfl rfl rfl rfl rfl rfl rfl rfl rfl (by first | rfl | (simp only [size_addB, size_setB, size_drew])) rfl g5.bf (by omega) ?_)
                rintro v6 w6 hB6 hkp6
                replace g5 := g5.app hB6 hkp6 rfl
                refine L.rd (rd_assign rfl) rfl ?_
                refine L.nil ?_
                exact X.ct ⟨_, (by repeat' (first | exact trivial | refine ⟨rfl, ?_⟩)), _, _, rfl, g5, by simp only [List.length_append, List.length_cons, List.length_nil]; omega⟩
              ·
                refine V.skip ?_
                exact X.ct ⟨_, (by repeat' (first | exact trivial | refine ⟨rfl, ?_⟩)), _, _, rfl, g5, by omega⟩
            ·
              rintro l w6 ⟨ov6, acc6, rfl, g6, hl6⟩
              refine X.sq ?_
              refine V.region ?_
              refine L.rd (rd_move rfl) rfl ?_
              refine L.rd (rd_move rfl) rfl ?_
              refine L.rd (rd_move rfl) rfl ?_
              refine L.ef (e_call rfl (ih i4 _ _ _ _ (by omega) hd0 hd1 g6 (by omega)) rfl ?_)
              rintro v7 w7 ⟨i7, acc7, g7, hi7, hl7⟩
              refine L.rd (rd_assign rfl) rfl ?_
              refine L.nil ?_
              refine X.bk ?_
              exact X.lp ⟨_, _, by have := g7.le; omega, (by repeat' (first | exact trivial | refine ⟨rfl, ?_⟩)), i7, _, _, rfl, rfl, by omega, g7.le, g7, by have := g7.le; omega⟩
      ·
        refine V.exit ?_
        refine X.sqExit ?_
        refine X.lpExit ?_
        refine X.bkHere ?_
        exact X.ct ⟨_, (by repeat' (first | exact trivial | refine ⟨rfl, ?_⟩)), _, _, _, rfl, by omega, g1.le, g1, by have := g1.le; omega⟩
  ·
    rintro l w1 ⟨j, ov1, acc1, rfl, hij, hjn, g1, hl1⟩
    refine X.sq ?_
    refine V.seq ?_
    refine V.region ?_
    refine L.rd (rd_move rfl) rfl ?_
    refine L.rd (rd_assign rfl) rfl ?_
    refine L.nil ?_
    refine X.sq ?_
    refine V.ret ?_
    refine ret_1 Yaam.results76 rfl ?_
    exact ⟨_, _, g1, by omega, by omega⟩

theorem sExpr_ok {w0 : World} {bv : Value} {bs : List Nat} : ∀ f, SxC w0 bv bs 76 f := by
  intro f
  induction f using Nat.strongRecOn with
  | _ f ih => exact sExpr_st (sTerm_ok (sUnary_ok (sPower_ok (sPrimary_ok ih))))

theorem decSrc_ok (bv : Value) (bs : List Nat) (w : World) (hB : Rr w 0 w.heap.size 1 bv bs.length (bC bs)) (hl : ∀ c ∈ bs, c < 256) (hs : bs.length ≤ 1048576) : Ret Yaam.prog 29 [bv] w fun r w' => ∃ s : ByteArray, r = .string s ∧ s.size ≤ 100000000 ∧ Ext w.heap.size w w' := by
  obtain ⟨ba, bc, rfl, hfb⟩ := id hB.form
  refine enter1 Yaam.func29 Yaam.ntmps29 (by kernel_rfl) rfl rfl ?_
  refine V.seq ?_
  refine V.region ?_
  refine L.rd (rd_assign rfl) rfl ?_
  refine L.nil ?_
  refine X.sq ?_
  refine V.seq ?_
  refine V.region ?_
  refine L.rd (rd_move rfl) rfl ?_
  refine L.rd (rd_build (out := [_, _]) tok rfl rfl rfl rfl rfl) rfl ?_
  refine L.ef (e_alloc (cs := [_, _]) tok rfl rfl (by first | (simp only [size_addB, size_setB, size_drew]; rfl) | rfl) rfl ?_)
  refine L.ef (e_store (vs := [_, _]) tok rfl rfl rfl rfl (by (repeat (first | assumption | (refine Bl.new' ?_ _ _; first | with_reducible rfl | (simp only [size_addB, size_setB, size_drew]; done)) | apply Bl.add | apply Bl.drew | (apply Bl.setNe; omega) | (refine Bl.set' ?_ _ _; (try simp only [size_addB, size_setB, size_drew]); omega)))) rfl (by simp [Value.oneCell']) (by simp) ?_)
  refine L.nil ?_
  refine X.sq ?_
  refine V.seq ?_
  generalize hw1 : setB _ _ _ _ = w1
  have he1 := ext_of_new hw1
  have hb1 : Bl w1 w.heap.size 56 [.slice ba bs.length bc, .int .i64 0] := bl_of_new hw1
  have h1 : SDq w (.slice ba bs.length bc) bs w1 0 (.slice none 0 0) [] := ⟨hb1, hB, hl, Nat.zero_le _, hs, World.ownsRow_nil _ _ _ _, he1⟩
  refine V.region ?_
  refine L.ef (e_call rfl (sExpr_ok bs.length 0 [] _ 0 _ (by omega) (by omega) (by omega) h1 (by simp only [List.length_nil]; omega)) rfl ?_)
  rintro v2 w2 ⟨i2, acc2, g2, hi2, hl2⟩
  refine L.rd (rd_bytesBf tok rfl rfl rfl rfl rfl rfl rfl rfl rfl g2.bf) rfl ?_
  refine L.rd (rd_assign rfl) rfl ?_
  refine L.nil ?_
  refine X.sq ?_
  refine V.ret ?_
  refine ret_1 Yaam.results29 rfl ?_
  exact ⟨_, rfl, by rw [mkS_size]; simp only [List.length_nil] at hl2; omega, g2.bf.ext⟩
end Go.Proofs.YbxaawGreat
