/-
  laws.cloneTermsI, laws.okP, spec.EvalTerms, walked.
-/
import Derived.Test.YbxaawGreatTermW
import Derived.Test.YbxaawGreatEvalW
import Derived.Test.YbxaawGreatNmP
set_option linter.unusedVariables false
set_option linter.unusedSimpArgs false
set_option maxRecDepth 10000
namespace Go.Proofs.YbxaawGreat
open Go.Mw

theorem okP_ok (a : Option Addr) (n c : Nat) (ok mf : Bool) (w : World) (h1 : ok = true → mf = false) (h2 : ok = false → n = 0) : Ret Yaam.prog 22 [.agg #[.slice a n c], .bool ok, .bool mf] w fun r w' => r = .bool true ∧ Ext w.heap.size w w' := by
  obtain rfl | rfl : ok = true ∨ ok = false := by cases ok <;> simp
  · obtain rfl := h1 rfl
    refine enter3 Yaam.func22 Yaam.ntmps22 (by kernel_rfl) rfl rfl ?_
    refine V.seq ?_
    refine V.region ?_
    refine L.ef (e_box (cs := [_]) rfl rfl (by first | (simp only [size_addB, size_setB, size_drew]; rfl) | rfl) rfl ?_)
    refine L.rd (rd_assign rfl) rfl ?_
    refine L.nil ?_
    refine X.sq ?_
    refine V.seq ?_
    refine V.seq ?_
    have hp := Bl.new w 44 [.slice a n c]
    have hE := (Ext.refl _ w).addNew 44 [.slice a n c]
    refine V.region ?_
    refine L.rd (rd_move rfl) rfl ?_
    refine L.rd (rd_move rfl) rfl ?_
    first | refine L.partG rfl rfl (fun g8 => ?_) (fun g8 => ?_) | refine L.partGB rfl rfl (fun g8 => ?_) (fun g8 => ?_)
    ·
      cases g8
    ·
      refine L.no rfl rfl rfl rfl ?_
      refine L.rd (rd_pickF rfl rfl) rfl ?_
      refine L.nil ?_
      refine X.sq ?_
      refine V.condF rfl ?_
      refine V.skip ?_
      refine X.sq ?_
      refine V.seq ?_
      refine V.region ?_
      refine L.rd (rd_move rfl) rfl ?_
      refine L.rd (rd_move rfl) rfl ?_
      first | refine L.partG rfl rfl (fun g12 => ?_) (fun g12 => ?_) | refine L.partGB rfl rfl (fun g12 => ?_) (fun g12 => ?_)
      ·
        refine L.no rfl rfl rfl rfl ?_
        refine L.no rfl rfl rfl rfl ?_
        refine L.no rfl rfl rfl rfl ?_
        refine L.no rfl rfl rfl rfl ?_
        refine L.rd (rd_pickT rfl rfl) rfl ?_
        refine L.rd (rd_assign rfl) rfl ?_
        refine L.nil ?_
        refine X.sq ?_
        refine V.ret ?_
        refine ret_1 Yaam.results22 rfl ?_
        exact ⟨rfl, hE⟩
      ·
        cases g12
  · obtain rfl := h2 rfl
    refine enter3 Yaam.func22 Yaam.ntmps22 (by kernel_rfl) rfl rfl ?_
    refine V.seq ?_
    refine V.region ?_
    refine L.ef (e_box (cs := [_]) rfl rfl (by first | (simp only [size_addB, size_setB, size_drew]; rfl) | rfl) rfl ?_)
    refine L.rd (rd_assign rfl) rfl ?_
    refine L.nil ?_
    refine X.sq ?_
    refine V.seq ?_
    refine V.seq ?_
    have hp := Bl.new w 44 [.slice a 0 c]
    have hE := (Ext.refl _ w).addNew 44 [.slice a 0 c]
    refine V.region ?_
    refine L.rd (rd_move rfl) rfl ?_
    refine L.rd (rd_move rfl) rfl ?_
    first | refine L.partG rfl rfl (fun g8 => ?_) (fun g8 => ?_) | refine L.partGB rfl rfl (fun g8 => ?_) (fun g8 => ?_)
    ·
      refine L.yes rfl rfl ?_
      refine L.rd (rd_move rfl) rfl ?_
      refine L.rd (rd_pickT rfl rfl) rfl ?_
      refine L.nil ?_
      refine X.sq ?_
      first | refine V.cond rfl (fun h10 => ?_) (fun h10 => ?_) | refine V.condB rfl (fun h10 => ?_) (fun h10 => ?_)
      ·
        cases h10
      ·
        refine V.skip ?_
        refine X.sq ?_
        refine V.seq ?_
        refine V.region ?_
        refine L.rd (rd_move rfl) rfl ?_
        refine L.rd (rd_move rfl) rfl ?_
        first | refine L.partG rfl rfl (fun g12 => ?_) (fun g12 => ?_) | refine L.partGB rfl rfl (fun g12 => ?_) (fun g12 => ?_)
        ·
          cases g12
        ·
          refine L.yes rfl rfl ?_
          refine L.rd (rd_fieldAddr tok rfl rfl rfl rfl rfl rfl) rfl ?_
          refine L.yes rfl rfl ?_
          refine L.rd (rd_load1 tok rfl rfl rfl (hp.cell rfl)) rfl ?_
          refine L.yes rfl rfl ?_
          refine L.rd (rd_lenSlice tok rfl rfl rfl) rfl ?_
          refine L.yes rfl rfl ?_
          refine L.rd (rd_eql rfl rfl) rfl ?_
          refine L.rd (rd_pickF rfl rfl) rfl ?_
          refine L.rd (rd_assign rfl) rfl ?_
          refine L.nil ?_
          refine X.sq ?_
          refine V.ret ?_
          refine ret_1 Yaam.results22 rfl ?_
          exact ⟨rfl, hE⟩
    ·
      refine L.no rfl rfl rfl rfl ?_
      refine L.rd (rd_pickF rfl rfl) rfl ?_
      refine L.nil ?_
      refine X.sq ?_
      refine V.condF rfl ?_
      refine V.skip ?_
      refine X.sq ?_
      refine V.seq ?_
      refine V.region ?_
      refine L.rd (rd_move rfl) rfl ?_
      refine L.rd (rd_move rfl) rfl ?_
      first | refine L.partG rfl rfl (fun g12 => ?_) (fun g12 => ?_) | refine L.partGB rfl rfl (fun g12 => ?_) (fun g12 => ?_)
      ·
        cases g12
      ·
        refine L.yes rfl rfl ?_
        refine L.rd (rd_fieldAddr tok rfl rfl rfl rfl rfl rfl) rfl ?_
        refine L.yes rfl rfl ?_
        refine L.rd (rd_load1 tok rfl rfl rfl (hp.cell rfl)) rfl ?_
        refine L.yes rfl rfl ?_
        refine L.rd (rd_lenSlice tok rfl rfl rfl) rfl ?_
        refine L.yes rfl rfl ?_
        refine L.rd (rd_eql rfl rfl) rfl ?_
        refine L.rd (rd_pickF rfl rfl) rfl ?_
        refine L.rd (rd_assign rfl) rfl ?_
        refine L.nil ?_
        refine X.sq ?_
        refine V.ret ?_
        refine ret_1 Yaam.results22 rfl ?_
        exact ⟨rfl, hE⟩

end Go.Proofs.YbxaawGreat
