/-
  The statement FnExactSimplifySaid.
-/
import Derived.Test.YbxacwRows
import Derived.Test.YbxacwRowP
import Derived.Test.YbxacwSimpW
import Derived.WalkKit
import Derived.ProofKit
import Derived.SizedLaws
set_option linter.unusedVariables false
set_option linter.unusedSimpArgs false
set_option maxRecDepth 10000
namespace Go.Proofs.Ybxacw.fnExactSimplify
open Go.Mw

theorem law (s : ByteArray) (w : World) : Ret Yacm.prog 7 [.string s] w fun v w' => v = .bool true ∧ Ext w.heap.size w w' := by
  refine enter1 Yacm.func7 Yacm.ntmps7 (by kernel_rfl) rfl rfl ?_
  refine V.seq ?_
  refine V.region ?_
  refine L.rd (rd_assign rfl) rfl ?_
  refine L.nil ?_
  refine X.sq ?_
  refine V.seq ?_
  refine V.seq ?_
  refine V.region ?_
  refine L.rd (rd_move rfl) rfl ?_
  refine L.rd (rd_lenString tok rfl rfl rfl) rfl ?_
  refine L.rd (rd_gtr rfl rfl) rfl ?_
  refine L.nil ?_
  refine X.sq ?_
  first | refine V.cond rfl (fun h11 => ?_) (fun h11 => ?_) | refine V.condB rfl (fun h11 => ?_) (fun h11 => ?_)
  ·
    refine V.seq ?_
    refine V.region ?_
    refine L.rd (rd_assign rfl) rfl ?_
    refine L.nil ?_
    refine X.sq ?_
    refine V.ret ?_
    refine X.sqRet ?_
    refine ret_1 Yacm.results7 rfl ?_
    exact ⟨rfl, Ext.refl _ _⟩
  ·
    refine V.skip ?_
    refine X.sq ?_
    refine V.seq ?_
    refine V.region ?_
    refine L.rd (rd_move rfl) rfl ?_
    refine L.ef (e_call rfl (ssimp_ok s _ (by omega)) rfl ?_)
    rintro _ w1 ⟨rfl, he1⟩
    refine L.rd (rd_move rfl) rfl ?_
    refine L.rd (rd_ext0 rfl) rfl ?_
    refine L.rd (rd_ext1 rfl) rfl ?_
    refine L.rd (rd_assign rfl) rfl ?_
    refine L.rd (rd_assign rfl) rfl ?_
    refine L.nil ?_
    refine X.sq ?_
    refine V.seq ?_
    refine V.region ?_
    refine L.rd (rd_move rfl) rfl ?_
    refine L.ef (e_call rfl (isimp_ok s _ (by omega)) rfl ?_)
    rintro _ w2 ⟨rfl, he2⟩
    refine L.rd (rd_move rfl) rfl ?_
    refine L.rd (rd_ext0 rfl) rfl ?_
    refine L.rd (rd_ext1 rfl) rfl ?_
    refine L.rd (rd_assign rfl) rfl ?_
    refine L.rd (rd_assign rfl) rfl ?_
    refine L.nil ?_
    refine X.sq ?_
    refine V.seq ?_
    refine V.seq ?_
    refine V.region ?_
    refine L.rd (rd_move rfl) rfl ?_
    refine L.rd (rd_move rfl) rfl ?_
    refine L.rd (rd_neqB tok rfl rfl rfl rfl) rfl ?_
    refine L.rd (rd_move rfl) rfl ?_
    first | refine L.partG rfl rfl (fun g25 => ?_) (fun g25 => ?_) | refine L.partGB rfl rfl (fun g25 => ?_) (fun g25 => ?_)
    ·
      exact absurd rfl g25
    ·
      refine L.yes rfl rfl ?_
      refine L.rd (rd_move rfl) rfl ?_
      refine L.yes rfl rfl ?_
      refine L.rd (rd_move rfl) rfl ?_
      refine L.yes rfl rfl ?_
      refine L.rd (rd_neqS rfl rfl) rfl ?_
      refine L.rd (rd_pickF rfl rfl) rfl ?_
      refine L.nil ?_
      refine X.sq ?_
      first | refine V.cond rfl (fun h29 => ?_) (fun h29 => ?_) | refine V.condB rfl (fun h29 => ?_) (fun h29 => ?_)
      ·
        exact absurd h29 (by simp)
      ·
        refine V.skip ?_
        refine X.sq ?_
        refine V.seq ?_
        refine V.region ?_
        refine L.rd (rd_move rfl) rfl ?_
        refine L.ef (e_call rfl (isimp_ok s _ (by omega)) rfl ?_)
        rintro _ w3 ⟨rfl, he3⟩
        refine L.rd (rd_move rfl) rfl ?_
        refine L.rd (rd_ext0 rfl) rfl ?_
        refine L.rd (rd_ext1 rfl) rfl ?_
        refine L.rd (rd_assign rfl) rfl ?_
        refine L.rd (rd_assign rfl) rfl ?_
        refine L.nil ?_
        refine X.sq ?_
        refine V.seq ?_
        refine V.region ?_
        refine L.rd (rd_move rfl) rfl ?_
        refine L.rd (rd_move rfl) rfl ?_
        refine L.rd (rd_eqlB tok rfl rfl rfl rfl) rfl ?_
        refine L.rd (rd_move rfl) rfl ?_
        first | refine L.partG rfl rfl (fun g38 => ?_) (fun g38 => ?_) | refine L.partGB rfl rfl (fun g38 => ?_) (fun g38 => ?_)
        ·
          refine L.yes rfl rfl ?_
          refine L.rd (rd_move rfl) rfl ?_
          refine L.yes rfl rfl ?_
          refine L.rd (rd_move rfl) rfl ?_
          refine L.yes rfl rfl ?_
          refine L.rd (rd_eqlS rfl rfl) rfl ?_
          refine L.rd (rd_pickT rfl rfl) rfl ?_
          refine L.rd (rd_assign rfl) rfl ?_
          refine L.nil ?_
          refine X.sq ?_
          refine V.ret ?_
          refine ret_1 Yacm.results7 rfl ?_
          exact ⟨by simp, (he1.next he2).next he3⟩
        ·
          exact absurd rfl g38
open Go.ChangeShapes Go.WideShapes Go.ChangeAt Go.RowKit
open Go.ChangeMaps (open_string shut_string)
theorem own : ownKnob Yacm.prog.godebug = none := by kernel_rfl
theorem laidOut : laidOutB Yacm.prog = true := by kernel_rfl
theorem readable0 : Yacm.prog.readableRec 9 = true := by kernel_rfl

set_option maxRecDepth 100000 in
theorem lifted (os : Os) (started : os.Started) (H : Type) (enc : TypeId × Value → H) :
    ReturnsInHanded {} Yacm.checked os 7 .any (Rows.fnExactSimplifySpec.pre6 enc Yacm.prog Yacm.f7 Rows.fnExactSimplifyRow.domain false) (Rows.fnExactSimplifySpec.post enc Yacm.prog Yacm.f7 false true false false) := by
  refine returnsInHanded_of_change_sized (C := Yacm.checked) own started (by kernel_rfl) Yacm.func7
    (ChangeSpec.witness6 (enc := enc) (C := Yacm.checked) false ⟨#[], #[.string ByteArray.empty], []⟩ 8 (by kernel_rfl) (by kernel_rfl) (by kernel_rfl) (by kernel_rfl)) ?_
  intro W base args ds gs before hval0 hW hcnd hwt0 _
  have hval : ∀ (j : Nat) t v, Yacm.f7.params[j]? = some t → args[j]? = some v → Value.okWide Yacm.prog W .any base t v := hval0
  have hwt : (DataW.weightsEach Yacm.prog (Yacm.f7.params.toList ++ _) (ds ++ gs)).all (· ≤ reachBytes) = true := hwt0
  have hW' := hW
  obtain ⟨p, q, hA0, hV, rfl, hfz, hnd⟩ := hW
  have hA : DataW.TrodAll enc Yacm.prog W 0 (fun _ => true) true Yacm.f7.params.toList args.toList ds p := hA0
  rw [Yacm.params7] at hA hval hwt
  obtain ⟨v0, vs0, d0, ds0, p0, q0, hargs0, rfl, rfl, h0, r0⟩ := trodAll_cons hA
  obtain ⟨hnil, rfl, rfl⟩ := trodAll_nil r0
  obtain rfl : args = #[v0] := by cases args; simp_all
  obtain ⟨rfl, rfl⟩ := trodVars_none hV
  have hok0 := hval 0 9 v0 rfl rfl
  obtain ⟨s0, rfl, -, -, hs0⟩ := open_string Yacm.underlying9 hok0 h0
  clear hA0 hval0
  simp only [List.append_nil] at hW'
  refine (law s0 W).call.mono fun e W' ⟨v, he, hv, hg⟩ => ?_
  subst he hv
  exact ⟨_, rfl, post_belowE (pv := []) hW' (fun _ _ _ => (trodAll_mk1 (shut_bool Yacm.underlying4 _))) (trodAll_mk1 (Below.trod laidOut readable0 (by decide +kernel) h0 hg.below (fun x hx => hW'.lt x (by first | exact hx | (simp only [List.mem_append]; simp [hx]))))) rfl (by simp) hg⟩

theorem over : Rows.fnExactSimplifyRow.holds Yacm.pinned (OpenSpec.ofChange Rows.fnExactSimplifySpec) :=
  OpenClaim.holds_of_wide 7 Yacm.f7 rfl rfl rfl rfl rfl rfl rfl ⟨rfl, rfl, rfl, rfl, rfl⟩ rfl rfl rfl rfl rfl (by kernel_rfl) Yacm.func7 (by kernel_rfl)
    (of_decide_eq_true (by kernel_rfl)) (by unfold Func.isWrapper; first | (rw [if_pos (by decide +kernel)]; kernel_rfl) | (rw [if_neg (by decide +kernel)]; exact ⟨rfl, rfl⟩))
    (fun os started H enc _ => lifted os started H enc)

theorem proved : Rows.FnExactSimplifySaid :=
  over
end Go.Proofs.Ybxacw.fnExactSimplify
