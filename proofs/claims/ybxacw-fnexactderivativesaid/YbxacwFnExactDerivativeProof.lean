/-
  The statement FnExactDerivativeSaid.
-/
import Derived.Test.YbxacwRows
import Derived.Test.YbxacwRowP
import Derived.Test.YbxacwDerW
import Derived.WalkKit
import Derived.ProofKit
import Derived.SizedLaws
set_option linter.unusedVariables false
set_option linter.unusedSimpArgs false
set_option maxRecDepth 10000
namespace Go.Proofs.Ybxacw.fnExactDerivative
open Go.Mw

theorem law (s : ByteArray) (y : Int) (w : World) : Ret Yacm.prog 8 [.string s, .int .i64 y] w fun v w' => v = .bool true ∧ Ext w.heap.size w w' := by
  refine enter2 Yacm.func8 Yacm.ntmps8 (by kernel_rfl) rfl rfl ?_
  refine V.seq ?_
  refine V.region ?_
  refine L.rd (rd_assign rfl) rfl ?_
  refine L.nil ?_
  refine X.sq ?_
  refine V.seq ?_
  refine V.seq ?_
  refine V.region ?_
  refine L.rd (rd_move rfl) rfl ?_
  refine L.rd (rd_lenString tok rfl rfl rfl) rfl ?_
  refine L.rd (rd_gtr rfl rfl) rfl ?_
  refine L.nil ?_
  refine X.sq ?_
  first | refine V.cond rfl (fun h13 => ?_) (fun h13 => ?_) | refine V.condB rfl (fun h13 => ?_) (fun h13 => ?_)
  ·
    refine V.seq ?_
    refine V.region ?_
    refine L.rd (rd_assign rfl) rfl ?_
    refine L.nil ?_
    refine X.sq ?_
    refine V.ret ?_
    refine X.sqRet ?_
    refine ret_1 Yacm.results8 rfl ?_
    exact ⟨rfl, Ext.refl _ _⟩
  ·
    refine V.skip ?_
    refine X.sq ?_
    refine V.seq ?_
    refine V.region ?_
    refine L.rd (rd_move rfl) rfl ?_
    refine L.rd (rd_move rfl) rfl ?_
    refine L.ef (e_call rfl (sder_ok y s _ (by omega)) rfl ?_)
    rintro _ w1 ⟨rfl, he1⟩
    refine L.rd (rd_move rfl) rfl ?_
    refine L.rd (rd_ext0 rfl) rfl ?_
    refine L.rd (rd_ext1 rfl) rfl ?_
    refine L.rd (rd_assign rfl) rfl ?_
    refine L.rd (rd_assign rfl) rfl ?_
    refine L.nil ?_
    refine X.sq ?_
    refine V.seq ?_
    refine V.region ?_
    refine L.rd (rd_move rfl) rfl ?_
    refine L.rd (rd_move rfl) rfl ?_
    refine L.ef (e_call rfl (ider_ok y s _ (by omega)) rfl ?_)
    rintro _ w2 ⟨rfl, he2⟩
    refine L.rd (rd_move rfl) rfl ?_
    refine L.rd (rd_ext0 rfl) rfl ?_
    refine L.rd (rd_ext1 rfl) rfl ?_
    refine L.rd (rd_assign rfl) rfl ?_
    refine L.rd (rd_assign rfl) rfl ?_
    refine L.nil ?_
    refine X.sq ?_
    refine V.seq ?_
    refine V.seq ?_
    refine V.region ?_
    refine L.rd (rd_move rfl) rfl ?_
    refine L.rd (rd_move rfl) rfl ?_
    refine L.rd (rd_neqB tok rfl rfl rfl rfl) rfl ?_
    refine L.rd (rd_move rfl) rfl ?_
    first | refine L.partG rfl rfl (fun g29 => ?_) (fun g29 => ?_) | refine L.partGB rfl rfl (fun g29 => ?_) (fun g29 => ?_)
    ·
      exact absurd rfl g29
    ·
      refine L.yes rfl rfl ?_
      refine L.rd (rd_move rfl) rfl ?_
      refine L.yes rfl rfl ?_
      refine L.rd (rd_move rfl) rfl ?_
      refine L.yes rfl rfl ?_
      refine L.rd (rd_neqS rfl rfl) rfl ?_
      refine L.rd (rd_pickF rfl rfl) rfl ?_
      refine L.nil ?_
      refine X.sq ?_
      first | refine V.cond rfl (fun h33 => ?_) (fun h33 => ?_) | refine V.condB rfl (fun h33 => ?_) (fun h33 => ?_)
      ·
        exact absurd h33 (by simp)
      ·
        refine V.skip ?_
        refine X.sq ?_
        refine V.seq ?_
        refine V.region ?_
        refine L.rd (rd_move rfl) rfl ?_
        refine L.rd (rd_move rfl) rfl ?_
        refine L.ef (e_call rfl (ider_ok y s _ (by omega)) rfl ?_)
        rintro _ w3 ⟨rfl, he3⟩
        refine L.rd (rd_move rfl) rfl ?_
        refine L.rd (rd_ext0 rfl) rfl ?_
        refine L.rd (rd_ext1 rfl) rfl ?_
        refine L.rd (rd_assign rfl) rfl ?_
        refine L.rd (rd_assign rfl) rfl ?_
        refine L.nil ?_
        refine X.sq ?_
        refine V.seq ?_
        refine V.region ?_
        refine L.rd (rd_move rfl) rfl ?_
        refine L.rd (rd_move rfl) rfl ?_
        refine L.rd (rd_eqlB tok rfl rfl rfl rfl) rfl ?_
        refine L.rd (rd_move rfl) rfl ?_
        first | refine L.partG rfl rfl (fun g43 => ?_) (fun g43 => ?_) | refine L.partGB rfl rfl (fun g43 => ?_) (fun g43 => ?_)
        ·
          refine L.yes rfl rfl ?_
          refine L.rd (rd_move rfl) rfl ?_
          refine L.yes rfl rfl ?_
          refine L.rd (rd_move rfl) rfl ?_
          refine L.yes rfl rfl ?_
          refine L.rd (rd_eqlS rfl rfl) rfl ?_
          refine L.rd (rd_pickT rfl rfl) rfl ?_
          refine L.rd (rd_assign rfl) rfl ?_
          refine L.nil ?_
          refine X.sq ?_
          refine V.ret ?_
          refine ret_1 Yacm.results8 rfl ?_
          exact ⟨by simp, (he1.next he2).next he3⟩
        ·
          exact absurd rfl g43
open Go.ChangeShapes Go.WideShapes Go.ChangeAt Go.RowKit
open Go.ChangeMaps (open_string shut_string)
theorem own : ownKnob Yacm.prog.godebug = none := by kernel_rfl
theorem laidOut : laidOutB Yacm.prog = true := by kernel_rfl
theorem readable0 : Yacm.prog.readableRec 9 = true := by kernel_rfl
theorem readable1 : Yacm.prog.readableRec 3 = true := by kernel_rfl

set_option maxRecDepth 100000 in
theorem lifted (os : Os) (started : os.Started) (H : Type) (enc : TypeId × Value → H) :
    ReturnsInHanded {} Yacm.checked os 8 .any (Rows.fnExactDerivativeSpec.pre6 enc Yacm.prog Yacm.f8 Rows.fnExactDerivativeRow.domain false) (Rows.fnExactDerivativeSpec.post enc Yacm.prog Yacm.f8 false true false false) := by
  refine returnsInHanded_of_change_sized (C := Yacm.checked) own started (by kernel_rfl) Yacm.func8
    (ChangeSpec.witness6 (enc := enc) (C := Yacm.checked) false ⟨#[], #[.string ByteArray.empty, .int .i64 0], []⟩ 8 (by kernel_rfl) (by kernel_rfl) (by kernel_rfl) (by kernel_rfl)) ?_
  intro W base args ds gs before hval0 hW hcnd hwt0 _
  have hval : ∀ (j : Nat) t v, Yacm.f8.params[j]? = some t → args[j]? = some v → Value.okWide Yacm.prog W .any base t v := hval0
  have hwt : (DataW.weightsEach Yacm.prog (Yacm.f8.params.toList ++ _) (ds ++ gs)).all (· ≤ reachBytes) = true := hwt0
  have hW' := hW
  obtain ⟨p, q, hA0, hV, rfl, hfz, hnd⟩ := hW
  have hA : DataW.TrodAll enc Yacm.prog W 0 (fun _ => true) true Yacm.f8.params.toList args.toList ds p := hA0
  rw [Yacm.params8] at hA hval hwt
  obtain ⟨v0, vs0, d0, ds0, p0, q0, hargs0, rfl, rfl, h0, r0⟩ := trodAll_cons hA
  obtain ⟨v1, vs1, d1, ds1, p1, q1, hargs1, rfl, rfl, h1, r1⟩ := trodAll_cons r0
  obtain ⟨hnil, rfl, rfl⟩ := trodAll_nil r1
  obtain rfl : args = #[v0, v1] := by cases args; simp_all
  obtain ⟨rfl, rfl⟩ := trodVars_none hV
  have hok0 := hval 0 9 v0 rfl rfl
  obtain ⟨s0, rfl, -, -, hs0⟩ := open_string Yacm.underlying9 hok0 h0
  have hok1 := hval 1 3 v1 rfl rfl
  obtain ⟨n1, rfl, -, -, hn1⟩ := open_int Yacm.underlying3 hok1 h1
  clear hA0 hval0
  simp only [List.append_nil] at hW'
  refine (law s0 n1 W).call.mono fun e W' ⟨v, he, hv, hg⟩ => ?_
  subst he hv
  exact ⟨_, rfl, post_belowE (pv := []) hW' (fun _ _ _ => (trodAll_mk1 (shut_bool Yacm.underlying4 _))) (trodAll_mk2 (Below.trod laidOut readable0 (by decide +kernel) h0 hg.below (fun x hx => hW'.lt x (by first | exact hx | (simp only [List.mem_append]; simp [hx])))) (Below.trod laidOut readable1 (by decide +kernel) h1 hg.below (fun x hx => hW'.lt x (by first | exact hx | (simp only [List.mem_append]; simp [hx]))))) rfl (by simp) hg⟩

theorem over : Rows.fnExactDerivativeRow.holds Yacm.pinned (OpenSpec.ofChange Rows.fnExactDerivativeSpec) :=
  OpenClaim.holds_of_wide 8 Yacm.f8 rfl rfl rfl rfl rfl rfl rfl ⟨rfl, rfl, rfl, rfl, rfl⟩ rfl rfl rfl rfl rfl (by kernel_rfl) Yacm.func8 (by kernel_rfl)
    (of_decide_eq_true (by kernel_rfl)) (by unfold Func.isWrapper; first | (rw [if_pos (by decide +kernel)]; kernel_rfl) | (rw [if_neg (by decide +kernel)]; exact ⟨rfl, rfl⟩))
    (fun os started H enc _ => lifted os started H enc)

theorem proved : Rows.FnExactDerivativeSaid :=
  over
end Go.Proofs.Ybxacw.fnExactDerivative
