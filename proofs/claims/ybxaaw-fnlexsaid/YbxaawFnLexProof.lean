/-
  The statement FnLexSaid.
-/
import Derived.Test.YbxaawRows
import Derived.Test.YbxaawRow
import Derived.Test.YbxaawLexW3
import Derived.Test.YbxaawEqToks
import Derived.WalkKit
import Derived.ProofKit
import Derived.ShutString
set_option linter.unusedVariables false
set_option linter.unusedSimpArgs false
namespace Go.Proofs.Ybxaaw.fnLex
open Go.Mw Lexp

theorem law (s : ByteArray) (w : World) : Ret Yaam.prog 4 [.string s] w fun v w' => v = .bool true ∧ Ext w.heap.size w w' := by
  refine enter1 Yaam.func4 Yaam.ntmps4 (by kernel_rfl) rfl rfl ?_
  refine V.seq ?_
  refine V.region ?_
  refine L.rd (rd_assign rfl) rfl ?_
  refine L.nil ?_
  refine X.sq ?_
  refine V.seq ?_
  refine V.seq ?_
  refine V.region ?_
  refine L.rd (rd_move rfl) rfl ?_
  refine L.rd (rd_lenString tok rfl rfl rfl) rfl ?_
  refine L.rd (rd_gtr rfl rfl) rfl ?_
  refine L.nil ?_
  refine X.sq ?_
  first | refine V.cond rfl (fun h9 => ?_) (fun h9 => ?_) | refine V.condB rfl (fun h9 => ?_) (fun h9 => ?_)
  ·
    refine V.seq ?_
    refine V.region ?_
    refine L.rd (rd_assign rfl) rfl ?_
    refine L.nil ?_
    refine X.sq ?_
    refine V.ret ?_
    refine X.sqRet ?_
    refine ret_1 Yaam.results4 rfl ?_
    exact ⟨rfl, Ext.refl _ _⟩
  ·
    obtain ⟨ts, hts⟩ : ∃ ts, ts = (lex (bl s)).getD [] := ⟨_, rfl⟩
    obtain ⟨ok, hok⟩ : ∃ ok, ok = (lex (bl s)).isSome := ⟨_, rfl⟩
    have hnil : ok = false → ts = [] := by
      intro h; rw [hok] at h; rw [hts]; cases hl : lex (bl s) with
      | none => rfl
      | some x => rw [hl] at h; cases h
    have hlts : ts.length ≤ 1099511627776 := by
      rw [hts]; have := lex_len s (by omega); omega
    refine V.skip ?_
    refine X.sq ?_
    refine V.seq ?_
    refine V.region ?_
    refine L.rd (rd_move rfl) rfl ?_
    refine L.ef (e_call rfl (ilex_ok s _ (by omega)) rfl ?_)
    rintro _ w1 ⟨sv1, rfl, ho1, he1⟩
    rw [← hts] at ho1
    rw [← hok]
    obtain ⟨sa1, sn1, hsv1⟩ := slice_form ho1
    subst hsv1
    refine L.rd (rd_move rfl) rfl ?_
    refine L.rd (rd_ext0 rfl) rfl ?_
    refine L.rd (rd_ext1 rfl) rfl ?_
    refine L.rd (rd_assign rfl) rfl ?_
    refine L.rd (rd_assign rfl) rfl ?_
    refine L.nil ?_
    refine X.sq ?_
    refine V.seq ?_
    refine V.region ?_
    refine L.rd (rd_move rfl) rfl ?_
    refine L.ef (e_call rfl (slex_ok s _ (by omega)) rfl ?_)
    rintro _ w2 ⟨sv2, rfl, ho2, he2⟩
    rw [← hts] at ho2
    rw [← hok]
    obtain ⟨sa2, sn2, hsv2⟩ := slice_form ho2
    subst hsv2
    refine L.rd (rd_move rfl) rfl ?_
    refine L.rd (rd_ext0 rfl) rfl ?_
    refine L.rd (rd_ext1 rfl) rfl ?_
    refine L.rd (rd_assign rfl) rfl ?_
    refine L.rd (rd_assign rfl) rfl ?_
    refine L.nil ?_
    refine X.sq ?_
    refine V.seq ?_
    refine V.seq ?_
    refine V.region ?_
    refine L.rd (rd_move rfl) rfl ?_
    first | refine L.rd (rd_not rfl) rfl ?_ | refine L.rd (rd_notB rfl) rfl ?_
    refine L.rd (rd_move rfl) rfl ?_
    first | refine L.partG rfl rfl (fun g22 => ?_) (fun g22 => ?_) | refine L.partGB rfl rfl (fun g22 => ?_) (fun g22 => ?_)
    ·
      refine L.yes rfl rfl ?_
      refine L.rd (rd_move rfl) rfl ?_
      refine L.yes rfl rfl ?_
      refine L.rd (rd_lenSlice tok rfl rfl rfl) rfl ?_
      refine L.yes rfl rfl ?_
      refine L.rd (rd_neq rfl rfl) rfl ?_
      refine L.rd (rd_pickT rfl rfl) rfl ?_
      refine L.nil ?_
      refine X.sq ?_
      first | refine V.cond rfl (fun h26 => ?_) (fun h26 => ?_) | refine V.condB rfl (fun h26 => ?_) (fun h26 => ?_)
      ·
        exact absurd (by rw [hnil (by simpa using g22)]; rfl) h26
      ·
        refine V.skip ?_
        refine X.sq ?_
        refine V.seq ?_
        refine V.region ?_
        refine L.rd (rd_move rfl) rfl ?_
        refine L.rd (rd_move rfl) rfl ?_
        refine L.rd (rd_eqlB tok rfl rfl rfl rfl) rfl ?_
        refine L.rd (rd_move rfl) rfl ?_
        first | refine L.partG rfl rfl (fun g30 => ?_) (fun g30 => ?_) | refine L.partGB rfl rfl (fun g30 => ?_) (fun g30 => ?_)
        ·
          refine L.yes rfl rfl ?_
          refine L.rd (rd_move rfl) rfl ?_
          refine L.yes rfl rfl ?_
          refine L.rd (rd_move rfl) rfl ?_
          refine L.yes rfl rfl ?_
          refine L.ef (e_call rfl (eqToks_ok _ _ ts ts _ ((Rs.of_own ho1).le he2.leC) (Rs.of_own ho2) hlts) rfl ?_)
          rintro _ w3 ⟨rfl, he3⟩
          refine L.rd (rd_pickT rfl rfl) rfl ?_
          refine L.rd (rd_assign rfl) rfl ?_
          refine L.nil ?_
          refine X.sq ?_
          refine V.ret ?_
          refine ret_1 Yaam.results4 rfl ?_
          refine ⟨?_, ?_⟩
          · simp
          · exact (he1.trans (he2.low he1.size)).trans (he3.low (Nat.le_trans he1.size he2.size))
        ·
          exact absurd rfl g30
    ·
      refine L.no rfl rfl rfl rfl ?_
      refine L.no rfl rfl rfl rfl ?_
      refine L.no rfl rfl rfl rfl ?_
      refine L.rd (rd_pickF rfl rfl) rfl ?_
      refine L.nil ?_
      refine X.sq ?_
      refine V.condF rfl ?_
      refine V.skip ?_
      refine X.sq ?_
      refine V.seq ?_
      refine V.region ?_
      refine L.rd (rd_move rfl) rfl ?_
      refine L.rd (rd_move rfl) rfl ?_
      refine L.rd (rd_eqlB tok rfl rfl rfl rfl) rfl ?_
      refine L.rd (rd_move rfl) rfl ?_
      first | refine L.partG rfl rfl (fun g30 => ?_) (fun g30 => ?_) | refine L.partGB rfl rfl (fun g30 => ?_) (fun g30 => ?_)
      ·
        refine L.yes rfl rfl ?_
        refine L.rd (rd_move rfl) rfl ?_
        refine L.yes rfl rfl ?_
        refine L.rd (rd_move rfl) rfl ?_
        refine L.yes rfl rfl ?_
        refine L.ef (e_call rfl (eqToks_ok _ _ ts ts _ ((Rs.of_own ho1).le he2.leC) (Rs.of_own ho2) hlts) rfl ?_)
        rintro _ w3 ⟨rfl, he3⟩
        refine L.rd (rd_pickT rfl rfl) rfl ?_
        refine L.rd (rd_assign rfl) rfl ?_
        refine L.nil ?_
        refine X.sq ?_
        refine V.ret ?_
        refine ret_1 Yaam.results4 rfl ?_
        refine ⟨?_, ?_⟩
        · simp
        · exact (he1.trans (he2.low he1.size)).trans (he3.low (Nat.le_trans he1.size he2.size))
      ·
        exact absurd rfl g30

open Go.ChangeShapes Go.WideShapes Go.ChangeAt Go.RowKit
open Go.ChangeMaps (open_string shut_string)
theorem own : ownKnob Yaam.prog.godebug = none := by kernel_rfl
theorem walk (a0 : ByteArray) (w0 : a0.size ≤ maxLen) (w : World) :
    Calls Yaam.prog 4 #[.string a0] w fun e w' => e = .returned (.bool true) ∧ Ext w.heap.size w w' :=
  (law a0 w).call.mono fun e w' ⟨v, he, hv, hx⟩ => ⟨by rw [he, hv], hx⟩

set_option maxRecDepth 100000 in
theorem lifted (os : Os) (started : os.Started) (H : Type) (enc : TypeId × Value → H) :
    ReturnsInHanded {} Yaam.checked os 4 .any (Rows.fnLexSpec.pre6 enc Yaam.prog Yaam.f4 Rows.fnLexRow.domain false) (Rows.fnLexSpec.post enc Yaam.prog Yaam.f4 false true false false) := by
  refine returnsInHanded_of_change (C := Yaam.checked) own started (by kernel_rfl) Yaam.func4
    (ChangeSpec.witness6 (enc := enc) (C := Yaam.checked) false ⟨#[], #[.string ByteArray.empty], []⟩ 8 (by kernel_rfl) (by kernel_rfl) (by kernel_rfl) (by kernel_rfl)) ?_
  intro W base args ds gs before hval0 hW hcnd _
  have hval : ∀ (j : Nat) t v, Yaam.f4.params[j]? = some t → args[j]? = some v → Value.okWide Yaam.prog W .any base t v := hval0
  have hW' := hW
  obtain ⟨p, q, hA0, hV, rfl, hfz, hnd⟩ := hW
  have hA : DataW.TrodAll enc Yaam.prog W 0 (fun _ => true) true Yaam.f4.params.toList args.toList ds p := hA0
  rw [Yaam.params4] at hA hval
  obtain ⟨v0, vs0, d0, ds0, p0, q0, hargs, rfl, rfl, h0, r0⟩ := trodAll_cons hA
  obtain ⟨rfl, rfl, rfl⟩ := trodAll_nil r0
  obtain rfl : args = #[v0] := by cases args; simp_all
  obtain ⟨rfl, rfl⟩ := trodVars_none hV
  obtain ⟨a0, rfl, rfl, rfl, w0⟩ := open_string Yaam.underlying9 (hval 0 9 v0 rfl rfl) h0
  clear hA0 hval0
  simp only [List.append_nil] at hW'
  refine (walk a0 w0 W).mono fun e W' ⟨he, hg⟩ => ?_
  subst he
  exact ⟨_, rfl, post_below (pa := []) (pv := []) hW' (fun _ _ _ => (trodAll_mk1 (shut_bool Yaam.underlying4 _))) (fun sp _ => (trodAll_mk1 (shut_string Yaam.underlying9 w0))) (fun _ _ => rfl) rfl hg⟩

theorem over : Rows.fnLexRow.holds Yaam.pinned (OpenSpec.ofChange Rows.fnLexSpec) :=
  OpenClaim.holds_of_wide 4 Yaam.f4 rfl rfl rfl rfl rfl rfl rfl ⟨rfl, rfl, rfl, rfl, rfl⟩ rfl rfl rfl rfl rfl (by kernel_rfl) Yaam.func4 (by kernel_rfl)
    (of_decide_eq_true (by kernel_rfl)) (by unfold Func.isWrapper; first | (rw [if_pos (by decide +kernel)]; kernel_rfl) | (rw [if_neg (by decide +kernel)]; exact ⟨rfl, rfl⟩))
    (fun os started H enc _ => lifted os started H enc)

theorem proved : Rows.FnLexSaid :=
  over
end Go.Proofs.Ybxaaw.fnLex
