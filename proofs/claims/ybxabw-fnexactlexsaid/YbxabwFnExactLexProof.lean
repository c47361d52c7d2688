/-
  The statement FnExactLexSaid.
-/
import Derived.Test.YbxabwRows
import Derived.Test.YbxabwRow
import Derived.Test.YbxabwLexW3
import Derived.Test.YbxabwTokW
import Derived.WalkKit
import Derived.ProofKit
import Derived.ShutString
set_option linter.unusedVariables false
set_option linter.unusedSimpArgs false
namespace Go.Proofs.Ybxabw.fnExactLex
open Go.Mw Lexp

theorem own_ne {w w1 : World} {B e sz e' sz' n n' : Nat} {v v' : Value} {xs xs' : List Value} (h : w.ownsRow B e sz v n xs) (h' : w1.ownsRow w.heap.size e' sz' v' n' xs') : v.ownBlock = none ∨ v.ownBlock ≠ v'.ownBlock := by
  cases hv : v.ownBlock with
  | none => exact .inl rfl
  | some k =>
    refine .inr fun hne => ?_
    have h1 := (h.lt k hv).2
    have h2 := (h'.lt k hne.symm).1
    omega
theorem own_ext {w w' : World} {B e sz n : Nat} {v : Value} {xs : List Value} (h : w.ownsRow B e sz v n xs) (he : Ext w.heap.size w w') : w'.ownsRow B e sz v n xs :=
  h.kept (grown_ext none he) (by cases v.ownBlock <;> simp)

theorem law (s : ByteArray) (w : World) : Ret Yabm.prog 4 [.string s] w fun v w' => v = .bool true ∧ Ext w.heap.size w w' := by
  refine enter1 Yabm.func4 Yabm.ntmps4 (by kernel_rfl) rfl rfl ?_
  refine V.seq ?_
  refine V.region ?_
  refine L.rd (rd_assign rfl) rfl ?_
  refine L.nil ?_
  refine X.sq ?_
  refine V.seq ?_
  refine V.seq ?_
  refine V.region ?_
  refine L.rd (rd_move rfl) rfl ?_
  refine L.rd (rd_lenString tok rfl rfl rfl) rfl ?_
  refine L.rd (rd_gtr rfl rfl) rfl ?_
  refine L.nil ?_
  refine X.sq ?_
  first | refine V.cond rfl (fun h13 => ?_) (fun h13 => ?_) | refine V.condB rfl (fun h13 => ?_) (fun h13 => ?_)
  ·
    refine V.seq ?_
    refine V.region ?_
    refine L.rd (rd_assign rfl) rfl ?_
    refine L.nil ?_
    refine X.sq ?_
    refine V.ret ?_
    refine X.sqRet ?_
    refine ret_1 Yabm.results4 rfl ?_
    exact ⟨rfl, Ext.refl _ _⟩
  ·
    obtain ⟨ts, hts⟩ : ∃ ts, ts = (lex (bl s)).getD [] := ⟨_, rfl⟩
    obtain ⟨ok, hok⟩ : ∃ ok, ok = (lex (bl s)).isSome := ⟨_, rfl⟩
    have hlts : ts.length ≤ 4294967296 := by
      rw [hts]; have := lex_len s (by omega); omega
    refine V.skip ?_
    refine X.sq ?_
    refine V.seq ?_
    refine V.region ?_
    refine L.rd (rd_move rfl) rfl ?_
    refine L.ef (e_call rfl (slex_ok s _ (by omega)) rfl ?_)
    rintro _ w1 ⟨sv1, rfl, ho1, he1⟩
    rw [← hts] at ho1
    rw [← hok]
    obtain ⟨sa1, sn1, hsv1⟩ := slice_form ho1
    subst hsv1
    refine L.rd (rd_move rfl) rfl ?_
    refine L.rd (rd_ext0 rfl) rfl ?_
    refine L.rd (rd_ext1 rfl) rfl ?_
    refine L.rd (rd_assign rfl) rfl ?_
    refine L.rd (rd_assign rfl) rfl ?_
    refine L.nil ?_
    refine X.sq ?_
    refine V.seq ?_
    refine V.region ?_
    refine L.rd (rd_move rfl) rfl ?_
    refine L.ef (e_call rfl (tokOut_ok _ ts _ (Rs.of_own ho1) hlts) rfl ?_)
    rintro v2 w2 ⟨ho2, he2⟩
    obtain ⟨sa2, sn2, hsv2⟩ := slice_form ho2
    subst hsv2
    refine L.rd (rd_assign rfl) rfl ?_
    refine L.nil ?_
    refine X.sq ?_
    refine V.seq ?_
    refine V.region ?_
    refine L.rd (rd_move rfl) rfl ?_
    refine L.ef (e_call rfl (ilex_ok s _ (by omega)) rfl ?_)
    rintro _ w3 ⟨sv3, rfl, ho3, he3⟩
    rw [← hts] at ho3
    rw [← hok]
    obtain ⟨sa3, sn3, hsv3⟩ := slice_form ho3
    subst hsv3
    have hw2 := own_ext ho2 he3
    refine L.rd (rd_move rfl) rfl ?_
    refine L.rd (rd_ext0 rfl) rfl ?_
    refine L.rd (rd_ext1 rfl) rfl ?_
    refine L.rd (rd_assign rfl) rfl ?_
    refine L.rd (rd_assign rfl) rfl ?_
    refine L.nil ?_
    refine X.sq ?_
    refine V.seq ?_
    refine V.seq ?_
    refine V.region ?_
    refine L.rd (rd_move rfl) rfl ?_
    refine L.rd (rd_move rfl) rfl ?_
    refine L.rd (rd_neqB tok rfl rfl rfl rfl) rfl ?_
    refine L.rd (rd_move rfl) rfl ?_
    first | refine L.partG rfl rfl (fun g29 => ?_) (fun g29 => ?_) | refine L.partGB rfl rfl (fun g29 => ?_) (fun g29 => ?_)
    ·
      exact absurd rfl g29
    ·
      refine L.yes rfl rfl ?_
      refine L.rd (rd_move rfl) rfl ?_
      refine L.yes rfl rfl ?_
      refine L.ef (e_call rfl (tokOut_ok _ ts _ (Rs.of_own ho3) hlts) rfl ?_)
      rintro v4 w4 ⟨ho4, he4⟩
      obtain ⟨sa4, sn4, hsv4⟩ := slice_form ho4
      subst hsv4
      have hw4 := own_ext hw2 he4
      have hg4 := own_ext ho3 he4
      refine L.yes rfl rfl ?_
      refine L.rd (rd_move rfl) rfl ?_
      refine L.yes rfl rfl ?_
      refine L.ef (e_call rfl (eqTokL_ok _ _ ts ts _ (Rs.of_own ho4) (Rs.of_own hw4) hlts) rfl ?_)
      rintro _ w5 ⟨rfl, he5⟩
      have hw5 := own_ext hw4 he5
      have hg5 := own_ext hg4 he5
      refine L.yes rfl rfl ?_
      first | refine L.rd (rd_not rfl) rfl ?_ | refine L.rd (rd_notB rfl) rfl ?_
      refine L.rd (rd_pickF rfl rfl) rfl ?_
      refine L.nil ?_
      refine X.sq ?_
      first | refine V.cond rfl (fun h35 => ?_) (fun h35 => ?_) | refine V.condB rfl (fun h35 => ?_) (fun h35 => ?_)
      ·
        exact absurd rfl h35
      ·
        refine V.skip ?_
        refine X.sq ?_
        refine V.seq ?_
        refine V.region ?_
        refine L.rd (rd_move rfl) rfl ?_
        refine L.ef (e_call rfl (growTok_ok _ ts _ _ hg5 hlts (by have := he3.size; have := he4.size; have := he5.size; omega)) rfl ?_)
        rintro _ w6 ⟨hg6, hgr6⟩
        have hne : (Value.slice sa2 ts.length sn2).ownBlock = none ∨ (Value.slice sa2 ts.length sn2).ownBlock ≠ (Value.slice sa3 ts.length sn3).ownBlock := own_ne ho2 ho3
        have hw6 := hw5.kept hgr6 hne
        refine L.nil ?_
        refine X.sq ?_
        refine V.seq ?_
        refine V.seq ?_
        refine V.region ?_
        refine L.rd (rd_move rfl) rfl ?_
        refine L.ef (e_call rfl (tokOut_ok _ ts _ (Rs.of_own hg6) hlts) rfl ?_)
        rintro v7 w7 ⟨ho7, he7⟩
        obtain ⟨sa7, sn7, hsv7⟩ := slice_form ho7
        subst hsv7
        have hw7 := own_ext hw6 he7
        have hg7 := own_ext hg6 he7
        refine L.rd (rd_move rfl) rfl ?_
        refine L.ef (e_call rfl (eqTokL_ok _ _ ts ts _ (Rs.of_own ho7) (Rs.of_own hw7) hlts) rfl ?_)
        rintro _ w8 ⟨rfl, he8⟩
        have hw8 := own_ext hw7 he8
        have hg8 := own_ext hg7 he8
        first | refine L.rd (rd_not rfl) rfl ?_ | refine L.rd (rd_notB rfl) rfl ?_
        refine L.nil ?_
        refine X.sq ?_
        first | refine V.cond rfl (fun h42 => ?_) (fun h42 => ?_) | refine V.condB rfl (fun h42 => ?_) (fun h42 => ?_)
        ·
          exact absurd rfl h42
        ·
          refine V.skip ?_
          refine X.sq ?_
          refine V.seq ?_
          refine V.region ?_
          refine L.rd (rd_move rfl) rfl ?_
          refine L.ef (e_call rfl (flipToks_ok _ ts _ _ hg8 hlts) rfl ?_)
          rintro _ w9 ⟨hg9, hgr9⟩
          have hw9 := hw8.kept hgr9 hne
          have hg9' : w9.ownsRow w2.heap.size 95 2 (Value.slice sa3 ts.length sn3) (ts.map flipT).length (tokC (ts.map flipT)) := by rw [List.length_map]; exact hg9
          replace hg9 := hg9'
          refine L.nil ?_
          refine X.sq ?_
          refine V.seq ?_
          refine V.region ?_
          refine L.rd (rd_move rfl) rfl ?_
          refine L.ef (e_call rfl (tokOut_ok _ (ts.map flipT) _ (Rs.of_own hg9) (by simpa using hlts)) rfl ?_)
          rintro v10 w10 ⟨ho10, he10⟩
          obtain ⟨sa10, sn10, hsv10⟩ := slice_form ho10
          subst hsv10
          have hw10 := own_ext hw9 he10
          have hg10 := own_ext hg9 he10
          refine L.rd (rd_assign rfl) rfl ?_
          refine L.nil ?_
          refine X.sq ?_
          refine V.seq ?_
          refine V.region ?_
          refine L.rd (rd_move rfl) rfl ?_
          refine L.ef (e_call rfl (ilex_ok s _ (by omega)) rfl ?_)
          rintro _ w11 ⟨sv11, rfl, ho11, he11⟩
          rw [← hts] at ho11
          rw [← hok]
          obtain ⟨sa11, sn11, hsv11⟩ := slice_form ho11
          subst hsv11
          have hw11 := own_ext hw10 he11
          have hg11 := own_ext hg10 he11
          have hs11 := own_ext ho10 he11
          refine L.rd (rd_move rfl) rfl ?_
          refine L.rd (rd_ext0 rfl) rfl ?_
          refine L.rd (rd_ext1 rfl) rfl ?_
          refine L.rd (rd_assign rfl) rfl ?_
          refine L.rd (rd_assign rfl) rfl ?_
          refine L.nil ?_
          refine X.sq ?_
          refine V.seq ?_
          refine V.seq ?_
          refine V.region ?_
          refine L.rd (rd_move rfl) rfl ?_
          refine L.rd (rd_move rfl) rfl ?_
          refine L.rd (rd_neqB tok rfl rfl rfl rfl) rfl ?_
          refine L.rd (rd_move rfl) rfl ?_
          first | refine L.partG rfl rfl (fun g55 => ?_) (fun g55 => ?_) | refine L.partGB rfl rfl (fun g55 => ?_) (fun g55 => ?_)
          ·
            exact absurd rfl g55
          ·
            refine L.yes rfl rfl ?_
            refine L.rd (rd_move rfl) rfl ?_
            refine L.yes rfl rfl ?_
            refine L.ef (e_call rfl (tokOut_ok _ ts _ (Rs.of_own ho11) hlts) rfl ?_)
            rintro v12 w12 ⟨ho12, he12⟩
            obtain ⟨sa12, sn12, hsv12⟩ := slice_form ho12
            subst hsv12
            have hw12 := own_ext hw11 he12
            have hg12 := own_ext hg11 he12
            have hs12 := own_ext hs11 he12
            have hq12 := own_ext ho11 he12
            refine L.yes rfl rfl ?_
            refine L.rd (rd_move rfl) rfl ?_
            refine L.yes rfl rfl ?_
            refine L.ef (e_call rfl (eqTokL_ok _ _ ts ts _ (Rs.of_own ho12) (Rs.of_own hw12) hlts) rfl ?_)
            rintro _ w13 ⟨rfl, he13⟩
            have hg13 := own_ext hg12 he13
            have hs13 := own_ext hs12 he13
            have hq13 := own_ext hq12 he13
            refine L.yes rfl rfl ?_
            first | refine L.rd (rd_not rfl) rfl ?_ | refine L.rd (rd_notB rfl) rfl ?_
            refine L.rd (rd_pickF rfl rfl) rfl ?_
            refine L.nil ?_
            refine X.sq ?_
            first | refine V.cond rfl (fun h61 => ?_) (fun h61 => ?_) | refine V.condB rfl (fun h61 => ?_) (fun h61 => ?_)
            ·
              exact absurd rfl h61
            ·
              refine V.skip ?_
              refine X.sq ?_
              refine V.seq ?_
              refine V.region ?_
              refine L.rd (rd_move rfl) rfl ?_
              refine L.ef (e_call rfl (flipToks_ok _ ts _ _ hq13 hlts) rfl ?_)
              rintro _ w14 ⟨hq14, hgr14⟩
              have hg14 := hg13.kept hgr14 (own_ne hg10 ho11)
              have hs14 := hs13.kept hgr14 (own_ne ho10 ho11)
              refine L.nil ?_
              refine X.sq ?_
              refine V.seq ?_
              refine V.region ?_
              refine L.rd (rd_move rfl) rfl ?_
              refine L.ef (e_call rfl (tokOut_ok _ (ts.map flipT) _ (Rs.of_own hg14) (by simpa using hlts)) rfl ?_)
              rintro v15 w15 ⟨ho15, he15⟩
              obtain ⟨sa15, sn15, hsv15⟩ := slice_form ho15
              subst hsv15
              have hs15 := own_ext hs14 he15
              refine L.rd (rd_move rfl) rfl ?_
              refine L.ef (e_call rfl (eqTokL_ok _ _ (ts.map flipT) (ts.map flipT) _ (Rs.of_own ho15) (Rs.of_own hs15) (by simpa using hlts)) rfl ?_)
              rintro _ w16 ⟨rfl, he16⟩
              refine L.rd (rd_assign rfl) rfl ?_
              refine L.nil ?_
              refine X.sq ?_
              refine V.ret ?_
              refine ret_1 Yabm.results4 rfl ?_
              refine ⟨by simp, ?_⟩
              have z1 := he1.size; have z2 := he2.size; have z3 := he3.size; have z4 := he4.size; have z5 := he5.size; have z6 := hgr6.size; have z7 := he7.size; have z8 := he8.size; have z9 := hgr9.size; have z10 := he10.size; have z11 := he11.size; have z12 := he12.size; have z13 := he13.size; have z14 := hgr14.size; have z15 := he15.size
              have e5 := (((he1.trans (he2.low (by omega))).trans (he3.low (by omega))).trans (he4.low (by omega))).trans (he5.low (by omega))
              have e6 : Ext w.heap.size w w6 := e5.grown hgr6 (by omega) (fun k hk => by have := (hg5.lt k hk).1; omega)
              have e8 := (e6.trans (he7.low (by omega))).trans (he8.low (by omega))
              have e9 : Ext w.heap.size w w9 := e8.grown hgr9 (by omega) (fun k hk => by have := (hg8.lt k hk).1; omega)
              have e13 := (((e9.trans (he10.low (by omega))).trans (he11.low (by omega))).trans (he12.low (by omega))).trans (he13.low (by omega))
              have e14 : Ext w.heap.size w w14 := e13.grown hgr14 (by omega) (fun k hk => by have := (hq13.lt k hk).1; omega)
              exact (e14.trans (he15.low (by omega))).trans (he16.low (by omega))

open Go.ChangeShapes Go.WideShapes Go.ChangeAt Go.RowKit
open Go.ChangeMaps (open_string shut_string)
theorem own : ownKnob Yabm.prog.godebug = none := by kernel_rfl

set_option maxRecDepth 100000 in
theorem lifted (os : Os) (started : os.Started) (H : Type) (enc : TypeId × Value → H) :
    ReturnsInHanded {} Yabm.checked os 4 .any (Rows.fnExactLexSpec.pre6 enc Yabm.prog Yabm.f4 Rows.fnExactLexRow.domain false) (Rows.fnExactLexSpec.post enc Yabm.prog Yabm.f4 false true false false) := by
  refine returnsInHanded_of_change (C := Yabm.checked) own started (by kernel_rfl) Yabm.func4
    (ChangeSpec.witness6 (enc := enc) (C := Yabm.checked) false ⟨#[], #[.string ByteArray.empty], []⟩ 8 (by kernel_rfl) (by kernel_rfl) (by kernel_rfl) (by kernel_rfl)) ?_
  intro W base args ds gs before hval0 hW hcnd _
  have hval : ∀ (j : Nat) t v, Yabm.f4.params[j]? = some t → args[j]? = some v → Value.okWide Yabm.prog W .any base t v := hval0
  have hW' := hW
  obtain ⟨p, q, hA0, hV, rfl, hfz, hnd⟩ := hW
  have hA : DataW.TrodAll enc Yabm.prog W 0 (fun _ => true) true Yabm.f4.params.toList args.toList ds p := hA0
  rw [Yabm.params4] at hA hval
  obtain ⟨v0, vs0, d0, ds0, p0, q0, hargs, rfl, rfl, h0, r0⟩ := trodAll_cons hA
  obtain ⟨rfl, rfl, rfl⟩ := trodAll_nil r0
  obtain rfl : args = #[v0] := by cases args; simp_all
  obtain ⟨rfl, rfl⟩ := trodVars_none hV
  obtain ⟨a0, rfl, rfl, rfl, w0⟩ := open_string Yabm.underlying9 (hval 0 9 v0 rfl rfl) h0
  clear hA0 hval0
  simp only [List.append_nil] at hW'
  refine (law a0 W).call.mono fun e W' ⟨v, he, hv, hg⟩ => ?_
  subst he hv
  exact ⟨_, rfl, post_below (pa := []) (pv := []) hW' (fun _ _ _ => (trodAll_mk1 (shut_bool Yabm.underlying4 _))) (fun sp _ => (trodAll_mk1 (shut_string Yabm.underlying9 w0))) (fun _ _ => rfl) rfl hg⟩

theorem over : Rows.fnExactLexRow.holds Yabm.pinned (OpenSpec.ofChange Rows.fnExactLexSpec) :=
  OpenClaim.holds_of_wide 4 Yabm.f4 rfl rfl rfl rfl rfl rfl rfl ⟨rfl, rfl, rfl, rfl, rfl⟩ rfl rfl rfl rfl rfl (by kernel_rfl) Yabm.func4 (by kernel_rfl)
    (of_decide_eq_true (by kernel_rfl)) (by unfold Func.isWrapper; first | (rw [if_pos (by decide +kernel)]; kernel_rfl) | (rw [if_neg (by decide +kernel)]; exact ⟨rfl, rfl⟩))
    (fun os started H enc _ => lifted os started H enc)

theorem proved : Rows.FnExactLexSaid :=
  over
end Go.Proofs.Ybxabw.fnExactLex
