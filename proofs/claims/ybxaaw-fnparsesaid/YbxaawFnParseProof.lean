/-
  The statement FnParseSaid.
-/
import Derived.Test.YbxaawRows
import Derived.Test.YbxaawRowP
import Derived.Test.YbxaawPrsW
import Derived.Test.YbxaawWfW
import Derived.Test.YbxaawWfW2
import Derived.Test.YbxaawEqExprW
import Derived.Test.YbxaawLawB
import Derived.WalkKit
import Derived.ProofKit
import Derived.SizedLaws
set_option linter.unusedVariables false
set_option linter.unusedSimpArgs false
set_option maxRecDepth 10000
namespace Go.Mw
theorem xp_same {ts : List TK} {ns ms : List Nd} {r1 r2 : Int} (h1 : ∀ t, parseP ts = some t → ns = flat t 0 ∧ r1 = (tsz t : Int) - 1) (h2 : parseP ts = none → ns = [] ∧ r1 = 0) (k1 : ∀ t, parseP ts = some t → ms = flat t 0 ∧ r2 = (tsz t : Int) - 1) (k2 : parseP ts = none → ms = [] ∧ r2 = 0) : r1 = r2 ∧ ns = ms := by
  cases h : parseP ts with
  | none =>
    obtain ⟨rfl, rfl⟩ := h2 h
    obtain ⟨rfl, rfl⟩ := k2 h
    exact ⟨rfl, rfl⟩
  | some t =>
    obtain ⟨rfl, rfl⟩ := h1 t h
    obtain ⟨rfl, rfl⟩ := k1 t h
    exact ⟨rfl, rfl⟩
theorem xp_len {ts : List TK} {ns : List Nd} {r1 : Int} (h1 : ∀ t, parseP ts = some t → ns = flat t 0 ∧ r1 = (tsz t : Int) - 1) (h2 : parseP ts = none → ns = [] ∧ r1 = 0) : ns.length ≤ 500000 := by
  cases h : parseP ts with
  | none =>
    obtain ⟨rfl, -⟩ := h2 h
    simp
  | some t =>
    obtain ⟨rfl, -⟩ := h1 t h
    rw [flat_len]
    exact (parse_wt h).2.1
end Go.Mw
namespace Go.Proofs.Ybxaaw.fnParse
open Go.Mw

theorem law (tv : Value) (ts : List TK) (w : World) (hT : Rr w 0 w.heap.size 2 tv ts.length (prC ts)) :
    Ret Yaam.prog 5 [tv] w fun v w' => v = .bool true ∧ Ext w.heap.size w w' := by
  obtain ⟨ta, tc, rfl, hft⟩ := id hT.form
  refine enter1 Yaam.func5 Yaam.ntmps5 (by kernel_rfl) rfl rfl ?_
  refine V.seq ?_
  refine V.region ?_
  refine L.rd (rd_assign rfl) rfl ?_
  refine L.nil ?_
  refine X.sq ?_
  refine V.seq ?_
  refine V.seq ?_
  have hE := Ext.refl w.heap.size w
  refine V.region ?_
  refine L.rd (rd_move rfl) rfl ?_
  refine L.rd (rd_lenSlice tok rfl rfl rfl) rfl ?_
  refine L.rd (rd_gtr rfl rfl) rfl ?_
  refine L.nil ?_
  refine X.sq ?_
  first | refine V.cond rfl (fun h9 => ?_) (fun h9 => ?_) | refine V.condB rfl (fun h9 => ?_) (fun h9 => ?_)
  ·
    refine V.seq ?_
    refine V.region ?_
    refine L.rd (rd_assign rfl) rfl ?_
    refine L.nil ?_
    refine X.sq ?_
    refine V.ret ?_
    refine X.sqRet ?_
    refine ret_1 Yaam.results5 rfl ?_
    exact ⟨rfl, hE⟩
  ·
    refine V.skip ?_
    refine X.sq ?_
    refine V.seq ?_
    refine V.region ?_
    refine L.rd (rd_move rfl) rfl ?_
    refine L.ef (e_call rfl (iparse_ok _ ts _ hT) rfl ?_)
    rintro _ w1 ⟨nv1, ns1, rt1, rfl, ho1, hs1, hn1, he1⟩
    obtain ⟨a1, c1, rfl⟩ := own_form ho1
    replace hE := hE.ext he1
    replace hT := hT.ext he1
    refine L.rd (rd_move rfl) rfl ?_
    refine L.rd (rd_ext0 rfl) rfl ?_
    refine L.rd (rd_ext1 rfl) rfl ?_
    refine L.ef (e_alloc (cs := [_, _]) tok rfl rfl (by first | (simp only [size_addB, size_setB, size_drew]; rfl) | rfl) rfl ?_)
    refine L.ef (e_store (vs := [_, _]) tok rfl rfl rfl rfl (by (repeat (first | assumption | (refine Bl.new' ?_ _ _; first | with_reducible rfl | (simp only [size_addB, size_setB, size_drew]; done)) | apply Bl.add | apply Bl.drew | (apply Bl.setNe; omega) | (refine Bl.set' ?_ _ _; (try simp only [size_addB, size_setB, size_drew]); omega)))) rfl (by simp [Value.oneCell']) (by simp) ?_)
    refine L.rd (rd_assign rfl) rfl ?_
    refine L.nil ?_
    refine X.sq ?_
    refine V.seq ?_
    generalize hwa : setB _ _ _ _ = wa
    have hea := ext_of_new hwa
    have hb1 : Bl wa w1.heap.size 28 [.slice a1 ns1.length c1, .int .i64 rt1] := bl_of_new hwa
    replace hE := hE.ext hea
    replace hT := hT.ext hea
    have hR1 := (Rs.of_own ho1).le hea.leC
    have hw1 := he1.size
    have hwa1 := hea.size
    refine V.region ?_
    refine L.rd (rd_move rfl) rfl ?_
    refine L.ef (e_call rfl (sparse_ok _ ts _ (hT.wide (Nat.le_refl _) (by omega))) rfl ?_)
    rintro _ w2 ⟨nv2, ns2, rt2, rfl, ho2, hs2, hn2, he2⟩
    obtain ⟨a2, c2, rfl⟩ := own_form ho2
    replace hE := hE.ext he2
    replace hT := hT.ext he2
    replace hb1 := hb1.ext he2
    replace hR1 := hR1.le he2.leC
    refine L.rd (rd_move rfl) rfl ?_
    refine L.rd (rd_ext0 rfl) rfl ?_
    refine L.rd (rd_ext1 rfl) rfl ?_
    refine L.ef (e_alloc (cs := [_, _]) tok rfl rfl (by first | (simp only [size_addB, size_setB, size_drew]; rfl) | rfl) rfl ?_)
    refine L.ef (e_store (vs := [_, _]) tok rfl rfl rfl rfl (by (repeat (first | assumption | (refine Bl.new' ?_ _ _; first | with_reducible rfl | (simp only [size_addB, size_setB, size_drew]; done)) | apply Bl.add | apply Bl.drew | (apply Bl.setNe; omega) | (refine Bl.set' ?_ _ _; (try simp only [size_addB, size_setB, size_drew]); omega)))) rfl (by simp [Value.oneCell']) (by simp) ?_)
    refine L.rd (rd_assign rfl) rfl ?_
    refine L.nil ?_
    refine X.sq ?_
    refine V.seq ?_
    refine V.seq ?_
    generalize hwb : setB _ _ _ _ = wb
    have heb := ext_of_new hwb
    have hb2 : Bl wb w2.heap.size 28 [.slice a2 ns2.length c2, .int .i64 rt2] := bl_of_new hwb
    replace hE := hE.ext heb
    replace hT := hT.ext heb
    replace hb1 := hb1.ext heb
    replace hR1 := hR1.le heb.leC
    have hR2 := (Rs.of_own ho2).le heb.leC
    have hsame := xp_same hs1 hn1 hs2 hn2
    have hlen := xp_len hs1 hn1
    refine V.region ?_
    refine L.rd (rd_move rfl) rfl ?_
    refine L.rd (rd_move rfl) rfl ?_
    refine L.rd (rd_neqB tok rfl rfl rfl rfl) rfl ?_
    refine L.rd (rd_move rfl) rfl ?_
    first | refine L.partG rfl rfl (fun g23 => ?_) (fun g23 => ?_) | refine L.partGB rfl rfl (fun g23 => ?_) (fun g23 => ?_)
    ·
      exact absurd rfl g23
    ·
      refine L.yes rfl rfl ?_
      refine L.rd (rd_loadN tok rfl rfl rfl hb1.cells rfl) rfl ?_
      refine L.yes rfl rfl ?_
      refine L.rd (rd_loadN tok rfl rfl rfl hb2.cells rfl) rfl ?_
      refine L.yes rfl rfl ?_
      refine L.ef (e_call rfl (eqExpr_ok _ _ ns1 ns2 rt1 rt2 _ hR1 hR2 (by omega)) rfl ?_)
      rintro _ w3 ⟨rfl, he3⟩
      replace hE := hE.ext he3
      replace hT := hT.ext he3
      replace hb1 := hb1.ext he3
      replace hR1 := hR1.le he3.leC
      refine L.yes rfl rfl ?_
      first | refine L.rd (rd_not rfl) rfl ?_ | refine L.rd (rd_notB rfl) rfl ?_
      refine L.rd (rd_pickF rfl rfl) rfl ?_
      refine L.rd (rd_move rfl) rfl ?_
      first | refine L.partG rfl rfl (fun g29 => ?_) (fun g29 => ?_) | refine L.partGB rfl rfl (fun g29 => ?_) (fun g29 => ?_)
      ·
        exact absurd hsame g29
      ·
        refine L.yes rfl rfl ?_
        refine L.rd (rd_loadN tok rfl rfl rfl hb1.cells rfl) rfl ?_
        refine L.yes rfl rfl ?_
        refine L.rd (rd_move rfl) rfl ?_
        refine L.yes rfl rfl ?_
        refine L.rd (rd_move rfl) rfl ?_
        refine L.yes rfl rfl ?_
        refine L.rd (rd_lenSlice tok rfl rfl rfl) rfl ?_
        refine L.yes rfl rfl ?_
        refine L.rd (rd_eql rfl rfl) rfl ?_
        refine L.yes rfl rfl ?_
        refine L.ef (e_call rfl (okE_ok _ _ _ _ _ _ _ (fun h => by
            obtain ⟨t, ht⟩ := Option.isSome_iff_exists.1 h
            exact decide_eq_false (by have := (parse_wt ht).2.2; omega)) (fun h => by
            have hn : parseP ts = none := by cases hnn : parseP ts <;> simp_all
            obtain ⟨h1, h2⟩ := hn1 hn
            exact ⟨by rw [h1]; rfl, h2⟩)) rfl ?_)
        rintro _ w4 ⟨rfl, he4⟩
        replace hE := hE.ext he4
        replace hT := hT.ext he4
        replace hb1 := hb1.ext he4
        replace hR1 := hR1.le he4.leC
        refine L.yes rfl rfl ?_
        first | refine L.rd (rd_not rfl) rfl ?_ | refine L.rd (rd_notB rfl) rfl ?_
        refine L.rd (rd_pickF rfl rfl) rfl ?_
        refine L.nil ?_
        refine X.sq ?_
        first | refine V.cond rfl (fun h37 => ?_) (fun h37 => ?_) | refine V.condB rfl (fun h37 => ?_) (fun h37 => ?_)
        ·
          cases h37
        ·
          refine V.skip ?_
          refine X.sq ?_
          refine V.seq ?_
          refine V.seq ?_
          refine V.region ?_
          refine L.rd (rd_move rfl) rfl ?_
          refine L.rd (rd_move rfl) rfl ?_
          first | refine L.partG rfl rfl (fun g39 => ?_) (fun g39 => ?_) | refine L.partGB rfl rfl (fun g39 => ?_) (fun g39 => ?_)
          ·
            obtain ⟨t, ht⟩ := Option.isSome_iff_exists.1 (by simpa using g39)
            obtain ⟨rfl, rfl⟩ := hs1 t ht
            obtain ⟨hwt, hsz, -⟩ := parse_wt ht
            refine L.yes rfl rfl ?_
            refine L.rd (rd_loadN tok rfl rfl rfl hb1.cells rfl) rfl ?_
            refine L.yes rfl rfl ?_
            refine L.ef (e_call rfl (iwf_ok t hwt hsz _ _ hR1) rfl ?_)
            rintro _ w5 ⟨rfl, he5⟩
            replace hE := hE.ext he5
            replace hb1 := hb1.ext he5
            replace hR1 := hR1.le he5.leC
            refine L.yes rfl rfl ?_
            first | refine L.rd (rd_not rfl) rfl ?_ | refine L.rd (rd_notB rfl) rfl ?_
            refine L.yes rfl rfl ?_
            refine L.rd (rd_move rfl) rfl ?_
            first | refine L.partG rfl rfl (fun g43 => ?_) (fun g43 => ?_) | refine L.partGB rfl rfl (fun g43 => ?_) (fun g43 => ?_)
            ·
              cases g43
            ·
              refine L.yes rfl rfl ?_
              refine L.rd (rd_loadN tok rfl rfl rfl hb1.cells rfl) rfl ?_
              refine L.yes rfl rfl ?_
              refine L.ef (e_call rfl (swf_ok t hwt hsz _ _ hR1) rfl ?_)
              rintro _ w6 ⟨rfl, he6⟩
              replace hE := hE.ext he6
              refine L.yes rfl rfl ?_
              first | refine L.rd (rd_not rfl) rfl ?_ | refine L.rd (rd_notB rfl) rfl ?_
              refine L.yes rfl rfl ?_
              refine L.rd (rd_pickF rfl rfl) rfl ?_
              refine L.rd (rd_pickT rfl rfl) rfl ?_
              refine L.nil ?_
              refine X.sq ?_
              first | refine V.cond rfl (fun h48 => ?_) (fun h48 => ?_) | refine V.condB rfl (fun h48 => ?_) (fun h48 => ?_)
              ·
                cases h48
              ·
                refine V.skip ?_
                refine X.sq ?_
                refine V.seq ?_
                refine V.region ?_
                refine L.rd (rd_assign rfl) rfl ?_
                refine L.nil ?_
                refine X.sq ?_
                refine V.ret ?_
                refine ret_1 Yaam.results5 rfl ?_
                exact ⟨rfl, hE⟩
          ·
            refine L.no rfl rfl rfl rfl ?_
            refine L.no rfl rfl rfl rfl ?_
            refine L.no rfl rfl rfl rfl ?_
            refine L.no rfl rfl rfl rfl ?_
            refine L.noU rfl rfl rfl ?_
            refine L.noU rfl rfl rfl ?_
            refine L.noU rfl rfl rfl ?_
            refine L.no rfl rfl rfl rfl ?_
            refine L.rd (rd_pickF rfl rfl) rfl ?_
            refine L.nil ?_
            refine X.sq ?_
            refine V.condF rfl ?_
            refine V.skip ?_
            refine X.sq ?_
            refine V.seq ?_
            refine V.region ?_
            refine L.rd (rd_assign rfl) rfl ?_
            refine L.nil ?_
            refine X.sq ?_
            refine V.ret ?_
            refine ret_1 Yaam.results5 rfl ?_
            exact ⟨rfl, hE⟩
open Go.ChangeShapes Go.WideShapes Go.ChangeAt Go.RowKit
theorem own : ownKnob Yaam.prog.godebug = none := by kernel_rfl
theorem laidOut : laidOutB Yaam.prog = true := by kernel_rfl
theorem readable0 : Yaam.prog.readableRec 42 = true := by kernel_rfl

set_option maxRecDepth 100000 in
theorem lifted (os : Os) (started : os.Started) (H : Type) (enc : TypeId × Value → H) :
    ReturnsInHanded {} Yaam.checked os 5 .any (Rows.fnParseSpec.pre6 enc Yaam.prog Yaam.f5 Rows.fnParseRow.domain false) (Rows.fnParseSpec.post enc Yaam.prog Yaam.f5 false true false false) := by
  refine returnsInHanded_of_change_sized (C := Yaam.checked) own started (by kernel_rfl) Yaam.func5
    (ChangeSpec.witness6 (enc := enc) (C := Yaam.checked) false ⟨#[], #[.slice none 0 0], []⟩ 8 (by kernel_rfl) (by kernel_rfl) (by kernel_rfl) (by kernel_rfl)) ?_
  intro W base args ds gs before hval0 hW hcnd hwt0 _
  have hval : ∀ (j : Nat) t v, Yaam.f5.params[j]? = some t → args[j]? = some v → Value.okWide Yaam.prog W .any base t v := hval0
  have hwt : (DataW.weightsEach Yaam.prog (Yaam.f5.params.toList ++ _) (ds ++ gs)).all (· ≤ reachBytes) = true := hwt0
  have hW' := hW
  obtain ⟨p, q, hA0, hV, rfl, hfz, hnd⟩ := hW
  have hA : DataW.TrodAll enc Yaam.prog W 0 (fun _ => true) true Yaam.f5.params.toList args.toList ds p := hA0
  rw [Yaam.params5] at hA hval hwt
  obtain ⟨v0, vs0, d0, ds0, p0, q0, hargs0, rfl, rfl, h0, r0⟩ := trodAll_cons hA
  obtain ⟨hnil, rfl, rfl⟩ := trodAll_nil r0
  obtain rfl : args = #[v0] := by cases args; simp_all
  obtain ⟨rfl, rfl⟩ := trodVars_none hV
  have hok0 := hval 0 42 v0 rfl rfl
  have hww0 := weights_arg hwt (j := 0) rfl rfl
  obtain ⟨fuel0, hy0⟩ := id h0
  rw [one_cell Yaam.underlying42 hok0] at hy0
  obtain ⟨ps0, hR0, hl0, hz0⟩ := prs_of_trod Yaam.underlying42 Yaam.underlying99 (by kernel_rfl) rfl rfl (by kernel_rfl) (by kernel_rfl) (by kernel_rfl) (by kernel_rfl) (by decide +kernel) hy0 hww0
  clear hA0 hval0
  simp only [List.append_nil] at hW'
  refine (law v0 ps0 W hR0).call.mono fun e W' ⟨v, he, hv, hg⟩ => ?_
  subst he hv
  exact ⟨_, rfl, post_belowE (pv := []) hW' (fun _ _ _ => (trodAll_mk1 (shut_bool Yaam.underlying4 _))) (trodAll_mk1 (Below.trod laidOut readable0 (by decide +kernel) h0 hg.below (fun x hx => hW'.lt x (by first | exact hx | (simp only [List.mem_append]; simp [hx]))))) rfl (by simp) hg⟩

theorem over : Rows.fnParseRow.holds Yaam.pinned (OpenSpec.ofChange Rows.fnParseSpec) :=
  OpenClaim.holds_of_wide 5 Yaam.f5 rfl rfl rfl rfl rfl rfl rfl ⟨rfl, rfl, rfl, rfl, rfl⟩ rfl rfl rfl rfl rfl (by kernel_rfl) Yaam.func5 (by kernel_rfl)
    (of_decide_eq_true (by kernel_rfl)) (by unfold Func.isWrapper; first | (rw [if_pos (by decide +kernel)]; kernel_rfl) | (rw [if_neg (by decide +kernel)]; exact ⟨rfl, rfl⟩))
    (fun os started H enc _ => lifted os started H enc)

theorem proved : Rows.FnParseSaid :=
  over
end Go.Proofs.Ybxaaw.fnParse
