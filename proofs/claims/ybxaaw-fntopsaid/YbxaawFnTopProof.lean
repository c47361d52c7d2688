/-
  The statement FnTopSaid.
-/
import Derived.Test.YbxaawRows
import Derived.Test.YbxaawRowP
import Derived.Test.YbxaawEqPolyW
import Derived.Test.YbxaawLawP
import Derived.Test.YbxaawDerW
import Derived.Test.YbxaawDiffW2
import Derived.Test.YbxaawEvW
import Derived.Test.YbxaawRtW
import Derived.WalkKit
import Derived.ProofKit
import Derived.SizedLaws
set_option linter.unusedVariables false
set_option linter.unusedSimpArgs false
set_option maxRecDepth 10000
set_option maxHeartbeats 4000000
namespace Go.Mw
theorem simp_some {l x : List Nat} (h : simpP l = some x) : ∃ t R, srcP l = some t ∧ tpP (cn t) = some (toP R) ∧ CM R ∧ Eqv R (fp (cn t)) ∧ x = printP (toP R) := by
  unfold simpP at h
  cases hs : srcP l with
  | none => rw [hs] at h; cases h
  | some t =>
    rw [hs, Option.bind_some] at h
    unfold tpT at h
    cases hq : tpP (cn t) with
    | none => rw [hq] at h; cases h
    | some q =>
      rw [hq] at h
      simp only [Option.map_some, Option.some.injEq] at h
      obtain ⟨h1, h2, h3⟩ := src_wt hs
      obtain ⟨R, hR, rfl, he⟩ := tpP_cm (cn_wz t h1).wt (cn_wi t h2) hq
      exact ⟨t, R, rfl, hq, hR, he, h.symm⟩
theorem der_some {y : Int} {l x : List Nat} (h : derP y l = some x) : ∃ t R, srcP l = some t ∧ (0 ≤ y ∧ y ≤ 25) ∧ CM R ∧ Eqv R (fp (dT y (cn t))) ∧ x = printP (toP R) := by
  unfold derP at h
  cases hs : srcP l with
  | none => rw [hs] at h; cases h
  | some t =>
    rw [hs, Option.bind_some] at h
    obtain ⟨h1, h2, h3⟩ := src_wt hs
    cases hd : difT y (cn t) with
    | none => rw [hd] at h; cases h
    | some d =>
      rw [hd, Option.bind_some] at h
      obtain ⟨k1, k2, k3⟩ := dif_wt (cn_wz t h1).wt (cn_wi t h2) hd
      unfold difT at hd
      split at hd
      · rename_i hc
        simp only [Option.some.injEq] at hd
        subst hd
        unfold tpT at h
        cases hq : tpP (dT y (cn t)) with
        | none => rw [hq] at h; cases h
        | some q =>
          rw [hq] at h
          simp only [Option.map_some, Option.some.injEq] at h
          obtain ⟨R, hR, rfl, he⟩ := tpP_cm k1 k2 hq
          exact ⟨t, R, rfl, ⟨hc.1, hc.2.1⟩, hR, he, h.symm⟩
      · cases hd
theorem der_rng {y : Int} {l : List Nat} (h : (derP y l).isSome = true) : 0 ≤ y ∧ y ≤ 25 := by
  obtain ⟨x, hx⟩ := Option.isSome_iff_exists.1 h
  obtain ⟨t, R, -, h1, -⟩ := der_some hx
  exact h1
theorem tx_none {o : Option (List Nat)} (h : o.isSome = false) : mkS (o.getD []) = mkS [] := by
  cases o with
  | none => rfl
  | some x => cases h
end Go.Mw
namespace Go.Proofs.Ybxaaw.fnTop
open Go.Mw Lexp

theorem law (s : ByteArray) (y : Int) (vp : Value) (pt : List Int) (w : World) (hP : Rr w 0 w.heap.size 1 vp pt.length (iC .i64 pt)) (hpi : ∀ x ∈ pt, w64 x = x) :
    Ret Yaam.prog 3 [.string s, .int .i64 y, vp] w fun v w' => v = .bool true ∧ Ext w.heap.size w w' := by
  obtain ⟨pa, pc, rfl, hfp⟩ := id hP.form
  refine enter3 Yaam.func3 Yaam.ntmps3 (by kernel_rfl) rfl rfl ?_
  refine V.seq ?_
  refine V.region ?_
  refine L.rd (rd_assign rfl) rfl ?_
  refine L.nil ?_
  refine X.sq ?_
  refine V.seq ?_
  refine V.seq ?_
  have hE := Ext.refl w.heap.size w
  refine V.region ?_
  refine L.rd (rd_move rfl) rfl ?_
  refine L.rd (rd_lenString tok rfl rfl rfl) rfl ?_
  refine L.rd (rd_gtr rfl rfl) rfl ?_
  refine L.rd (rd_move rfl) rfl ?_
  first | refine L.partG rfl rfl (fun g46 => ?_) (fun g46 => ?_) | refine L.partGB rfl rfl (fun g46 => ?_) (fun g46 => ?_)
  ·
    refine L.no rfl rfl rfl rfl ?_
    refine L.no rfl rfl rfl rfl ?_
    refine L.no rfl rfl rfl rfl ?_
    refine L.rd (rd_pickT rfl rfl) rfl ?_
    refine L.nil ?_
    refine X.sq ?_
    refine V.condT rfl ?_
    refine V.seq ?_
    refine V.region ?_
    refine L.rd (rd_assign rfl) rfl ?_
    refine L.nil ?_
    refine X.sq ?_
    refine V.ret ?_
    refine X.sqRet ?_
    refine ret_1 Yaam.results3 rfl ?_
    exact ⟨rfl, hE⟩
  ·
    refine L.yes rfl rfl ?_
    refine L.rd (rd_move rfl) rfl ?_
    refine L.yes rfl rfl ?_
    refine L.rd (rd_lenSlice tok rfl rfl rfl) rfl ?_
    refine L.yes rfl rfl ?_
    refine L.rd (rd_gtr rfl rfl) rfl ?_
    refine L.rd (rd_pickF rfl rfl) rfl ?_
    refine L.nil ?_
    refine X.sq ?_
    first | refine V.cond rfl (fun h50 => ?_) (fun h50 => ?_) | refine V.condB rfl (fun h50 => ?_) (fun h50 => ?_)
    ·
      refine V.seq ?_
      refine V.region ?_
      refine L.rd (rd_assign rfl) rfl ?_
      refine L.nil ?_
      refine X.sq ?_
      refine V.ret ?_
      refine X.sqRet ?_
      refine ret_1 Yaam.results3 rfl ?_
      exact ⟨rfl, hE⟩
    ·
      refine V.skip ?_
      refine X.sq ?_
      refine V.seq ?_
      refine V.region ?_
      refine L.rd (rd_move rfl) rfl ?_
      refine L.ef (e_call rfl (isimp_ok s _ (by omega)) rfl ?_)
      rintro _ w1 ⟨rfl, he1⟩
      replace hE := hE.ext he1
      replace hP := hP.ext he1
      refine L.rd (rd_move rfl) rfl ?_
      refine L.rd (rd_ext0 rfl) rfl ?_
      refine L.rd (rd_ext1 rfl) rfl ?_
      refine L.rd (rd_assign rfl) rfl ?_
      refine L.rd (rd_assign rfl) rfl ?_
      refine L.nil ?_
      refine X.sq ?_
      refine V.seq ?_
      refine V.region ?_
      refine L.rd (rd_move rfl) rfl ?_
      refine L.ef (e_call rfl (ssimp_ok s _ (by omega)) rfl ?_)
      rintro _ w2 ⟨rfl, he2⟩
      replace hE := hE.ext he2
      replace hP := hP.ext he2
      refine L.rd (rd_move rfl) rfl ?_
      refine L.rd (rd_ext0 rfl) rfl ?_
      refine L.rd (rd_ext1 rfl) rfl ?_
      refine L.rd (rd_assign rfl) rfl ?_
      refine L.rd (rd_assign rfl) rfl ?_
      refine L.nil ?_
      refine X.sq ?_
      refine V.seq ?_
      refine V.seq ?_
      refine V.region ?_
      refine L.rd (rd_move rfl) rfl ?_
      refine L.rd (rd_move rfl) rfl ?_
      refine L.rd (rd_neqB tok rfl rfl rfl rfl) rfl ?_
      refine L.rd (rd_move rfl) rfl ?_
      first | refine L.partG rfl rfl (fun g64 => ?_) (fun g64 => ?_) | refine L.partGB rfl rfl (fun g64 => ?_) (fun g64 => ?_)
      ·
        exact absurd rfl g64
      ·
        refine L.yes rfl rfl ?_
        refine L.rd (rd_move rfl) rfl ?_
        refine L.yes rfl rfl ?_
        refine L.rd (rd_move rfl) rfl ?_
        refine L.yes rfl rfl ?_
        refine L.rd (rd_neqS rfl rfl) rfl ?_
        refine L.rd (rd_pickF rfl rfl) rfl ?_
        refine L.rd (rd_move rfl) rfl ?_
        first | refine L.partG rfl rfl (fun g69 => ?_) (fun g69 => ?_) | refine L.partGB rfl rfl (fun g69 => ?_) (fun g69 => ?_)
        ·
          exact absurd g69 (by simp)
        ·
          refine L.yes rfl rfl ?_
          refine L.rd (rd_move rfl) rfl ?_
          refine L.yes rfl rfl ?_
          refine L.rd (rd_move rfl) rfl ?_
          refine L.yes rfl rfl ?_
          refine L.ef (e_call rfl (okS_ok _ _ _ _ (fun _ => rfl) (fun h => tx_none h)) rfl ?_)
          rintro _ w3 ⟨rfl, he3⟩
          replace hE := hE.ext he3
          replace hP := hP.ext he3
          refine L.yes rfl rfl ?_
          first | refine L.rd (rd_not rfl) rfl ?_ | refine L.rd (rd_notB rfl) rfl ?_
          refine L.rd (rd_pickF rfl rfl) rfl ?_
          refine L.nil ?_
          refine X.sq ?_
          first | refine V.cond rfl (fun h74 => ?_) (fun h74 => ?_) | refine V.condB rfl (fun h74 => ?_) (fun h74 => ?_)
          ·
            cases h74
          ·
            refine V.skip ?_
            refine X.sq ?_
            refine V.seq ?_
            refine V.seq ?_
            refine V.region ?_
            refine L.rd (rd_move rfl) rfl ?_
            refine L.nil ?_
            refine X.sq ?_
            refine V.cut (fun l w' => l = [(0, .string s), (1, .int .i64 y)] ∧ Ext w.heap.size w w') ?_ ?_
            ·
              first | refine V.cond rfl (fun h75 => ?_) (fun h75 => ?_) | refine V.condB rfl (fun h75 => ?_) (fun h75 => ?_)
              ·
                obtain ⟨x, hx⟩ := Option.isSome_iff_exists.1 (by simpa using h75)
                obtain ⟨t, R, ht, hq, hR, hRe, rfl⟩ := simp_some hx
                simp only [hx, Option.getD_some]
                obtain ⟨hwt, hwi, hsz⟩ := src_wt ht
                have hwz := cn_wz t hwt
                have hwzs := hwz.sz
                have hcwi := cn_wi t hwi
                obtain ⟨hPo, hsrc, hRf⟩ := round hR
                obtain ⟨hwt1, hwi1, hsz1⟩ := src_wt hsrc
                have hpl := printP_len hPo
                have hbl : bl (mkS (printP (toP R))) = printP (toP R) := bl_mkS _ (printP_lt hPo)
                refine V.seq ?_
                refine V.region ?_
                refine L.rd (rd_move rfl) rfl ?_
                refine L.ef (e_call rfl (parseSrc_ok s _ (by omega)) rfl ?_)
                rintro _ w4 ⟨nv4, ns4, root4, rfl, ho4, hg4, hn4, he4⟩
                rw [ht] at hg4 ⊢
                obtain ⟨rfl, rfl⟩ := hg4 t rfl
                obtain ⟨na4, nc4, rfl⟩ := own_form ho4
                replace hE := hE.ext he4
                replace hP := hP.ext he4
                refine L.rd (rd_move rfl) rfl ?_
                refine L.rd (rd_ext0 rfl) rfl ?_
                refine L.rd (rd_ext1 rfl) rfl ?_
                refine L.ef (e_alloc (cs := [_, _]) tok rfl rfl (by first | (simp only [size_addB, size_setB, size_drew]; rfl) | rfl) rfl ?_)
                refine L.ef (e_store (vs := [_, _]) tok rfl rfl rfl rfl (by (repeat (first | assumption | (refine Bl.new' ?_ _ _; first | with_reducible rfl | (simp only [size_addB, size_setB, size_drew]; done)) | apply Bl.add | apply Bl.drew | (apply Bl.setNe; omega) | (refine Bl.set' ?_ _ _; (try simp only [size_addB, size_setB, size_drew]); omega)))) rfl (by simp [Value.oneCell']) (by simp) ?_)
                refine L.rd (rd_assign rfl) rfl ?_
                refine L.nil ?_
                refine X.sq ?_
                refine V.seq ?_
                generalize hw5 : setB _ _ _ _ = w5
                have he5 := ext_of_new hw5
                have hb5 : Bl w5 w4.heap.size 28 [.slice na4 (flat t 0).length nc4, .int .i64 ((tsz t : Int) - 1)] := bl_of_new hw5
                have hN5 := (Rs.of_own ho4).le he5.leC
                replace hE := hE.ext he5
                replace hP := hP.ext he5
                refine V.region ?_
                refine L.rd (rd_move rfl) rfl ?_
                refine L.ef (e_call rfl (parseSrc_ok (mkS (printP (toP R))) _ (by rw [mkS_size]; omega)) rfl ?_)
                rintro _ w6 ⟨nv6, ns6, root6, rfl, ho6, hg6, hn6, he6⟩
                rw [hbl, hsrc] at hg6 ⊢
                obtain ⟨rfl, rfl⟩ := hg6 _ rfl
                obtain ⟨na6, nc6, rfl⟩ := own_form ho6
                replace hN5 := hN5.le he6.leC
                replace hE := hE.ext he6
                replace hP := hP.ext he6
                replace hb5 := hb5.ext he6
                refine L.rd (rd_move rfl) rfl ?_
                refine L.rd (rd_ext0 rfl) rfl ?_
                refine L.rd (rd_ext1 rfl) rfl ?_
                refine L.ef (e_alloc (cs := [_, _]) tok rfl rfl (by first | (simp only [size_addB, size_setB, size_drew]; rfl) | rfl) rfl ?_)
                refine L.ef (e_store (vs := [_, _]) tok rfl rfl rfl rfl (by (repeat (first | assumption | (refine Bl.new' ?_ _ _; first | with_reducible rfl | (simp only [size_addB, size_setB, size_drew]; done)) | apply Bl.add | apply Bl.drew | (apply Bl.setNe; omega) | (refine Bl.set' ?_ _ _; (try simp only [size_addB, size_setB, size_drew]); omega)))) rfl (by simp [Value.oneCell']) (by simp) ?_)
                refine L.rd (rd_assign rfl) rfl ?_
                refine L.nil ?_
                refine X.sq ?_
                refine V.seq ?_
                refine V.seq ?_
                generalize hw7 : setB _ _ _ _ = w7
                have he7 := ext_of_new hw7
                have hb7 : Bl w7 w6.heap.size 28 [.slice na6 (flat (ptre (toP R)) 0).length nc6, .int .i64 ((tsz (ptre (toP R)) : Int) - 1)] := bl_of_new hw7
                have hN7 := (Rs.of_own ho6).le he7.leC
                replace hN5 := hN5.le he7.leC
                replace hE := hE.ext he7
                replace hP := hP.ext he7
                replace hb5 := hb5.ext he7
                refine V.region ?_
                refine L.rd (rd_move rfl) rfl ?_
                first | refine L.rd (rd_not rfl) rfl ?_ | refine L.rd (rd_notB rfl) rfl ?_
                refine L.rd (rd_move rfl) rfl ?_
                first | refine L.partG rfl rfl (fun g88 => ?_) (fun g88 => ?_) | refine L.partGB rfl rfl (fun g88 => ?_) (fun g88 => ?_)
                ·
                  first | cases g88 | simp at g88
                ·
                  refine L.yes rfl rfl ?_
                  refine L.rd (rd_move rfl) rfl ?_
                  refine L.yes rfl rfl ?_
                  first | refine L.rd (rd_not rfl) rfl ?_ | refine L.rd (rd_notB rfl) rfl ?_
                  refine L.rd (rd_pickF rfl rfl) rfl ?_
                  refine L.nil ?_
                  refine X.sq ?_
                  first | refine V.cond rfl (fun h91 => ?_) (fun h91 => ?_) | refine V.condB rfl (fun h91 => ?_) (fun h91 => ?_)
                  ·
                    first | cases h91 | simp at h91
                  ·
                    refine V.skip ?_
                    refine X.sq ?_
                    refine V.seq ?_
                    refine V.region ?_
                    refine L.rd (rd_loadN tok rfl rfl rfl hb5.cells rfl) rfl ?_
                    refine L.ef (e_call rfl (scanon_ok t hwt hsz _ _ hN5) rfl ?_)
                    rintro _ w8 ⟨nv8, ns8, root8, rfl, ho8, hg8, hn8, he8⟩
                    obtain ⟨rfl, rfl⟩ := hg8 (cn t) rfl
                    obtain ⟨na8, nc8, rfl⟩ := own_form ho8
                    replace hN5 := hN5.le he8.leC
                    replace hN7 := hN7.le he8.leC
                    replace hE := hE.ext he8
                    replace hP := hP.ext he8
                    replace hb5 := hb5.ext he8
                    replace hb7 := hb7.ext he8
                    refine L.rd (rd_move rfl) rfl ?_
                    refine L.rd (rd_ext0 rfl) rfl ?_
                    refine L.rd (rd_ext1 rfl) rfl ?_
                    refine L.ef (e_alloc (cs := [_, _]) tok rfl rfl (by first | (simp only [size_addB, size_setB, size_drew]; rfl) | rfl) rfl ?_)
                    refine L.ef (e_store (vs := [_, _]) tok rfl rfl rfl rfl (by (repeat (first | assumption | (refine Bl.new' ?_ _ _; first | with_reducible rfl | (simp only [size_addB, size_setB, size_drew]; done)) | apply Bl.add | apply Bl.drew | (apply Bl.setNe; omega) | (refine Bl.set' ?_ _ _; (try simp only [size_addB, size_setB, size_drew]); omega)))) rfl (by simp [Value.oneCell']) (by simp) ?_)
                    refine L.rd (rd_assign rfl) rfl ?_
                    refine L.nil ?_
                    refine X.sq ?_
                    refine V.seq ?_
                    refine V.seq ?_
                    generalize hw9 : setB _ _ _ _ = w9
                    have he9 := ext_of_new hw9
                    have hb9 : Bl w9 w8.heap.size 28 [.slice na8 (flat (cn t) 0).length nc8, .int .i64 ((tsz (cn t) : Int) - 1)] := bl_of_new hw9
                    have hN9 := (Rs.of_own ho8).le he9.leC
                    replace hN5 := hN5.le he9.leC
                    replace hN7 := hN7.le he9.leC
                    replace hE := hE.ext he9
                    replace hP := hP.ext he9
                    replace hb5 := hb5.ext he9
                    replace hb7 := hb7.ext he9
                    refine V.region ?_
                    refine L.rd (rd_move rfl) rfl ?_
                    first | refine L.rd (rd_not rfl) rfl ?_ | refine L.rd (rd_notB rfl) rfl ?_
                    refine L.nil ?_
                    refine X.sq ?_
                    first | refine V.cond rfl (fun h98 => ?_) (fun h98 => ?_) | refine V.condB rfl (fun h98 => ?_) (fun h98 => ?_)
                    ·
                      first | cases h98 | simp at h98
                    ·
                      refine V.skip ?_
                      refine X.sq ?_
                      refine V.seq ?_
                      refine V.region ?_
                      refine L.rd (rd_loadN tok rfl rfl rfl hb9.cells rfl) rfl ?_
                      refine L.ef (e_call rfl (stopoly_ok (cn t) hwz.wt hcwi (by omega) _ _ hN9) rfl ?_)
                      rintro _ w10 ⟨v10, L10, rfl, hT10, hp10, he10⟩
                      rw [hq, Option.getD_some] at hp10
                      rw [hq]
                      obtain ⟨qa, qc, rfl, -⟩ := hT10.form
                      replace hN5 := hN5.le he10.leC
                      replace hN7 := hN7.le he10.leC
                      replace hE := hE.ext he10
                      replace hP := hP.ext he10
                      replace hb5 := hb5.ext he10
                      replace hb7 := hb7.ext he10
                      refine L.rd (rd_move rfl) rfl ?_
                      refine L.rd (rd_ext0 rfl) rfl ?_
                      refine L.rd (rd_ext1 rfl) rfl ?_
                      refine L.ef (e_alloc (cs := [_]) tok rfl rfl (by first | (simp only [size_addB, size_setB, size_drew]; rfl) | rfl) rfl ?_)
                      refine L.ef (e_store (vs := [_]) tok rfl rfl rfl rfl (by (repeat (first | assumption | (refine Bl.new' ?_ _ _; first | with_reducible rfl | (simp only [size_addB, size_setB, size_drew]; done)) | apply Bl.add | apply Bl.drew | (apply Bl.setNe; omega) | (refine Bl.set' ?_ _ _; (try simp only [size_addB, size_setB, size_drew]); omega)))) rfl (by simp [Value.oneCell']) (by simp) ?_)
                      refine L.rd (rd_assign rfl) rfl ?_
                      refine L.nil ?_
                      refine X.sq ?_
                      refine V.seq ?_
                      refine V.seq ?_
                      generalize hw11 : setB _ _ _ _ = w11
                      have he11 := ext_of_new hw11
                      have hb11 : Bl w11 w10.heap.size 34 [.slice qa L10.length qc] := bl_of_new hw11
                      replace hN5 := hN5.le he11.leC
                      replace hN7 := hN7.le he11.leC
                      replace hE := hE.ext he11
                      replace hP := hP.ext he11
                      replace hb5 := hb5.ext he11
                      replace hb7 := hb7.ext he11
                      replace hT10 := hT10.ext he11
                      refine V.region ?_
                      refine L.rd (rd_move rfl) rfl ?_
                      first | refine L.rd (rd_not rfl) rfl ?_ | refine L.rd (rd_notB rfl) rfl ?_
                      refine L.nil ?_
                      refine X.sq ?_
                      first | refine V.cond rfl (fun h105 => ?_) (fun h105 => ?_) | refine V.condB rfl (fun h105 => ?_) (fun h105 => ?_)
                      ·
                        first | cases h105 | simp at h105
                      ·
                        refine V.skip ?_
                        refine X.sq ?_
                        refine V.seq ?_
                        refine V.region ?_
                        refine L.rd (rd_loadN tok rfl rfl rfl hb11.cells rfl) rfl ?_
                        refine L.ef (e_call rfl (sprint_ok _ L10 _ hT10 (by rw [hp10]; exact canon_sm hR.canon)) rfl ?_)
                        rintro _ w12 ⟨rfl, he12⟩
                        rw [hp10, hR.canon, if_pos rfl]
                        replace hN5 := hN5.le he12.leC
                        replace hN7 := hN7.le he12.leC
                        replace hE := hE.ext he12
                        replace hP := hP.ext he12
                        replace hb5 := hb5.ext he12
                        replace hb7 := hb7.ext he12
                        refine L.rd (rd_move rfl) rfl ?_
                        refine L.rd (rd_ext0 rfl) rfl ?_
                        refine L.rd (rd_ext1 rfl) rfl ?_
                        refine L.rd (rd_assign rfl) rfl ?_
                        refine L.rd (rd_assign rfl) rfl ?_
                        refine L.nil ?_
                        refine X.sq ?_
                        refine V.seq ?_
                        refine V.seq ?_
                        refine V.region ?_
                        refine L.rd (rd_move rfl) rfl ?_
                        first | refine L.rd (rd_not rfl) rfl ?_ | refine L.rd (rd_notB rfl) rfl ?_
                        refine L.rd (rd_move rfl) rfl ?_
                        first | refine L.partG rfl rfl (fun g113 => ?_) (fun g113 => ?_) | refine L.partGB rfl rfl (fun g113 => ?_) (fun g113 => ?_)
                        ·
                          first | cases g113 | simp at g113
                        ·
                          refine L.yes rfl rfl ?_
                          refine L.rd (rd_move rfl) rfl ?_
                          refine L.yes rfl rfl ?_
                          refine L.rd (rd_move rfl) rfl ?_
                          refine L.yes rfl rfl ?_
                          refine L.rd (rd_neqS rfl rfl) rfl ?_
                          refine L.rd (rd_pickF rfl rfl) rfl ?_
                          refine L.nil ?_
                          refine X.sq ?_
                          first | refine V.cond rfl (fun h117 => ?_) (fun h117 => ?_) | refine V.condB rfl (fun h117 => ?_) (fun h117 => ?_)
                          ·
                            exact absurd h117 (by simp)
                          ·
                            refine V.skip ?_
                            refine X.sq ?_
                            refine V.seq ?_
                            refine V.region ?_
                            refine L.rd (rd_loadN tok rfl rfl rfl hb5.cells rfl) rfl ?_
                            refine L.rd (rd_move rfl) rfl ?_
                            refine L.ef (e_call rfl (sevalE_ok t hwt hsz _ _ pt _ hN5 hP.rs) rfl ?_)
                            rintro _ w13 ⟨rfl, he13⟩
                            replace hN7 := hN7.le he13.leC
                            replace hE := hE.ext he13
                            replace hP := hP.ext he13
                            replace hb7 := hb7.ext he13
                            refine L.rd (rd_move rfl) rfl ?_
                            refine L.rd (rd_ext0 rfl) rfl ?_
                            refine L.rd (rd_ext1 rfl) rfl ?_
                            refine L.rd (rd_assign rfl) rfl ?_
                            refine L.rd (rd_assign rfl) rfl ?_
                            refine L.nil ?_
                            refine X.sq ?_
                            refine V.seq ?_
                            refine V.region ?_
                            refine L.rd (rd_loadN tok rfl rfl rfl hb7.cells rfl) rfl ?_
                            refine L.rd (rd_move rfl) rfl ?_
                            refine L.ef (e_call rfl (sevalE_ok (ptre (toP R)) hwt1 hsz1 _ _ pt _ hN7 hP.rs) rfl ?_)
                            rintro _ w14 ⟨rfl, he14⟩
                            replace hE := hE.ext he14
                            refine L.rd (rd_move rfl) rfl ?_
                            refine L.rd (rd_ext0 rfl) rfl ?_
                            refine L.rd (rd_ext1 rfl) rfl ?_
                            refine L.rd (rd_assign rfl) rfl ?_
                            refine L.rd (rd_assign rfl) rfl ?_
                            refine L.nil ?_
                            refine X.sq ?_
                            refine V.seq ?_
                            refine V.region ?_
                            refine L.rd (rd_move rfl) rfl ?_
                            refine L.rd (rd_move rfl) rfl ?_
                            refine L.rd (rd_neqB tok rfl rfl rfl rfl) rfl ?_
                            refine L.rd (rd_move rfl) rfl ?_
                            first | refine L.partG rfl rfl (fun g133 => ?_) (fun g133 => ?_) | refine L.partGB rfl rfl (fun g133 => ?_) (fun g133 => ?_)
                            ·
                              exact absurd rfl g133
                            ·
                              refine L.yes rfl rfl ?_
                              refine L.rd (rd_move rfl) rfl ?_
                              refine L.yes rfl rfl ?_
                              refine L.rd (rd_move rfl) rfl ?_
                              refine L.yes rfl rfl ?_
                              refine L.rd (rd_neq rfl rfl) rfl ?_
                              refine L.rd (rd_pickF rfl rfl) rfl ?_
                              refine L.nil ?_
                              refine X.sq ?_
                              first | refine V.cond rfl (fun h137 => ?_) (fun h137 => ?_) | refine V.condB rfl (fun h137 => ?_) (fun h137 => ?_)
                              ·
                                refine absurd ?_ h137
                                rw [evT_eq hpi hwt hwi hwt1 hwi1 ((cn_fp t hwt).symm.trans (hRe.symm.trans hRf.symm))]
                              ·
                                refine V.skip ?_
                                exact X.ct ⟨_, (by repeat' (first | exact trivial | refine ⟨rfl, ?_⟩)), rfl, hE⟩
              ·
                refine V.skip ?_
                exact X.ct ⟨_, (by repeat' (first | exact trivial | refine ⟨rfl, ?_⟩)), rfl, hE⟩
            ·
              rintro l w' ⟨rfl, hE⟩
              refine X.sq ?_
              refine V.seq ?_
              refine V.region ?_
              refine L.rd (rd_move rfl) rfl ?_
              refine L.rd (rd_move rfl) rfl ?_
              refine L.ef (e_call rfl (ider_ok y s _ (by omega)) rfl ?_)
              rintro _ u1 ⟨rfl, hd1⟩
              replace hE := hE.ext hd1
              refine L.rd (rd_move rfl) rfl ?_
              refine L.rd (rd_ext0 rfl) rfl ?_
              refine L.rd (rd_ext1 rfl) rfl ?_
              refine L.rd (rd_assign rfl) rfl ?_
              refine L.rd (rd_assign rfl) rfl ?_
              refine L.nil ?_
              refine X.sq ?_
              refine V.seq ?_
              refine V.region ?_
              refine L.rd (rd_move rfl) rfl ?_
              refine L.rd (rd_move rfl) rfl ?_
              refine L.ef (e_call rfl (sder_ok y s _ (by omega)) rfl ?_)
              rintro _ u2 ⟨rfl, hd2⟩
              replace hE := hE.ext hd2
              refine L.rd (rd_move rfl) rfl ?_
              refine L.rd (rd_ext0 rfl) rfl ?_
              refine L.rd (rd_ext1 rfl) rfl ?_
              refine L.rd (rd_assign rfl) rfl ?_
              refine L.rd (rd_assign rfl) rfl ?_
              refine L.nil ?_
              refine X.sq ?_
              refine V.seq ?_
              refine V.seq ?_
              refine V.region ?_
              refine L.rd (rd_move rfl) rfl ?_
              refine L.rd (rd_move rfl) rfl ?_
              refine L.rd (rd_neqB tok rfl rfl rfl rfl) rfl ?_
              refine L.rd (rd_move rfl) rfl ?_
              first | refine L.partG rfl rfl (fun g153 => ?_) (fun g153 => ?_) | refine L.partGB rfl rfl (fun g153 => ?_) (fun g153 => ?_)
              ·
                exact absurd rfl g153
              ·
                refine L.yes rfl rfl ?_
                refine L.rd (rd_move rfl) rfl ?_
                refine L.yes rfl rfl ?_
                refine L.rd (rd_move rfl) rfl ?_
                refine L.yes rfl rfl ?_
                refine L.rd (rd_neqS rfl rfl) rfl ?_
                refine L.rd (rd_pickF rfl rfl) rfl ?_
                refine L.rd (rd_move rfl) rfl ?_
                first | refine L.partG rfl rfl (fun g158 => ?_) (fun g158 => ?_) | refine L.partGB rfl rfl (fun g158 => ?_) (fun g158 => ?_)
                ·
                  exact absurd g158 (by simp)
                ·
                  refine L.yes rfl rfl ?_
                  refine L.rd (rd_move rfl) rfl ?_
                  refine L.yes rfl rfl ?_
                  refine L.rd (rd_move rfl) rfl ?_
                  refine L.yes rfl rfl ?_
                  refine L.rd (rd_move rfl) rfl ?_
                  refine L.yes rfl rfl ?_
                  refine L.rd (rd_lss rfl rfl) rfl ?_
                  refine L.yes rfl rfl ?_
                  refine L.rd (rd_move rfl) rfl ?_
                  first | refine L.partG rfl rfl (fun g163 => ?_) (fun g163 => ?_) | refine L.partGB rfl rfl (fun g163 => ?_) (fun g163 => ?_)
                  ·
                    refine L.no rfl rfl rfl rfl ?_
                    refine L.no rfl rfl rfl rfl ?_
                    refine L.yes rfl rfl ?_
                    refine L.rd (rd_pickT rfl rfl) rfl ?_
                    refine L.yes rfl rfl ?_
                    refine L.ef (e_call rfl (okS_ok _ _ _ _ (fun h => by have := der_rng h; first | (exfalso; omega) | exact decide_eq_false (by omega)) (fun h => tx_none h)) rfl ?_)
                    rintro _ u3 ⟨rfl, hd3⟩
                    replace hE := hE.ext hd3
                    refine L.yes rfl rfl ?_
                    first | refine L.rd (rd_not rfl) rfl ?_ | refine L.rd (rd_notB rfl) rfl ?_
                    refine L.rd (rd_pickF rfl rfl) rfl ?_
                    refine L.nil ?_
                    refine X.sq ?_
                    first | refine V.cond rfl (fun h169 => ?_) (fun h169 => ?_) | refine V.condB rfl (fun h169 => ?_) (fun h169 => ?_)
                    ·
                      cases h169
                    ·
                      refine V.skip ?_
                      refine X.sq ?_
                      refine V.seq ?_
                      refine V.seq ?_
                      refine V.region ?_
                      refine L.rd (rd_move rfl) rfl ?_
                      refine L.nil ?_
                      refine X.sq ?_
                      first | refine V.cond rfl (fun h170 => ?_) (fun h170 => ?_) | refine V.condB rfl (fun h170 => ?_) (fun h170 => ?_)
                      ·
                        obtain ⟨x, hx⟩ := Option.isSome_iff_exists.1 (by simpa using h170)
                        obtain ⟨t, R, ht, hy, hR, hRe, rfl⟩ := der_some hx
                        simp only [hx, Option.getD_some]
                        obtain ⟨hwt, hwi, hsz⟩ := src_wt ht
                        have hwz := cn_wz t hwt
                        have hwzs := hwz.sz
                        have hcwi := cn_wi t hwi
                        obtain ⟨hPo, hsrc, hRf⟩ := round hR
                        obtain ⟨hwt1, hwi1, hsz1⟩ := src_wt hsrc
                        have hlx := printP_lex hPo
                        have hps := parse_of_src hlx hsrc
                        have hpl := printP_len hPo
                        have hbl : bl (mkS (printP (toP R))) = printP (toP R) := bl_mkS _ (printP_lt hPo)
                        refine V.seq ?_
                        refine V.region ?_
                        refine L.rd (rd_move rfl) rfl ?_
                        refine L.ef (e_call rfl (parseSrc_ok s _ (by omega)) rfl ?_)
                        rintro _ u4 ⟨nv4, ns4, root4, rfl, ho4, hg4, hn4, he4⟩
                        rw [ht] at hg4 ⊢
                        obtain ⟨rfl, rfl⟩ := hg4 t rfl
                        obtain ⟨na4, nc4, rfl⟩ := own_form ho4
                        replace hE := hE.ext he4
                        refine L.rd (rd_move rfl) rfl ?_
                        refine L.rd (rd_ext0 rfl) rfl ?_
                        refine L.rd (rd_ext1 rfl) rfl ?_
                        refine L.ef (e_alloc (cs := [_, _]) tok rfl rfl (by first | (simp only [size_addB, size_setB, size_drew]; rfl) | rfl) rfl ?_)
                        refine L.ef (e_store (vs := [_, _]) tok rfl rfl rfl rfl (by (repeat (first | assumption | (refine Bl.new' ?_ _ _; first | with_reducible rfl | (simp only [size_addB, size_setB, size_drew]; done)) | apply Bl.add | apply Bl.drew | (apply Bl.setNe; omega) | (refine Bl.set' ?_ _ _; (try simp only [size_addB, size_setB, size_drew]); omega)))) rfl (by simp [Value.oneCell']) (by simp) ?_)
                        refine L.rd (rd_assign rfl) rfl ?_
                        refine L.nil ?_
                        refine X.sq ?_
                        refine V.seq ?_
                        refine V.seq ?_
                        generalize hw5 : setB _ _ _ _ = u5
                        have he5 := ext_of_new hw5
                        have hb5 : Bl u5 u4.heap.size 28 [.slice na4 (flat t 0).length nc4, .int .i64 ((tsz t : Int) - 1)] := bl_of_new hw5
                        have hN5 := (Rs.of_own ho4).le he5.leC
                        replace hE := hE.ext he5
                        refine V.region ?_
                        refine L.rd (rd_move rfl) rfl ?_
                        first | refine L.rd (rd_not rfl) rfl ?_ | refine L.rd (rd_notB rfl) rfl ?_
                        refine L.nil ?_
                        refine X.sq ?_
                        first | refine V.cond rfl (fun h177 => ?_) (fun h177 => ?_) | refine V.condB rfl (fun h177 => ?_) (fun h177 => ?_)
                        ·
                          first | cases h177 | simp at h177
                        ·
                          refine V.skip ?_
                          refine X.sq ?_
                          refine V.seq ?_
                          refine V.region ?_
                          refine L.rd (rd_loadN tok rfl rfl rfl hb5.cells rfl) rfl ?_
                          refine L.ef (e_call rfl (scanon_ok t hwt hsz _ _ hN5) rfl ?_)
                          rintro _ u8 ⟨nv8, ns8, root8, rfl, ho8, hg8, hn8, he8⟩
                          obtain ⟨rfl, rfl⟩ := hg8 (cn t) rfl
                          obtain ⟨na8, nc8, rfl⟩ := own_form ho8
                          replace hE := hE.ext he8
                          refine L.rd (rd_move rfl) rfl ?_
                          refine L.rd (rd_ext0 rfl) rfl ?_
                          refine L.rd (rd_ext1 rfl) rfl ?_
                          refine L.ef (e_alloc (cs := [_, _]) tok rfl rfl (by first | (simp only [size_addB, size_setB, size_drew]; rfl) | rfl) rfl ?_)
                          refine L.ef (e_store (vs := [_, _]) tok rfl rfl rfl rfl (by (repeat (first | assumption | (refine Bl.new' ?_ _ _; first | with_reducible rfl | (simp only [size_addB, size_setB, size_drew]; done)) | apply Bl.add | apply Bl.drew | (apply Bl.setNe; omega) | (refine Bl.set' ?_ _ _; (try simp only [size_addB, size_setB, size_drew]); omega)))) rfl (by simp [Value.oneCell']) (by simp) ?_)
                          refine L.rd (rd_assign rfl) rfl ?_
                          refine L.nil ?_
                          refine X.sq ?_
                          refine V.seq ?_
                          refine V.seq ?_
                          generalize hw9 : setB _ _ _ _ = u9
                          have he9 := ext_of_new hw9
                          have hb9 : Bl u9 u8.heap.size 28 [.slice na8 (flat (cn t) 0).length nc8, .int .i64 ((tsz (cn t) : Int) - 1)] := bl_of_new hw9
                          have hN9 := (Rs.of_own ho8).le he9.leC
                          replace hE := hE.ext he9
                          refine V.region ?_
                          refine L.rd (rd_move rfl) rfl ?_
                          first | refine L.rd (rd_not rfl) rfl ?_ | refine L.rd (rd_notB rfl) rfl ?_
                          refine L.nil ?_
                          refine X.sq ?_
                          first | refine V.cond rfl (fun h184 => ?_) (fun h184 => ?_) | refine V.condB rfl (fun h184 => ?_) (fun h184 => ?_)
                          ·
                            first | cases h184 | simp at h184
                          ·
                            refine V.skip ?_
                            refine X.sq ?_
                            refine V.seq ?_
                            refine V.region ?_
                            refine L.rd (rd_loadN tok rfl rfl rfl hb9.cells rfl) rfl ?_
                            refine L.ef (e_call rfl (stopoly_ok (cn t) hwz.wt hcwi (by omega) _ _ hN9) rfl ?_)
                            rintro _ u10 ⟨v10, L10, rfl, hT10, hp10, he10⟩
                            obtain ⟨qa, qc, rfl, -⟩ := hT10.form
                            replace hE := hE.ext he10
                            refine L.rd (rd_move rfl) rfl ?_
                            refine L.rd (rd_ext0 rfl) rfl ?_
                            refine L.rd (rd_ext1 rfl) rfl ?_
                            refine L.ef (e_alloc (cs := [_]) tok rfl rfl (by first | (simp only [size_addB, size_setB, size_drew]; rfl) | rfl) rfl ?_)
                            refine L.ef (e_store (vs := [_]) tok rfl rfl rfl rfl (by (repeat (first | assumption | (refine Bl.new' ?_ _ _; first | with_reducible rfl | (simp only [size_addB, size_setB, size_drew]; done)) | apply Bl.add | apply Bl.drew | (apply Bl.setNe; omega) | (refine Bl.set' ?_ _ _; (try simp only [size_addB, size_setB, size_drew]); omega)))) rfl (by simp [Value.oneCell']) (by simp) ?_)
                            refine L.rd (rd_assign rfl) rfl ?_
                            refine L.nil ?_
                            refine X.sq ?_
                            refine V.seq ?_
                            generalize hw11 : setB _ _ _ _ = u11
                            have he11 := ext_of_new hw11
                            have hb11 : Bl u11 u10.heap.size 34 [.slice qa L10.length qc] := bl_of_new hw11
                            replace hE := hE.ext he11
                            replace hT10 := hT10.ext he11
                            refine V.region ?_
                            refine L.rd (rd_move rfl) rfl ?_
                            refine L.nil ?_
                            refine X.sq ?_
                            first | refine V.cond rfl (fun h190 => ?_) (fun h190 => ?_) | refine V.condB rfl (fun h190 => ?_) (fun h190 => ?_)
                            ·
                              obtain ⟨q0, hq0⟩ := Option.isSome_iff_exists.1 (by simpa using h190)
                              obtain ⟨R0, hR0, rfl, hR0e⟩ := tpP_cm hwz.wt hcwi hq0
                              rw [hq0, Option.getD_some] at hp10
                              have hdf : difP (pol L10) y = some (toP R) := by rw [hp10]; exact der_eq hy hR0 hR hwz.wt hR0e hRe
                              refine V.seq ?_
                              refine V.region ?_
                              refine L.rd (rd_loadN tok rfl rfl rfl hb11.cells rfl) rfl ?_
                              refine L.rd (rd_move rfl) rfl ?_
                              refine L.ef (e_call rfl (sdiffP_ok _ L10 y _ hT10 (by rw [hp10]; exact canon_sm hR0.canon)) rfl ?_)
                              rintro _ u12 ⟨v12, L12, rfl, hO12, hq12, he12⟩
                              rw [hdf, Option.getD_some] at hq12
                              rw [hdf]
                              obtain ⟨a12, c12, rfl⟩ := own_form hO12.top
                              have hT12 := hO12.tl
                              replace hE := hE.ext he12
                              refine L.rd (rd_move rfl) rfl ?_
                              refine L.rd (rd_ext0 rfl) rfl ?_
                              refine L.rd (rd_ext1 rfl) rfl ?_
                              refine L.ef (e_alloc (cs := [_]) tok rfl rfl (by first | (simp only [size_addB, size_setB, size_drew]; rfl) | rfl) rfl ?_)
                              refine L.ef (e_store (vs := [_]) tok rfl rfl rfl rfl (by (repeat (first | assumption | (refine Bl.new' ?_ _ _; first | with_reducible rfl | (simp only [size_addB, size_setB, size_drew]; done)) | apply Bl.add | apply Bl.drew | (apply Bl.setNe; omega) | (refine Bl.set' ?_ _ _; (try simp only [size_addB, size_setB, size_drew]); omega)))) rfl (by simp [Value.oneCell']) (by simp) ?_)
                              refine L.rd (rd_assign rfl) rfl ?_
                              refine L.nil ?_
                              refine X.sq ?_
                              refine V.seq ?_
                              refine V.seq ?_
                              generalize hw13 : setB _ _ _ _ = u13
                              have he13 := ext_of_new hw13
                              have hb13 : Bl u13 u12.heap.size 34 [.slice a12 L12.length c12] := bl_of_new hw13
                              replace hE := hE.ext he13
                              replace hT12 := hT12.ext he13
                              refine V.region ?_
                              refine L.rd (rd_move rfl) rfl ?_
                              first | refine L.rd (rd_not rfl) rfl ?_ | refine L.rd (rd_notB rfl) rfl ?_
                              refine L.nil ?_
                              refine X.sq ?_
                              first | refine V.cond rfl (fun h198 => ?_) (fun h198 => ?_) | refine V.condB rfl (fun h198 => ?_) (fun h198 => ?_)
                              ·
                                first | cases h198 | simp at h198
                              ·
                                refine V.skip ?_
                                refine X.sq ?_
                                refine V.seq ?_
                                refine V.region ?_
                                refine L.rd (rd_move rfl) rfl ?_
                                refine L.ef (e_call rfl (ilex_ok (mkS (printP (toP R))) _ (by rw [mkS_size]; omega)) rfl ?_)
                                rintro _ u14 ⟨sv14, rfl, ho14, he14⟩
                                rw [hbl, hlx] at ho14
                                rw [hbl, hlx]
                                obtain ⟨sa, sn, rfl⟩ := slice_form ho14
                                simp only [Option.getD_some, Option.isSome_some] at ho14 ⊢
                                replace hE := hE.ext he14
                                replace hT12 := hT12.ext he14
                                replace hb13 := hb13.ext he14
                                refine L.rd (rd_move rfl) rfl ?_
                                refine L.rd (rd_ext0 rfl) rfl ?_
                                refine L.rd (rd_ext1 rfl) rfl ?_
                                refine L.rd (rd_assign rfl) rfl ?_
                                refine L.rd (rd_assign rfl) rfl ?_
                                refine L.nil ?_
                                refine X.sq ?_
                                refine V.seq ?_
                                refine V.seq ?_
                                refine V.region ?_
                                refine L.rd (rd_move rfl) rfl ?_
                                first | refine L.rd (rd_not rfl) rfl ?_ | refine L.rd (rd_notB rfl) rfl ?_
                                refine L.nil ?_
                                refine X.sq ?_
                                first | refine V.cond rfl (fun h205 => ?_) (fun h205 => ?_) | refine V.condB rfl (fun h205 => ?_) (fun h205 => ?_)
                                ·
                                  first | cases h205 | simp at h205
                                ·
                                  refine V.skip ?_
                                  refine X.sq ?_
                                  refine V.seq ?_
                                  refine V.region ?_
                                  refine L.rd (rd_move rfl) rfl ?_
                                  refine L.ef (e_call rfl (iparse_ok _ (ptk (toP R)) _ (Rr.of_own (own_low ho14 (Nat.zero_le _)) (fun k hk => (own_block_lt ho14 hk).2))) rfl ?_)
                                  rintro _ u15 ⟨nv15, ns15, root15, rfl, ho15, hg15, hn15, he15⟩
                                  rw [hps] at hg15 ⊢
                                  obtain ⟨rfl, rfl⟩ := hg15 _ rfl
                                  obtain ⟨na15, nc15, rfl⟩ := own_form ho15
                                  replace hE := hE.ext he15
                                  replace hT12 := hT12.ext he15
                                  replace hb13 := hb13.ext he15
                                  refine L.rd (rd_move rfl) rfl ?_
                                  refine L.rd (rd_ext0 rfl) rfl ?_
                                  refine L.rd (rd_ext1 rfl) rfl ?_
                                  refine L.ef (e_alloc (cs := [_, _]) tok rfl rfl (by first | (simp only [size_addB, size_setB, size_drew]; rfl) | rfl) rfl ?_)
                                  refine L.ef (e_store (vs := [_, _]) tok rfl rfl rfl rfl (by (repeat (first | assumption | (refine Bl.new' ?_ _ _; first | with_reducible rfl | (simp only [size_addB, size_setB, size_drew]; done)) | apply Bl.add | apply Bl.drew | (apply Bl.setNe; omega) | (refine Bl.set' ?_ _ _; (try simp only [size_addB, size_setB, size_drew]); omega)))) rfl (by simp [Value.oneCell']) (by simp) ?_)
                                  refine L.rd (rd_assign rfl) rfl ?_
                                  refine L.nil ?_
                                  refine X.sq ?_
                                  refine V.seq ?_
                                  refine V.seq ?_
                                  generalize hw16 : setB _ _ _ _ = u16
                                  have he16 := ext_of_new hw16
                                  have hb16 : Bl u16 u15.heap.size 28 [.slice na15 (flat (ptre (toP R)) 0).length nc15, .int .i64 ((tsz (ptre (toP R)) : Int) - 1)] := bl_of_new hw16
                                  have hN16 := (Rs.of_own ho15).le he16.leC
                                  replace hE := hE.ext he16
                                  replace hT12 := hT12.ext he16
                                  replace hb13 := hb13.ext he16
                                  refine V.region ?_
                                  refine L.rd (rd_move rfl) rfl ?_
                                  first | refine L.rd (rd_not rfl) rfl ?_ | refine L.rd (rd_notB rfl) rfl ?_
                                  refine L.nil ?_
                                  refine X.sq ?_
                                  first | refine V.cond rfl (fun h212 => ?_) (fun h212 => ?_) | refine V.condB rfl (fun h212 => ?_) (fun h212 => ?_)
                                  ·
                                    first | cases h212 | simp at h212
                                  ·
                                    refine V.skip ?_
                                    refine X.sq ?_
                                    refine V.seq ?_
                                    refine V.region ?_
                                    refine L.rd (rd_loadN tok rfl rfl rfl hb16.cells rfl) rfl ?_
                                    refine L.ef (e_call rfl (itopoly_ok (ptre (toP R)) hwt1 hwi1 hsz1 _ _ hN16) rfl ?_)
                                    rintro _ u17 ⟨v17, L17, rfl, hT17, hp17, he17⟩
                                    obtain ⟨ga, gc, rfl, -⟩ := hT17.form
                                    replace hE := hE.ext he17
                                    replace hT12 := hT12.ext he17
                                    replace hb13 := hb13.ext he17
                                    refine L.rd (rd_move rfl) rfl ?_
                                    refine L.rd (rd_ext0 rfl) rfl ?_
                                    refine L.rd (rd_ext1 rfl) rfl ?_
                                    refine L.ef (e_alloc (cs := [_]) tok rfl rfl (by first | (simp only [size_addB, size_setB, size_drew]; rfl) | rfl) rfl ?_)
                                    refine L.ef (e_store (vs := [_]) tok rfl rfl rfl rfl (by (repeat (first | assumption | (refine Bl.new' ?_ _ _; first | with_reducible rfl | (simp only [size_addB, size_setB, size_drew]; done)) | apply Bl.add | apply Bl.drew | (apply Bl.setNe; omega) | (refine Bl.set' ?_ _ _; (try simp only [size_addB, size_setB, size_drew]); omega)))) rfl (by simp [Value.oneCell']) (by simp) ?_)
                                    refine L.rd (rd_assign rfl) rfl ?_
                                    refine L.nil ?_
                                    refine X.sq ?_
                                    refine V.seq ?_
                                    generalize hw18 : setB _ _ _ _ = u18
                                    have he18 := ext_of_new hw18
                                    have hb18 : Bl u18 u17.heap.size 34 [.slice ga L17.length gc] := bl_of_new hw18
                                    replace hE := hE.ext he18
                                    replace hT12 := hT12.ext he18
                                    replace hb13 := hb13.ext he18
                                    replace hT17 := hT17.ext he18
                                    refine V.region ?_
                                    refine L.rd (rd_move rfl) rfl ?_
                                    refine L.rd (rd_move rfl) rfl ?_
                                    first | refine L.partG rfl rfl (fun g219 => ?_) (fun g219 => ?_) | refine L.partGB rfl rfl (fun g219 => ?_) (fun g219 => ?_)
                                    ·
                                      obtain ⟨q1, hq1⟩ := Option.isSome_iff_exists.1 (by simpa using g219)
                                      have hq1e := tpP_raw hwt1 hwi1 hR hRf hq1
                                      rw [hq1, Option.getD_some, hq1e] at hp17
                                      refine L.yes rfl rfl ?_
                                      refine L.rd (rd_loadN tok rfl rfl rfl hb18.cells rfl) rfl ?_
                                      refine L.yes rfl rfl ?_
                                      refine L.rd (rd_loadN tok rfl rfl rfl hb13.cells rfl) rfl ?_
                                      refine L.yes rfl rfl ?_
                                      refine L.ef (e_call rfl (eqPoly_ok _ _ L17 L12 _ hT17 hT12 (by rw [hp17]; exact canon_sm hR.canon)) rfl ?_)
                                      rintro _ u19 ⟨rfl, he19⟩
                                      replace hE := hE.ext he19
                                      refine L.yes rfl rfl ?_
                                      first | refine L.rd (rd_not rfl) rfl ?_ | refine L.rd (rd_notB rfl) rfl ?_
                                      refine L.rd (rd_pickT rfl rfl) rfl ?_
                                      refine L.nil ?_
                                      refine X.sq ?_
                                      first | refine V.cond rfl (fun h224 => ?_) (fun h224 => ?_) | refine V.condB rfl (fun h224 => ?_) (fun h224 => ?_)
                                      ·
                                        exact absurd (hp17.trans hq12.symm) h224
                                      ·
                                        refine V.skip ?_
                                        refine X.sq ?_
                                        refine V.seq ?_
                                        refine V.region ?_
                                        refine L.rd (rd_assign rfl) rfl ?_
                                        refine L.nil ?_
                                        refine X.sq ?_
                                        refine V.ret ?_
                                        refine ret_1 Yaam.results3 rfl ?_
                                        exact ⟨rfl, hE⟩
                                    ·
                                      refine L.no rfl rfl rfl rfl ?_
                                      refine L.no rfl rfl rfl rfl ?_
                                      refine L.no rfl rfl rfl rfl ?_
                                      refine L.no rfl rfl rfl rfl ?_
                                      refine L.rd (rd_pickF rfl rfl) rfl ?_
                                      refine L.nil ?_
                                      refine X.sq ?_
                                      refine V.condF rfl ?_
                                      refine V.skip ?_
                                      refine X.sq ?_
                                      refine V.seq ?_
                                      refine V.region ?_
                                      refine L.rd (rd_assign rfl) rfl ?_
                                      refine L.nil ?_
                                      refine X.sq ?_
                                      refine V.ret ?_
                                      refine ret_1 Yaam.results3 rfl ?_
                                      exact ⟨rfl, hE⟩
                            ·
                              refine V.skip ?_
                              refine X.sq ?_
                              refine V.seq ?_
                              refine V.region ?_
                              refine L.rd (rd_assign rfl) rfl ?_
                              refine L.nil ?_
                              refine X.sq ?_
                              refine V.ret ?_
                              refine ret_1 Yaam.results3 rfl ?_
                              exact ⟨rfl, hE⟩
                      ·
                        refine V.skip ?_
                        refine X.sq ?_
                        refine V.seq ?_
                        refine V.region ?_
                        refine L.rd (rd_assign rfl) rfl ?_
                        refine L.nil ?_
                        refine X.sq ?_
                        refine V.ret ?_
                        refine ret_1 Yaam.results3 rfl ?_
                        exact ⟨rfl, hE⟩
                  ·
                    refine L.yes rfl rfl ?_
                    refine L.rd (rd_move rfl) rfl ?_
                    refine L.yes rfl rfl ?_
                    refine L.rd (rd_geq rfl rfl) rfl ?_
                    refine L.yes rfl rfl ?_
                    refine L.rd (rd_pickF rfl rfl) rfl ?_
                    refine L.yes rfl rfl ?_
                    refine L.ef (e_call rfl (okS_ok _ _ _ _ (fun h => by have := der_rng h; first | (exfalso; omega) | exact decide_eq_false (by omega)) (fun h => tx_none h)) rfl ?_)
                    rintro _ u3 ⟨rfl, hd3⟩
                    replace hE := hE.ext hd3
                    refine L.yes rfl rfl ?_
                    first | refine L.rd (rd_not rfl) rfl ?_ | refine L.rd (rd_notB rfl) rfl ?_
                    refine L.rd (rd_pickF rfl rfl) rfl ?_
                    refine L.nil ?_
                    refine X.sq ?_
                    first | refine V.cond rfl (fun h169 => ?_) (fun h169 => ?_) | refine V.condB rfl (fun h169 => ?_) (fun h169 => ?_)
                    ·
                      cases h169
                    ·
                      refine V.skip ?_
                      refine X.sq ?_
                      refine V.seq ?_
                      refine V.seq ?_
                      refine V.region ?_
                      refine L.rd (rd_move rfl) rfl ?_
                      refine L.nil ?_
                      refine X.sq ?_
                      first | refine V.cond rfl (fun h170 => ?_) (fun h170 => ?_) | refine V.condB rfl (fun h170 => ?_) (fun h170 => ?_)
                      ·
                        obtain ⟨x, hx⟩ := Option.isSome_iff_exists.1 (by simpa using h170)
                        obtain ⟨t, R, ht, hy, hR, hRe, rfl⟩ := der_some hx
                        simp only [hx, Option.getD_some]
                        obtain ⟨hwt, hwi, hsz⟩ := src_wt ht
                        have hwz := cn_wz t hwt
                        have hwzs := hwz.sz
                        have hcwi := cn_wi t hwi
                        obtain ⟨hPo, hsrc, hRf⟩ := round hR
                        obtain ⟨hwt1, hwi1, hsz1⟩ := src_wt hsrc
                        have hlx := printP_lex hPo
                        have hps := parse_of_src hlx hsrc
                        have hpl := printP_len hPo
                        have hbl : bl (mkS (printP (toP R))) = printP (toP R) := bl_mkS _ (printP_lt hPo)
                        refine V.seq ?_
                        refine V.region ?_
                        refine L.rd (rd_move rfl) rfl ?_
                        refine L.ef (e_call rfl (parseSrc_ok s _ (by omega)) rfl ?_)
                        rintro _ u4 ⟨nv4, ns4, root4, rfl, ho4, hg4, hn4, he4⟩
                        rw [ht] at hg4 ⊢
                        obtain ⟨rfl, rfl⟩ := hg4 t rfl
                        obtain ⟨na4, nc4, rfl⟩ := own_form ho4
                        replace hE := hE.ext he4
                        refine L.rd (rd_move rfl) rfl ?_
                        refine L.rd (rd_ext0 rfl) rfl ?_
                        refine L.rd (rd_ext1 rfl) rfl ?_
                        refine L.ef (e_alloc (cs := [_, _]) tok rfl rfl (by first | (simp only [size_addB, size_setB, size_drew]; rfl) | rfl) rfl ?_)
                        refine L.ef (e_store (vs := [_, _]) tok rfl rfl rfl rfl (by (repeat (first | assumption | (refine Bl.new' ?_ _ _; first | with_reducible rfl | (simp only [size_addB, size_setB, size_drew]; done)) | apply Bl.add | apply Bl.drew | (apply Bl.setNe; omega) | (refine Bl.set' ?_ _ _; (try simp only [size_addB, size_setB, size_drew]); omega)))) rfl (by simp [Value.oneCell']) (by simp) ?_)
                        refine L.rd (rd_assign rfl) rfl ?_
                        refine L.nil ?_
                        refine X.sq ?_
                        refine V.seq ?_
                        refine V.seq ?_
                        generalize hw5 : setB _ _ _ _ = u5
                        have he5 := ext_of_new hw5
                        have hb5 : Bl u5 u4.heap.size 28 [.slice na4 (flat t 0).length nc4, .int .i64 ((tsz t : Int) - 1)] := bl_of_new hw5
                        have hN5 := (Rs.of_own ho4).le he5.leC
                        replace hE := hE.ext he5
                        refine V.region ?_
                        refine L.rd (rd_move rfl) rfl ?_
                        first | refine L.rd (rd_not rfl) rfl ?_ | refine L.rd (rd_notB rfl) rfl ?_
                        refine L.nil ?_
                        refine X.sq ?_
                        first | refine V.cond rfl (fun h177 => ?_) (fun h177 => ?_) | refine V.condB rfl (fun h177 => ?_) (fun h177 => ?_)
                        ·
                          first | cases h177 | simp at h177
                        ·
                          refine V.skip ?_
                          refine X.sq ?_
                          refine V.seq ?_
                          refine V.region ?_
                          refine L.rd (rd_loadN tok rfl rfl rfl hb5.cells rfl) rfl ?_
                          refine L.ef (e_call rfl (scanon_ok t hwt hsz _ _ hN5) rfl ?_)
                          rintro _ u8 ⟨nv8, ns8, root8, rfl, ho8, hg8, hn8, he8⟩
                          obtain ⟨rfl, rfl⟩ := hg8 (cn t) rfl
                          obtain ⟨na8, nc8, rfl⟩ := own_form ho8
                          replace hE := hE.ext he8
                          refine L.rd (rd_move rfl) rfl ?_
                          refine L.rd (rd_ext0 rfl) rfl ?_
                          refine L.rd (rd_ext1 rfl) rfl ?_
                          refine L.ef (e_alloc (cs := [_, _]) tok rfl rfl (by first | (simp only [size_addB, size_setB, size_drew]; rfl) | rfl) rfl ?_)
                          refine L.ef (e_store (vs := [_, _]) tok rfl rfl rfl rfl (by (repeat (first | assumption | (refine Bl.new' ?_ _ _; first | with_reducible rfl | (simp only [size_addB, size_setB, size_drew]; done)) | apply Bl.add | apply Bl.drew | (apply Bl.setNe; omega) | (refine Bl.set' ?_ _ _; (try simp only [size_addB, size_setB, size_drew]); omega)))) rfl (by simp [Value.oneCell']) (by simp) ?_)
                          refine L.rd (rd_assign rfl) rfl ?_
                          refine L.nil ?_
                          refine X.sq ?_
                          refine V.seq ?_
                          refine V.seq ?_
                          generalize hw9 : setB _ _ _ _ = u9
                          have he9 := ext_of_new hw9
                          have hb9 : Bl u9 u8.heap.size 28 [.slice na8 (flat (cn t) 0).length nc8, .int .i64 ((tsz (cn t) : Int) - 1)] := bl_of_new hw9
                          have hN9 := (Rs.of_own ho8).le he9.leC
                          replace hE := hE.ext he9
                          refine V.region ?_
                          refine L.rd (rd_move rfl) rfl ?_
                          first | refine L.rd (rd_not rfl) rfl ?_ | refine L.rd (rd_notB rfl) rfl ?_
                          refine L.nil ?_
                          refine X.sq ?_
                          first | refine V.cond rfl (fun h184 => ?_) (fun h184 => ?_) | refine V.condB rfl (fun h184 => ?_) (fun h184 => ?_)
                          ·
                            first | cases h184 | simp at h184
                          ·
                            refine V.skip ?_
                            refine X.sq ?_
                            refine V.seq ?_
                            refine V.region ?_
                            refine L.rd (rd_loadN tok rfl rfl rfl hb9.cells rfl) rfl ?_
                            refine L.ef (e_call rfl (stopoly_ok (cn t) hwz.wt hcwi (by omega) _ _ hN9) rfl ?_)
                            rintro _ u10 ⟨v10, L10, rfl, hT10, hp10, he10⟩
                            obtain ⟨qa, qc, rfl, -⟩ := hT10.form
                            replace hE := hE.ext he10
                            refine L.rd (rd_move rfl) rfl ?_
                            refine L.rd (rd_ext0 rfl) rfl ?_
                            refine L.rd (rd_ext1 rfl) rfl ?_
                            refine L.ef (e_alloc (cs := [_]) tok rfl rfl (by first | (simp only [size_addB, size_setB, size_drew]; rfl) | rfl) rfl ?_)
                            refine L.ef (e_store (vs := [_]) tok rfl rfl rfl rfl (by (repeat (first | assumption | (refine Bl.new' ?_ _ _; first | with_reducible rfl | (simp only [size_addB, size_setB, size_drew]; done)) | apply Bl.add | apply Bl.drew | (apply Bl.setNe; omega) | (refine Bl.set' ?_ _ _; (try simp only [size_addB, size_setB, size_drew]); omega)))) rfl (by simp [Value.oneCell']) (by simp) ?_)
                            refine L.rd (rd_assign rfl) rfl ?_
                            refine L.nil ?_
                            refine X.sq ?_
                            refine V.seq ?_
                            generalize hw11 : setB _ _ _ _ = u11
                            have he11 := ext_of_new hw11
                            have hb11 : Bl u11 u10.heap.size 34 [.slice qa L10.length qc] := bl_of_new hw11
                            replace hE := hE.ext he11
                            replace hT10 := hT10.ext he11
                            refine V.region ?_
                            refine L.rd (rd_move rfl) rfl ?_
                            refine L.nil ?_
                            refine X.sq ?_
                            first | refine V.cond rfl (fun h190 => ?_) (fun h190 => ?_) | refine V.condB rfl (fun h190 => ?_) (fun h190 => ?_)
                            ·
                              obtain ⟨q0, hq0⟩ := Option.isSome_iff_exists.1 (by simpa using h190)
                              obtain ⟨R0, hR0, rfl, hR0e⟩ := tpP_cm hwz.wt hcwi hq0
                              rw [hq0, Option.getD_some] at hp10
                              have hdf : difP (pol L10) y = some (toP R) := by rw [hp10]; exact der_eq hy hR0 hR hwz.wt hR0e hRe
                              refine V.seq ?_
                              refine V.region ?_
                              refine L.rd (rd_loadN tok rfl rfl rfl hb11.cells rfl) rfl ?_
                              refine L.rd (rd_move rfl) rfl ?_
                              refine L.ef (e_call rfl (sdiffP_ok _ L10 y _ hT10 (by rw [hp10]; exact canon_sm hR0.canon)) rfl ?_)
                              rintro _ u12 ⟨v12, L12, rfl, hO12, hq12, he12⟩
                              rw [hdf, Option.getD_some] at hq12
                              rw [hdf]
                              obtain ⟨a12, c12, rfl⟩ := own_form hO12.top
                              have hT12 := hO12.tl
                              replace hE := hE.ext he12
                              refine L.rd (rd_move rfl) rfl ?_
                              refine L.rd (rd_ext0 rfl) rfl ?_
                              refine L.rd (rd_ext1 rfl) rfl ?_
                              refine L.ef (e_alloc (cs := [_]) tok rfl rfl (by first | (simp only [size_addB, size_setB, size_drew]; rfl) | rfl) rfl ?_)
                              refine L.ef (e_store (vs := [_]) tok rfl rfl rfl rfl (by (repeat (first | assumption | (refine Bl.new' ?_ _ _; first | with_reducible rfl | (simp only [size_addB, size_setB, size_drew]; done)) | apply Bl.add | apply Bl.drew | (apply Bl.setNe; omega) | (refine Bl.set' ?_ _ _; (try simp only [size_addB, size_setB, size_drew]); omega)))) rfl (by simp [Value.oneCell']) (by simp) ?_)
                              refine L.rd (rd_assign rfl) rfl ?_
                              refine L.nil ?_
                              refine X.sq ?_
                              refine V.seq ?_
                              refine V.seq ?_
                              generalize hw13 : setB _ _ _ _ = u13
                              have he13 := ext_of_new hw13
                              have hb13 : Bl u13 u12.heap.size 34 [.slice a12 L12.length c12] := bl_of_new hw13
                              replace hE := hE.ext he13
                              replace hT12 := hT12.ext he13
                              refine V.region ?_
                              refine L.rd (rd_move rfl) rfl ?_
                              first | refine L.rd (rd_not rfl) rfl ?_ | refine L.rd (rd_notB rfl) rfl ?_
                              refine L.nil ?_
                              refine X.sq ?_
                              first | refine V.cond rfl (fun h198 => ?_) (fun h198 => ?_) | refine V.condB rfl (fun h198 => ?_) (fun h198 => ?_)
                              ·
                                first | cases h198 | simp at h198
                              ·
                                refine V.skip ?_
                                refine X.sq ?_
                                refine V.seq ?_
                                refine V.region ?_
                                refine L.rd (rd_move rfl) rfl ?_
                                refine L.ef (e_call rfl (ilex_ok (mkS (printP (toP R))) _ (by rw [mkS_size]; omega)) rfl ?_)
                                rintro _ u14 ⟨sv14, rfl, ho14, he14⟩
                                rw [hbl, hlx] at ho14
                                rw [hbl, hlx]
                                obtain ⟨sa, sn, rfl⟩ := slice_form ho14
                                simp only [Option.getD_some, Option.isSome_some] at ho14 ⊢
                                replace hE := hE.ext he14
                                replace hT12 := hT12.ext he14
                                replace hb13 := hb13.ext he14
                                refine L.rd (rd_move rfl) rfl ?_
                                refine L.rd (rd_ext0 rfl) rfl ?_
                                refine L.rd (rd_ext1 rfl) rfl ?_
                                refine L.rd (rd_assign rfl) rfl ?_
                                refine L.rd (rd_assign rfl) rfl ?_
                                refine L.nil ?_
                                refine X.sq ?_
                                refine V.seq ?_
                                refine V.seq ?_
                                refine V.region ?_
                                refine L.rd (rd_move rfl) rfl ?_
                                first | refine L.rd (rd_not rfl) rfl ?_ | refine L.rd (rd_notB rfl) rfl ?_
                                refine L.nil ?_
                                refine X.sq ?_
                                first | refine V.cond rfl (fun h205 => ?_) (fun h205 => ?_) | refine V.condB rfl (fun h205 => ?_) (fun h205 => ?_)
                                ·
                                  first | cases h205 | simp at h205
                                ·
                                  refine V.skip ?_
                                  refine X.sq ?_
                                  refine V.seq ?_
                                  refine V.region ?_
                                  refine L.rd (rd_move rfl) rfl ?_
                                  refine L.ef (e_call rfl (iparse_ok _ (ptk (toP R)) _ (Rr.of_own (own_low ho14 (Nat.zero_le _)) (fun k hk => (own_block_lt ho14 hk).2))) rfl ?_)
                                  rintro _ u15 ⟨nv15, ns15, root15, rfl, ho15, hg15, hn15, he15⟩
                                  rw [hps] at hg15 ⊢
                                  obtain ⟨rfl, rfl⟩ := hg15 _ rfl
                                  obtain ⟨na15, nc15, rfl⟩ := own_form ho15
                                  replace hE := hE.ext he15
                                  replace hT12 := hT12.ext he15
                                  replace hb13 := hb13.ext he15
                                  refine L.rd (rd_move rfl) rfl ?_
                                  refine L.rd (rd_ext0 rfl) rfl ?_
                                  refine L.rd (rd_ext1 rfl) rfl ?_
                                  refine L.ef (e_alloc (cs := [_, _]) tok rfl rfl (by first | (simp only [size_addB, size_setB, size_drew]; rfl) | rfl) rfl ?_)
                                  refine L.ef (e_store (vs := [_, _]) tok rfl rfl rfl rfl (by (repeat (first | assumption | (refine Bl.new' ?_ _ _; first | with_reducible rfl | (simp only [size_addB, size_setB, size_drew]; done)) | apply Bl.add | apply Bl.drew | (apply Bl.setNe; omega) | (refine Bl.set' ?_ _ _; (try simp only [size_addB, size_setB, size_drew]); omega)))) rfl (by simp [Value.oneCell']) (by simp) ?_)
                                  refine L.rd (rd_assign rfl) rfl ?_
                                  refine L.nil ?_
                                  refine X.sq ?_
                                  refine V.seq ?_
                                  refine V.seq ?_
                                  generalize hw16 : setB _ _ _ _ = u16
                                  have he16 := ext_of_new hw16
                                  have hb16 : Bl u16 u15.heap.size 28 [.slice na15 (flat (ptre (toP R)) 0).length nc15, .int .i64 ((tsz (ptre (toP R)) : Int) - 1)] := bl_of_new hw16
                                  have hN16 := (Rs.of_own ho15).le he16.leC
                                  replace hE := hE.ext he16
                                  replace hT12 := hT12.ext he16
                                  replace hb13 := hb13.ext he16
                                  refine V.region ?_
                                  refine L.rd (rd_move rfl) rfl ?_
                                  first | refine L.rd (rd_not rfl) rfl ?_ | refine L.rd (rd_notB rfl) rfl ?_
                                  refine L.nil ?_
                                  refine X.sq ?_
                                  first | refine V.cond rfl (fun h212 => ?_) (fun h212 => ?_) | refine V.condB rfl (fun h212 => ?_) (fun h212 => ?_)
                                  ·
                                    first | cases h212 | simp at h212
                                  ·
                                    refine V.skip ?_
                                    refine X.sq ?_
                                    refine V.seq ?_
                                    refine V.region ?_
                                    refine L.rd (rd_loadN tok rfl rfl rfl hb16.cells rfl) rfl ?_
                                    refine L.ef (e_call rfl (itopoly_ok (ptre (toP R)) hwt1 hwi1 hsz1 _ _ hN16) rfl ?_)
                                    rintro _ u17 ⟨v17, L17, rfl, hT17, hp17, he17⟩
                                    obtain ⟨ga, gc, rfl, -⟩ := hT17.form
                                    replace hE := hE.ext he17
                                    replace hT12 := hT12.ext he17
                                    replace hb13 := hb13.ext he17
                                    refine L.rd (rd_move rfl) rfl ?_
                                    refine L.rd (rd_ext0 rfl) rfl ?_
                                    refine L.rd (rd_ext1 rfl) rfl ?_
                                    refine L.ef (e_alloc (cs := [_]) tok rfl rfl (by first | (simp only [size_addB, size_setB, size_drew]; rfl) | rfl) rfl ?_)
                                    refine L.ef (e_store (vs := [_]) tok rfl rfl rfl rfl (by (repeat (first | assumption | (refine Bl.new' ?_ _ _; first | with_reducible rfl | (simp only [size_addB, size_setB, size_drew]; done)) | apply Bl.add | apply Bl.drew | (apply Bl.setNe; omega) | (refine Bl.set' ?_ _ _; (try simp only [size_addB, size_setB, size_drew]); omega)))) rfl (by simp [Value.oneCell']) (by simp) ?_)
                                    refine L.rd (rd_assign rfl) rfl ?_
                                    refine L.nil ?_
                                    refine X.sq ?_
                                    refine V.seq ?_
                                    generalize hw18 : setB _ _ _ _ = u18
                                    have he18 := ext_of_new hw18
                                    have hb18 : Bl u18 u17.heap.size 34 [.slice ga L17.length gc] := bl_of_new hw18
                                    replace hE := hE.ext he18
                                    replace hT12 := hT12.ext he18
                                    replace hb13 := hb13.ext he18
                                    replace hT17 := hT17.ext he18
                                    refine V.region ?_
                                    refine L.rd (rd_move rfl) rfl ?_
                                    refine L.rd (rd_move rfl) rfl ?_
                                    first | refine L.partG rfl rfl (fun g219 => ?_) (fun g219 => ?_) | refine L.partGB rfl rfl (fun g219 => ?_) (fun g219 => ?_)
                                    ·
                                      obtain ⟨q1, hq1⟩ := Option.isSome_iff_exists.1 (by simpa using g219)
                                      have hq1e := tpP_raw hwt1 hwi1 hR hRf hq1
                                      rw [hq1, Option.getD_some, hq1e] at hp17
                                      refine L.yes rfl rfl ?_
                                      refine L.rd (rd_loadN tok rfl rfl rfl hb18.cells rfl) rfl ?_
                                      refine L.yes rfl rfl ?_
                                      refine L.rd (rd_loadN tok rfl rfl rfl hb13.cells rfl) rfl ?_
                                      refine L.yes rfl rfl ?_
                                      refine L.ef (e_call rfl (eqPoly_ok _ _ L17 L12 _ hT17 hT12 (by rw [hp17]; exact canon_sm hR.canon)) rfl ?_)
                                      rintro _ u19 ⟨rfl, he19⟩
                                      replace hE := hE.ext he19
                                      refine L.yes rfl rfl ?_
                                      first | refine L.rd (rd_not rfl) rfl ?_ | refine L.rd (rd_notB rfl) rfl ?_
                                      refine L.rd (rd_pickT rfl rfl) rfl ?_
                                      refine L.nil ?_
                                      refine X.sq ?_
                                      first | refine V.cond rfl (fun h224 => ?_) (fun h224 => ?_) | refine V.condB rfl (fun h224 => ?_) (fun h224 => ?_)
                                      ·
                                        exact absurd (hp17.trans hq12.symm) h224
                                      ·
                                        refine V.skip ?_
                                        refine X.sq ?_
                                        refine V.seq ?_
                                        refine V.region ?_
                                        refine L.rd (rd_assign rfl) rfl ?_
                                        refine L.nil ?_
                                        refine X.sq ?_
                                        refine V.ret ?_
                                        refine ret_1 Yaam.results3 rfl ?_
                                        exact ⟨rfl, hE⟩
                                    ·
                                      refine L.no rfl rfl rfl rfl ?_
                                      refine L.no rfl rfl rfl rfl ?_
                                      refine L.no rfl rfl rfl rfl ?_
                                      refine L.no rfl rfl rfl rfl ?_
                                      refine L.rd (rd_pickF rfl rfl) rfl ?_
                                      refine L.nil ?_
                                      refine X.sq ?_
                                      refine V.condF rfl ?_
                                      refine V.skip ?_
                                      refine X.sq ?_
                                      refine V.seq ?_
                                      refine V.region ?_
                                      refine L.rd (rd_assign rfl) rfl ?_
                                      refine L.nil ?_
                                      refine X.sq ?_
                                      refine V.ret ?_
                                      refine ret_1 Yaam.results3 rfl ?_
                                      exact ⟨rfl, hE⟩
                            ·
                              refine V.skip ?_
                              refine X.sq ?_
                              refine V.seq ?_
                              refine V.region ?_
                              refine L.rd (rd_assign rfl) rfl ?_
                              refine L.nil ?_
                              refine X.sq ?_
                              refine V.ret ?_
                              refine ret_1 Yaam.results3 rfl ?_
                              exact ⟨rfl, hE⟩
                      ·
                        refine V.skip ?_
                        refine X.sq ?_
                        refine V.seq ?_
                        refine V.region ?_
                        refine L.rd (rd_assign rfl) rfl ?_
                        refine L.nil ?_
                        refine X.sq ?_
                        refine V.ret ?_
                        refine ret_1 Yaam.results3 rfl ?_
                        exact ⟨rfl, hE⟩
open Go.ChangeShapes Go.WideShapes Go.ChangeAt Go.RowKit
open Go.ChangeMaps (open_string shut_string)
theorem own : ownKnob Yaam.prog.godebug = none := by kernel_rfl
theorem laidOut : laidOutB Yaam.prog = true := by kernel_rfl
theorem readable0 : Yaam.prog.readableRec 9 = true := by kernel_rfl
theorem readable1 : Yaam.prog.readableRec 3 = true := by kernel_rfl
theorem readable2 : Yaam.prog.readableRec 22 = true := by kernel_rfl

set_option maxRecDepth 100000 in
theorem lifted (os : Os) (started : os.Started) (H : Type) (enc : TypeId × Value → H) :
    ReturnsInHanded {} Yaam.checked os 3 .any (Rows.fnTopSpec.pre6 enc Yaam.prog Yaam.f3 Rows.fnTopRow.domain false) (Rows.fnTopSpec.post enc Yaam.prog Yaam.f3 false true false false) := by
  refine returnsInHanded_of_change_sized (C := Yaam.checked) own started (by kernel_rfl) Yaam.func3
    (ChangeSpec.witness6 (enc := enc) (C := Yaam.checked) false ⟨#[], #[.string ByteArray.empty, .int .i64 0, .slice none 0 0], []⟩ 8 (by kernel_rfl) (by kernel_rfl) (by kernel_rfl) (by kernel_rfl)) ?_
  intro W base args ds gs before hval0 hW hcnd hwt0 _
  have hval : ∀ (j : Nat) t v, Yaam.f3.params[j]? = some t → args[j]? = some v → Value.okWide Yaam.prog W .any base t v := hval0
  have hwt : (DataW.weightsEach Yaam.prog (Yaam.f3.params.toList ++ _) (ds ++ gs)).all (· ≤ reachBytes) = true := hwt0
  have hW' := hW
  obtain ⟨p, q, hA0, hV, rfl, hfz, hnd⟩ := hW
  have hA : DataW.TrodAll enc Yaam.prog W 0 (fun _ => true) true Yaam.f3.params.toList args.toList ds p := hA0
  rw [Yaam.params3] at hA hval hwt
  obtain ⟨v0, vs0, d0, ds0, p0, q0, hargs0, rfl, rfl, h0, r0⟩ := trodAll_cons hA
  obtain ⟨v1, vs1, d1, ds1, p1, q1, hargs1, rfl, rfl, h1, r1⟩ := trodAll_cons r0
  obtain ⟨v2, vs2, d2, ds2, p2, q2, hargs2, rfl, rfl, h2, r2⟩ := trodAll_cons r1
  obtain ⟨hnil, rfl, rfl⟩ := trodAll_nil r2
  obtain rfl : args = #[v0, v1, v2] := by cases args; simp_all
  obtain ⟨rfl, rfl⟩ := trodVars_none hV
  have hok0 := hval 0 9 v0 rfl rfl
  obtain ⟨s0, rfl, -, -, hs0⟩ := open_string Yaam.underlying9 hok0 h0
  have hok1 := hval 1 3 v1 rfl rfl
  obtain ⟨n1, rfl, -, -, hn1⟩ := open_int Yaam.underlying3 hok1 h1
  have hok2 := hval 2 22 v2 rfl rfl
  have hww2 := weights_arg hwt (j := 2) rfl rfl
  obtain ⟨fuel2, hy2⟩ := id h2
  rw [one_cell Yaam.underlying22 hok2] at hy2
  obtain ⟨zs2, hR2, hl2, hz2⟩ := ints_of_trod Yaam.underlying22 (by kernel_rfl) (by kernel_rfl) (by decide +kernel) hy2 hww2
  clear hA0 hval0
  simp only [List.append_nil] at hW'
  refine (law s0 n1 v2 zs2 W hR2 (fun x hx => wrap_i64_in (by have := hz2 x hx; unfold I64 at this; omega))).call.mono fun e W' ⟨v, he, hv, hg⟩ => ?_
  subst he hv
  exact ⟨_, rfl, post_belowE (pv := []) hW' (fun _ _ _ => (trodAll_mk1 (shut_bool Yaam.underlying4 _))) (trodAll_mk3 (Below.trod laidOut readable0 (by decide +kernel) h0 hg.below (fun x hx => hW'.lt x (by first | exact hx | (simp only [List.mem_append]; simp [hx])))) (Below.trod laidOut readable1 (by decide +kernel) h1 hg.below (fun x hx => hW'.lt x (by first | exact hx | (simp only [List.mem_append]; simp [hx])))) (Below.trod laidOut readable2 (by decide +kernel) h2 hg.below (fun x hx => hW'.lt x (by first | exact hx | (simp only [List.mem_append]; simp [hx]))))) rfl (by simp) hg⟩

theorem over : Rows.fnTopRow.holds Yaam.pinned (OpenSpec.ofChange Rows.fnTopSpec) :=
  OpenClaim.holds_of_wide 3 Yaam.f3 rfl rfl rfl rfl rfl rfl rfl ⟨rfl, rfl, rfl, rfl, rfl⟩ rfl rfl rfl rfl rfl (by kernel_rfl) Yaam.func3 (by kernel_rfl)
    (of_decide_eq_true (by kernel_rfl)) (by unfold Func.isWrapper; first | (rw [if_pos (by decide +kernel)]; kernel_rfl) | (rw [if_neg (by decide +kernel)]; exact ⟨rfl, rfl⟩))
    (fun os started H enc _ => lifted os started H enc)

theorem proved : Rows.FnTopSaid :=
  over
end Go.Proofs.Ybxaaw.fnTop
