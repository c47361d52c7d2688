/-
  The statement FnNormalizeSaid.
-/
import Derived.Test.YbxaawRows
import Derived.Test.YbxaawRowP
import Derived.Test.YbxaawNmW2
import Derived.Test.YbxaawEqPolyW
import Derived.Test.YbxaawCloneW
import Derived.Test.YbxaawAnsW
import Derived.Test.YbxaawTermW3
import Derived.Test.YbxaawLawP
import Derived.Test.YbxaawRingP
import Derived.WalkKit
import Derived.ProofKit
import Derived.SizedLaws
set_option linter.unusedVariables false
set_option linter.unusedSimpArgs false
set_option maxRecDepth 10000
namespace Go.Mw
theorem normP_ev {q r : List PT} (pt : List Int) (h : normP q = some r) : evalP r pt = evalP q pt := by
  obtain ⟨h1, h2, h3, -⟩ := normP_good h
  have hfr : ∀ t ∈ q, Fr t.2 := fun t ht f hf => by
    have := (inOk_fg h1 t ht).rng f hf
    omega
  rw [evalP_eq pt (canon_fr h2), evalP_eq pt hfr, h3]
  exact (evM_nf pt _).eq
end Go.Mw
namespace Go.Proofs.Ybxaaw.fnNormalize
open Go.Mw

theorem law (va vp : Value) (Ls : List Lt) (pt : List Int) (w : World) (hT : Tl w 0 w.heap.size va Ls) (hP : Rr w 0 w.heap.size 1 vp pt.length (iC .i64 pt)) (hCq : Cq (pol Ls)) (hL : Ls.length ≤ 140737488351232) (hF : ∀ t ∈ Ls, t.2.2.length ≤ 140737488351232) :
    Ret Yaam.prog 9 [va, vp] w fun v w' => v = .bool true ∧ Ext w.heap.size w w' := by
  obtain ⟨aa, ca, rfl, hfa⟩ := hT.form
  obtain ⟨pa, pc, rfl, hfp⟩ := id hP.form
  refine enter2 Yaam.func9 Yaam.ntmps9 (by kernel_rfl) rfl rfl ?_
  refine V.seq ?_
  refine V.region ?_
  refine L.rd (rd_assign rfl) rfl ?_
  refine L.nil ?_
  refine X.sq ?_
  refine V.seq ?_
  have hE := Ext.refl w.heap.size w
  refine V.region ?_
  refine L.rd (rd_assign rfl) rfl ?_
  refine L.nil ?_
  refine X.sq ?_
  refine V.seq ?_
  refine V.region ?_
  refine L.rd (rd_move rfl) rfl ?_
  refine L.rd (rd_move rfl) rfl ?_
  refine L.rd (rd_lenSlice tok rfl rfl rfl) rfl ?_
  (refine L.rd (rd_add3 rfl rfl ?_) rfl ?_; omega)
  refine L.rd (rd_assign rfl) rfl ?_
  refine L.nil ?_
  refine X.sq ?_
  refine V.seq ?_
  refine V.seq ?_
  refine V.region ?_
  refine L.rd (rd_move rfl) rfl ?_
  refine L.rd (rd_gtr rfl rfl) rfl ?_
  refine L.nil ?_
  refine X.sq ?_
  first | refine V.cond rfl (fun h20 => ?_) (fun h20 => ?_) | refine V.condB rfl (fun h20 => ?_) (fun h20 => ?_)
  ·
    refine V.seq ?_
    refine V.region ?_
    refine L.rd (rd_assign rfl) rfl ?_
    refine L.nil ?_
    refine X.sq ?_
    refine V.ret ?_
    refine X.sqRet ?_
    refine ret_1 Yaam.results9 rfl ?_
    exact ⟨rfl, hE⟩
  ·
    refine V.skip ?_
    refine X.sq ?_
    refine V.seq ?_
    refine V.seq ?_
    refine V.region ?_
    refine L.rd (rd_assign rfl) rfl ?_
    refine L.nil ?_
    refine X.sq ?_
    refine V.block ?_
    refine V.loop (fun m l wr => ∃ (k : Nat) (s : Int), l = [(0, .slice aa Ls.length ca), (1, .slice pa pt.length pc), (5, .int .i64 s), (6, .int .i64 k)] ∧ m = Ls.length - k ∧ k ≤ Ls.length ∧ 0 ≤ s ∧ s ≤ 1048576 ∧ (∀ i t, i < k → Ls[i]? = some t → t.2.2.length ≤ 1048576) ∧ w = wr) ?_ ?_
    ·
      exact ⟨_, _, (by repeat' (first | exact trivial | refine ⟨rfl, ?_⟩)), 0, _, rfl, rfl, by omega, by omega, by omega, fun i t h => by omega, rfl⟩
    ·
      rintro m l wr ⟨k, s, rfl, rfl, hk, hs0, hs1, hall, rfl⟩
      refine V.seq ?_
      refine V.seq ?_
      refine V.region ?_
      refine L.rd (rd_move rfl) rfl ?_
      refine L.rd (rd_move rfl) rfl ?_
      refine L.rd (rd_lenSlice tok rfl rfl rfl) rfl ?_
      refine L.rd (rd_lss rfl rfl) rfl ?_
      refine L.nil ?_
      refine X.sq ?_
      first | refine V.cond rfl (fun h24 => ?_) (fun h24 => ?_) | refine V.condB rfl (fun h24 => ?_) (fun h24 => ?_)
      ·
        obtain ⟨b1, o1, rfl, -, -, hc1⟩ := hfa.resolve_left (by omega)
        obtain ⟨⟨c, fv, fs⟩, ht⟩ := nth_of_lt Ls k (by omega)
        have hcx := Tl.cells hc1 ht
        obtain ⟨fa, fc, hfv, hff⟩ := hT.nth ht
        have hFk := hF _ (List.mem_of_getElem? ht)
        simp only at hfv hff hcx hFk
        subst hfv
        refine V.skip ?_
        refine X.sq ?_
        refine V.seq ?_
        refine V.block ?_
        refine V.seq ?_
        refine V.region ?_
        refine L.rd (rd_move rfl) rfl ?_
        refine L.rd (rd_move rfl) rfl ?_
        refine L.rd (rd_move rfl) rfl ?_
        (refine L.rd (rd_indexSlice (sz := 2) tok rfl rfl rfl rfl rfl rfl rfl ?_) rfl ?_; omega)
        refine L.rd (rd_fieldAddr tok rfl rfl rfl rfl rfl rfl) rfl ?_
        refine L.rd (rd_load1 tok rfl rfl rfl (hcx.at_ 1 _ rfl)) rfl ?_
        refine L.rd (rd_lenSlice tok rfl rfl rfl) rfl ?_
        (refine L.rd (rd_add3 rfl rfl ?_) rfl ?_; omega)
        refine L.rd (rd_assign rfl) rfl ?_
        refine L.nil ?_
        refine X.sq ?_
        refine V.seq ?_
        refine V.region ?_
        refine L.rd (rd_move rfl) rfl ?_
        refine L.rd (rd_gtr rfl rfl) rfl ?_
        refine L.nil ?_
        refine X.sq ?_
        first | refine V.cond rfl (fun h36 => ?_) (fun h36 => ?_) | refine V.condB rfl (fun h36 => ?_) (fun h36 => ?_)
        ·
          refine V.seq ?_
          refine V.region ?_
          refine L.rd (rd_assign rfl) rfl ?_
          refine L.nil ?_
          refine X.sq ?_
          refine V.ret ?_
          refine X.bkRet ?_
          refine X.sqRet ?_
          refine X.lpRet ?_
          refine X.bkRet ?_
          refine X.sqRet ?_
          refine ret_1 Yaam.results9 rfl ?_
          exact ⟨rfl, hE⟩
        ·
          refine V.skip ?_
          refine X.bk ?_
          refine X.sq ?_
          refine V.region ?_
          refine L.rd (rd_move rfl) rfl ?_
          (refine L.rd (rd_add3 rfl rfl ?_) rfl ?_; omega)
          refine L.rd (rd_assign rfl) rfl ?_
          refine L.nil ?_
          refine X.lp ⟨_, _, by omega, (by repeat' (first | exact trivial | refine ⟨rfl, ?_⟩)), k + 1, _, rfl, rfl, by omega, by omega, by omega, fun i t hi hti => ?_, rfl⟩
          rcases Nat.lt_or_ge i k with h | h
          · exact hall i t h hti
          · obtain rfl : i = k := by omega
            rw [ht] at hti
            simp only [Option.some.injEq] at hti
            subst hti
            simp only []; omega
      ·
        refine V.exit ?_
        refine X.sqExit ?_
        refine X.lpExit ?_
        refine X.bkHere ?_
        refine X.sq ?_
        refine V.seq ?_
        refine V.seq ?_
        have hS : Sm (pol Ls) := ⟨by rw [pol_length]; omega, fun t ht => by
          simp only [pol, List.mem_map] at ht
          obtain ⟨u, hu, rfl⟩ := ht
          obtain ⟨i, hi⟩ := List.getElem?_of_mem hu
          have hil := (List.getElem?_eq_some_iff.1 hi).1
          have := hall i u (by omega) hi
          simp only []; omega⟩
        refine V.region ?_
        refine L.rd (rd_move rfl) rfl ?_
        refine L.rd (rd_gtr rfl rfl) rfl ?_
        refine L.nil ?_
        refine X.sq ?_
        first | refine V.cond rfl (fun h38 => ?_) (fun h38 => ?_) | refine V.condB rfl (fun h38 => ?_) (fun h38 => ?_)
        ·
          refine V.seq ?_
          refine V.region ?_
          refine L.rd (rd_assign rfl) rfl ?_
          refine L.nil ?_
          refine X.sq ?_
          refine V.ret ?_
          refine X.sqRet ?_
          refine ret_1 Yaam.results9 rfl ?_
          exact ⟨rfl, hE⟩
        ·
          refine V.skip ?_
          refine X.sq ?_
          refine V.seq ?_
          refine V.seq ?_
          refine V.region ?_
          refine L.rd (rd_move rfl) rfl ?_
          refine L.rd (rd_lenSlice tok rfl rfl rfl) rfl ?_
          refine L.rd (rd_gtr rfl rfl) rfl ?_
          refine L.rd (rd_move rfl) rfl ?_
          first | refine L.partG rfl rfl (fun g42 => ?_) (fun g42 => ?_) | refine L.partGB rfl rfl (fun g42 => ?_) (fun g42 => ?_)
          ·
            refine L.no rfl rfl rfl rfl ?_
            refine L.no rfl rfl rfl rfl ?_
            refine L.no rfl rfl rfl rfl ?_
            refine L.rd (rd_pickT rfl rfl) rfl ?_
            refine L.nil ?_
            refine X.sq ?_
            refine V.condT rfl ?_
            refine V.seq ?_
            refine V.region ?_
            refine L.rd (rd_assign rfl) rfl ?_
            refine L.nil ?_
            refine X.sq ?_
            refine V.ret ?_
            refine X.sqRet ?_
            refine ret_1 Yaam.results9 rfl ?_
            exact ⟨rfl, hE⟩
          ·
            refine L.yes rfl rfl ?_
            refine L.rd (rd_move rfl) rfl ?_
            refine L.yes rfl rfl ?_
            refine L.rd (rd_lenSlice tok rfl rfl rfl) rfl ?_
            refine L.yes rfl rfl ?_
            refine L.rd (rd_gtr rfl rfl) rfl ?_
            refine L.rd (rd_pickF rfl rfl) rfl ?_
            refine L.nil ?_
            refine X.sq ?_
            first | refine V.cond rfl (fun h46 => ?_) (fun h46 => ?_) | refine V.condB rfl (fun h46 => ?_) (fun h46 => ?_)
            ·
              refine V.seq ?_
              refine V.region ?_
              refine L.rd (rd_assign rfl) rfl ?_
              refine L.nil ?_
              refine X.sq ?_
              refine V.ret ?_
              refine X.sqRet ?_
              refine ret_1 Yaam.results9 rfl ?_
              exact ⟨rfl, hE⟩
            ·
              refine V.skip ?_
              refine X.sq ?_
              refine V.seq ?_
              refine V.region ?_
              refine L.rd (rd_move rfl) rfl ?_
              refine L.ef (e_call rfl (cloneTermsI_ok _ Ls _ hT hS) rfl ?_)
              rintro v1 w1 ⟨L1, hO1, hq1, he1⟩
              obtain ⟨a1, c1, rfl⟩ := own_form hO1.top
              have hS1 : Sm (pol L1) := hq1 ▸ hS
              have hqc : Cq (pol L1) := hq1 ▸ hCq
              replace hE := hE.ext he1
              replace hT := hT.ext he1
              replace hP := hP.ext he1
              refine L.rd (rd_assign rfl) rfl ?_
              refine L.nil ?_
              refine X.sq ?_
              refine V.seq ?_
              refine V.region ?_
              refine L.rd (rd_move rfl) rfl ?_
              refine L.ef (e_call rfl (keepFactors_ok _ L1 _ hO1.tl hS1) rfl ?_)
              rintro vk w2 ⟨hK, he2⟩
              obtain ⟨ak, ck, rfl, -⟩ := id hK.form
              replace hE := hE.ext he2
              replace hT := hT.ext he2
              replace hP := hP.ext he2
              replace hO1 := hO1.ext he2
              refine L.rd (rd_assign rfl) rfl ?_
              refine L.nil ?_
              refine X.sq ?_
              refine V.seq ?_
              refine V.region ?_
              refine L.rd (rd_move rfl) rfl ?_
              refine L.ef (e_call rfl (inorm_ok _ L1 _ hO1.tl hqc) rfl ?_)
              rintro _ w3 ⟨v3, L3, rfl, hO3, hq3, he3⟩
              rw [hq1] at hq3 ⊢
              obtain ⟨a3, c3, rfl⟩ := own_form hO3.top
              have h43 := norm_s4 hq3
              replace hE := hE.ext he3
              replace hT := hT.ext he3
              replace hP := hP.ext he3
              replace hO1 := hO1.ext he3
              replace hK := hK.ext he3
              refine L.rd (rd_move rfl) rfl ?_
              refine L.rd (rd_ext0 rfl) rfl ?_
              refine L.rd (rd_ext1 rfl) rfl ?_
              refine L.ef (e_alloc (cs := [_]) tok rfl rfl (by first | (simp only [size_addB, size_setB, size_drew]; rfl) | rfl) rfl ?_)
              refine L.ef (e_store (vs := [_]) tok rfl rfl rfl rfl (by (repeat (first | assumption | (refine Bl.new' ?_ _ _; first | with_reducible rfl | (simp only [size_addB, size_setB, size_drew]; done)) | apply Bl.add | apply Bl.drew | (apply Bl.setNe; omega) | (refine Bl.set' ?_ _ _; (try simp only [size_addB, size_setB, size_drew]); omega)))) rfl (by simp [Value.oneCell']) (by simp) ?_)
              refine L.rd (rd_assign rfl) rfl ?_
              refine L.nil ?_
              refine X.sq ?_
              refine V.seq ?_
              generalize hwa : setB _ _ _ _ = wa
              have hea := ext_of_new hwa
              have hbp : Bl wa w3.heap.size 34 [.slice a3 L3.length c3] := bl_of_new hwa
              replace hE := hE.ext hea
              replace hT := hT.ext hea
              replace hP := hP.ext hea
              replace hO1 := hO1.ext hea
              replace hK := hK.ext hea
              replace hO3 := hO3.ext hea
              refine V.region ?_
              refine L.rd (rd_move rfl) rfl ?_
              refine L.ef (e_call rfl (snorm_ok _ Ls _ hT hCq) rfl ?_)
              rintro _ w4 ⟨v4, L4, rfl, hO4, hq4, he4⟩
              obtain ⟨a4, c4, rfl⟩ := own_form hO4.top
              have h44 := norm_s4 hq4
              replace hE := hE.ext he4
              replace hT := hT.ext he4
              replace hP := hP.ext he4
              replace hO1 := hO1.ext he4
              replace hK := hK.ext he4
              replace hO3 := hO3.ext he4
              replace hbp := hbp.ext he4
              refine L.rd (rd_move rfl) rfl ?_
              refine L.rd (rd_ext0 rfl) rfl ?_
              refine L.rd (rd_ext1 rfl) rfl ?_
              refine L.ef (e_alloc (cs := [_]) tok rfl rfl (by first | (simp only [size_addB, size_setB, size_drew]; rfl) | rfl) rfl ?_)
              refine L.ef (e_store (vs := [_]) tok rfl rfl rfl rfl (by (repeat (first | assumption | (refine Bl.new' ?_ _ _; first | with_reducible rfl | (simp only [size_addB, size_setB, size_drew]; done)) | apply Bl.add | apply Bl.drew | (apply Bl.setNe; omega) | (refine Bl.set' ?_ _ _; (try simp only [size_addB, size_setB, size_drew]); omega)))) rfl (by simp [Value.oneCell']) (by simp) ?_)
              refine L.rd (rd_assign rfl) rfl ?_
              refine L.nil ?_
              refine X.sq ?_
              refine V.seq ?_
              refine V.seq ?_
              generalize hwb : setB _ _ _ _ = wb
              have heb := ext_of_new hwb
              have hbm : Bl wb w4.heap.size 34 [.slice a4 L4.length c4] := bl_of_new hwb
              replace hE := hE.ext heb
              replace hT := hT.ext heb
              replace hP := hP.ext heb
              replace hO1 := hO1.ext heb
              replace hK := hK.ext heb
              replace hO3 := hO3.ext heb
              replace hbp := hbp.ext heb
              replace hO4 := hO4.ext heb
              have hT4 := hO4.tl
              refine V.region ?_
              refine L.rd (rd_move rfl) rfl ?_
              refine L.rd (rd_move rfl) rfl ?_
              refine L.rd (rd_neqB tok rfl rfl rfl rfl) rfl ?_
              refine L.rd (rd_move rfl) rfl ?_
              first | refine L.partG rfl rfl (fun g64 => ?_) (fun g64 => ?_) | refine L.partGB rfl rfl (fun g64 => ?_) (fun g64 => ?_)
              ·
                exact absurd rfl g64
              ·
                refine L.yes rfl rfl ?_
                refine L.rd (rd_loadN tok rfl rfl rfl hbp.cells rfl) rfl ?_
                refine L.yes rfl rfl ?_
                refine L.rd (rd_loadN tok rfl rfl rfl hbm.cells rfl) rfl ?_
                refine L.yes rfl rfl ?_
                refine L.ef (e_call rfl (eqPoly_ok _ _ L3 L4 _ hO3.tl hT4 h43.sm) rfl ?_)
                rintro _ w5 ⟨rfl, he5⟩
                replace hE := hE.ext he5
                replace hT := hT.ext he5
                replace hP := hP.ext he5
                replace hO1 := hO1.ext he5
                replace hK := hK.ext he5
                replace hO3 := hO3.ext he5
                replace hbp := hbp.ext he5
                replace hbm := hbm.ext he5
                replace hT4 := hT4.ext he5
                refine L.yes rfl rfl ?_
                first | refine L.rd (rd_not rfl) rfl ?_ | refine L.rd (rd_notB rfl) rfl ?_
                refine L.rd (rd_pickF rfl rfl) rfl ?_
                refine L.rd (rd_move rfl) rfl ?_
                first | refine L.partG rfl rfl (fun g70 => ?_) (fun g70 => ?_) | refine L.partGB rfl rfl (fun g70 => ?_) (fun g70 => ?_)
                ·
                  exact absurd (hq3.trans hq4.symm) g70
                ·
                  refine L.yes rfl rfl ?_
                  refine L.rd (rd_loadN tok rfl rfl rfl hbp.cells rfl) rfl ?_
                  refine L.yes rfl rfl ?_
                  refine L.rd (rd_move rfl) rfl ?_
                  refine L.yes rfl rfl ?_
                  refine L.rd (rd_move rfl) rfl ?_
                  refine L.yes rfl rfl ?_
                  refine L.rd (rd_lenSlice tok rfl rfl rfl) rfl ?_
                  refine L.yes rfl rfl ?_
                  refine L.rd (rd_gtr rfl rfl) rfl ?_
                  refine L.yes rfl rfl ?_
                  refine L.ef (e_call rfl (okP_ok _ _ _ _ _ _ (fun h => by
                      obtain ⟨r, hr⟩ := Option.isSome_iff_exists.1 h
                      have := inOk_len (normP_good hr).1
                      rw [pol_length] at this
                      exact decide_eq_false (by omega)) (fun h => by
                      have hn : normP (pol Ls) = none := by cases hnn : normP (pol Ls) <;> simp_all
                      rw [hn] at hq3
                      have := congrArg List.length hq3
                      rwa [pol_length] at this)) rfl ?_)
                  rintro _ w6 ⟨rfl, he6⟩
                  replace hE := hE.ext he6
                  replace hT := hT.ext he6
                  replace hP := hP.ext he6
                  replace hO1 := hO1.ext he6
                  replace hK := hK.ext he6
                  replace hO3 := hO3.ext he6
                  replace hbp := hbp.ext he6
                  replace hbm := hbm.ext he6
                  replace hT4 := hT4.ext he6
                  refine L.yes rfl rfl ?_
                  first | refine L.rd (rd_not rfl) rfl ?_ | refine L.rd (rd_notB rfl) rfl ?_
                  refine L.rd (rd_pickF rfl rfl) rfl ?_
                  refine L.nil ?_
                  refine X.sq ?_
                  first | refine V.cond rfl (fun h78 => ?_) (fun h78 => ?_) | refine V.condB rfl (fun h78 => ?_) (fun h78 => ?_)
                  ·
                    cases h78
                  ·
                    refine V.skip ?_
                    refine X.sq ?_
                    refine V.seq ?_
                    refine V.seq ?_
                    refine V.region ?_
                    refine L.rd (rd_move rfl) rfl ?_
                    refine L.rd (rd_build (out := [_]) tok rfl rfl rfl rfl rfl) rfl ?_
                    refine L.rd (rd_move rfl) rfl ?_
                    refine L.rd (rd_build (out := [_]) tok rfl rfl rfl rfl rfl) rfl ?_
                    refine L.ef (e_call rfl (eqPoly_ok _ _ L1 Ls _ hO1.tl hT hS1) rfl ?_)
                    rintro _ w7 ⟨rfl, he7⟩
                    first | refine L.rd (rd_not rfl) rfl ?_ | refine L.rd (rd_notB rfl) rfl ?_
                    refine L.nil ?_
                    refine X.sq ?_
                    first | refine V.cond rfl (fun h84 => ?_) (fun h84 => ?_) | refine V.condB rfl (fun h84 => ?_) (fun h84 => ?_)
                    ·
                      exact absurd hq1 h84
                    ·
                      refine V.skip ?_
                      refine X.sq ?_
                      refine V.seq ?_
                      skip
                      replace hE := hE.ext he7
                      replace hT := hT.ext he7
                      replace hP := hP.ext he7
                      replace hO1 := hO1.ext he7
                      replace hK := hK.ext he7
                      replace hO3 := hO3.ext he7
                      replace hbp := hbp.ext he7
                      replace hbm := hbm.ext he7
                      replace hT4 := hT4.ext he7
                      have y0 := hP
                      have y1 := he1.size
                      have y2 := he2.size
                      have y3 := he3.size
                      have y4 := size_of_new hwa
                      have y5 := he4.size
                      have y6 := size_of_new hwb
                      have y7 := he5.size
                      have y8 := he6.size
                      have y9 := he7.size
                      refine V.region ?_
                      refine L.rd (rd_fieldAddr tok rfl rfl rfl rfl rfl rfl) rfl ?_
                      refine L.rd (rd_load1 tok rfl rfl rfl (hbp.cell rfl)) rfl ?_
                      refine L.ef (e_call rfl (growTerms_ok _ L3 _ hO3 h43.sm (by omega)) rfl ?_)
                      rintro _ w8 ⟨hO8, hR8⟩
                      clear hO3
                      replace hE := hE.rg hR8 (by omega)
                      replace hT := hT.rg hR8 (by omega)
                      replace hP := hP.rg hR8 (by omega)
                      replace hO1 := hO1.rg hR8 (by omega)
                      replace hK := hK.rg hR8 (by omega)
                      replace hbp := hbp.rg hR8 (by omega)
                      replace hbm := hbm.rg hR8 (by omega)
                      replace hT4 := hT4.rg hR8 (by omega)
                      refine L.nil ?_
                      refine X.sq ?_
                      refine V.seq ?_
                      refine V.seq ?_
                      refine V.region ?_
                      refine L.rd (rd_move rfl) rfl ?_
                      refine L.rd (rd_build (out := [_]) tok rfl rfl rfl rfl rfl) rfl ?_
                      refine L.rd (rd_move rfl) rfl ?_
                      refine L.rd (rd_build (out := [_]) tok rfl rfl rfl rfl rfl) rfl ?_
                      refine L.ef (e_call rfl (eqPoly_ok _ _ L1 Ls _ hO1.tl hT hS1) rfl ?_)
                      rintro _ w9 ⟨rfl, he9⟩
                      have y10 := hR8.size
                      replace hE := hE.ext he9
                      replace hT := hT.ext he9
                      replace hP := hP.ext he9
                      replace hO1 := hO1.ext he9
                      replace hK := hK.ext he9
                      replace hbp := hbp.ext he9
                      replace hbm := hbm.ext he9
                      replace hT4 := hT4.ext he9
                      replace hO8 := hO8.ext he9
                      first | refine L.rd (rd_not rfl) rfl ?_ | refine L.rd (rd_notB rfl) rfl ?_
                      refine L.rd (rd_move rfl) rfl ?_
                      first | refine L.partG rfl rfl (fun g94 => ?_) (fun g94 => ?_) | refine L.partGB rfl rfl (fun g94 => ?_) (fun g94 => ?_)
                      ·
                        exact absurd hq1 g94
                      ·
                        refine L.yes rfl rfl ?_
                        refine L.rd (rd_loadN tok rfl rfl rfl hbp.cells rfl) rfl ?_
                        refine L.yes rfl rfl ?_
                        refine L.rd (rd_loadN tok rfl rfl rfl hbm.cells rfl) rfl ?_
                        refine L.yes rfl rfl ?_
                        refine L.ef (e_call rfl (eqPoly_ok _ _ L3 L4 _ hO8.tl hT4 h43.sm) rfl ?_)
                        rintro _ w10 ⟨rfl, he10⟩
                        replace hE := hE.ext he10
                        replace hT := hT.ext he10
                        replace hP := hP.ext he10
                        replace hO1 := hO1.ext he10
                        replace hK := hK.ext he10
                        replace hbp := hbp.ext he10
                        replace hbm := hbm.ext he10
                        replace hT4 := hT4.ext he10
                        replace hO8 := hO8.ext he10
                        refine L.yes rfl rfl ?_
                        first | refine L.rd (rd_not rfl) rfl ?_ | refine L.rd (rd_notB rfl) rfl ?_
                        refine L.rd (rd_pickF rfl rfl) rfl ?_
                        refine L.nil ?_
                        refine X.sq ?_
                        first | refine V.cond rfl (fun h99 => ?_) (fun h99 => ?_) | refine V.condB rfl (fun h99 => ?_) (fun h99 => ?_)
                        ·
                          exact absurd (hq3.trans hq4.symm) h99
                        ·
                          refine V.skip ?_
                          refine X.sq ?_
                          refine V.seq ?_
                          refine V.region ?_
                          refine L.rd (rd_move rfl) rfl ?_
                          refine L.rd (rd_move rfl) rfl ?_
                          refine L.ef (e_call rfl (flipHeld_ok _ _ L1 _ hO1 hK (.inl (by omega)) hS1) rfl ?_)
                          rintro _ w11 ⟨M1, hO11, hq11, hR11⟩
                          clear hO1
                          replace hE := hE.rg hR11 (by omega)
                          replace hT := hT.rg hR11 (by omega)
                          replace hP := hP.rg hR11 (by omega)
                          replace hbp := hbp.rg hR11 (by omega)
                          replace hbm := hbm.rg hR11 (by omega)
                          replace hT4 := hT4.rg hR11 (by omega)
                          replace hO8 := hO8.rg hR11 (by omega)
                          have hS11 : Sm (pol M1) := by rw [hq11, hq1]; exact hS.flip
                          have hM1 : L1.length = M1.length := by have := congrArg List.length hq11; rw [pol_length, flipP_length, pol_length] at this; exact this.symm
                          refine L.nil ?_
                          refine X.sq ?_
                          refine V.seq ?_
                          refine V.seq ?_
                          refine V.region ?_
                          refine L.rd (rd_move rfl) rfl ?_
                          refine L.ef (e_call rfl (termsOut_ok _ M1 _ hO11.tl hS11) rfl ?_)
                          rintro v12 w12 ⟨L12, hO12, hq12, he12⟩
                          obtain ⟨a12, c12, rfl⟩ := own_form hO12.top
                          replace hE := hE.ext he12
                          replace hT := hT.ext he12
                          replace hP := hP.ext he12
                          replace hbp := hbp.ext he12
                          replace hbm := hbm.ext he12
                          replace hT4 := hT4.ext he12
                          replace hO8 := hO8.ext he12
                          refine L.rd (rd_move rfl) rfl ?_
                          refine L.ef (e_call rfl (termsOut_ok _ Ls _ hT hS) rfl ?_)
                          rintro v13 w13 ⟨L13, hO13, hq13, he13⟩
                          obtain ⟨a13, c13, rfl⟩ := own_form hO13.top
                          replace hE := hE.ext he13
                          replace hT := hT.ext he13
                          replace hP := hP.ext he13
                          replace hbp := hbp.ext he13
                          replace hbm := hbm.ext he13
                          replace hT4 := hT4.ext he13
                          replace hO8 := hO8.ext he13
                          replace hO12 := hO12.ext he13
                          refine L.ef (e_call rfl (flipTermsL_ok _ L13 _ hO13.tl (by rw [hq13]; exact hS)) rfl ?_)
                          rintro v14 w14 ⟨L14, hO14, hq14, he14⟩
                          obtain ⟨a14, c14, rfl⟩ := own_form hO14.top
                          replace hE := hE.ext he14
                          replace hT := hT.ext he14
                          replace hP := hP.ext he14
                          replace hbp := hbp.ext he14
                          replace hbm := hbm.ext he14
                          replace hT4 := hT4.ext he14
                          replace hO8 := hO8.ext he14
                          replace hO12 := hO12.ext he14
                          refine L.ef (e_call rfl (eqTermsL_ok _ _ L12 L14 _ hO12.tl hO14.tl (by rw [hq12]; exact hS11)) rfl ?_)
                          rintro _ w15 ⟨rfl, he15⟩
                          replace hE := hE.ext he15
                          replace hT := hT.ext he15
                          replace hP := hP.ext he15
                          replace hbp := hbp.ext he15
                          replace hbm := hbm.ext he15
                          replace hT4 := hT4.ext he15
                          replace hO8 := hO8.ext he15
                          first | refine L.rd (rd_not rfl) rfl ?_ | refine L.rd (rd_notB rfl) rfl ?_
                          refine L.rd (rd_move rfl) rfl ?_
                          first | refine L.partG rfl rfl (fun g110 => ?_) (fun g110 => ?_) | refine L.partGB rfl rfl (fun g110 => ?_) (fun g110 => ?_)
                          ·
                            refine absurd ?_ g110
                            rw [hq12, hq11, hq1, hq14, hq13]
                          ·
                            refine L.yes rfl rfl ?_
                            refine L.rd (rd_loadN tok rfl rfl rfl hbp.cells rfl) rfl ?_
                            refine L.yes rfl rfl ?_
                            refine L.rd (rd_loadN tok rfl rfl rfl hbm.cells rfl) rfl ?_
                            refine L.yes rfl rfl ?_
                            refine L.ef (e_call rfl (eqPoly_ok _ _ L3 L4 _ hO8.tl hT4 h43.sm) rfl ?_)
                            rintro _ w16 ⟨rfl, he16⟩
                            replace hE := hE.ext he16
                            replace hT := hT.ext he16
                            replace hP := hP.ext he16
                            replace hbp := hbp.ext he16
                            replace hbm := hbm.ext he16
                            replace hT4 := hT4.ext he16
                            replace hO8 := hO8.ext he16
                            refine L.yes rfl rfl ?_
                            first | refine L.rd (rd_not rfl) rfl ?_ | refine L.rd (rd_notB rfl) rfl ?_
                            refine L.rd (rd_pickF rfl rfl) rfl ?_
                            refine L.nil ?_
                            refine X.sq ?_
                            first | refine V.cond rfl (fun h115 => ?_) (fun h115 => ?_) | refine V.condB rfl (fun h115 => ?_) (fun h115 => ?_)
                            ·
                              exact absurd (hq3.trans hq4.symm) h115
                            ·
                              refine V.skip ?_
                              refine X.sq ?_
                              refine V.seq ?_
                              refine V.seq ?_
                              refine V.region ?_
                              refine L.rd (rd_move rfl) rfl ?_
                              first | refine L.rd (rd_not rfl) rfl ?_ | refine L.rd (rd_notB rfl) rfl ?_
                              refine L.nil ?_
                              refine X.sq ?_
                              first | refine V.cond rfl (fun h117 => ?_) (fun h117 => ?_) | refine V.condB rfl (fun h117 => ?_) (fun h117 => ?_)
                              ·
                                refine V.seq ?_
                                refine V.region ?_
                                refine L.rd (rd_assign rfl) rfl ?_
                                refine L.nil ?_
                                refine X.sq ?_
                                refine V.ret ?_
                                refine X.sqRet ?_
                                refine ret_1 Yaam.results9 rfl ?_
                                exact ⟨rfl, hE⟩
                              ·
                                refine V.skip ?_
                                refine X.sq ?_
                                refine V.seq ?_
                                refine V.seq ?_
                                obtain ⟨r, hr⟩ : ∃ r, normP (pol Ls) = some r := Option.isSome_iff_exists.1 (by simpa using h117)
                                rw [hr, Option.getD_some] at hq3
                                obtain ⟨hin, hcr, -, -⟩ := normP_good hr
                                have hc3 : canon (pol L3) = true := by rw [hq3]; exact hcr
                                refine V.region ?_
                                refine L.rd (rd_loadN tok rfl rfl rfl hbp.cells rfl) rfl ?_
                                refine L.ef (e_call rfl (ican_ok _ L3 _ hO8.tl h43.sm) rfl ?_)
                                rintro _ w17 ⟨rfl, he17⟩
                                replace hE := hE.ext he17
                                replace hT := hT.ext he17
                                replace hP := hP.ext he17
                                replace hbp := hbp.ext he17
                                replace hO8 := hO8.ext he17
                                first | refine L.rd (rd_not rfl) rfl ?_ | refine L.rd (rd_notB rfl) rfl ?_
                                refine L.rd (rd_move rfl) rfl ?_
                                first | refine L.partG rfl rfl (fun g121 => ?_) (fun g121 => ?_) | refine L.partGB rfl rfl (fun g121 => ?_) (fun g121 => ?_)
                                ·
                                  simp [hc3] at g121
                                ·
                                  refine L.yes rfl rfl ?_
                                  refine L.rd (rd_loadN tok rfl rfl rfl hbp.cells rfl) rfl ?_
                                  refine L.yes rfl rfl ?_
                                  refine L.ef (e_call rfl (scan_ok _ L3 _ hO8.tl h43.sm) rfl ?_)
                                  rintro _ w18 ⟨rfl, he18⟩
                                  replace hE := hE.ext he18
                                  replace hT := hT.ext he18
                                  replace hP := hP.ext he18
                                  replace hbp := hbp.ext he18
                                  replace hO8 := hO8.ext he18
                                  refine L.yes rfl rfl ?_
                                  first | refine L.rd (rd_not rfl) rfl ?_ | refine L.rd (rd_notB rfl) rfl ?_
                                  refine L.rd (rd_pickF rfl rfl) rfl ?_
                                  refine L.nil ?_
                                  refine X.sq ?_
                                  first | refine V.cond rfl (fun h125 => ?_) (fun h125 => ?_) | refine V.condB rfl (fun h125 => ?_) (fun h125 => ?_)
                                  ·
                                    simp [hc3] at h125
                                  ·
                                    refine V.skip ?_
                                    refine X.sq ?_
                                    refine V.seq ?_
                                    refine V.region ?_
                                    refine L.rd (rd_loadN tok rfl rfl rfl hbp.cells rfl) rfl ?_
                                    refine L.rd (rd_move rfl) rfl ?_
                                    refine L.ef (e_call rfl (ieval_ok _ _ L3 pt _ hO8.tl h43.sm hP.rs) rfl ?_)
                                    rintro _ w19 ⟨rfl, he19⟩
                                    replace hE := hE.ext he19
                                    replace hT := hT.ext he19
                                    replace hP := hP.ext he19
                                    replace hbp := hbp.ext he19
                                    replace hO8 := hO8.ext he19
                                    refine L.rd (rd_move rfl) rfl ?_
                                    refine L.rd (rd_ext0 rfl) rfl ?_
                                    refine L.rd (rd_ext1 rfl) rfl ?_
                                    refine L.rd (rd_assign rfl) rfl ?_
                                    refine L.rd (rd_assign rfl) rfl ?_
                                    refine L.nil ?_
                                    refine X.sq ?_
                                    refine V.seq ?_
                                    refine V.seq ?_
                                    refine V.region ?_
                                    refine L.rd (rd_move rfl) rfl ?_
                                    refine L.rd (rd_lenSlice tok rfl rfl rfl) rfl ?_
                                    refine L.rd (rd_neq rfl rfl) rfl ?_
                                    refine L.nil ?_
                                    refine X.sq ?_
                                    first | refine V.cond rfl (fun h134 => ?_) (fun h134 => ?_) | refine V.condB rfl (fun h134 => ?_) (fun h134 => ?_)
                                    ·
                                      have hno : evOk (pol L3) pt = false := by unfold evOk; rw [decide_eq_false (by omega), Bool.and_false]
                                      refine V.seq ?_
                                      refine V.region ?_
                                      refine L.rd (rd_move rfl) rfl ?_
                                      first | refine L.rd (rd_not rfl) rfl ?_ | refine L.rd (rd_notB rfl) rfl ?_
                                      refine L.rd (rd_move rfl) rfl ?_
                                      first | refine L.partG rfl rfl (fun g137 => ?_) (fun g137 => ?_) | refine L.partGB rfl rfl (fun g137 => ?_) (fun g137 => ?_)
                                      ·
                                        refine L.yes rfl rfl ?_
                                        refine L.rd (rd_move rfl) rfl ?_
                                        refine L.yes rfl rfl ?_
                                        refine L.rd (rd_eql rfl rfl) rfl ?_
                                        refine L.rd (rd_pickT rfl rfl) rfl ?_
                                        refine L.rd (rd_assign rfl) rfl ?_
                                        refine L.nil ?_
                                        refine X.sq ?_
                                        refine V.ret ?_
                                        refine X.sqRet ?_
                                        refine ret_1 Yaam.results9 rfl ?_
                                        refine ⟨congrArg Value.bool (decide_eq_true ?_), hE⟩
                                        rw [hno]; rfl
                                      ·
                                        simp [hno] at g137
                                    ·
                                      have hlp : pt.length = 26 := by omega
                                      have hyes : evOk (pol L3) pt = true := by unfold evOk; rw [hc3, decide_eq_true hlp]; rfl
                                      refine V.skip ?_
                                      refine X.sq ?_
                                      refine V.seq ?_
                                      refine V.region ?_
                                      refine L.rd (rd_move rfl) rfl ?_
                                      refine L.rd (rd_move rfl) rfl ?_
                                      first | refine L.partG rfl rfl (fun g142 => ?_) (fun g142 => ?_) | refine L.partGB rfl rfl (fun g142 => ?_) (fun g142 => ?_)
                                      ·
                                        refine L.yes rfl rfl ?_
                                        refine L.rd (rd_move rfl) rfl ?_
                                        refine L.yes rfl rfl ?_
                                        refine L.rd (rd_move rfl) rfl ?_
                                        refine L.yes rfl rfl ?_
                                        refine L.rd (rd_move rfl) rfl ?_
                                        refine L.yes rfl rfl ?_
                                        refine L.ef (e_call rfl (evalTerms_ok _ _ Ls pt _ hT hin hP.rs hlp) rfl ?_)
                                        rintro _ w20 ⟨rfl, he20⟩
                                        replace hE := hE.ext he20
                                        refine L.yes rfl rfl ?_
                                        refine L.rd (rd_eql rfl rfl) rfl ?_
                                        refine L.rd (rd_pickT rfl rfl) rfl ?_
                                        refine L.rd (rd_assign rfl) rfl ?_
                                        refine L.nil ?_
                                        refine X.sq ?_
                                        refine V.ret ?_
                                        refine ret_1 Yaam.results9 rfl ?_
                                        refine ⟨congrArg Value.bool (decide_eq_true ?_), hE⟩
                                        rw [if_pos hyes, hq3]
                                        exact normP_ev pt hr
                                      ·
                                        simp [hyes] at g142
open Go.ChangeShapes Go.WideShapes Go.ChangeAt Go.RowKit
theorem own : ownKnob Yaam.prog.godebug = none := by kernel_rfl
theorem laidOut : laidOutB Yaam.prog = true := by kernel_rfl
theorem readable0 : Yaam.prog.readableRec 32 = true := by kernel_rfl
theorem readable1 : Yaam.prog.readableRec 22 = true := by kernel_rfl

set_option maxRecDepth 100000 in
theorem lifted (os : Os) (started : os.Started) (H : Type) (enc : TypeId × Value → H) :
    ReturnsInHanded {} Yaam.checked os 9 .any (Rows.fnNormalizeSpec.pre6 enc Yaam.prog Yaam.f9 Rows.fnNormalizeRow.domain false) (Rows.fnNormalizeSpec.post enc Yaam.prog Yaam.f9 false true false false) := by
  refine returnsInHanded_of_change_sized (C := Yaam.checked) own started (by kernel_rfl) Yaam.func9
    (ChangeSpec.witness6 (enc := enc) (C := Yaam.checked) false ⟨#[], #[.slice none 0 0, .slice none 0 0], []⟩ 8 (by kernel_rfl) (by kernel_rfl) (by kernel_rfl) (by kernel_rfl)) ?_
  intro W base args ds gs before hval0 hW hcnd hwt0 _
  have hval : ∀ (j : Nat) t v, Yaam.f9.params[j]? = some t → args[j]? = some v → Value.okWide Yaam.prog W .any base t v := hval0
  have hwt : (DataW.weightsEach Yaam.prog (Yaam.f9.params.toList ++ _) (ds ++ gs)).all (· ≤ reachBytes) = true := hwt0
  have hW' := hW
  obtain ⟨p, q, hA0, hV, rfl, hfz, hnd⟩ := hW
  have hA : DataW.TrodAll enc Yaam.prog W 0 (fun _ => true) true Yaam.f9.params.toList args.toList ds p := hA0
  rw [Yaam.params9] at hA hval hwt
  obtain ⟨v0, vs0, d0, ds0, p0, q0, hargs0, rfl, rfl, h0, r0⟩ := trodAll_cons hA
  obtain ⟨v1, vs1, d1, ds1, p1, q1, hargs1, rfl, rfl, h1, r1⟩ := trodAll_cons r0
  obtain ⟨hnil, rfl, rfl⟩ := trodAll_nil r1
  obtain rfl : args = #[v0, v1] := by cases args; simp_all
  obtain ⟨rfl, rfl⟩ := trodVars_none hV
  have hok0 := hval 0 32 v0 rfl rfl
  have hww0 := weights_arg hwt (j := 0) rfl rfl
  obtain ⟨fuel0, hy0⟩ := id h0
  rw [one_cell Yaam.underlying32 hok0] at hy0
  obtain ⟨Ls0, hT0, hL0, hF0⟩ := tl_of_trod Yaam.underlying32 Yaam.underlying58 (by kernel_rfl) rfl rfl (by kernel_rfl) (by kernel_rfl) (by kernel_rfl) Yaam.underlying56 Yaam.underlying109 (by kernel_rfl) rfl rfl (by kernel_rfl) (by kernel_rfl) (by kernel_rfl) (by kernel_rfl) (by decide +kernel) (by decide +kernel) hy0 hww0
  have hok1 := hval 1 22 v1 rfl rfl
  have hww1 := weights_arg hwt (j := 1) rfl rfl
  obtain ⟨fuel1, hy1⟩ := id h1
  rw [one_cell Yaam.underlying22 hok1] at hy1
  obtain ⟨zs1, hR1, hl1, hz1⟩ := ints_of_trod Yaam.underlying22 (by kernel_rfl) (by kernel_rfl) (by decide +kernel) hy1 hww1
  clear hA0 hval0
  simp only [List.append_nil] at hW'
  refine (law v0 v1 Ls0 zs1 W hT0 hR1 (cq_of fun t ht => (hF0 t ht).1) hL0 (fun t ht => (hF0 t ht).2.1)).call.mono fun e W' ⟨v, he, hv, hg⟩ => ?_
  subst he hv
  exact ⟨_, rfl, post_belowE (pv := []) hW' (fun _ _ _ => (trodAll_mk1 (shut_bool Yaam.underlying4 _))) (trodAll_mk2 (Below.trod laidOut readable0 (by decide +kernel) h0 hg.below (fun x hx => hW'.lt x (by first | exact hx | (simp only [List.mem_append]; simp [hx])))) (Below.trod laidOut readable1 (by decide +kernel) h1 hg.below (fun x hx => hW'.lt x (by first | exact hx | (simp only [List.mem_append]; simp [hx]))))) rfl (by simp) hg⟩

theorem over : Rows.fnNormalizeRow.holds Yaam.pinned (OpenSpec.ofChange Rows.fnNormalizeSpec) :=
  OpenClaim.holds_of_wide 9 Yaam.f9 rfl rfl rfl rfl rfl rfl rfl ⟨rfl, rfl, rfl, rfl, rfl⟩ rfl rfl rfl rfl rfl (by kernel_rfl) Yaam.func9 (by kernel_rfl)
    (of_decide_eq_true (by kernel_rfl)) (by unfold Func.isWrapper; first | (rw [if_pos (by decide +kernel)]; kernel_rfl) | (rw [if_neg (by decide +kernel)]; exact ⟨rfl, rfl⟩))
    (fun os started H enc _ => lifted os started H enc)

theorem proved : Rows.FnNormalizeSaid :=
  over
end Go.Proofs.Ybxaaw.fnNormalize
