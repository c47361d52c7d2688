/-
  The statement FnExactEvalPolySaid.
-/
import Derived.Test.YbxabwRows
import Derived.Test.YbxabwRowP
import Derived.Test.YbxabwEvalW
import Derived.Test.YbxabwPtW
import Derived.WalkKit
import Derived.ProofKit
import Derived.SizedLaws
set_option linter.unusedVariables false
set_option linter.unusedSimpArgs false
set_option maxRecDepth 10000
namespace Go.Proofs.Ybxabw.fnExactEvalPoly
open Go.Mw

theorem law (va vp : Value) (Ls : List Lt) (pt : List Int) (w : World) (hT : Tl w 0 w.heap.size va Ls) (hL : Ls.length ≤ 140737488351232) (hF : ∀ t ∈ Ls, t.2.2.length ≤ 140737488351232) (hP : Rr w 0 w.heap.size 1 vp pt.length (iC .i64 pt)) :
    Ret Yabm.prog 13 [.agg #[va], vp] w fun v w' => v = .bool true ∧ Ext w.heap.size w w' := by
  obtain ⟨aa, ca, rfl, hfa⟩ := hT.form
  obtain ⟨pa, pc, rfl, -⟩ := id hP.form
  refine enter2 Yabm.func13 Yabm.ntmps13 (by kernel_rfl) rfl rfl ?_
  refine V.seq ?_
  refine V.region ?_
  refine L.ef (e_box (cs := [_]) rfl rfl (by first | (simp only [size_addB, size_setB, size_drew]; rfl) | rfl) rfl ?_)
  refine L.rd (rd_assign rfl) rfl ?_
  refine L.nil ?_
  refine X.sq ?_
  refine V.seq ?_
  refine V.seq ?_
  have hp := Bl.new w 62 [.slice aa Ls.length ca]
  have hE := (Ext.refl _ w).addNew 62 [.slice aa Ls.length ca]
  have hT1 := hT.ext hE
  have hP1 := hP.ext hE
  refine V.region ?_
  refine L.rd (rd_move rfl) rfl ?_
  refine L.rd (rd_lenSlice tok rfl rfl rfl) rfl ?_
  refine L.rd (rd_gtr rfl rfl) rfl ?_
  refine L.nil ?_
  refine X.sq ?_
  first | refine V.cond rfl (fun h21 => ?_) (fun h21 => ?_) | refine V.condB rfl (fun h21 => ?_) (fun h21 => ?_)
  ·
    refine V.seq ?_
    refine V.region ?_
    refine L.rd (rd_assign rfl) rfl ?_
    refine L.nil ?_
    refine X.sq ?_
    refine V.ret ?_
    refine X.sqRet ?_
    refine ret_1 Yabm.results13 rfl ?_
    exact ⟨rfl, hE⟩
  ·
    refine V.skip ?_
    refine X.sq ?_
    refine V.seq ?_
    refine V.region ?_
    refine L.rd (rd_assign rfl) rfl ?_
    refine L.nil ?_
    refine X.sq ?_
    refine V.seq ?_
    refine V.region ?_
    refine L.rd (rd_move rfl) rfl ?_
    refine L.rd (rd_fieldAddr tok rfl rfl rfl rfl rfl rfl) rfl ?_
    refine L.rd (rd_load1 tok rfl rfl rfl (hp.cell rfl)) rfl ?_
    refine L.rd (rd_lenSlice tok rfl rfl rfl) rfl ?_
    (refine L.rd (rd_add3 rfl rfl ?_) rfl ?_; omega)
    refine L.rd (rd_assign rfl) rfl ?_
    refine L.nil ?_
    refine X.sq ?_
    refine V.seq ?_
    refine V.seq ?_
    refine V.region ?_
    refine L.rd (rd_move rfl) rfl ?_
    refine L.rd (rd_gtr rfl rfl) rfl ?_
    refine L.nil ?_
    refine X.sq ?_
    first | refine V.cond rfl (fun h28 => ?_) (fun h28 => ?_) | refine V.condB rfl (fun h28 => ?_) (fun h28 => ?_)
    ·
      refine V.seq ?_
      refine V.region ?_
      refine L.rd (rd_assign rfl) rfl ?_
      refine L.nil ?_
      refine X.sq ?_
      refine V.ret ?_
      refine X.sqRet ?_
      refine ret_1 Yabm.results13 rfl ?_
      exact ⟨rfl, hE⟩
    ·
      refine V.skip ?_
      refine X.sq ?_
      refine V.seq ?_
      refine V.seq ?_
      refine V.region ?_
      refine L.rd (rd_assign rfl) rfl ?_
      refine L.nil ?_
      refine X.sq ?_
      refine V.block ?_
      refine V.loop (fun m l wr => ∃ (k : Nat) (s : Int), l = [(1, .slice pa pt.length pc), (2, .pointer (some ⟨w.heap.size, 0, none⟩)), (5, .int .i64 s), (6, .int .i64 k)] ∧ m = Ls.length - k ∧ k ≤ Ls.length ∧ 0 ≤ s ∧ s ≤ 1048576 ∧ (∀ i t, i < k → Ls[i]? = some t → t.2.2.length ≤ 1048576) ∧ addB w 62 [.slice aa Ls.length ca] = wr) ?_ ?_
      ·
        exact ⟨_, _, (by repeat' (first | exact trivial | refine ⟨rfl, ?_⟩)), 0, _, rfl, rfl, by omega, by omega, by omega, fun i t h => by omega, rfl⟩
      ·
        rintro m l wr ⟨k, s, rfl, rfl, hk, hs0, hs1, hall, rfl⟩
        refine V.seq ?_
        refine V.seq ?_
        refine V.region ?_
        refine L.rd (rd_move rfl) rfl ?_
        refine L.rd (rd_fieldAddr tok rfl rfl rfl rfl rfl rfl) rfl ?_
        refine L.rd (rd_load1 tok rfl rfl rfl (hp.cell rfl)) rfl ?_
        refine L.rd (rd_lenSlice tok rfl rfl rfl) rfl ?_
        refine L.rd (rd_lss rfl rfl) rfl ?_
        refine L.nil ?_
        refine X.sq ?_
        first | refine V.cond rfl (fun h33 => ?_) (fun h33 => ?_) | refine V.condB rfl (fun h33 => ?_) (fun h33 => ?_)
        ·
          obtain ⟨b1, o1, rfl, -, -, hc1⟩ := hfa.resolve_left (by omega)
          obtain ⟨⟨c, fv, fs⟩, ht⟩ := nth_of_lt Ls k (by omega)
          have hcx := Tl.cells (hc1.le hE.leC) ht
          obtain ⟨fa, fc, hfv, hff⟩ := hT1.nth ht
          have hFk := hF _ (List.mem_of_getElem? ht)
          simp only at hfv hff hcx hFk
          subst hfv
          refine V.skip ?_
          refine X.sq ?_
          refine V.seq ?_
          refine V.block ?_
          refine V.seq ?_
          refine V.region ?_
          refine L.rd (rd_move rfl) rfl ?_
          refine L.rd (rd_fieldAddr tok rfl rfl rfl rfl rfl rfl) rfl ?_
          refine L.rd (rd_load1 tok rfl rfl rfl (hp.cell rfl)) rfl ?_
          refine L.rd (rd_move rfl) rfl ?_
          (refine L.rd (rd_indexSlice (sz := 2) tok rfl rfl rfl rfl rfl rfl rfl ?_) rfl ?_; omega)
          refine L.rd (rd_fieldAddr tok rfl rfl rfl rfl rfl rfl) rfl ?_
          refine L.rd (rd_load1 tok rfl rfl rfl (hcx.at_ 1 _ rfl)) rfl ?_
          refine L.rd (rd_lenSlice tok rfl rfl rfl) rfl ?_
          (refine L.rd (rd_add3 rfl rfl ?_) rfl ?_; omega)
          refine L.rd (rd_assign rfl) rfl ?_
          refine L.nil ?_
          refine X.sq ?_
          refine V.seq ?_
          refine V.region ?_
          refine L.rd (rd_move rfl) rfl ?_
          refine L.rd (rd_gtr rfl rfl) rfl ?_
          refine L.nil ?_
          refine X.sq ?_
          first | refine V.cond rfl (fun h46 => ?_) (fun h46 => ?_) | refine V.condB rfl (fun h46 => ?_) (fun h46 => ?_)
          ·
            refine V.seq ?_
            refine V.region ?_
            refine L.rd (rd_assign rfl) rfl ?_
            refine L.nil ?_
            refine X.sq ?_
            refine V.ret ?_
            refine X.bkRet ?_
            refine X.sqRet ?_
            refine X.lpRet ?_
            refine X.bkRet ?_
            refine X.sqRet ?_
            refine ret_1 Yabm.results13 rfl ?_
            exact ⟨rfl, hE⟩
          ·
            refine V.skip ?_
            refine X.bk ?_
            refine X.sq ?_
            refine V.region ?_
            refine L.rd (rd_move rfl) rfl ?_
            (refine L.rd (rd_add3 rfl rfl ?_) rfl ?_; omega)
            refine L.rd (rd_assign rfl) rfl ?_
            refine L.nil ?_
            refine X.lp ⟨_, _, by omega, (by repeat' (first | exact trivial | refine ⟨rfl, ?_⟩)), k + 1, _, rfl, rfl, by omega, by omega, by omega, fun i t hi hti => ?_, rfl⟩
            rcases Nat.lt_or_ge i k with h | h
            · exact hall i t h hti
            · obtain rfl : i = k := by omega
              rw [ht] at hti
              simp only [Option.some.injEq] at hti
              subst hti
              simp only []; omega
        ·
          refine V.exit ?_
          refine X.sqExit ?_
          refine X.lpExit ?_
          refine X.bkHere ?_
          refine X.sq ?_
          refine V.seq ?_
          refine V.seq ?_
          have hS : Sm (pol Ls) := ⟨by rw [pol_length]; omega, fun t ht => by
            simp only [pol, List.mem_map] at ht
            obtain ⟨u, hu, rfl⟩ := ht
            obtain ⟨i, hi⟩ := List.getElem?_of_mem hu
            have hil := (List.getElem?_eq_some_iff.1 hi).1
            have := hall i u (by omega) hi
            simp only []; omega⟩
          have hSp : pt.length ≤ 4294967296 := by omega
          refine V.region ?_
          refine L.rd (rd_move rfl) rfl ?_
          refine L.rd (rd_gtr rfl rfl) rfl ?_
          refine L.nil ?_
          refine X.sq ?_
          first | refine V.cond rfl (fun h48 => ?_) (fun h48 => ?_) | refine V.condB rfl (fun h48 => ?_) (fun h48 => ?_)
          ·
            refine V.seq ?_
            refine V.region ?_
            refine L.rd (rd_assign rfl) rfl ?_
            refine L.nil ?_
            refine X.sq ?_
            refine V.ret ?_
            refine X.sqRet ?_
            refine ret_1 Yabm.results13 rfl ?_
            exact ⟨rfl, hE⟩
          ·
            refine V.skip ?_
            refine X.sq ?_
            refine V.seq ?_
            refine V.seq ?_
            refine V.region ?_
            refine L.rd (rd_fieldAddr tok rfl rfl rfl rfl rfl rfl) rfl ?_
            refine L.rd (rd_load1 tok rfl rfl rfl (hp.cell rfl)) rfl ?_
            refine L.ef (e_call rfl (termsSize_ok _ Ls _ hT1 hS) rfl ?_)
            rintro _ _ ⟨s2, rfl, hs20, hs21, rfl⟩
            refine L.rd (rd_gtr rfl rfl) rfl ?_
            refine L.rd (rd_move rfl) rfl ?_
            first | refine L.partG rfl rfl (fun g53 => ?_) (fun g53 => ?_) | refine L.partGB rfl rfl (fun g53 => ?_) (fun g53 => ?_)
            ·
              refine L.no rfl rfl rfl rfl ?_
              refine L.no rfl rfl rfl rfl ?_
              refine L.no rfl rfl rfl rfl ?_
              refine L.rd (rd_pickT rfl rfl) rfl ?_
              refine L.nil ?_
              refine X.sq ?_
              refine V.condT rfl ?_
              refine V.seq ?_
              refine V.region ?_
              refine L.rd (rd_assign rfl) rfl ?_
              refine L.nil ?_
              refine X.sq ?_
              refine V.ret ?_
              refine X.sqRet ?_
              refine ret_1 Yabm.results13 rfl ?_
              exact ⟨rfl, hE⟩
            ·
              refine L.yes rfl rfl ?_
              refine L.rd (rd_move rfl) rfl ?_
              refine L.yes rfl rfl ?_
              refine L.rd (rd_lenSlice tok rfl rfl rfl) rfl ?_
              refine L.yes rfl rfl ?_
              refine L.rd (rd_gtr rfl rfl) rfl ?_
              refine L.rd (rd_pickF rfl rfl) rfl ?_
              refine L.nil ?_
              refine X.sq ?_
              first | refine V.cond rfl (fun h57 => ?_) (fun h57 => ?_) | refine V.condB rfl (fun h57 => ?_) (fun h57 => ?_)
              ·
                refine V.seq ?_
                refine V.region ?_
                refine L.rd (rd_assign rfl) rfl ?_
                refine L.nil ?_
                refine X.sq ?_
                refine V.ret ?_
                refine X.sqRet ?_
                refine ret_1 Yabm.results13 rfl ?_
                exact ⟨rfl, hE⟩
              ·
                refine V.skip ?_
                refine X.sq ?_
                refine V.seq ?_
                refine V.region ?_
                refine L.rd (rd_loadN tok rfl rfl rfl hp.cells rfl) rfl ?_
                refine L.ef (e_call rfl (polyIn_ok _ Ls false _ hT1 hS) rfl ?_)
                rintro _ w1 ⟨v1, rfl, L1, hO1, hq1, he1⟩
                have hSq1 : Sm (pol L1) := hq1 ▸ hS
                refine L.rd (rd_move rfl) rfl ?_
                refine L.ef (e_call rfl (ptIn_ok _ pt false _ (hP1.ext he1).rs hSp) rfl ?_)
                rintro v2 w2 ⟨hx2, he2⟩
                refine L.ef (e_call rfl (seval_ok _ _ L1 pt _ (hO1.ext he2).tl hSq1 (Rs.of_own hx2)) rfl ?_)
                rintro _ w3 hP3
                rw [hq1] at hP3
                obtain ⟨rfl, he3⟩ := hP3
                generalize hsv : (if evOk (pol Ls) pt = true then evalP (pol Ls) pt else 0) = sv
                have he13 := (he1.next he2).next he3
                replace hE := hE.next he13
                replace hT1 := hT1.ext he13
                replace hP1 := hP1.ext he13
                replace hp := he13.bl hp.lt hp
                refine L.rd (rd_move rfl) rfl ?_
                refine L.rd (rd_ext0 rfl) rfl ?_
                refine L.rd (rd_ext1 rfl) rfl ?_
                refine L.rd (rd_assign rfl) rfl ?_
                refine L.rd (rd_assign rfl) rfl ?_
                refine L.nil ?_
                refine X.sq ?_
                refine V.seq ?_
                refine V.region ?_
                refine L.rd (rd_fieldAddr tok rfl rfl rfl rfl rfl rfl) rfl ?_
                refine L.rd (rd_load1 tok rfl rfl rfl (hp.cell rfl)) rfl ?_
                refine L.ef (e_call rfl (flipTermsL_ok _ Ls _ hT1 hS) rfl ?_)
                rintro vf w4 ⟨Lf, hOf, hqf, he4⟩
                obtain ⟨af, cf, rfl⟩ := own_form hOf.top
                replace hE := hE.next he4
                replace hT1 := hT1.ext he4
                replace hP1 := hP1.ext he4
                replace hp := he4.bl hp.lt hp
                have hTf := hOf.tl
                refine L.rd (rd_assign rfl) rfl ?_
                refine L.nil ?_
                refine X.sq ?_
                refine V.seq ?_
                refine V.region ?_
                refine L.rd (rd_move rfl) rfl ?_
                refine L.ef (e_call rfl (flipI64_ok _ pt _ hP1.rs hSp) rfl ?_)
                rintro vx w5 ⟨hOx, he5⟩
                obtain ⟨ax, cx, rfl⟩ := own_form hOx
                replace hE := hE.next he5
                replace hT1 := hT1.ext he5
                replace hP1 := hP1.ext he5
                replace hp := he5.bl hp.lt hp
                replace hTf := (hTf.ext he5).wide (Nat.le_refl _) he5.size
                have hFx : Rr w5 w3.heap.size w5.heap.size 1 (.slice ax pt.length cx) pt.length (iC .i64 (pt.map (xr .i64))) := (Rr.of_own hOx (fun k hk => (own_block_lt hOx hk).2)).wide he4.size (Nat.le_refl _)
                clear hOf hOx
                refine L.rd (rd_assign rfl) rfl ?_
                refine L.nil ?_
                refine X.sq ?_
                refine V.seq ?_
                refine V.seq ?_
                refine V.region ?_
                refine L.rd (rd_assign rfl) rfl ?_
                refine L.nil ?_
                refine X.sq ?_
                refine V.block ?_
                refine V.loop (fun m l wr => ∃ (k : Nat), l = [(1, .slice pa pt.length pc), (2, .pointer (some ⟨w.heap.size, 0, none⟩)), (7, .int .i64 sv), (8, .bool (evOk (pol Ls) pt)), (9, .slice af Lf.length cf), (10, .slice ax pt.length cx), (11, .int .i64 k)] ∧ m = 2 - k ∧ k ≤ 2 ∧ Ext w.heap.size w wr ∧ Bl wr w.heap.size 62 [.slice aa Ls.length ca] ∧ Tl wr w3.heap.size w5.heap.size (.slice af Lf.length cf) Lf ∧ Rr wr w3.heap.size w5.heap.size 1 (.slice ax pt.length cx) pt.length (iC .i64 (pt.map (xr .i64))) ∧ w5.heap.size ≤ wr.heap.size ∧ Tl wr 0 w.heap.size (.slice aa Ls.length ca) Ls ∧ Rr wr 0 w.heap.size 1 (.slice pa pt.length pc) pt.length (iC .i64 pt)) ?_ ?_
                ·
                  exact ⟨_, _, (by repeat' (first | exact trivial | refine ⟨rfl, ?_⟩)), 0, rfl, rfl, by omega, hE, hp, hTf, hFx, Nat.le_refl _, hT1, hP1⟩
                ·
                  clear hp hE hT1 hTf hFx hP1
                  rintro m l wr ⟨k, rfl, rfl, hk, hE, hp, hTf, hFx, hwr, hT1, hP1⟩
                  have hwlt := hp.lt
                  refine V.seq ?_
                  refine V.seq ?_
                  refine V.region ?_
                  refine L.rd (rd_move rfl) rfl ?_
                  refine L.rd (rd_lss rfl rfl) rfl ?_
                  refine L.nil ?_
                  refine X.sq ?_
                  first | refine V.cond rfl (fun h72 => ?_) (fun h72 => ?_) | refine V.condB rfl (fun h72 => ?_) (fun h72 => ?_)
                  ·
                    refine V.skip ?_
                    refine X.sq ?_
                    refine V.seq ?_
                    refine V.block ?_
                    refine V.seq ?_
                    refine V.region ?_
                    refine L.rd (rd_loadN tok rfl rfl rfl hp.cells rfl) rfl ?_
                    refine L.rd (rd_move rfl) rfl ?_
                    refine L.rd (rd_eql rfl rfl) rfl ?_
                    refine L.ef (e_call rfl (polyIn_ok _ Ls _ _ hT1 hS) rfl ?_)
                    rintro _ w6 ⟨v6, rfl, L4, hO4, hq4, he6⟩
                    obtain ⟨a4, c4, rfl⟩ := own_form hO4.top
                    have hS4 : Sm (pol L4) := hq4 ▸ hS
                    refine L.ef (e_alloc (cs := [_]) tok rfl rfl (by first | (simp only [size_addB, size_setB, size_drew]; rfl) | rfl) rfl ?_)
                    refine L.ef (e_store (vs := [_]) tok rfl rfl rfl rfl (by (repeat (first | assumption | (refine Bl.new' ?_ _ _; first | with_reducible rfl | (simp only [size_addB, size_setB, size_drew]; done)) | apply Bl.add | apply Bl.drew | (apply Bl.setNe; omega) | (refine Bl.set' ?_ _ _; (try simp only [size_addB, size_setB, size_drew]); omega)))) rfl (by simp [Value.oneCell']) (by simp) ?_)
                    refine L.nil ?_
                    refine X.sq ?_
                    refine V.seq ?_
                    have hea : Ext w6.heap.size w6 (setB (addB w6 70 [.slice none 0 0]) w6.heap.size 70 (putAt [.slice none 0 0] 0 [.slice a4 L4.length c4])) := ((Ext.refl _ _).addNew _ _).set (Nat.le_refl _) _ _
                    have hh : Bl (setB (addB w6 70 [.slice none 0 0]) w6.heap.size 70 (putAt [.slice none 0 0] 0 [.slice a4 L4.length c4])) w6.heap.size 70 [.slice a4 L4.length c4] := Bl.set' (by rw [size_addB]; omega) _ _
                    have he7 := he6.next hea
                    have hs6 := he6.size
                    have hs7 : (setB (addB w6 70 [.slice none 0 0]) w6.heap.size 70 (putAt [.slice none 0 0] 0 [.slice a4 L4.length c4])).heap.size = w6.heap.size + 1 := by simp only [size_addB, size_setB]
                    refine V.region ?_
                    refine L.rd (rd_move rfl) rfl ?_
                    refine L.rd (rd_move rfl) rfl ?_
                    refine L.rd (rd_eql rfl rfl) rfl ?_
                    refine L.ef (e_call rfl (ptIn_ok _ pt _ _ (hP1.ext he7).rs hSp) rfl ?_)
                    rintro vh w8 ⟨hX, he8⟩
                    obtain ⟨ah, ch, rfl⟩ := own_form hX
                    have hXlt := fun k hk => own_block_lt hX (k := k) hk
                    have hs8 := he8.size
                    refine L.rd (rd_assign rfl) rfl ?_
                    refine L.nil ?_
                    refine X.sq ?_
                    refine V.seq ?_
                    refine V.region ?_
                    refine L.rd (rd_fieldAddr tok rfl rfl rfl rfl rfl rfl) rfl ?_
                    refine L.rd (rd_load1 tok rfl rfl rfl ((he8.bl hh.lt hh).cell rfl)) rfl ?_
                    refine L.ef (e_call rfl (keepFactors_ok _ L4 _ ((hO4.ext hea).ext he8).tl hS4) rfl ?_)
                    rintro vk w9 ⟨hK, he9⟩
                    obtain ⟨ak, ck, rfl, -⟩ := id hK.form
                    have he89 := he8.next he9
                    have hs9 := he9.size
                    refine L.rd (rd_assign rfl) rfl ?_
                    refine L.nil ?_
                    refine X.sq ?_
                    refine V.seq ?_
                    refine V.region ?_
                    refine L.rd (rd_loadN tok rfl rfl rfl (he89.bl hh.lt hh).cells rfl) rfl ?_
                    refine L.rd (rd_move rfl) rfl ?_
                    refine L.ef (e_call rfl (ieval_ok _ _ L4 pt _ ((hO4.ext hea).ext he89).tl hS4 (Rs.of_own (own_same hX fun k hk => he9.block k (hXlt k hk).2))) rfl ?_)
                    rintro _ w10 hP10
                    rw [hq4] at hP10
                    obtain ⟨rfl, he10⟩ := hP10
                    rw [hsv]
                    have he710 := he89.next he10
                    have he10a := he7.next he710
                    replace hp := he10a.bl hp.lt hp
                    replace hE := hE.next he10a
                    replace hT1 := hT1.ext he10a
                    replace hP1 := hP1.ext he10a
                    replace hTf := hTf.ext he10a
                    replace hFx := hFx.ext he10a
                    replace hO4 := (hO4.ext hea).ext he710
                    replace hK := hK.ext he10
                    replace hh := he710.bl hh.lt hh
                    have he910 := he9.next he10
                    replace hX := own_same (w' := w10) hX fun k hk => he910.block k (hXlt k hk).2
                    have hs10 := he10.size
                    refine L.rd (rd_move rfl) rfl ?_
                    refine L.rd (rd_ext0 rfl) rfl ?_
                    refine L.rd (rd_ext1 rfl) rfl ?_
                    refine L.rd (rd_assign rfl) rfl ?_
                    refine L.rd (rd_assign rfl) rfl ?_
                    refine L.nil ?_
                    refine X.sq ?_
                    refine V.seq ?_
                    refine V.seq ?_
                    refine V.draw [] mixed ?_
                    refine D.take 0 [true, false, false, false, false, false, false, false, false, false, false] (.sq (.sq (.bk (.sq (.lp (.bk (.sq .bd))))))) rfl (rd_loadN tok rfl rfl rfl hh.cells rfl) rfl (by kernel_rfl) rfl (LeC.drew _) ?_
                    refine D.take 2 [true, false, true, false, false, false, false, false, false, false, false] (.sq (.sq (.bk (.sq (.lp (.bk (.sq .bd))))))) rfl (rd_loadN tok rfl rfl rfl hp.cells rfl) rfl (by kernel_rfl) rfl (LeC.drew _) ?_
                    refine D.one 1 [true, true, true, false, false, false, false, false, false, false, false] rfl (by kernel_rfl) rfl (e_call rfl (polyOut_ok _ L4 _ (hO4.tl.le (LeC.drew _)) hS4) rfl ?_)
                    rintro _ w11 ⟨v11, rfl, L11, hO11, hq11, he11'⟩
                    have he11 : Ext w10.heap.size w10 w11 := (Ext.refl _ _).drew.trans he11'
                    have hle11 := he11.leC
                    refine ⟨fun _ => hle11, ?_⟩
                    refine D.one 3 [true, true, true, true, false, false, false, false, false, false, false] rfl (by kernel_rfl) rfl (e_call rfl (eqPolyL_ok _ _ L11 Ls _ hO11.tl (hT1.ext he11) (by rw [hq11]; exact hS4)) rfl ?_)
                    rintro _ w12 ⟨rfl, he12⟩
                    have he1112 := he11.next he12
                    have hle12 := he1112.leC
                    refine ⟨fun _ => hle12, ?_⟩
                    first | refine D.take 4 [true, true, true, true, true, false, false, false, false, false, false] (.sq (.sq (.bk (.sq (.lp (.bk (.sq .bd))))))) rfl (rd_not rfl) rfl (by kernel_rfl) rfl hle12 ?_ | refine D.take 4 [true, true, true, true, true, false, false, false, false, false, false] (.sq (.sq (.bk (.sq (.lp (.bk (.sq .bd))))))) rfl (rd_notB rfl) rfl (by kernel_rfl) rfl hle12 ?_
                    refine D.take 5 [true, true, true, true, true, true, false, false, false, false, false] (.sq (.sq (.bk (.sq (.lp (.bk (.sq .bd))))))) rfl (rd_move rfl) rfl (by kernel_rfl) rfl hle12 ?_
                    first | refine D.part 97 rfl (fun g97 => ?_) (fun g97 => ?_) | refine D.partB 97 rfl (fun g97 => ?_) (fun g97 => ?_)
                    ·
                      exact absurd (hq11.trans hq4) g97
                    ·
                      refine D.takeYes 6 [true, true, true, true, true, true, true, false, false, false, false] (.sq (.sq (.bk (.sq (.lp (.bk (.sq .bd))))))) rfl rfl rfl (rd_move rfl) rfl (by kernel_rfl) rfl hle12 ?_
                      refine D.takeYes 7 [true, true, true, true, true, true, true, true, false, false, false] (.sq (.sq (.bk (.sq (.lp (.bk (.sq .bd))))))) rfl rfl rfl (rd_move rfl) rfl (by kernel_rfl) rfl hle12 ?_
                      refine D.oneYes 8 [true, true, true, true, true, true, true, true, true, false, false] rfl rfl rfl (by kernel_rfl) rfl (e_call rfl (eqI64_ok _ _ pt pt _ (Rs.of_own (own_same hX fun k hk => he1112.block k (own_block_lt hX hk).2)) (hP1.ext he1112).rs hSp) rfl ?_)
                      rintro _ w13 ⟨rfl, he13'⟩
                      have he1013 := he1112.next he13'
                      have hle13 := he1013.leC
                      refine ⟨fun _ => hle13, ?_⟩
                      first | refine D.takeYes 9 [true, true, true, true, true, true, true, true, true, true, false] (.sq (.sq (.bk (.sq (.lp (.bk (.sq .bd))))))) rfl rfl rfl (rd_not rfl) rfl (by kernel_rfl) rfl hle13 ?_ | refine D.takeYes 9 [true, true, true, true, true, true, true, true, true, true, false] (.sq (.sq (.bk (.sq (.lp (.bk (.sq .bd))))))) rfl rfl rfl (rd_notB rfl) rfl (by kernel_rfl) rfl hle13 ?_
                      refine D.take 10 [true, true, true, true, true, true, true, true, true, true, true] (.sq (.sq (.bk (.sq (.lp (.bk (.sq .bd))))))) rfl (rd_pickF rfl rfl) rfl (by kernel_rfl) rfl hle13 ?_
                      refine D.done (by kernel_rfl) ?_
                      refine X.sq ?_
                      first | refine V.cond rfl (fun h102 => ?_) (fun h102 => ?_) | refine V.condB rfl (fun h102 => ?_) (fun h102 => ?_)
                      ·
                        exact absurd rfl h102
                      ·
                        refine V.skip ?_
                        refine X.sq ?_
                        refine V.seq ?_
                        refine V.seq ?_
                        refine V.region ?_
                        refine L.rd (rd_move rfl) rfl ?_
                        refine L.rd (rd_move rfl) rfl ?_
                        refine L.rd (rd_neqB tok rfl rfl rfl rfl) rfl ?_
                        refine L.rd (rd_move rfl) rfl ?_
                        first | refine L.partG rfl rfl (fun g106 => ?_) (fun g106 => ?_) | refine L.partGB rfl rfl (fun g106 => ?_) (fun g106 => ?_)
                        ·
                          exact absurd rfl g106
                        ·
                          refine L.yes rfl rfl ?_
                          refine L.rd (rd_move rfl) rfl ?_
                          refine L.yes rfl rfl ?_
                          refine L.rd (rd_move rfl) rfl ?_
                          refine L.yes rfl rfl ?_
                          refine L.rd (rd_neq rfl rfl) rfl ?_
                          refine L.rd (rd_pickF rfl rfl) rfl ?_
                          refine L.nil ?_
                          refine X.sq ?_
                          first | refine V.cond rfl (fun h110 => ?_) (fun h110 => ?_) | refine V.condB rfl (fun h110 => ?_) (fun h110 => ?_)
                          ·
                            exact absurd rfl h110
                          ·
                            refine V.skip ?_
                            refine X.sq ?_
                            refine V.seq ?_
                            replace hp := he1013.bl hp.lt hp
                            replace hE := hE.next he1013
                            replace hT1 := hT1.ext he1013
                            replace hP1 := hP1.ext he1013
                            replace hTf := hTf.ext he1013
                            replace hFx := hFx.ext he1013
                            replace hO4 := hO4.ext he1013
                            replace hK := hK.ext he1013
                            replace hh := he1013.bl hh.lt hh
                            replace hX := own_same (w' := w13) hX fun k hk => he1013.block k (own_block_lt hX hk).2
                            have hs13 := he1013.size
                            have hplt := hp.lt
                            refine V.region ?_
                            refine L.rd (rd_fieldAddr tok rfl rfl rfl rfl rfl rfl) rfl ?_
                            refine L.rd (rd_load1 tok rfl rfl rfl (hh.cell rfl)) rfl ?_
                            refine L.rd (rd_move rfl) rfl ?_
                            refine L.ef (e_call rfl (flipHeld_ok _ _ L4 _ hO4 hK (.inl (by omega)) hS4) rfl ?_)
                            rintro _ w14 ⟨M4, hO14, hq14, hR14⟩
                            have hs14 := hR14.size
                            have hX14 : w14.ownsRow _ 2 1 (.slice ah pt.length ch) pt.length (iC .i64 pt) := own_same hX fun k hk => hR14.block k (own_block_lt hX hk).2 (by have := (hXlt k hk).1; omega)
                            refine L.nil ?_
                            refine X.sq ?_
                            refine V.seq ?_
                            refine V.region ?_
                            refine L.rd (rd_move rfl) rfl ?_
                            refine L.ef (e_call rfl (flipPt_ok _ pt _ _ hX14 hSp) rfl ?_)
                            rintro _ w15 ⟨hX15, hg15⟩
                            have hs15 := hg15.size
                            have hR15 : Rg w6.heap.size w8.heap.size w14 w15 := Rg.grownO hg15 (fun g hg => ⟨by have := (hXlt g hg).1; omega, (hXlt g hg).2⟩)
                            have hhk : ∀ q, q < w13.heap.size → ¬ (wr.heap.size ≤ q ∧ q < w6.heap.size) → (∀ g, (Value.slice ah pt.length ch).ownBlock = some g → g ≠ q) → w15.heap[q]? = w13.heap[q]? := fun q h1 h2 h3 =>
                              (hg15.block q (by omega) (fun e => h3 q e.symm rfl)).trans (hR14.block q h1 h2)
                            have hh15 : Bl w15 w6.heap.size 70 [.slice a4 L4.length c4] := ⟨(hhk _ hh.lt (by omega) (fun g hg e => by have := (hXlt g hg).1; omega)).trans hh.at_⟩
                            have hp15 : Bl w15 w.heap.size 62 [.slice aa Ls.length ca] := ⟨(hhk _ hp.lt (by omega) (fun g hg e => by have := (hXlt g hg).1; omega)).trans hp.at_⟩
                            have hE15 := (hE.nextR hR14 (by omega)).nextR hR15 (by omega)
                            have hT15 := (hT1.rg hR14 (.inl (by omega))).rg hR15 (.inl (by omega))
                            have hP15 := (hP1.rg hR14 (.inl (by omega))).rg hR15 (.inl (by omega))
                            have hTf15 := (hTf.rg hR14 (.inl (by omega))).rg hR15 (.inl (by omega))
                            have hFx15 := (hFx.rg hR14 (.inl (by omega))).rg hR15 (.inl (by omega))
                            have hO15 := hO14.rg hR15 (.inl (by omega))
                            have hS15 : Sm (pol M4) := by
                              rw [hq14, hq4]
                              exact ⟨by rw [flipP_length]; exact hS.len, fun t ht => by
                                simp only [flipP, List.mem_map] at ht
                                obtain ⟨u, hu, rfl⟩ := ht
                                simpa using hS.sub u hu⟩
                            refine L.nil ?_
                            refine X.sq ?_
                            refine V.seq ?_
                            refine V.seq ?_
                            refine V.region ?_
                            refine L.rd (rd_fieldAddr tok rfl rfl rfl rfl rfl rfl) rfl ?_
                            refine L.rd (rd_load1 tok rfl rfl rfl (hh15.cell rfl)) rfl ?_
                            refine L.ef (e_call rfl (termsOut_ok _ M4 _ hO15.tl hS15) rfl ?_)
                            rintro v16 w16 ⟨L16, hO16, hq16, he16⟩
                            obtain ⟨a16, c16, rfl⟩ := own_form hO16.top
                            refine L.rd (rd_move rfl) rfl ?_
                            refine L.ef (e_call rfl (eqTermsL_ok _ _ L16 Lf _ hO16.tl (hTf15.ext he16) (by rw [hq16]; exact hS15)) rfl ?_)
                            rintro _ w17 ⟨rfl, he17⟩
                            have he1617 := he16.next he17
                            first | refine L.rd (rd_not rfl) rfl ?_ | refine L.rd (rd_notB rfl) rfl ?_
                            refine L.rd (rd_move rfl) rfl ?_
                            first | refine L.partG rfl rfl (fun g123 => ?_) (fun g123 => ?_) | refine L.partGB rfl rfl (fun g123 => ?_) (fun g123 => ?_)
                            ·
                              refine absurd ?_ g123
                              rw [hq16, hq14, hq4, hqf]
                            ·
                              refine L.yes rfl rfl ?_
                              refine L.rd (rd_move rfl) rfl ?_
                              refine L.yes rfl rfl ?_
                              refine L.rd (rd_move rfl) rfl ?_
                              refine L.yes rfl rfl ?_
                              refine L.ef (e_call rfl (eqI64_ok _ _ (pt.map (xr .i64)) (pt.map (xr .i64)) _ (by rw [List.length_map]; exact Rs.of_own (own_same hX15 fun k hk => he1617.block k (own_block_lt hX15 hk).2)) (by rw [List.length_map]; exact (hFx15.ext he1617).rs) (by rw [List.length_map]; exact hSp)) rfl ?_)
                              rintro _ w18 ⟨rfl, he18⟩
                              have he1518 := he1617.next he18
                              refine L.yes rfl rfl ?_
                              first | refine L.rd (rd_not rfl) rfl ?_ | refine L.rd (rd_notB rfl) rfl ?_
                              refine L.rd (rd_pickF rfl rfl) rfl ?_
                              refine L.nil ?_
                              refine X.sq ?_
                              first | refine V.cond rfl (fun h128 => ?_) (fun h128 => ?_) | refine V.condB rfl (fun h128 => ?_) (fun h128 => ?_)
                              ·
                                exact absurd rfl h128
                              ·
                                refine V.skip ?_
                                refine X.sq ?_
                                refine V.seq ?_
                                replace hp := he1518.bl hp15.lt hp15
                                replace hE := hE15.next he1518
                                replace hT1 := hT15.ext he1518
                                replace hP1 := hP15.ext he1518
                                replace hTf := hTf15.ext he1518
                                replace hFx := hFx15.ext he1518
                                have hs18 := he1518.size
                                refine V.region ?_
                                refine L.rd (rd_loadN tok rfl rfl rfl hp.cells rfl) rfl ?_
                                refine L.rd (rd_move rfl) rfl ?_
                                refine L.rd (rd_eql rfl rfl) rfl ?_
                                refine L.ef (e_call rfl (polyIn_ok _ Ls _ _ hT1 hS) rfl ?_)
                                rintro _ w19 ⟨v19, rfl, L19, hO19, hq19, he19⟩
                                refine L.rd (rd_move rfl) rfl ?_
                                refine L.rd (rd_move rfl) rfl ?_
                                refine L.rd (rd_eql rfl rfl) rfl ?_
                                refine L.ef (e_call rfl (ptIn_ok _ pt _ _ (hP1.ext he19).rs hSp) rfl ?_)
                                rintro v20 w20 ⟨hX20, he20⟩
                                refine L.ef (e_call rfl (ieval_ok _ _ L19 pt _ (hO19.ext he20).tl (by rw [hq19]; exact hS) (Rs.of_own hX20)) rfl ?_)
                                rintro _ w21 hP21
                                rw [hq19] at hP21
                                obtain ⟨rfl, he21⟩ := hP21
                                rw [hsv]
                                have he1921 := (he19.next he20).next he21
                                refine L.rd (rd_move rfl) rfl ?_
                                refine L.rd (rd_ext0 rfl) rfl ?_
                                refine L.rd (rd_ext1 rfl) rfl ?_
                                refine L.rd (rd_assign rfl) rfl ?_
                                refine L.rd (rd_assign rfl) rfl ?_
                                refine L.nil ?_
                                refine X.sq ?_
                                refine V.seq ?_
                                refine V.region ?_
                                refine L.rd (rd_move rfl) rfl ?_
                                refine L.rd (rd_move rfl) rfl ?_
                                refine L.rd (rd_neqB tok rfl rfl rfl rfl) rfl ?_
                                refine L.rd (rd_move rfl) rfl ?_
                                first | refine L.partG rfl rfl (fun g144 => ?_) (fun g144 => ?_) | refine L.partGB rfl rfl (fun g144 => ?_) (fun g144 => ?_)
                                ·
                                  exact absurd rfl g144
                                ·
                                  refine L.yes rfl rfl ?_
                                  refine L.rd (rd_move rfl) rfl ?_
                                  refine L.yes rfl rfl ?_
                                  refine L.rd (rd_move rfl) rfl ?_
                                  refine L.yes rfl rfl ?_
                                  refine L.rd (rd_neq rfl rfl) rfl ?_
                                  refine L.rd (rd_pickF rfl rfl) rfl ?_
                                  refine L.nil ?_
                                  refine X.sq ?_
                                  first | refine V.cond rfl (fun h148 => ?_) (fun h148 => ?_) | refine V.condB rfl (fun h148 => ?_) (fun h148 => ?_)
                                  ·
                                    exact absurd rfl h148
                                  ·
                                    refine V.skip ?_
                                    refine X.bk ?_
                                    refine X.sq ?_
                                    refine V.region ?_
                                    refine L.rd (rd_move rfl) rfl ?_
                                    (refine L.rd (rd_add3 rfl rfl ?_) rfl ?_; omega)
                                    refine L.rd (rd_assign rfl) rfl ?_
                                    refine L.nil ?_
                                    exact X.lp ⟨_, _, by omega, (by repeat' (first | exact trivial | refine ⟨rfl, ?_⟩)), k + 1, rfl, rfl, by omega, hE.next he1921, he1921.bl hp.lt hp, hTf.ext he1921, hFx.ext he1921, by have := he1921.size; omega, hT1.ext he1921, hP1.ext he1921⟩
                  ·
                    refine V.exit ?_
                    refine X.sqExit ?_
                    refine X.lpExit ?_
                    refine X.bkHere ?_
                    refine X.sq ?_
                    refine V.seq ?_
                    refine V.region ?_
                    refine L.rd (rd_assign rfl) rfl ?_
                    refine L.nil ?_
                    refine X.sq ?_
                    refine V.ret ?_
                    refine ret_1 Yabm.results13 rfl ?_
                    exact ⟨rfl, hE⟩
open Go.ChangeShapes Go.WideShapes Go.ChangeAt Go.RowKit
theorem own : ownKnob Yabm.prog.godebug = none := by kernel_rfl
theorem laidOut : laidOutB Yabm.prog = true := by kernel_rfl
theorem readable0 : Yabm.prog.readableRec 62 = true := by kernel_rfl
theorem readable1 : Yabm.prog.readableRec 51 = true := by kernel_rfl

set_option maxRecDepth 100000 in
theorem lifted (os : Os) (started : os.Started) (H : Type) (enc : TypeId × Value → H) :
    ReturnsInHanded {} Yabm.checked os 13 .any (Rows.fnExactEvalPolySpec.pre6 enc Yabm.prog Yabm.f13 Rows.fnExactEvalPolyRow.domain false) (Rows.fnExactEvalPolySpec.post enc Yabm.prog Yabm.f13 false true false false) := by
  refine returnsInHanded_of_change_sized (C := Yabm.checked) own started (by kernel_rfl) Yabm.func13
    (ChangeSpec.witness6 (enc := enc) (C := Yabm.checked) false ⟨#[], #[.agg #[.slice none 0 0], .slice none 0 0], []⟩ 8 (by kernel_rfl) (by kernel_rfl) (by kernel_rfl) (by kernel_rfl)) ?_
  intro W base args ds gs before hval0 hW hcnd hwt0 _
  have hval : ∀ (j : Nat) t v, Yabm.f13.params[j]? = some t → args[j]? = some v → Value.okWide Yabm.prog W .any base t v := hval0
  have hwt : (DataW.weightsEach Yabm.prog (Yabm.f13.params.toList ++ _) (ds ++ gs)).all (· ≤ reachBytes) = true := hwt0
  have hW' := hW
  obtain ⟨p, q, hA0, hV, rfl, hfz, hnd⟩ := hW
  have hA : DataW.TrodAll enc Yabm.prog W 0 (fun _ => true) true Yabm.f13.params.toList args.toList ds p := hA0
  rw [Yabm.params13] at hA hval hwt
  obtain ⟨v0, vs0, d0, ds0, p0, q0, hargs0, rfl, rfl, h0, r0⟩ := trodAll_cons hA
  obtain ⟨v1, vs1, d1, ds1, p1, q1, hargs1, rfl, rfl, h1, r1⟩ := trodAll_cons r0
  obtain ⟨hnil, rfl, rfl⟩ := trodAll_nil r1
  obtain rfl : args = #[v0, v1] := by cases args; simp_all
  obtain ⟨rfl, rfl⟩ := trodVars_none hV
  have hok0 := hval 0 62 v0 rfl rfl
  have hww0 := weights_arg hwt (j := 0) rfl rfl
  obtain ⟨u0, fuel0, y0, rfl, hy0, hyw0⟩ := open_one Yabm.underlying62 rfl (by kernel_rfl) (by kernel_rfl) hok0 h0
  obtain ⟨Ls0, hT0, hL0, hF0⟩ := tl_of_trod Yabm.underlying60 Yabm.underlying65 (by kernel_rfl) rfl rfl (by kernel_rfl) (by kernel_rfl) (by kernel_rfl) Yabm.underlying63 Yabm.underlying138 (by kernel_rfl) rfl rfl (by kernel_rfl) (by kernel_rfl) (by kernel_rfl) (by kernel_rfl) (by decide +kernel) (by decide +kernel) hy0 (fun n hn => hww0 n (hyw0 n hn))
  have hok1 := hval 1 51 v1 rfl rfl
  have hww1 := weights_arg hwt (j := 1) rfl rfl
  obtain ⟨fuel1, hy1⟩ := id h1
  rw [one_cell Yabm.underlying51 hok1] at hy1
  obtain ⟨zs1, hR1, hl1, hz1⟩ := ints_of_trod Yabm.underlying51 (by kernel_rfl) (by kernel_rfl) (by decide +kernel) hy1 hww1
  clear hA0 hval0
  simp only [List.append_nil] at hW'
  refine (law u0 v1 Ls0 zs1 W hT0 hL0 (fun t ht => (hF0 t ht).2.1) hR1).call.mono fun e W' ⟨v, he, hv, hg⟩ => ?_
  subst he hv
  exact ⟨_, rfl, post_belowE (pv := []) hW' (fun _ _ _ => (trodAll_mk1 (shut_bool Yabm.underlying4 _))) (trodAll_mk2 (Below.trod laidOut readable0 (by decide +kernel) h0 hg.below (fun x hx => hW'.lt x (by first | exact hx | (simp only [List.mem_append]; simp [hx])))) (Below.trod laidOut readable1 (by decide +kernel) h1 hg.below (fun x hx => hW'.lt x (by first | exact hx | (simp only [List.mem_append]; simp [hx]))))) rfl (by simp) hg⟩

theorem over : Rows.fnExactEvalPolyRow.holds Yabm.pinned (OpenSpec.ofChange Rows.fnExactEvalPolySpec) :=
  OpenClaim.holds_of_wide 13 Yabm.f13 rfl rfl rfl rfl rfl rfl rfl ⟨rfl, rfl, rfl, rfl, rfl⟩ rfl rfl rfl rfl rfl (by kernel_rfl) Yabm.func13 (by kernel_rfl)
    (of_decide_eq_true (by kernel_rfl)) (by unfold Func.isWrapper; first | (rw [if_pos (by decide +kernel)]; kernel_rfl) | (rw [if_neg (by decide +kernel)]; exact ⟨rfl, rfl⟩))
    (fun os started H enc _ => lifted os started H enc)

theorem proved : Rows.FnExactEvalPolySaid :=
  over
end Go.Proofs.Ybxabw.fnExactEvalPoly
