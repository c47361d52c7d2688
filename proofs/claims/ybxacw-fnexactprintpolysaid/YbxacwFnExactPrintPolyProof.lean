/-
  The statement FnExactPrintPolySaid.
-/
import Derived.Test.YbxacwRows
import Derived.Test.YbxacwRowP
import Derived.Test.YbxacwPrintW2
import Derived.Test.YbxacwTermW3
import Derived.WalkKit
import Derived.ProofKit
import Derived.SizedLaws
set_option linter.unusedVariables false
set_option linter.unusedSimpArgs false
set_option maxRecDepth 10000
namespace Go.Proofs.Ybxacw.fnExactPrintPoly
open Go.Mw

theorem law (va : Value) (Ls : List Lt) (w : World) (hT : Tl w 0 w.heap.size va Ls) (hL : Ls.length ≤ 140737488351232) (hF : ∀ t ∈ Ls, t.2.2.length ≤ 140737488351232) :
    Ret Yacm.prog 6 [.agg #[va]] w fun v w' => v = .bool true ∧ Ext w.heap.size w w' := by
  obtain ⟨aa, ca, rfl, hfa⟩ := hT.form
  refine enter1 Yacm.func6 Yacm.ntmps6 (by kernel_rfl) rfl rfl ?_
  refine V.seq ?_
  refine V.region ?_
  refine L.ef (e_box (cs := [_]) rfl rfl (by first | (simp only [size_addB, size_setB, size_drew]; rfl) | rfl) rfl ?_)
  refine L.rd (rd_assign rfl) rfl ?_
  refine L.nil ?_
  refine X.sq ?_
  refine V.seq ?_
  have hp := Bl.new w 39 [.slice aa Ls.length ca]
  have hE := (Ext.refl _ w).addNew 39 [.slice aa Ls.length ca]
  have hT1 := hT.ext hE
  refine V.region ?_
  refine L.rd (rd_assign rfl) rfl ?_
  refine L.nil ?_
  refine X.sq ?_
  refine V.seq ?_
  refine V.region ?_
  refine L.rd (rd_move rfl) rfl ?_
  refine L.rd (rd_fieldAddr tok rfl rfl rfl rfl rfl rfl) rfl ?_
  refine L.rd (rd_load1 tok rfl rfl rfl (hp.cell rfl)) rfl ?_
  refine L.rd (rd_lenSlice tok rfl rfl rfl) rfl ?_
  (refine L.rd (rd_add3 rfl rfl ?_) rfl ?_; omega)
  refine L.rd (rd_assign rfl) rfl ?_
  refine L.nil ?_
  refine X.sq ?_
  refine V.seq ?_
  refine V.seq ?_
  refine V.region ?_
  refine L.rd (rd_move rfl) rfl ?_
  refine L.rd (rd_gtr rfl rfl) rfl ?_
  refine L.nil ?_
  refine X.sq ?_
  first | refine V.cond rfl (fun h21 => ?_) (fun h21 => ?_) | refine V.condB rfl (fun h21 => ?_) (fun h21 => ?_)
  ·
    refine V.seq ?_
    refine V.region ?_
    refine L.rd (rd_assign rfl) rfl ?_
    refine L.nil ?_
    refine X.sq ?_
    refine V.ret ?_
    refine X.sqRet ?_
    refine ret_1 Yacm.results6 rfl ?_
    exact ⟨rfl, hE⟩
  ·
    refine V.skip ?_
    refine X.sq ?_
    refine V.seq ?_
    refine V.seq ?_
    refine V.region ?_
    refine L.rd (rd_assign rfl) rfl ?_
    refine L.nil ?_
    refine X.sq ?_
    refine V.block ?_
    refine V.loop (fun m l wr => ∃ (k : Nat) (s : Int), l = [(1, .pointer (some ⟨w.heap.size, 0, none⟩)), (3, .int .i64 s), (4, .int .i64 k)] ∧ m = Ls.length - k ∧ k ≤ Ls.length ∧ 0 ≤ s ∧ s ≤ 1048576 ∧ (∀ i t, i < k → Ls[i]? = some t → t.2.2.length ≤ 1048576) ∧ addB w 39 [.slice aa Ls.length ca] = wr) ?_ ?_
    ·
      exact ⟨_, _, (by repeat' (first | exact trivial | refine ⟨rfl, ?_⟩)), 0, _, rfl, rfl, by omega, by omega, by omega, fun i t h => by omega, rfl⟩
    ·
      rintro m l wr ⟨k, s, rfl, rfl, hk, hs0, hs1, hall, rfl⟩
      refine V.seq ?_
      refine V.seq ?_
      refine V.region ?_
      refine L.rd (rd_move rfl) rfl ?_
      refine L.rd (rd_fieldAddr tok rfl rfl rfl rfl rfl rfl) rfl ?_
      refine L.rd (rd_load1 tok rfl rfl rfl (hp.cell rfl)) rfl ?_
      refine L.rd (rd_lenSlice tok rfl rfl rfl) rfl ?_
      refine L.rd (rd_lss rfl rfl) rfl ?_
      refine L.nil ?_
      refine X.sq ?_
      first | refine V.cond rfl (fun h26 => ?_) (fun h26 => ?_) | refine V.condB rfl (fun h26 => ?_) (fun h26 => ?_)
      ·
        obtain ⟨b1, o1, rfl, -, -, hc1⟩ := hfa.resolve_left (by omega)
        obtain ⟨⟨c, fv, fs⟩, ht⟩ := nth_of_lt Ls k (by omega)
        have hcx := Tl.cells (hc1.le hE.leC) ht
        obtain ⟨fa, fc, hfv, hff⟩ := hT1.nth ht
        have hFk := hF _ (List.mem_of_getElem? ht)
        simp only at hfv hff hcx hFk
        subst hfv
        refine V.skip ?_
        refine X.sq ?_
        refine V.seq ?_
        refine V.block ?_
        refine V.seq ?_
        refine V.region ?_
        refine L.rd (rd_move rfl) rfl ?_
        refine L.rd (rd_fieldAddr tok rfl rfl rfl rfl rfl rfl) rfl ?_
        refine L.rd (rd_load1 tok rfl rfl rfl (hp.cell rfl)) rfl ?_
        refine L.rd (rd_move rfl) rfl ?_
        (refine L.rd (rd_indexSlice (sz := 2) tok rfl rfl rfl rfl rfl rfl rfl ?_) rfl ?_; omega)
        refine L.rd (rd_fieldAddr tok rfl rfl rfl rfl rfl rfl) rfl ?_
        refine L.rd (rd_load1 tok rfl rfl rfl (hcx.at_ 1 _ rfl)) rfl ?_
        refine L.rd (rd_lenSlice tok rfl rfl rfl) rfl ?_
        (refine L.rd (rd_add3 rfl rfl ?_) rfl ?_; omega)
        refine L.rd (rd_assign rfl) rfl ?_
        refine L.nil ?_
        refine X.sq ?_
        refine V.seq ?_
        refine V.region ?_
        refine L.rd (rd_move rfl) rfl ?_
        refine L.rd (rd_gtr rfl rfl) rfl ?_
        refine L.nil ?_
        refine X.sq ?_
        first | refine V.cond rfl (fun h39 => ?_) (fun h39 => ?_) | refine V.condB rfl (fun h39 => ?_) (fun h39 => ?_)
        ·
          refine V.seq ?_
          refine V.region ?_
          refine L.rd (rd_assign rfl) rfl ?_
          refine L.nil ?_
          refine X.sq ?_
          refine V.ret ?_
          refine X.bkRet ?_
          refine X.sqRet ?_
          refine X.lpRet ?_
          refine X.bkRet ?_
          refine X.sqRet ?_
          refine ret_1 Yacm.results6 rfl ?_
          exact ⟨rfl, hE⟩
        ·
          refine V.skip ?_
          refine X.bk ?_
          refine X.sq ?_
          refine V.region ?_
          refine L.rd (rd_move rfl) rfl ?_
          (refine L.rd (rd_add3 rfl rfl ?_) rfl ?_; omega)
          refine L.rd (rd_assign rfl) rfl ?_
          refine L.nil ?_
          refine X.lp ⟨_, _, by omega, (by repeat' (first | exact trivial | refine ⟨rfl, ?_⟩)), k + 1, _, rfl, rfl, by omega, by omega, by omega, fun i t hi hti => ?_, rfl⟩
          rcases Nat.lt_or_ge i k with h | h
          · exact hall i t h hti
          · obtain rfl : i = k := by omega
            rw [ht] at hti
            simp only [Option.some.injEq] at hti
            subst hti
            simp only []; omega
      ·
        refine V.exit ?_
        refine X.sqExit ?_
        refine X.lpExit ?_
        refine X.bkHere ?_
        refine X.sq ?_
        refine V.seq ?_
        refine V.seq ?_
        have hS : Sm (pol Ls) := ⟨by rw [pol_length]; omega, fun t ht => by
          simp only [pol, List.mem_map] at ht
          obtain ⟨u, hu, rfl⟩ := ht
          obtain ⟨i, hi⟩ := List.getElem?_of_mem hu
          have hil := (List.getElem?_eq_some_iff.1 hi).1
          have := hall i u (by omega) hi
          simp only []; omega⟩
        refine V.region ?_
        refine L.rd (rd_move rfl) rfl ?_
        refine L.rd (rd_gtr rfl rfl) rfl ?_
        refine L.nil ?_
        refine X.sq ?_
        first | refine V.cond rfl (fun h41 => ?_) (fun h41 => ?_) | refine V.condB rfl (fun h41 => ?_) (fun h41 => ?_)
        ·
          refine V.seq ?_
          refine V.region ?_
          refine L.rd (rd_assign rfl) rfl ?_
          refine L.nil ?_
          refine X.sq ?_
          refine V.ret ?_
          refine X.sqRet ?_
          refine ret_1 Yacm.results6 rfl ?_
          exact ⟨rfl, hE⟩
        ·
          refine V.skip ?_
          refine X.sq ?_
          refine V.seq ?_
          refine V.seq ?_
          refine V.region ?_
          refine L.rd (rd_fieldAddr tok rfl rfl rfl rfl rfl rfl) rfl ?_
          refine L.rd (rd_load1 tok rfl rfl rfl (hp.cell rfl)) rfl ?_
          refine L.ef (e_call rfl (termsSize_ok _ Ls _ hT1 hS) rfl ?_)
          rintro _ _ ⟨s2, rfl, hs20, hs21, rfl⟩
          refine L.rd (rd_gtr rfl rfl) rfl ?_
          refine L.nil ?_
          refine X.sq ?_
          first | refine V.cond rfl (fun h45 => ?_) (fun h45 => ?_) | refine V.condB rfl (fun h45 => ?_) (fun h45 => ?_)
          ·
            refine V.seq ?_
            refine V.region ?_
            refine L.rd (rd_assign rfl) rfl ?_
            refine L.nil ?_
            refine X.sq ?_
            refine V.ret ?_
            refine X.sqRet ?_
            refine ret_1 Yacm.results6 rfl ?_
            exact ⟨rfl, hE⟩
          ·
            refine V.skip ?_
            refine X.sq ?_
            refine V.seq ?_
            refine V.region ?_
            refine L.rd (rd_loadN tok rfl rfl rfl hp.cells rfl) rfl ?_
            refine L.ef (e_call rfl (polyIn_ok _ Ls false _ hT1 hS) rfl ?_)
            rintro _ w1 ⟨v1, rfl, L1, hO1, hq1, he1⟩
            have hSq1 : Sm (pol L1) := hq1 ▸ hS
            refine L.ef (e_call rfl (sprint_ok _ L1 _ hO1.tl hSq1) rfl ?_)
            rintro _ w2 hP2
            rw [hq1] at hP2
            obtain ⟨rfl, he2⟩ := hP2
            generalize hsv : mkS (if canon (pol Ls) = true then printP (pol Ls) else []) = sv
            replace hE := (hE.next he1).next he2
            replace hT1 := (hT1.ext he1).ext he2
            replace hp := he2.bl (he1.bl hp.lt hp).lt (he1.bl hp.lt hp)
            refine L.rd (rd_move rfl) rfl ?_
            refine L.rd (rd_ext0 rfl) rfl ?_
            refine L.rd (rd_ext1 rfl) rfl ?_
            refine L.rd (rd_assign rfl) rfl ?_
            refine L.rd (rd_assign rfl) rfl ?_
            refine L.nil ?_
            refine X.sq ?_
            refine V.seq ?_
            refine V.region ?_
            refine L.rd (rd_fieldAddr tok rfl rfl rfl rfl rfl rfl) rfl ?_
            refine L.rd (rd_load1 tok rfl rfl rfl (hp.cell rfl)) rfl ?_
            refine L.ef (e_call rfl (flipTermsL_ok _ Ls _ hT1 hS) rfl ?_)
            rintro vf w3 ⟨Lf, hOf, hqf, he3⟩
            obtain ⟨af, cf, rfl⟩ := own_form hOf.top
            replace hE := hE.next he3
            replace hT1 := hT1.ext he3
            replace hp := he3.bl hp.lt hp
            have hTf := hOf.tl
            clear hOf
            refine L.rd (rd_assign rfl) rfl ?_
            refine L.nil ?_
            refine X.sq ?_
            refine V.seq ?_
            refine V.seq ?_
            refine V.region ?_
            refine L.rd (rd_assign rfl) rfl ?_
            refine L.nil ?_
            refine X.sq ?_
            refine V.block ?_
            refine V.loop (fun m l wr => ∃ (k : Nat), l = [(1, .pointer (some ⟨w.heap.size, 0, none⟩)), (5, .string sv), (6, .bool (canon (pol Ls))), (7, .slice af Lf.length cf), (8, .int .i64 k)] ∧ m = 2 - k ∧ k ≤ 2 ∧ Ext w.heap.size w wr ∧ Bl wr w.heap.size 39 [.slice aa Ls.length ca] ∧ Tl wr w2.heap.size w3.heap.size (.slice af Lf.length cf) Lf ∧ w3.heap.size ≤ wr.heap.size ∧ Tl wr 0 w.heap.size (.slice aa Ls.length ca) Ls) ?_ ?_
            ·
              exact ⟨_, _, (by repeat' (first | exact trivial | refine ⟨rfl, ?_⟩)), 0, rfl, rfl, by omega, hE, hp, hTf, Nat.le_refl _, hT1⟩
            ·
              clear hp hE hT1 hTf
              rintro m l wr ⟨k, rfl, rfl, hk, hE, hp, hTf, hwr, hT1⟩
              refine V.seq ?_
              refine V.seq ?_
              refine V.region ?_
              refine L.rd (rd_move rfl) rfl ?_
              refine L.rd (rd_lss rfl rfl) rfl ?_
              refine L.nil ?_
              refine X.sq ?_
              first | refine V.cond rfl (fun h56 => ?_) (fun h56 => ?_) | refine V.condB rfl (fun h56 => ?_) (fun h56 => ?_)
              ·
                refine V.skip ?_
                refine X.sq ?_
                refine V.seq ?_
                refine V.block ?_
                refine V.seq ?_
                refine V.region ?_
                refine L.rd (rd_loadN tok rfl rfl rfl hp.cells rfl) rfl ?_
                refine L.rd (rd_move rfl) rfl ?_
                refine L.rd (rd_eql rfl rfl) rfl ?_
                refine L.ef (e_call rfl (polyIn_ok _ Ls _ _ hT1 hS) rfl ?_)
                rintro _ w4 ⟨v4, rfl, L4, hO4, hq4, he4⟩
                obtain ⟨a4, c4, rfl⟩ := own_form hO4.top
                have hS4 : Sm (pol L4) := hq4 ▸ hS
                have hp4 := he4.bl hp.lt hp
                have hE4 := hE.next he4
                have hT4 := hT1.ext he4
                have hTf4 := hTf.ext he4
                refine L.ef (e_alloc (cs := [_]) tok rfl rfl (by first | (simp only [size_addB, size_setB, size_drew]; rfl) | rfl) rfl ?_)
                refine L.ef (e_store (vs := [_]) tok rfl rfl rfl rfl (by (repeat (first | assumption | (refine Bl.new' ?_ _ _; first | with_reducible rfl | (simp only [size_addB, size_setB, size_drew]; done)) | apply Bl.add | apply Bl.drew | (apply Bl.setNe; omega) | (refine Bl.set' ?_ _ _; (try simp only [size_addB, size_setB, size_drew]); omega)))) rfl (by simp [Value.oneCell']) (by simp) ?_)
                refine L.nil ?_
                refine X.sq ?_
                refine V.seq ?_
                have hea : Ext w4.heap.size w4 (setB (addB w4 46 [.slice none 0 0]) w4.heap.size 46 (putAt [.slice none 0 0] 0 [.slice a4 L4.length c4])) := ((Ext.refl _ _).addNew _ _).set (Nat.le_refl _) _ _
                have hh : Bl (setB (addB w4 46 [.slice none 0 0]) w4.heap.size 46 (putAt [.slice none 0 0] 0 [.slice a4 L4.length c4])) w4.heap.size 46 [.slice a4 L4.length c4] := Bl.set' (by rw [size_addB]; omega) _ _
                replace hp4 := hea.bl hp4.lt hp4
                replace hE4 := hE4.next hea
                replace hT4 := hT4.ext hea
                replace hTf4 := hTf4.ext hea
                replace hO4 := hO4.ext hea
                have hs5 : w4.heap.size ≤ (setB (addB w4 46 [.slice none 0 0]) w4.heap.size 46 (putAt [.slice none 0 0] 0 [.slice a4 L4.length c4])).heap.size := hea.size
                have hs4 := he4.size
                refine V.region ?_
                refine L.rd (rd_fieldAddr tok rfl rfl rfl rfl rfl rfl) rfl ?_
                refine L.rd (rd_load1 tok rfl rfl rfl (hh.cell rfl)) rfl ?_
                refine L.ef (e_call rfl (keepFactors_ok _ L4 _ hO4.tl hS4) rfl ?_)
                rintro vk w6 ⟨hK, he6⟩
                obtain ⟨ak, ck, rfl, -⟩ := id hK.form
                replace hp4 := he6.bl hp4.lt hp4
                replace hE4 := hE4.next he6
                replace hT4 := hT4.ext he6
                replace hTf4 := hTf4.ext he6
                replace hO4 := hO4.ext he6
                replace hh := he6.bl hh.lt hh
                have hs6 := he6.size
                refine L.rd (rd_assign rfl) rfl ?_
                refine L.nil ?_
                refine X.sq ?_
                refine V.seq ?_
                refine V.region ?_
                refine L.rd (rd_loadN tok rfl rfl rfl hh.cells rfl) rfl ?_
                refine L.ef (e_call rfl (iprint_ok _ L4 _ hO4.tl hS4) rfl ?_)
                rintro _ w7 hP7
                rw [hq4] at hP7
                obtain ⟨rfl, he7⟩ := hP7
                rw [hsv]
                replace hp4 := he7.bl hp4.lt hp4
                replace hE4 := hE4.next he7
                replace hT4 := hT4.ext he7
                replace hTf4 := hTf4.ext he7
                replace hO4 := hO4.ext he7
                replace hK := hK.ext he7
                replace hh := he7.bl hh.lt hh
                have hs7 := he7.size
                refine L.rd (rd_move rfl) rfl ?_
                refine L.rd (rd_ext0 rfl) rfl ?_
                refine L.rd (rd_ext1 rfl) rfl ?_
                refine L.rd (rd_assign rfl) rfl ?_
                refine L.rd (rd_assign rfl) rfl ?_
                refine L.nil ?_
                refine X.sq ?_
                refine V.seq ?_
                refine V.seq ?_
                refine V.draw [] mixed ?_
                refine D.take 0 [true, false, false, false, false] (.sq (.sq (.bk (.sq (.lp (.bk (.sq .bd))))))) rfl (rd_loadN tok rfl rfl rfl hh.cells rfl) rfl (by kernel_rfl) rfl (LeC.drew _) ?_
                refine D.take 2 [true, false, true, false, false] (.sq (.sq (.bk (.sq (.lp (.bk (.sq .bd))))))) rfl (rd_loadN tok rfl rfl rfl hp4.cells rfl) rfl (by kernel_rfl) rfl (LeC.drew _) ?_
                refine D.one 1 [true, true, true, false, false] rfl (by kernel_rfl) rfl (e_call rfl (polyOut_ok _ L4 _ (hO4.tl.le (LeC.drew _)) hS4) rfl ?_)
                rintro _ w8 ⟨v8, rfl, L8, hO8, hq8, he8'⟩
                have he8 : Ext w7.heap.size w7 w8 := (Ext.refl _ _).drew.trans he8'
                have hle8 := he8.leC
                refine ⟨fun _ => hle8, ?_⟩
                refine D.one 3 [true, true, true, true, false] rfl (by kernel_rfl) rfl (e_call rfl (eqPolyL_ok _ _ L8 Ls _ hO8.tl (hT4.ext he8) (by rw [hq8]; exact hS4)) rfl ?_)
                rintro _ w9 ⟨rfl, he9⟩
                have hle9 := (he8.next he9).leC
                refine ⟨fun _ => hle9, ?_⟩
                first | refine D.take 4 [true, true, true, true, true] (.sq (.sq (.bk (.sq (.lp (.bk (.sq .bd))))))) rfl (rd_not rfl) rfl (by kernel_rfl) rfl hle9 ?_ | refine D.take 4 [true, true, true, true, true] (.sq (.sq (.bk (.sq (.lp (.bk (.sq .bd))))))) rfl (rd_notB rfl) rfl (by kernel_rfl) rfl hle9 ?_
                refine D.done (by kernel_rfl) ?_
                refine X.sq ?_
                first | refine V.cond rfl (fun h75 => ?_) (fun h75 => ?_) | refine V.condB rfl (fun h75 => ?_) (fun h75 => ?_)
                ·
                  exact absurd (hq8.trans hq4) h75
                ·
                  refine V.skip ?_
                  refine X.sq ?_
                  refine V.seq ?_
                  refine V.seq ?_
                  refine V.region ?_
                  refine L.rd (rd_move rfl) rfl ?_
                  refine L.rd (rd_move rfl) rfl ?_
                  refine L.rd (rd_neqB tok rfl rfl rfl rfl) rfl ?_
                  refine L.rd (rd_move rfl) rfl ?_
                  first | refine L.partG rfl rfl (fun g79 => ?_) (fun g79 => ?_) | refine L.partGB rfl rfl (fun g79 => ?_) (fun g79 => ?_)
                  ·
                    exact absurd rfl g79
                  ·
                    refine L.yes rfl rfl ?_
                    refine L.rd (rd_move rfl) rfl ?_
                    refine L.yes rfl rfl ?_
                    refine L.rd (rd_move rfl) rfl ?_
                    refine L.yes rfl rfl ?_
                    refine L.rd (rd_neqS rfl rfl) rfl ?_
                    refine L.rd (rd_pickF rfl rfl) rfl ?_
                    refine L.nil ?_
                    refine X.sq ?_
                    first | refine V.cond rfl (fun h83 => ?_) (fun h83 => ?_) | refine V.condB rfl (fun h83 => ?_) (fun h83 => ?_)
                    ·
                      simp at h83
                    ·
                      refine V.skip ?_
                      refine X.sq ?_
                      refine V.seq ?_
                      have he89 := he8.next he9
                      replace hp4 := he89.bl hp4.lt hp4
                      replace hE4 := hE4.next he89
                      replace hT4 := hT4.ext he89
                      replace hTf4 := hTf4.ext he89
                      replace hO4 := hO4.ext he89
                      replace hK := hK.ext he89
                      replace hh := he89.bl hh.lt hh
                      have hs9 := he89.size
                      refine V.region ?_
                      refine L.rd (rd_fieldAddr tok rfl rfl rfl rfl rfl rfl) rfl ?_
                      refine L.rd (rd_load1 tok rfl rfl rfl (hh.cell rfl)) rfl ?_
                      refine L.rd (rd_move rfl) rfl ?_
                      refine L.ef (e_call rfl (flipHeld_ok _ _ L4 _ hO4 hK (.inl hs5) hS4) rfl ?_)
                      rintro _ w10 ⟨M4, hO10, hq10, hR10⟩
                      have hs10 := hR10.size
                      have hh10 := Rr.rg (lo := w4.heap.size) (hi := w4.heap.size + 1) (sz := 1) (v := .slice (some ⟨w4.heap.size, 0, none⟩) 1 1) (n := 1) (xs := [.slice a4 L4.length c4]) (Rr.of_bl hh rfl (Nat.le_refl _) (by omega)) hR10 (by omega)
                      obtain ⟨b10, o10, c10, hv10, hc10⟩ := hh10.rs.at_ (by omega)
                      simp only [Value.slice.injEq, Option.some.injEq, Addr.mk.injEq] at hv10
                      obtain ⟨⟨rfl, rfl, -⟩, -, rfl⟩ := hv10
                      have hpl := hp.lt
                      have hp10 : Bl w10 w.heap.size 39 [.slice aa Ls.length ca] := ⟨(hR10.block _ hp4.lt (by have := hE.size; omega)).trans hp4.at_⟩
                      have hE10 := hE4.nextR hR10 hE.size
                      have hT10 := hT4.rg hR10 (.inl hE.size)
                      have hTf10 := hTf4.rg hR10 (.inl hwr)
                      have hS10 : Sm (pol M4) := by
                        rw [hq10, hq4]
                        exact ⟨by rw [flipP_length]; exact hS.len, fun t ht => by
                          simp only [flipP, List.mem_map] at ht
                          obtain ⟨u, hu, rfl⟩ := ht
                          simpa using hS.sub u hu⟩
                      refine L.nil ?_
                      refine X.sq ?_
                      refine V.seq ?_
                      refine V.seq ?_
                      refine V.region ?_
                      refine L.rd (rd_fieldAddr tok rfl rfl rfl rfl rfl rfl) rfl ?_
                      refine L.rd (rd_load1 tok rfl rfl rfl (hc10.at_ 0 _ rfl)) rfl ?_
                      refine L.ef (e_call rfl (termsOut_ok _ M4 _ hO10.tl hS10) rfl ?_)
                      rintro v11 w11 ⟨L11, hO11, hq11, he11⟩
                      obtain ⟨a11, c11, rfl⟩ := own_form hO11.top
                      refine L.rd (rd_move rfl) rfl ?_
                      refine L.ef (e_call rfl (eqTermsL_ok _ _ L11 Lf _ hO11.tl (hTf10.ext he11) (by rw [hq11]; exact hS10)) rfl ?_)
                      rintro _ w12 ⟨rfl, he12⟩
                      have he1112 := he11.next he12
                      first | refine L.rd (rd_not rfl) rfl ?_ | refine L.rd (rd_notB rfl) rfl ?_
                      refine L.nil ?_
                      refine X.sq ?_
                      first | refine V.cond rfl (fun h93 => ?_) (fun h93 => ?_) | refine V.condB rfl (fun h93 => ?_) (fun h93 => ?_)
                      ·
                        refine absurd ?_ h93
                        rw [hq11, hq10, hq4, hqf]
                      ·
                        refine V.skip ?_
                        refine X.sq ?_
                        refine V.seq ?_
                        replace hp := he1112.bl hp10.lt hp10
                        replace hE := hE10.next he1112
                        replace hT1 := hT10.ext he1112
                        replace hTf := hTf10.ext he1112
                        have hs12 := he1112.size
                        refine V.region ?_
                        refine L.rd (rd_loadN tok rfl rfl rfl hp.cells rfl) rfl ?_
                        refine L.rd (rd_move rfl) rfl ?_
                        refine L.rd (rd_eql rfl rfl) rfl ?_
                        refine L.ef (e_call rfl (polyIn_ok _ Ls _ _ hT1 hS) rfl ?_)
                        rintro _ w13 ⟨v13, rfl, L13, hO13, hq13, he13⟩
                        refine L.ef (e_call rfl (iprint_ok _ L13 _ hO13.tl (by rw [hq13]; exact hS)) rfl ?_)
                        rintro _ w14 hP14
                        rw [hq13] at hP14
                        obtain ⟨rfl, he14⟩ := hP14
                        rw [hsv]
                        have he1314 := he13.next he14
                        refine L.rd (rd_move rfl) rfl ?_
                        refine L.rd (rd_ext0 rfl) rfl ?_
                        refine L.rd (rd_ext1 rfl) rfl ?_
                        refine L.rd (rd_assign rfl) rfl ?_
                        refine L.rd (rd_assign rfl) rfl ?_
                        refine L.nil ?_
                        refine X.sq ?_
                        refine V.seq ?_
                        refine V.region ?_
                        refine L.rd (rd_move rfl) rfl ?_
                        refine L.rd (rd_move rfl) rfl ?_
                        refine L.rd (rd_neqB tok rfl rfl rfl rfl) rfl ?_
                        refine L.rd (rd_move rfl) rfl ?_
                        first | refine L.partG rfl rfl (fun g105 => ?_) (fun g105 => ?_) | refine L.partGB rfl rfl (fun g105 => ?_) (fun g105 => ?_)
                        ·
                          exact absurd rfl g105
                        ·
                          refine L.yes rfl rfl ?_
                          refine L.rd (rd_move rfl) rfl ?_
                          refine L.yes rfl rfl ?_
                          refine L.rd (rd_move rfl) rfl ?_
                          refine L.yes rfl rfl ?_
                          refine L.rd (rd_neqS rfl rfl) rfl ?_
                          refine L.rd (rd_pickF rfl rfl) rfl ?_
                          refine L.nil ?_
                          refine X.sq ?_
                          first | refine V.cond rfl (fun h109 => ?_) (fun h109 => ?_) | refine V.condB rfl (fun h109 => ?_) (fun h109 => ?_)
                          ·
                            simp at h109
                          ·
                            refine V.skip ?_
                            refine X.bk ?_
                            refine X.sq ?_
                            refine V.region ?_
                            refine L.rd (rd_move rfl) rfl ?_
                            (refine L.rd (rd_add3 rfl rfl ?_) rfl ?_; omega)
                            refine L.rd (rd_assign rfl) rfl ?_
                            refine L.nil ?_
                            exact X.lp ⟨_, _, by omega, (by repeat' (first | exact trivial | refine ⟨rfl, ?_⟩)), k + 1, rfl, rfl, by omega, hE.next he1314, he1314.bl hp.lt hp, hTf.ext he1314, by have := he1314.size; omega, hT1.ext he1314⟩
              ·
                refine V.exit ?_
                refine X.sqExit ?_
                refine X.lpExit ?_
                refine X.bkHere ?_
                refine X.sq ?_
                refine V.seq ?_
                refine V.region ?_
                refine L.rd (rd_assign rfl) rfl ?_
                refine L.nil ?_
                refine X.sq ?_
                refine V.ret ?_
                refine ret_1 Yacm.results6 rfl ?_
                exact ⟨rfl, hE⟩

open Go.ChangeShapes Go.WideShapes Go.ChangeAt Go.RowKit
theorem own : ownKnob Yacm.prog.godebug = none := by kernel_rfl
theorem laidOut : laidOutB Yacm.prog = true := by kernel_rfl
theorem readable : Yacm.prog.readableRec 39 = true := by kernel_rfl

set_option maxRecDepth 100000 in
theorem lifted (os : Os) (started : os.Started) (H : Type) (enc : TypeId × Value → H) :
    ReturnsInHanded {} Yacm.checked os 6 .any (Rows.fnExactPrintPolySpec.pre6 enc Yacm.prog Yacm.f6 Rows.fnExactPrintPolyRow.domain false) (Rows.fnExactPrintPolySpec.post enc Yacm.prog Yacm.f6 false true false false) := by
  refine returnsInHanded_of_change_sized (C := Yacm.checked) own started (by kernel_rfl) Yacm.func6
    (ChangeSpec.witness6 (enc := enc) (C := Yacm.checked) false ⟨#[], #[.agg #[.slice none 0 0]], []⟩ 8 (by kernel_rfl) (by kernel_rfl) (by kernel_rfl) (by kernel_rfl)) ?_
  intro W base args ds gs before hval0 hW hcnd hwt0 _
  have hval : ∀ (j : Nat) t v, Yacm.f6.params[j]? = some t → args[j]? = some v → Value.okWide Yacm.prog W .any base t v := hval0
  have hwt : (DataW.weightsEach Yacm.prog (Yacm.f6.params.toList ++ _) (ds ++ gs)).all (· ≤ reachBytes) = true := hwt0
  have hW' := hW
  obtain ⟨p, q, hA0, hV, rfl, hfz, hnd⟩ := hW
  have hA : DataW.TrodAll enc Yacm.prog W 0 (fun _ => true) true Yacm.f6.params.toList args.toList ds p := hA0
  rw [Yacm.params6] at hA hval hwt
  obtain ⟨v0, vs0, d0, ds0, p0, q0, hargs, rfl, rfl, h0, r0⟩ := trodAll_cons hA
  obtain ⟨rfl, rfl, rfl⟩ := trodAll_nil r0
  obtain rfl : args = #[v0] := by cases args; simp_all
  obtain ⟨rfl, rfl⟩ := trodVars_none hV
  have hok0 := hval 0 39 v0 rfl rfl
  obtain ⟨u, fuel, y, rfl, hy, hyw⟩ := open_one Yacm.underlying39 rfl (by kernel_rfl) (by kernel_rfl) hok0 h0
  have hww := weights_arg hwt (j := 0) rfl rfl
  obtain ⟨Ls, hT, hL, hF⟩ := tl_of_trod Yacm.underlying37 Yacm.underlying42 (by kernel_rfl) rfl rfl (by kernel_rfl) (by kernel_rfl) (by kernel_rfl) Yacm.underlying40 Yacm.underlying107 (by kernel_rfl) rfl rfl (by kernel_rfl) (by kernel_rfl) (by kernel_rfl) (by kernel_rfl) (by decide +kernel) (by decide +kernel) hy (fun n hn => hww n (hyw n hn))
  clear hA0 hval0
  simp only [List.append_nil] at hW'
  refine (law u Ls W hT hL (fun t ht => (hF t ht).2.1)).call.mono fun e W' ⟨v, he, hv, hg⟩ => ?_
  subst he hv
  exact ⟨_, rfl, post_belowE (pv := []) hW' (fun _ _ _ => (trodAll_mk1 (shut_bool Yacm.underlying4 _))) (trodAll_mk1 (Below.trod laidOut readable (by decide +kernel) h0 hg.below (fun x hx => hW'.lt x (by simpa using hx)))) rfl (by simp) hg⟩

theorem over : Rows.fnExactPrintPolyRow.holds Yacm.pinned (OpenSpec.ofChange Rows.fnExactPrintPolySpec) :=
  OpenClaim.holds_of_wide 6 Yacm.f6 rfl rfl rfl rfl rfl rfl rfl ⟨rfl, rfl, rfl, rfl, rfl⟩ rfl rfl rfl rfl rfl (by kernel_rfl) Yacm.func6 (by kernel_rfl)
    (of_decide_eq_true (by kernel_rfl)) (by unfold Func.isWrapper; first | (rw [if_pos (by decide +kernel)]; kernel_rfl) | (rw [if_neg (by decide +kernel)]; exact ⟨rfl, rfl⟩))
    (fun os started H enc _ => lifted os started H enc)

theorem proved : Rows.FnExactPrintPolySaid :=
  over
end Go.Proofs.Ybxacw.fnExactPrintPoly
