/-
  The statement FnExactDiffPolySaid.
-/
import Derived.Test.YbxacwRows
import Derived.Test.YbxacwRowP
import Derived.Test.YbxacwDiffW2
import Derived.Test.YbxacwLiveW
import Derived.WalkKit
import Derived.ProofKit
import Derived.SizedLaws
set_option linter.unusedVariables false
set_option linter.unusedSimpArgs false
set_option maxRecDepth 10000
namespace Go.Proofs.Ybxacw.fnExactDiffPoly
open Go.Mw

theorem dif_s4 {q : List PT} {v : Int} {Ms : List Lt} (h : pol Ms = (difP q v).getD []) : S4 Ms := by
  have key : ∀ (R : List MT), (∀ t ∈ R, t.2.length = 26) → R.length ≤ 4096 → pol Ms = toP R → S4 Ms := by
    intro R hR hl he
    have h1 := congrArg List.length he
    rw [pol_length, toP_len] at h1
    refine ⟨by omega, fun t ht => ?_⟩
    have h2 : (t.1, t.2.2) ∈ pol Ms := List.mem_map.2 ⟨t, ht, rfl⟩
    rw [he] at h2
    simp only [toP, List.mem_map] at h2
    obtain ⟨u, hu, hue⟩ := h2
    simp only [Prod.mk.injEq] at hue
    have h3 := spF_len u.2 0
    rw [hR u hu] at h3
    rw [← hue.2]; omega
  unfold difP at h
  split at h
  · rename_i hc
    have hg := dms_good hc.1 (v := v.toNat) (by omega)
    refine key _ (fun t ht => ?_) (Nat.le_trans (nf_len _) hg.2.2.1) h
    obtain ⟨y, hy, he⟩ := nf_mem ht
    rw [← he]; exact (hg.1 y hy).len
  · have h1 := congrArg List.length h
    rw [pol_length] at h1
    have h2 : Ms = [] := List.eq_nil_of_length_eq_zero h1
    subst h2
    exact ⟨by simp, fun t ht => (by cases ht)⟩

theorem law (va : Value) (Ls : List Lt) (v : Int) (w : World) (hT : Tl w 0 w.heap.size va Ls) (hL : Ls.length ≤ 140737488351232) (hF : ∀ t ∈ Ls, t.2.2.length ≤ 140737488351232) :
    Ret Yacm.prog 4 [.agg #[va], .int .i64 v] w fun v w' => v = .bool true ∧ Ext w.heap.size w w' := by
  obtain ⟨aa, ca, rfl, hfa⟩ := hT.form
  refine enter2 Yacm.func4 Yacm.ntmps4 (by kernel_rfl) rfl rfl ?_
  refine V.seq ?_
  refine V.region ?_
  refine L.ef (e_box (cs := [_]) rfl rfl (by first | (simp only [size_addB, size_setB, size_drew]; rfl) | rfl) rfl ?_)
  refine L.rd (rd_assign rfl) rfl ?_
  refine L.nil ?_
  refine X.sq ?_
  refine V.seq ?_
  have hp := Bl.new w 39 [.slice aa Ls.length ca]
  have hE := (Ext.refl _ w).addNew 39 [.slice aa Ls.length ca]
  have hT1 := hT.ext hE
  refine V.region ?_
  refine L.rd (rd_assign rfl) rfl ?_
  refine L.nil ?_
  refine X.sq ?_
  refine V.seq ?_
  refine V.region ?_
  refine L.rd (rd_move rfl) rfl ?_
  refine L.rd (rd_fieldAddr tok rfl rfl rfl rfl rfl rfl) rfl ?_
  refine L.rd (rd_load1 tok rfl rfl rfl (hp.cell rfl)) rfl ?_
  refine L.rd (rd_lenSlice tok rfl rfl rfl) rfl ?_
  (refine L.rd (rd_add3 rfl rfl ?_) rfl ?_; omega)
  refine L.rd (rd_assign rfl) rfl ?_
  refine L.nil ?_
  refine X.sq ?_
  refine V.seq ?_
  refine V.seq ?_
  refine V.region ?_
  refine L.rd (rd_move rfl) rfl ?_
  refine L.rd (rd_gtr rfl rfl) rfl ?_
  refine L.nil ?_
  refine X.sq ?_
  first | refine V.cond rfl (fun h25 => ?_) (fun h25 => ?_) | refine V.condB rfl (fun h25 => ?_) (fun h25 => ?_)
  ·
    refine V.seq ?_
    refine V.region ?_
    refine L.rd (rd_assign rfl) rfl ?_
    refine L.nil ?_
    refine X.sq ?_
    refine V.ret ?_
    refine X.sqRet ?_
    refine ret_1 Yacm.results4 rfl ?_
    exact ⟨rfl, hE⟩
  ·
    refine V.skip ?_
    refine X.sq ?_
    refine V.seq ?_
    refine V.seq ?_
    refine V.region ?_
    refine L.rd (rd_assign rfl) rfl ?_
    refine L.nil ?_
    refine X.sq ?_
    refine V.block ?_
    refine V.loop (fun m l wr => ∃ (k : Nat) (s : Int), l = [(1, .int .i64 v), (2, .pointer (some ⟨w.heap.size, 0, none⟩)), (5, .int .i64 s), (6, .int .i64 k)] ∧ m = Ls.length - k ∧ k ≤ Ls.length ∧ 0 ≤ s ∧ s ≤ 1048576 ∧ (∀ i t, i < k → Ls[i]? = some t → t.2.2.length ≤ 1048576) ∧ addB w 39 [.slice aa Ls.length ca] = wr) ?_ ?_
    ·
      exact ⟨_, _, (by repeat' (first | exact trivial | refine ⟨rfl, ?_⟩)), 0, _, rfl, rfl, by omega, by omega, by omega, fun i t h => by omega, rfl⟩
    ·
      rintro m l wr ⟨k, s, rfl, rfl, hk, hs0, hs1, hall, rfl⟩
      refine V.seq ?_
      refine V.seq ?_
      refine V.region ?_
      refine L.rd (rd_move rfl) rfl ?_
      refine L.rd (rd_fieldAddr tok rfl rfl rfl rfl rfl rfl) rfl ?_
      refine L.rd (rd_load1 tok rfl rfl rfl (hp.cell rfl)) rfl ?_
      refine L.rd (rd_lenSlice tok rfl rfl rfl) rfl ?_
      refine L.rd (rd_lss rfl rfl) rfl ?_
      refine L.nil ?_
      refine X.sq ?_
      first | refine V.cond rfl (fun h30 => ?_) (fun h30 => ?_) | refine V.condB rfl (fun h30 => ?_) (fun h30 => ?_)
      ·
        obtain ⟨b1, o1, rfl, -, -, hc1⟩ := hfa.resolve_left (by omega)
        obtain ⟨⟨c, fv, fs⟩, ht⟩ := nth_of_lt Ls k (by omega)
        have hcx := Tl.cells (hc1.le hE.leC) ht
        obtain ⟨fa, fc, hfv, hff⟩ := hT1.nth ht
        have hFk := hF _ (List.mem_of_getElem? ht)
        simp only at hfv hff hcx hFk
        subst hfv
        refine V.skip ?_
        refine X.sq ?_
        refine V.seq ?_
        refine V.block ?_
        refine V.seq ?_
        refine V.region ?_
        refine L.rd (rd_move rfl) rfl ?_
        refine L.rd (rd_fieldAddr tok rfl rfl rfl rfl rfl rfl) rfl ?_
        refine L.rd (rd_load1 tok rfl rfl rfl (hp.cell rfl)) rfl ?_
        refine L.rd (rd_move rfl) rfl ?_
        (refine L.rd (rd_indexSlice (sz := 2) tok rfl rfl rfl rfl rfl rfl rfl ?_) rfl ?_; omega)
        refine L.rd (rd_fieldAddr tok rfl rfl rfl rfl rfl rfl) rfl ?_
        refine L.rd (rd_load1 tok rfl rfl rfl (hcx.at_ 1 _ rfl)) rfl ?_
        refine L.rd (rd_lenSlice tok rfl rfl rfl) rfl ?_
        (refine L.rd (rd_add3 rfl rfl ?_) rfl ?_; omega)
        refine L.rd (rd_assign rfl) rfl ?_
        refine L.nil ?_
        refine X.sq ?_
        refine V.seq ?_
        refine V.region ?_
        refine L.rd (rd_move rfl) rfl ?_
        refine L.rd (rd_gtr rfl rfl) rfl ?_
        refine L.nil ?_
        refine X.sq ?_
        first | refine V.cond rfl (fun h43 => ?_) (fun h43 => ?_) | refine V.condB rfl (fun h43 => ?_) (fun h43 => ?_)
        ·
          refine V.seq ?_
          refine V.region ?_
          refine L.rd (rd_assign rfl) rfl ?_
          refine L.nil ?_
          refine X.sq ?_
          refine V.ret ?_
          refine X.bkRet ?_
          refine X.sqRet ?_
          refine X.lpRet ?_
          refine X.bkRet ?_
          refine X.sqRet ?_
          refine ret_1 Yacm.results4 rfl ?_
          exact ⟨rfl, hE⟩
        ·
          refine V.skip ?_
          refine X.bk ?_
          refine X.sq ?_
          refine V.region ?_
          refine L.rd (rd_move rfl) rfl ?_
          (refine L.rd (rd_add3 rfl rfl ?_) rfl ?_; omega)
          refine L.rd (rd_assign rfl) rfl ?_
          refine L.nil ?_
          refine X.lp ⟨_, _, by omega, (by repeat' (first | exact trivial | refine ⟨rfl, ?_⟩)), k + 1, _, rfl, rfl, by omega, by omega, by omega, fun i t hi hti => ?_, rfl⟩
          rcases Nat.lt_or_ge i k with h | h
          · exact hall i t h hti
          · obtain rfl : i = k := by omega
            rw [ht] at hti
            simp only [Option.some.injEq] at hti
            subst hti
            simp only []; omega
      ·
        refine V.exit ?_
        refine X.sqExit ?_
        refine X.lpExit ?_
        refine X.bkHere ?_
        refine X.sq ?_
        refine V.seq ?_
        refine V.seq ?_
        have hS : Sm (pol Ls) := ⟨by rw [pol_length]; omega, fun t ht => by
          simp only [pol, List.mem_map] at ht
          obtain ⟨u, hu, rfl⟩ := ht
          obtain ⟨i, hi⟩ := List.getElem?_of_mem hu
          have hil := (List.getElem?_eq_some_iff.1 hi).1
          have := hall i u (by omega) hi
          simp only []; omega⟩
        refine V.region ?_
        refine L.rd (rd_move rfl) rfl ?_
        refine L.rd (rd_gtr rfl rfl) rfl ?_
        refine L.nil ?_
        refine X.sq ?_
        first | refine V.cond rfl (fun h45 => ?_) (fun h45 => ?_) | refine V.condB rfl (fun h45 => ?_) (fun h45 => ?_)
        ·
          refine V.seq ?_
          refine V.region ?_
          refine L.rd (rd_assign rfl) rfl ?_
          refine L.nil ?_
          refine X.sq ?_
          refine V.ret ?_
          refine X.sqRet ?_
          refine ret_1 Yacm.results4 rfl ?_
          exact ⟨rfl, hE⟩
        ·
          refine V.skip ?_
          refine X.sq ?_
          refine V.seq ?_
          refine V.seq ?_
          refine V.region ?_
          refine L.rd (rd_fieldAddr tok rfl rfl rfl rfl rfl rfl) rfl ?_
          refine L.rd (rd_load1 tok rfl rfl rfl (hp.cell rfl)) rfl ?_
          refine L.ef (e_call rfl (termsSize_ok _ Ls _ hT1 hS) rfl ?_)
          rintro _ _ ⟨s2, rfl, hs20, hs21, rfl⟩
          refine L.rd (rd_gtr rfl rfl) rfl ?_
          refine L.nil ?_
          refine X.sq ?_
          first | refine V.cond rfl (fun h49 => ?_) (fun h49 => ?_) | refine V.condB rfl (fun h49 => ?_) (fun h49 => ?_)
          ·
            refine V.seq ?_
            refine V.region ?_
            refine L.rd (rd_assign rfl) rfl ?_
            refine L.nil ?_
            refine X.sq ?_
            refine V.ret ?_
            refine X.sqRet ?_
            refine ret_1 Yacm.results4 rfl ?_
            exact ⟨rfl, hE⟩
          ·
            refine V.skip ?_
            refine X.sq ?_
            refine V.seq ?_
            have hwlt := hp.lt
            refine V.region ?_
            refine L.rd (rd_loadN tok rfl rfl rfl hp.cells rfl) rfl ?_
            refine L.ef (e_call rfl (polyIn_ok _ Ls false _ hT1 hS) rfl ?_)
            rintro _ w1 ⟨v1, rfl, L1, hO1, hq1, he1⟩
            have hSq1 : Sm (pol L1) := hq1 ▸ hS
            refine L.rd (rd_move rfl) rfl ?_
            refine L.ef (e_call rfl (sdiffP_ok _ L1 v _ hO1.tl hSq1) rfl ?_)
            rintro _ w2 ⟨v2, L2, rfl, hO2, hq2, he2⟩
            rw [hq1] at hq2 ⊢
            obtain ⟨a2, c2, rfl⟩ := own_form hO2.top
            have h42 := dif_s4 hq2
            replace hp := hp.ext he1
            replace hE := hE.ext he1
            replace hT1 := hT1.ext he1
            replace hp := hp.ext he2
            replace hE := hE.ext he2
            replace hT1 := hT1.ext he2
            refine L.rd (rd_move rfl) rfl ?_
            refine L.rd (rd_ext0 rfl) rfl ?_
            refine L.rd (rd_ext1 rfl) rfl ?_
            refine L.ef (e_alloc (cs := [_]) tok rfl rfl (by first | (simp only [size_addB, size_setB, size_drew]; rfl) | rfl) rfl ?_)
            refine L.ef (e_store (vs := [_]) tok rfl rfl rfl rfl (by (repeat (first | assumption | (refine Bl.new' ?_ _ _; first | with_reducible rfl | (simp only [size_addB, size_setB, size_drew]; done)) | apply Bl.add | apply Bl.drew | (apply Bl.setNe; omega) | (refine Bl.set' ?_ _ _; (try simp only [size_addB, size_setB, size_drew]); omega)))) rfl (by simp [Value.oneCell']) (by simp) ?_)
            refine L.rd (rd_assign rfl) rfl ?_
            refine L.nil ?_
            refine X.sq ?_
            refine V.seq ?_
            generalize hwa : setB _ _ _ _ = wa
            have hea : Ext w2.heap.size w2 wa := by rw [← hwa]; exact ((Ext.refl _ _).addNew _ _).set (Nat.le_refl _) _ _
            have hmw : Bl wa w2.heap.size 46 [.slice a2 L2.length c2] := by rw [← hwa]; exact Bl.set' (by rw [size_addB]; omega) _ _
            replace hp := hp.ext hea
            replace hE := hE.ext hea
            replace hT1 := hT1.ext hea
            replace hO2 := hO2.ext hea
            refine V.region ?_
            refine L.rd (rd_loadN tok rfl rfl rfl hmw.cells rfl) rfl ?_
            refine L.ef (e_call rfl (polyOut_ok _ L2 _ hO2.tl h42.sm) rfl ?_)
            rintro _ w3 ⟨v3, rfl, L3, hO3, hq3, he3⟩
            obtain ⟨a3, c3, rfl⟩ := own_form hO3.top
            replace hp := hp.ext he3
            replace hE := hE.ext he3
            replace hT1 := hT1.ext he3
            refine L.ef (e_alloc (cs := [_]) tok rfl rfl (by first | (simp only [size_addB, size_setB, size_drew]; rfl) | rfl) rfl ?_)
            refine L.ef (e_store (vs := [_]) tok rfl rfl rfl rfl (by (repeat (first | assumption | (refine Bl.new' ?_ _ _; first | with_reducible rfl | (simp only [size_addB, size_setB, size_drew]; done)) | apply Bl.add | apply Bl.drew | (apply Bl.setNe; omega) | (refine Bl.set' ?_ _ _; (try simp only [size_addB, size_setB, size_drew]); omega)))) rfl (by simp [Value.oneCell']) (by simp) ?_)
            refine L.nil ?_
            refine X.sq ?_
            refine V.seq ?_
            generalize hwb : setB _ _ _ _ = wb
            have heb : Ext w3.heap.size w3 wb := by rw [← hwb]; exact ((Ext.refl _ _).addNew _ _).set (Nat.le_refl _) _ _
            have hwn : Bl wb w3.heap.size 39 [.slice a3 L3.length c3] := by rw [← hwb]; exact Bl.set' (by rw [size_addB]; omega) _ _
            replace hp := hp.ext heb
            replace hE := hE.ext heb
            replace hT1 := hT1.ext heb
            replace hO3 := hO3.ext heb
            have hTw := hO3.tl
            have h43 := h42.of_pol hq3
            refine V.region ?_
            refine L.rd (rd_fieldAddr tok rfl rfl rfl rfl rfl rfl) rfl ?_
            refine L.rd (rd_load1 tok rfl rfl rfl (hp.cell rfl)) rfl ?_
            refine L.ef (e_call rfl (flipTermsL_ok _ Ls _ hT1 hS) rfl ?_)
            rintro vf w4 ⟨Lf, hOf, hqf, he4⟩
            obtain ⟨af, cf, rfl⟩ := own_form hOf.top
            replace hp := hp.ext he4
            replace hE := hE.ext he4
            replace hT1 := hT1.ext he4
            replace hwn := hwn.ext he4
            replace hTw := hTw.ext he4
            have hTf := hOf.tl
            have z1 := he1.size
            have z2 := he2.size
            have z3 := hea.size
            have z4 := he3.size
            have z5 := heb.size
            have z6 := he4.size
            have z7 := hwn.lt
            rw [size_addB] at z1
            refine L.rd (rd_assign rfl) rfl ?_
            refine L.nil ?_
            refine X.sq ?_
            refine V.seq ?_
            refine V.seq ?_
            refine V.region ?_
            refine L.rd (rd_assign rfl) rfl ?_
            refine L.nil ?_
            refine X.sq ?_
            refine V.block ?_
            refine V.loop (fun m l wr => ∃ (k : Nat), l = [(1, .int .i64 v), (2, .pointer (some ⟨w.heap.size, 0, none⟩)), (8, .bool (difP (pol Ls) v).isSome), (9, .pointer (some ⟨w3.heap.size, 0, none⟩)), (10, .slice af Lf.length cf), (11, .int .i64 k)] ∧ m = 2 - k ∧ k ≤ 2 ∧ Ext w.heap.size w wr ∧ Bl wr w.heap.size 39 [.slice aa Ls.length ca] ∧ Tl wr 0 w.heap.size (.slice aa Ls.length ca) Ls ∧ Bl wr w3.heap.size 39 [.slice a3 L3.length c3] ∧ Tl wr wa.heap.size w3.heap.size (.slice a3 L3.length c3) L3 ∧ Tl wr wb.heap.size w4.heap.size (.slice af Lf.length cf) Lf ∧ w4.heap.size ≤ wr.heap.size) ?_ ?_
            ·
              exact ⟨_, _, (by repeat' (first | exact trivial | refine ⟨rfl, ?_⟩)), 0, rfl, rfl, by omega, hE, hp, hT1, hwn, hTw, hTf, Nat.le_refl _⟩
            ·
              clear hp hE hT1 hwn hTw hTf hmw
              rintro m l wr ⟨k, rfl, rfl, hk, hE, hp, hT1, hwn, hTw, hTf, hwr⟩
              refine V.seq ?_
              refine V.seq ?_
              refine V.region ?_
              refine L.rd (rd_move rfl) rfl ?_
              refine L.rd (rd_lss rfl rfl) rfl ?_
              refine L.nil ?_
              refine X.sq ?_
              first | refine V.cond rfl (fun h63 => ?_) (fun h63 => ?_) | refine V.condB rfl (fun h63 => ?_) (fun h63 => ?_)
              ·
                refine V.skip ?_
                refine X.sq ?_
                refine V.seq ?_
                refine V.block ?_
                refine V.seq ?_
                refine V.region ?_
                refine L.rd (rd_loadN tok rfl rfl rfl hp.cells rfl) rfl ?_
                refine L.rd (rd_move rfl) rfl ?_
                refine L.rd (rd_eql rfl rfl) rfl ?_
                refine L.ef (e_call rfl (polyIn_ok _ Ls _ _ hT1 hS) rfl ?_)
                rintro _ w5 ⟨v5, rfl, L5, hO5, hq5, he5⟩
                obtain ⟨a5, c5, rfl⟩ := own_form hO5.top
                have hS5 : Sm (pol L5) := hq5 ▸ hS
                replace hp := hp.ext he5
                replace hE := hE.ext he5
                replace hT1 := hT1.ext he5
                replace hwn := hwn.ext he5
                replace hTw := hTw.ext he5
                replace hTf := hTf.ext he5
                refine L.ef (e_alloc (cs := [_]) tok rfl rfl (by first | (simp only [size_addB, size_setB, size_drew]; rfl) | rfl) rfl ?_)
                refine L.ef (e_store (vs := [_]) tok rfl rfl rfl rfl (by (repeat (first | assumption | (refine Bl.new' ?_ _ _; first | with_reducible rfl | (simp only [size_addB, size_setB, size_drew]; done)) | apply Bl.add | apply Bl.drew | (apply Bl.setNe; omega) | (refine Bl.set' ?_ _ _; (try simp only [size_addB, size_setB, size_drew]); omega)))) rfl (by simp [Value.oneCell']) (by simp) ?_)
                refine L.nil ?_
                refine X.sq ?_
                refine V.seq ?_
                generalize hwc : setB _ _ _ _ = wc
                have hec : Ext w5.heap.size w5 wc := by rw [← hwc]; exact ((Ext.refl _ _).addNew _ _).set (Nat.le_refl _) _ _
                have hh : Bl wc w5.heap.size 46 [.slice a5 L5.length c5] := by rw [← hwc]; exact Bl.set' (by rw [size_addB]; omega) _ _
                replace hp := hp.ext hec
                replace hE := hE.ext hec
                replace hT1 := hT1.ext hec
                replace hwn := hwn.ext hec
                replace hTw := hTw.ext hec
                replace hTf := hTf.ext hec
                replace hO5 := hO5.ext hec
                refine V.region ?_
                refine L.rd (rd_fieldAddr tok rfl rfl rfl rfl rfl rfl) rfl ?_
                refine L.rd (rd_load1 tok rfl rfl rfl (hh.cell rfl)) rfl ?_
                refine L.ef (e_call rfl (keepFactors_ok _ L5 _ hO5.tl hS5) rfl ?_)
                rintro vk w6 ⟨hK, he6⟩
                obtain ⟨ak, ck, rfl, -⟩ := id hK.form
                replace hp := hp.ext he6
                replace hE := hE.ext he6
                replace hT1 := hT1.ext he6
                replace hwn := hwn.ext he6
                replace hTw := hTw.ext he6
                replace hTf := hTf.ext he6
                replace hO5 := hO5.ext he6
                replace hh := hh.ext he6
                refine L.rd (rd_assign rfl) rfl ?_
                refine L.nil ?_
                refine X.sq ?_
                refine V.seq ?_
                refine V.region ?_
                refine L.rd (rd_loadN tok rfl rfl rfl hh.cells rfl) rfl ?_
                refine L.rd (rd_move rfl) rfl ?_
                refine L.ef (e_call rfl (idiffP_ok _ L5 v _ hO5.tl hS5) rfl ?_)
                rintro _ w7 ⟨v7, L7, rfl, hO7, hq7, he7⟩
                rw [hq5] at hq7 ⊢
                obtain ⟨a7, c7, rfl⟩ := own_form hO7.top
                have h47 := dif_s4 hq7
                replace hp := hp.ext he7
                replace hE := hE.ext he7
                replace hT1 := hT1.ext he7
                replace hwn := hwn.ext he7
                replace hTw := hTw.ext he7
                replace hTf := hTf.ext he7
                replace hO5 := hO5.ext he7
                replace hh := hh.ext he7
                replace hK := hK.ext he7
                refine L.rd (rd_move rfl) rfl ?_
                refine L.rd (rd_ext0 rfl) rfl ?_
                refine L.rd (rd_ext1 rfl) rfl ?_
                refine L.ef (e_alloc (cs := [_]) tok rfl rfl (by first | (simp only [size_addB, size_setB, size_drew]; rfl) | rfl) rfl ?_)
                refine L.ef (e_store (vs := [_]) tok rfl rfl rfl rfl (by (repeat (first | assumption | (refine Bl.new' ?_ _ _; first | with_reducible rfl | (simp only [size_addB, size_setB, size_drew]; done)) | apply Bl.add | apply Bl.drew | (apply Bl.setNe; omega) | (refine Bl.set' ?_ _ _; (try simp only [size_addB, size_setB, size_drew]); omega)))) rfl (by simp [Value.oneCell']) (by simp) ?_)
                refine L.rd (rd_assign rfl) rfl ?_
                refine L.nil ?_
                refine X.sq ?_
                refine V.seq ?_
                refine V.seq ?_
                generalize hwd : setB _ _ _ _ = wd
                have hed : Ext w7.heap.size w7 wd := by rw [← hwd]; exact ((Ext.refl _ _).addNew _ _).set (Nat.le_refl _) _ _
                have hgb : Bl wd w7.heap.size 46 [.slice a7 L7.length c7] := by rw [← hwd]; exact Bl.set' (by rw [size_addB]; omega) _ _
                replace hp := hp.ext hed
                replace hE := hE.ext hed
                replace hT1 := hT1.ext hed
                replace hwn := hwn.ext hed
                replace hTw := hTw.ext hed
                replace hTf := hTf.ext hed
                replace hO5 := hO5.ext hed
                replace hh := hh.ext hed
                replace hK := hK.ext hed
                replace hO7 := hO7.ext hed
                refine V.draw [] mixed ?_
                refine D.take 0 [true, false, false, false, false] (.sq (.sq (.bk (.sq (.lp (.bk (.sq .bd))))))) rfl (rd_loadN tok rfl rfl rfl hh.cells rfl) rfl (by kernel_rfl) rfl (LeC.drew _) ?_
                refine D.take 2 [true, false, true, false, false] (.sq (.sq (.bk (.sq (.lp (.bk (.sq .bd))))))) rfl (rd_loadN tok rfl rfl rfl hp.cells rfl) rfl (by kernel_rfl) rfl (LeC.drew _) ?_
                refine D.one 1 [true, true, true, false, false] rfl (by kernel_rfl) rfl (e_call rfl (polyOut_ok _ L5 _ (hO5.tl.le (LeC.drew _)) hS5) rfl ?_)
                rintro _ w8 ⟨v8, rfl, L8, hO8, hq8, he8'⟩
                have he8 : Ext wd.heap.size wd w8 := (Ext.refl _ _).drew.trans he8'
                have hle8 := he8.leC
                refine ⟨fun _ => hle8, ?_⟩
                refine D.one 3 [true, true, true, true, false] rfl (by kernel_rfl) rfl (e_call rfl (eqPolyL_ok _ _ L8 Ls _ hO8.tl (hT1.ext he8) (by rw [hq8]; exact hS5)) rfl ?_)
                rintro _ w9 ⟨rfl, he9⟩
                have he89 := he8.next he9
                have hle9 := he89.leC
                refine ⟨fun _ => hle9, ?_⟩
                first | refine D.take 4 [true, true, true, true, true] (.sq (.sq (.bk (.sq (.lp (.bk (.sq .bd))))))) rfl (rd_not rfl) rfl (by kernel_rfl) rfl hle9 ?_ | refine D.take 4 [true, true, true, true, true] (.sq (.sq (.bk (.sq (.lp (.bk (.sq .bd))))))) rfl (rd_notB rfl) rfl (by kernel_rfl) rfl hle9 ?_
                refine D.done (by kernel_rfl) ?_
                refine X.sq ?_
                first | refine V.cond rfl (fun h83 => ?_) (fun h83 => ?_) | refine V.condB rfl (fun h83 => ?_) (fun h83 => ?_)
                ·
                  exact absurd (hq8.trans hq5) h83
                ·
                  refine V.skip ?_
                  refine X.sq ?_
                  refine V.seq ?_
                  refine V.seq ?_
                  skip
                  replace hp := hp.ext he89
                  replace hE := hE.ext he89
                  replace hT1 := hT1.ext he89
                  replace hwn := hwn.ext he89
                  replace hTw := hTw.ext he89
                  replace hTf := hTf.ext he89
                  replace hO5 := hO5.ext he89
                  replace hh := hh.ext he89
                  replace hK := hK.ext he89
                  replace hO7 := hO7.ext he89
                  replace hgb := hgb.ext he89
                  refine V.draw [] mixed ?_
                  refine D.take 0 [true, false, false, false, false, false, false, false, false, false] (.sq (.sq (.bk (.sq (.lp (.bk (.sq .bd))))))) rfl (rd_move rfl) rfl (by kernel_rfl) rfl (LeC.drew _) ?_
                  refine D.take 1 [true, true, false, false, false, false, false, false, false, false] (.sq (.sq (.bk (.sq (.lp (.bk (.sq .bd))))))) rfl (rd_move rfl) rfl (by kernel_rfl) rfl (LeC.drew _) ?_
                  refine D.take 2 [true, true, true, false, false, false, false, false, false, false] (.sq (.sq (.bk (.sq (.lp (.bk (.sq .bd))))))) rfl (rd_neqB tok rfl rfl rfl rfl) rfl (by kernel_rfl) rfl (LeC.drew _) ?_
                  refine D.take 3 [true, true, true, true, false, false, false, false, false, false] (.sq (.sq (.bk (.sq (.lp (.bk (.sq .bd))))))) rfl (rd_move rfl) rfl (by kernel_rfl) rfl (LeC.drew _) ?_
                  first | refine D.part 87 rfl (fun g87 => ?_) (fun g87 => ?_) | refine D.partB 87 rfl (fun g87 => ?_) (fun g87 => ?_)
                  ·
                    exact absurd rfl g87
                  ·
                    refine D.takeYes 4 [true, true, true, true, true, false, false, false, false, false] (.sq (.sq (.bk (.sq (.lp (.bk (.sq .bd))))))) rfl rfl rfl (rd_loadN tok rfl rfl rfl hgb.cells rfl) rfl (by kernel_rfl) rfl (LeC.drew _) ?_
                    refine D.takeYes 6 [true, true, true, true, true, false, true, false, false, false] (.sq (.sq (.bk (.sq (.lp (.bk (.sq .bd))))))) rfl rfl rfl (rd_loadN tok rfl rfl rfl hwn.cells rfl) rfl (by kernel_rfl) rfl (LeC.drew _) ?_
                    refine D.oneYes 5 [true, true, true, true, true, true, true, false, false, false] rfl rfl rfl (by kernel_rfl) rfl (e_call rfl (polyOut_ok _ L7 _ (hO7.tl.le (LeC.drew _)) h47.sm) rfl ?_)
                    rintro _ w10 ⟨v10, rfl, L10, hO10, hq10, he10'⟩
                    have he10 : Ext w9.heap.size w9 w10 := (Ext.refl _ _).drew.trans he10'
                    have hle10 := he10.leC
                    refine ⟨fun _ => hle10, ?_⟩
                    refine D.oneYes 7 [true, true, true, true, true, true, true, true, false, false] rfl rfl rfl (by kernel_rfl) rfl (e_call rfl (eqPolyL_ok _ _ L10 L3 _ hO10.tl (hTw.ext he10) (by rw [hq10]; exact h47.sm)) rfl ?_)
                    rintro _ w11 ⟨rfl, he11⟩
                    have he1011 := he10.next he11
                    have hle11 := he1011.leC
                    refine ⟨fun _ => hle11, ?_⟩
                    first | refine D.takeYes 8 [true, true, true, true, true, true, true, true, true, false] (.sq (.sq (.bk (.sq (.lp (.bk (.sq .bd))))))) rfl rfl rfl (rd_not rfl) rfl (by kernel_rfl) rfl hle11 ?_ | refine D.takeYes 8 [true, true, true, true, true, true, true, true, true, false] (.sq (.sq (.bk (.sq (.lp (.bk (.sq .bd))))))) rfl rfl rfl (rd_notB rfl) rfl (by kernel_rfl) rfl hle11 ?_
                    refine D.take 9 [true, true, true, true, true, true, true, true, true, true] (.sq (.sq (.bk (.sq (.lp (.bk (.sq .bd))))))) rfl (rd_pickF rfl rfl) rfl (by kernel_rfl) rfl hle11 ?_
                    refine D.done (by kernel_rfl) ?_
                    refine X.sq ?_
                    first | refine V.cond rfl (fun h93 => ?_) (fun h93 => ?_) | refine V.condB rfl (fun h93 => ?_) (fun h93 => ?_)
                    ·
                      refine absurd ?_ h93
                      rw [hq10, hq7, hq3, hq2]
                    ·
                      refine V.skip ?_
                      refine X.sq ?_
                      refine V.seq ?_
                      skip
                      replace hp := hp.ext he1011
                      replace hE := hE.ext he1011
                      replace hT1 := hT1.ext he1011
                      replace hwn := hwn.ext he1011
                      replace hTw := hTw.ext he1011
                      replace hTf := hTf.ext he1011
                      replace hO5 := hO5.ext he1011
                      replace hh := hh.ext he1011
                      replace hK := hK.ext he1011
                      replace hO7 := hO7.ext he1011
                      replace hgb := hgb.ext he1011
                      have y1 := he5.size
                      have y2 : wc.heap.size = w5.heap.size + 1 := by rw [← hwc, size_setB, size_addB]
                      have y3 := he6.size
                      have y4 := he7.size
                      have y5 : wd.heap.size = w7.heap.size + 1 := by rw [← hwd, size_setB, size_addB]
                      have y6 := he89.size
                      have y7 := he1011.size
                      refine V.region ?_
                      refine L.rd (rd_fieldAddr tok rfl rfl rfl rfl rfl rfl) rfl ?_
                      refine L.rd (rd_load1 tok rfl rfl rfl (hgb.cell rfl)) rfl ?_
                      refine L.ef (e_call rfl (growTerms_ok _ L7 _ hO7 h47.sm (by omega)) rfl ?_)
                      rintro _ w12 ⟨hO12, hR12⟩
                      clear hO7
                      replace hp := hp.rg hR12 (by omega)
                      replace hE := hE.rg hR12 (by omega)
                      replace hT1 := hT1.rg hR12 (by omega)
                      replace hwn := hwn.rg hR12 (by omega)
                      replace hTw := hTw.rg hR12 (by omega)
                      replace hTf := hTf.rg hR12 (by omega)
                      replace hO5 := hO5.rg hR12 (by omega)
                      replace hh := hh.rg hR12 (by omega)
                      replace hK := hK.rg hR12 (by omega)
                      replace hgb := hgb.rg hR12 (by omega)
                      refine L.nil ?_
                      refine X.sq ?_
                      refine V.seq ?_
                      refine V.seq ?_
                      refine V.draw [] mixed ?_
                      refine D.take 0 [true, false, false, false, false, false, false, false, false, false, false, false] (.sq (.sq (.bk (.sq (.lp (.bk (.sq .bd))))))) rfl (rd_loadN tok rfl rfl rfl hh.cells rfl) rfl (by kernel_rfl) rfl (LeC.drew _) ?_
                      refine D.take 2 [true, false, true, false, false, false, false, false, false, false, false, false] (.sq (.sq (.bk (.sq (.lp (.bk (.sq .bd))))))) rfl (rd_loadN tok rfl rfl rfl hp.cells rfl) rfl (by kernel_rfl) rfl (LeC.drew _) ?_
                      refine D.one 1 [true, true, true, false, false, false, false, false, false, false, false, false] rfl (by kernel_rfl) rfl (e_call rfl (polyOut_ok _ L5 _ (hO5.tl.le (LeC.drew _)) hS5) rfl ?_)
                      rintro _ w13 ⟨v13, rfl, L13, hO13, hq13, he13'⟩
                      have he13 : Ext w12.heap.size w12 w13 := (Ext.refl _ _).drew.trans he13'
                      have hle13 := he13.leC
                      refine ⟨fun _ => hle13, ?_⟩
                      refine D.one 3 [true, true, true, true, false, false, false, false, false, false, false, false] rfl (by kernel_rfl) rfl (e_call rfl (eqPolyL_ok _ _ L13 Ls _ hO13.tl (hT1.ext he13) (by rw [hq13]; exact hS5)) rfl ?_)
                      rintro _ w14 ⟨rfl, he14⟩
                      have he1314 := he13.next he14
                      have hle14 := he1314.leC
                      refine ⟨fun _ => hle14, ?_⟩
                      first | refine D.take 4 [true, true, true, true, true, false, false, false, false, false, false, false] (.sq (.sq (.bk (.sq (.lp (.bk (.sq .bd))))))) rfl (rd_not rfl) rfl (by kernel_rfl) rfl hle14 ?_ | refine D.take 4 [true, true, true, true, true, false, false, false, false, false, false, false] (.sq (.sq (.bk (.sq (.lp (.bk (.sq .bd))))))) rfl (rd_notB rfl) rfl (by kernel_rfl) rfl hle14 ?_
                      refine D.take 5 [true, true, true, true, true, true, false, false, false, false, false, false] (.sq (.sq (.bk (.sq (.lp (.bk (.sq .bd))))))) rfl (rd_move rfl) rfl (by kernel_rfl) rfl hle14 ?_
                      first | refine D.part 102 rfl (fun g102 => ?_) (fun g102 => ?_) | refine D.partB 102 rfl (fun g102 => ?_) (fun g102 => ?_)
                      ·
                        exact absurd (hq13.trans hq5) g102
                      ·
                        refine D.takeYes 6 [true, true, true, true, true, true, true, false, false, false, false, false] (.sq (.sq (.bk (.sq (.lp (.bk (.sq .bd))))))) rfl rfl rfl (rd_loadN tok rfl rfl rfl hgb.cells rfl) rfl (by kernel_rfl) rfl hle14 ?_
                        refine D.takeYes 8 [true, true, true, true, true, true, true, false, true, false, false, false] (.sq (.sq (.bk (.sq (.lp (.bk (.sq .bd))))))) rfl rfl rfl (rd_loadN tok rfl rfl rfl hwn.cells rfl) rfl (by kernel_rfl) rfl hle14 ?_
                        refine D.oneYes 7 [true, true, true, true, true, true, true, true, true, false, false, false] rfl rfl rfl (by kernel_rfl) rfl (e_call rfl (polyOut_ok _ L7 _ (hO12.ext he1314).tl h47.sm) rfl ?_)
                        rintro _ w15 ⟨v15, rfl, L15, hO15, hq15, he15⟩
                        have he1315 := he1314.next he15
                        have hle15 := he1315.leC
                        refine ⟨fun _ => hle15, ?_⟩
                        refine D.oneYes 9 [true, true, true, true, true, true, true, true, true, true, false, false] rfl rfl rfl (by kernel_rfl) rfl (e_call rfl (eqPolyL_ok _ _ L15 L3 _ hO15.tl (hTw.ext he1315) (by rw [hq15]; exact h47.sm)) rfl ?_)
                        rintro _ w16 ⟨rfl, he16⟩
                        have he1316 := he1315.next he16
                        have hle16 := he1316.leC
                        refine ⟨fun _ => hle16, ?_⟩
                        first | refine D.takeYes 10 [true, true, true, true, true, true, true, true, true, true, true, false] (.sq (.sq (.bk (.sq (.lp (.bk (.sq .bd))))))) rfl rfl rfl (rd_not rfl) rfl (by kernel_rfl) rfl hle16 ?_ | refine D.takeYes 10 [true, true, true, true, true, true, true, true, true, true, true, false] (.sq (.sq (.bk (.sq (.lp (.bk (.sq .bd))))))) rfl rfl rfl (rd_notB rfl) rfl (by kernel_rfl) rfl hle16 ?_
                        refine D.take 11 [true, true, true, true, true, true, true, true, true, true, true, true] (.sq (.sq (.bk (.sq (.lp (.bk (.sq .bd))))))) rfl (rd_pickF rfl rfl) rfl (by kernel_rfl) rfl hle16 ?_
                        refine D.done (by kernel_rfl) ?_
                        refine X.sq ?_
                        first | refine V.cond rfl (fun h108 => ?_) (fun h108 => ?_) | refine V.condB rfl (fun h108 => ?_) (fun h108 => ?_)
                        ·
                          refine absurd ?_ h108
                          rw [hq15, hq7, hq3, hq2]
                        ·
                          refine V.skip ?_
                          refine X.sq ?_
                          refine V.seq ?_
                          skip
                          replace hp := hp.ext he1316
                          replace hE := hE.ext he1316
                          replace hT1 := hT1.ext he1316
                          replace hwn := hwn.ext he1316
                          replace hTw := hTw.ext he1316
                          replace hTf := hTf.ext he1316
                          replace hO5 := hO5.ext he1316
                          replace hh := hh.ext he1316
                          replace hK := hK.ext he1316
                          replace hO12 := hO12.ext he1316
                          replace hgb := hgb.ext he1316
                          refine V.region ?_
                          refine L.rd (rd_fieldAddr tok rfl rfl rfl rfl rfl rfl) rfl ?_
                          refine L.rd (rd_load1 tok rfl rfl rfl (hh.cell rfl)) rfl ?_
                          refine L.rd (rd_move rfl) rfl ?_
                          refine L.ef (e_call rfl (flipHeld_ok _ _ L5 _ hO5 hK (.inl (by omega)) hS5) rfl ?_)
                          rintro _ w17 ⟨M5, hO17, hq17, hR17⟩
                          clear hO5
                          replace hp := hp.rg hR17 (by omega)
                          replace hE := hE.rg hR17 (by omega)
                          replace hT1 := hT1.rg hR17 (by omega)
                          replace hwn := hwn.rg hR17 (by omega)
                          replace hTw := hTw.rg hR17 (by omega)
                          replace hTf := hTf.rg hR17 (by omega)
                          replace hh := hh.rg hR17 (by omega)
                          replace hO12 := hO12.rg hR17 (by omega)
                          replace hgb := hgb.rg hR17 (by omega)
                          have hS17 : Sm (pol M5) := by rw [hq17, hq5]; exact hS.flip
                          have hcmp : pol M5 = pol Lf := by rw [hq17, hq5, hqf]
                          refine L.nil ?_
                          refine X.sq ?_
                          refine V.seq ?_
                          refine V.seq ?_
                          refine V.draw [] mixed ?_
                          refine D.take 0 [true, false, false, false, false, false, false, false, false, false, false, false, false] (.sq (.sq (.bk (.sq (.lp (.bk (.sq .bd))))))) rfl (rd_fieldAddr tok rfl rfl rfl rfl rfl rfl) rfl (by kernel_rfl) rfl (LeC.drew _) ?_
                          refine D.take 1 [true, true, false, false, false, false, false, false, false, false, false, false, false] (.sq (.sq (.bk (.sq (.lp (.bk (.sq .bd))))))) rfl (rd_load1 tok rfl rfl rfl (hh.cell rfl)) rfl (by kernel_rfl) rfl (LeC.drew _) ?_
                          refine D.take 3 [true, true, false, true, false, false, false, false, false, false, false, false, false] (.sq (.sq (.bk (.sq (.lp (.bk (.sq .bd))))))) rfl (rd_move rfl) rfl (by kernel_rfl) rfl (LeC.drew _) ?_
                          refine D.one 2 [true, true, true, true, false, false, false, false, false, false, false, false, false] rfl (by kernel_rfl) rfl (e_call rfl (termsOut_ok _ M5 _ (hO17.tl.le (LeC.drew _)) hS17) rfl ?_)
                          rintro v18 w18 ⟨L18, hO18, hq18, he18'⟩
                          obtain ⟨a18, c18, rfl⟩ := own_form hO18.top
                          have he18 : Ext w17.heap.size w17 w18 := (Ext.refl _ _).drew.trans he18'
                          have hle18 := he18.leC
                          refine ⟨fun _ => hle18, ?_⟩
                          refine D.one 4 [true, true, true, true, true, false, false, false, false, false, false, false, false] rfl (by kernel_rfl) rfl (e_call rfl (eqTermsL_ok _ _ L18 Lf _ hO18.tl (hTf.ext he18) (by rw [hq18]; exact hS17)) rfl ?_)
                          rintro _ w19 ⟨rfl, he19⟩
                          have he1819 := he18.next he19
                          have hle19 := he1819.leC
                          refine ⟨fun _ => hle19, ?_⟩
                          first | refine D.take 5 [true, true, true, true, true, true, false, false, false, false, false, false, false] (.sq (.sq (.bk (.sq (.lp (.bk (.sq .bd))))))) rfl (rd_not rfl) rfl (by kernel_rfl) rfl hle19 ?_ | refine D.take 5 [true, true, true, true, true, true, false, false, false, false, false, false, false] (.sq (.sq (.bk (.sq (.lp (.bk (.sq .bd))))))) rfl (rd_notB rfl) rfl (by kernel_rfl) rfl hle19 ?_
                          refine D.take 6 [true, true, true, true, true, true, true, false, false, false, false, false, false] (.sq (.sq (.bk (.sq (.lp (.bk (.sq .bd))))))) rfl (rd_move rfl) rfl (by kernel_rfl) rfl hle19 ?_
                          first | refine D.part 119 rfl (fun g119 => ?_) (fun g119 => ?_) | refine D.partB 119 rfl (fun g119 => ?_) (fun g119 => ?_)
                          ·
                            exact absurd (hq18.trans hcmp) g119
                          ·
                            refine D.takeYes 7 [true, true, true, true, true, true, true, true, false, false, false, false, false] (.sq (.sq (.bk (.sq (.lp (.bk (.sq .bd))))))) rfl rfl rfl (rd_loadN tok rfl rfl rfl hgb.cells rfl) rfl (by kernel_rfl) rfl hle19 ?_
                            refine D.takeYes 9 [true, true, true, true, true, true, true, true, false, true, false, false, false] (.sq (.sq (.bk (.sq (.lp (.bk (.sq .bd))))))) rfl rfl rfl (rd_loadN tok rfl rfl rfl hwn.cells rfl) rfl (by kernel_rfl) rfl hle19 ?_
                            refine D.oneYes 8 [true, true, true, true, true, true, true, true, true, true, false, false, false] rfl rfl rfl (by kernel_rfl) rfl (e_call rfl (polyOut_ok _ L7 _ (hO12.ext he1819).tl h47.sm) rfl ?_)
                            rintro _ w20 ⟨v20, rfl, L20, hO20, hq20, he20⟩
                            have he1820 := he1819.next he20
                            have hle20 := he1820.leC
                            refine ⟨fun _ => hle20, ?_⟩
                            refine D.oneYes 10 [true, true, true, true, true, true, true, true, true, true, true, false, false] rfl rfl rfl (by kernel_rfl) rfl (e_call rfl (eqPolyL_ok _ _ L20 L3 _ hO20.tl (hTw.ext he1820) (by rw [hq20]; exact h47.sm)) rfl ?_)
                            rintro _ w21 ⟨rfl, he21⟩
                            have he1821 := he1820.next he21
                            have hle21 := he1821.leC
                            refine ⟨fun _ => hle21, ?_⟩
                            first | refine D.takeYes 11 [true, true, true, true, true, true, true, true, true, true, true, true, false] (.sq (.sq (.bk (.sq (.lp (.bk (.sq .bd))))))) rfl rfl rfl (rd_not rfl) rfl (by kernel_rfl) rfl hle21 ?_ | refine D.takeYes 11 [true, true, true, true, true, true, true, true, true, true, true, true, false] (.sq (.sq (.bk (.sq (.lp (.bk (.sq .bd))))))) rfl rfl rfl (rd_notB rfl) rfl (by kernel_rfl) rfl hle21 ?_
                            refine D.take 12 [true, true, true, true, true, true, true, true, true, true, true, true, true] (.sq (.sq (.bk (.sq (.lp (.bk (.sq .bd))))))) rfl (rd_pickF rfl rfl) rfl (by kernel_rfl) rfl hle21 ?_
                            refine D.done (by kernel_rfl) ?_
                            refine X.sq ?_
                            first | refine V.cond rfl (fun h125 => ?_) (fun h125 => ?_) | refine V.condB rfl (fun h125 => ?_) (fun h125 => ?_)
                            ·
                              refine absurd ?_ h125
                              rw [hq20, hq7, hq3, hq2]
                            ·
                              refine V.skip ?_
                              refine X.sq ?_
                              refine V.seq ?_
                              skip
                              replace hp := hp.ext he1821
                              replace hE := hE.ext he1821
                              replace hT1 := hT1.ext he1821
                              replace hwn := hwn.ext he1821
                              replace hTw := hTw.ext he1821
                              replace hTf := hTf.ext he1821
                              replace hh := hh.ext he1821
                              replace hO17 := hO17.ext he1821
                              replace hO12 := hO12.ext he1821
                              replace hgb := hgb.ext he1821
                              refine V.region ?_
                              refine L.rd (rd_fieldAddr tok rfl rfl rfl rfl rfl rfl) rfl ?_
                              refine L.rd (rd_load1 tok rfl rfl rfl (hgb.cell rfl)) rfl ?_
                              refine L.ef (e_call rfl (flipAnswer_ok _ L7 _ hO12 h47.sm) rfl ?_)
                              rintro _ w22 ⟨hO22, hR22⟩
                              clear hO12
                              replace hp := hp.rg hR22 (by omega)
                              replace hE := hE.rg hR22 (by omega)
                              replace hT1 := hT1.rg hR22 (by omega)
                              replace hwn := hwn.rg hR22 (by omega)
                              replace hTw := hTw.rg hR22 (by omega)
                              replace hTf := hTf.rg hR22 (by omega)
                              replace hh := hh.rg hR22 (by omega)
                              replace hO17 := hO17.rg hR22 (by omega)
                              replace hgb := hgb.rg hR22 (by omega)
                              refine L.nil ?_
                              refine X.sq ?_
                              refine V.seq ?_
                              refine V.seq ?_
                              refine V.region ?_
                              refine L.rd (rd_fieldAddr tok rfl rfl rfl rfl rfl rfl) rfl ?_
                              refine L.rd (rd_load1 tok rfl rfl rfl (hh.cell rfl)) rfl ?_
                              refine L.ef (e_call rfl (termsOut_ok _ M5 _ hO17.tl hS17) rfl ?_)
                              rintro v23 w23 ⟨L23, hO23, hq23, he23⟩
                              obtain ⟨a23, c23, rfl⟩ := own_form hO23.top
                              refine L.rd (rd_move rfl) rfl ?_
                              refine L.ef (e_call rfl (eqTermsL_ok _ _ L23 Lf _ hO23.tl (hTf.ext he23) (by rw [hq23]; exact hS17)) rfl ?_)
                              rintro _ w24 ⟨rfl, he24⟩
                              have he2324 := he23.next he24
                              first | refine L.rd (rd_not rfl) rfl ?_ | refine L.rd (rd_notB rfl) rfl ?_
                              refine L.nil ?_
                              refine X.sq ?_
                              first | refine V.cond rfl (fun h134 => ?_) (fun h134 => ?_) | refine V.condB rfl (fun h134 => ?_) (fun h134 => ?_)
                              ·
                                exact absurd (hq23.trans hcmp) h134
                              ·
                                refine V.skip ?_
                                refine X.sq ?_
                                refine V.seq ?_
                                refine V.seq ?_
                                skip
                                replace hp := hp.ext he2324
                                replace hE := hE.ext he2324
                                replace hT1 := hT1.ext he2324
                                replace hwn := hwn.ext he2324
                                replace hTw := hTw.ext he2324
                                replace hTf := hTf.ext he2324
                                replace hh := hh.ext he2324
                                replace hO17 := hO17.ext he2324
                                replace hO22 := hO22.ext he2324
                                replace hgb := hgb.ext he2324
                                refine V.region ?_
                                refine L.rd (rd_fieldAddr tok rfl rfl rfl rfl rfl rfl) rfl ?_
                                refine L.rd (rd_load1 tok rfl rfl rfl (hgb.cell rfl)) rfl ?_
                                refine L.ef (e_call rfl (stampTerms_ok _ _ _ hO22 h47.flip) rfl ?_)
                                rintro _ w25 ⟨rfl, M7, hO25, h425, hR25⟩
                                clear hO22
                                replace hp := hp.rg hR25 (by omega)
                                replace hE := hE.rg hR25 (by omega)
                                replace hT1 := hT1.rg hR25 (by omega)
                                replace hwn := hwn.rg hR25 (by omega)
                                replace hTw := hTw.rg hR25 (by omega)
                                replace hTf := hTf.rg hR25 (by omega)
                                replace hh := hh.rg hR25 (by omega)
                                replace hO17 := hO17.rg hR25 (by omega)
                                replace hgb := hgb.rg hR25 (by omega)
                                first | refine L.rd (rd_not rfl) rfl ?_ | refine L.rd (rd_notB rfl) rfl ?_
                                refine L.nil ?_
                                refine X.sq ?_
                                first | refine V.cond rfl (fun h138 => ?_) (fun h138 => ?_) | refine V.condB rfl (fun h138 => ?_) (fun h138 => ?_)
                                ·
                                  cases h138
                                ·
                                  refine V.skip ?_
                                  refine X.sq ?_
                                  refine V.seq ?_
                                  refine V.seq ?_
                                  refine V.region ?_
                                  refine L.rd (rd_fieldAddr tok rfl rfl rfl rfl rfl rfl) rfl ?_
                                  refine L.rd (rd_load1 tok rfl rfl rfl (hh.cell rfl)) rfl ?_
                                  refine L.ef (e_call rfl (termsOut_ok _ M5 _ hO17.tl hS17) rfl ?_)
                                  rintro v26 w26 ⟨L26, hO26, hq26, he26⟩
                                  obtain ⟨a26, c26, rfl⟩ := own_form hO26.top
                                  refine L.rd (rd_move rfl) rfl ?_
                                  refine L.ef (e_call rfl (eqTermsL_ok _ _ L26 Lf _ hO26.tl (hTf.ext he26) (by rw [hq26]; exact hS17)) rfl ?_)
                                  rintro _ w27 ⟨rfl, he27⟩
                                  have he2627 := he26.next he27
                                  first | refine L.rd (rd_not rfl) rfl ?_ | refine L.rd (rd_notB rfl) rfl ?_
                                  refine L.nil ?_
                                  refine X.sq ?_
                                  first | refine V.cond rfl (fun h144 => ?_) (fun h144 => ?_) | refine V.condB rfl (fun h144 => ?_) (fun h144 => ?_)
                                  ·
                                    exact absurd (hq26.trans hcmp) h144
                                  ·
                                    refine V.skip ?_
                                    refine X.sq ?_
                                    refine V.seq ?_
                                    skip
                                    replace hp := hp.ext he2627
                                    replace hE := hE.ext he2627
                                    replace hT1 := hT1.ext he2627
                                    replace hwn := hwn.ext he2627
                                    replace hTw := hTw.ext he2627
                                    replace hTf := hTf.ext he2627
                                    replace hO25 := hO25.ext he2627
                                    replace hgb := hgb.ext he2627
                                    refine V.region ?_
                                    refine L.rd (rd_loadN tok rfl rfl rfl hgb.cells rfl) rfl ?_
                                    refine L.ef (e_call rfl (polyOut_ok _ M7 _ hO25.tl h425.sm) rfl ?_)
                                    rintro _ w28 ⟨v28, rfl, L28, hO28, hq28, he28⟩
                                    obtain ⟨a28, c28, rfl⟩ := own_form hO28.top
                                    replace hp := hp.ext he28
                                    replace hE := hE.ext he28
                                    replace hT1 := hT1.ext he28
                                    replace hwn := hwn.ext he28
                                    replace hTw := hTw.ext he28
                                    replace hTf := hTf.ext he28
                                    replace hO25 := hO25.ext he28
                                    replace hgb := hgb.ext he28
                                    refine L.ef (e_alloc (cs := [_]) tok rfl rfl (by first | (simp only [size_addB, size_setB, size_drew]; rfl) | rfl) rfl ?_)
                                    refine L.ef (e_store (vs := [_]) tok rfl rfl rfl rfl (by (repeat (first | assumption | (refine Bl.new' ?_ _ _; first | with_reducible rfl | (simp only [size_addB, size_setB, size_drew]; done)) | apply Bl.add | apply Bl.drew | (apply Bl.setNe; omega) | (refine Bl.set' ?_ _ _; (try simp only [size_addB, size_setB, size_drew]); omega)))) rfl (by simp [Value.oneCell']) (by simp) ?_)
                                    refine L.nil ?_
                                    refine X.sq ?_
                                    refine V.seq ?_
                                    generalize hwe : setB _ _ _ _ = we
                                    have hee : Ext w28.heap.size w28 we := by rw [← hwe]; exact ((Ext.refl _ _).addNew _ _).set (Nat.le_refl _) _ _
                                    have hsb : Bl we w28.heap.size 39 [.slice a28 L28.length c28] := by rw [← hwe]; exact Bl.set' (by rw [size_addB]; omega) _ _
                                    have x1 : we.heap.size = w28.heap.size + 1 := by rw [← hwe, size_setB, size_addB]
                                    replace hp := hp.ext hee
                                    replace hE := hE.ext hee
                                    replace hT1 := hT1.ext hee
                                    replace hwn := hwn.ext hee
                                    replace hTw := hTw.ext hee
                                    replace hTf := hTf.ext hee
                                    replace hO25 := hO25.ext hee
                                    replace hgb := hgb.ext hee
                                    replace hO28 := hO28.ext hee
                                    have hTs := hO28.tl
                                    refine V.region ?_
                                    refine L.rd (rd_loadN tok rfl rfl rfl hp.cells rfl) rfl ?_
                                    refine L.rd (rd_move rfl) rfl ?_
                                    refine L.rd (rd_eql rfl rfl) rfl ?_
                                    refine L.ef (e_call rfl (polyIn_ok _ Ls _ _ hT1 hS) rfl ?_)
                                    rintro _ w29 ⟨v29, rfl, L29, hO29, hq29, he29⟩
                                    refine L.rd (rd_move rfl) rfl ?_
                                    refine L.ef (e_call rfl (idiffP_ok _ L29 v _ hO29.tl (by rw [hq29]; exact hS)) rfl ?_)
                                    rintro _ w30 ⟨v30, L30, rfl, hO30, hq30, he30⟩
                                    rw [hq29] at hq30 ⊢
                                    obtain ⟨a30, c30, rfl⟩ := own_form hO30.top
                                    have h430 := dif_s4 hq30
                                    have he2930 := he29.next he30
                                    have x2 := he29.size
                                    replace hp := hp.ext he2930
                                    replace hE := hE.ext he2930
                                    replace hT1 := hT1.ext he2930
                                    replace hwn := hwn.ext he2930
                                    replace hTw := hTw.ext he2930
                                    replace hTf := hTf.ext he2930
                                    replace hO25 := hO25.ext he2930
                                    replace hgb := hgb.ext he2930
                                    replace hsb := hsb.ext he2930
                                    replace hTs := hTs.ext he2930
                                    refine L.rd (rd_move rfl) rfl ?_
                                    refine L.rd (rd_ext0 rfl) rfl ?_
                                    refine L.rd (rd_ext1 rfl) rfl ?_
                                    refine L.ef (e_alloc (cs := [_]) tok rfl rfl (by first | (simp only [size_addB, size_setB, size_drew]; rfl) | rfl) rfl ?_)
                                    refine L.ef (e_store (vs := [_]) tok rfl rfl rfl rfl (by (repeat (first | assumption | (refine Bl.new' ?_ _ _; first | with_reducible rfl | (simp only [size_addB, size_setB, size_drew]; done)) | apply Bl.add | apply Bl.drew | (apply Bl.setNe; omega) | (refine Bl.set' ?_ _ _; (try simp only [size_addB, size_setB, size_drew]); omega)))) rfl (by simp [Value.oneCell']) (by simp) ?_)
                                    refine L.rd (rd_assign rfl) rfl ?_
                                    refine L.nil ?_
                                    refine X.sq ?_
                                    refine V.seq ?_
                                    refine V.seq ?_
                                    generalize hwf : setB _ _ _ _ = wf
                                    have hef : Ext w30.heap.size w30 wf := by rw [← hwf]; exact ((Ext.refl _ _).addNew _ _).set (Nat.le_refl _) _ _
                                    have hg2 : Bl wf w30.heap.size 46 [.slice a30 L30.length c30] := by rw [← hwf]; exact Bl.set' (by rw [size_addB]; omega) _ _
                                    replace hp := hp.ext hef
                                    replace hE := hE.ext hef
                                    replace hT1 := hT1.ext hef
                                    replace hwn := hwn.ext hef
                                    replace hTw := hTw.ext hef
                                    replace hTf := hTf.ext hef
                                    replace hO25 := hO25.ext hef
                                    replace hgb := hgb.ext hef
                                    replace hsb := hsb.ext hef
                                    replace hTs := hTs.ext hef
                                    replace hO30 := hO30.ext hef
                                    refine V.draw [] mixed ?_
                                    refine D.take 0 [true, false, false, false, false, false, false, false, false, false] (.sq (.sq (.bk (.sq (.lp (.bk (.sq .bd))))))) rfl (rd_move rfl) rfl (by kernel_rfl) rfl (LeC.drew _) ?_
                                    refine D.take 1 [true, true, false, false, false, false, false, false, false, false] (.sq (.sq (.bk (.sq (.lp (.bk (.sq .bd))))))) rfl (rd_move rfl) rfl (by kernel_rfl) rfl (LeC.drew _) ?_
                                    refine D.take 2 [true, true, true, false, false, false, false, false, false, false] (.sq (.sq (.bk (.sq (.lp (.bk (.sq .bd))))))) rfl (rd_neqB tok rfl rfl rfl rfl) rfl (by kernel_rfl) rfl (LeC.drew _) ?_
                                    refine D.take 3 [true, true, true, true, false, false, false, false, false, false] (.sq (.sq (.bk (.sq (.lp (.bk (.sq .bd))))))) rfl (rd_move rfl) rfl (by kernel_rfl) rfl (LeC.drew _) ?_
                                    first | refine D.part 159 rfl (fun g159 => ?_) (fun g159 => ?_) | refine D.partB 159 rfl (fun g159 => ?_) (fun g159 => ?_)
                                    ·
                                      exact absurd rfl g159
                                    ·
                                      refine D.takeYes 4 [true, true, true, true, true, false, false, false, false, false] (.sq (.sq (.bk (.sq (.lp (.bk (.sq .bd))))))) rfl rfl rfl (rd_loadN tok rfl rfl rfl hg2.cells rfl) rfl (by kernel_rfl) rfl (LeC.drew _) ?_
                                      refine D.takeYes 6 [true, true, true, true, true, false, true, false, false, false] (.sq (.sq (.bk (.sq (.lp (.bk (.sq .bd))))))) rfl rfl rfl (rd_loadN tok rfl rfl rfl hwn.cells rfl) rfl (by kernel_rfl) rfl (LeC.drew _) ?_
                                      refine D.oneYes 5 [true, true, true, true, true, true, true, false, false, false] rfl rfl rfl (by kernel_rfl) rfl (e_call rfl (polyOut_ok _ L30 _ (hO30.tl.le (LeC.drew _)) h430.sm) rfl ?_)
                                      rintro _ w31 ⟨v31, rfl, L31, hO31, hq31, he31'⟩
                                      have he31 : Ext wf.heap.size wf w31 := (Ext.refl _ _).drew.trans he31'
                                      have hle31 := he31.leC
                                      refine ⟨fun _ => hle31, ?_⟩
                                      refine D.oneYes 7 [true, true, true, true, true, true, true, true, false, false] rfl rfl rfl (by kernel_rfl) rfl (e_call rfl (eqPolyL_ok _ _ L31 L3 _ hO31.tl (hTw.ext he31) (by rw [hq31]; exact h430.sm)) rfl ?_)
                                      rintro _ w32 ⟨rfl, he32⟩
                                      have he3132 := he31.next he32
                                      have hle32 := he3132.leC
                                      refine ⟨fun _ => hle32, ?_⟩
                                      first | refine D.takeYes 8 [true, true, true, true, true, true, true, true, true, false] (.sq (.sq (.bk (.sq (.lp (.bk (.sq .bd))))))) rfl rfl rfl (rd_not rfl) rfl (by kernel_rfl) rfl hle32 ?_ | refine D.takeYes 8 [true, true, true, true, true, true, true, true, true, false] (.sq (.sq (.bk (.sq (.lp (.bk (.sq .bd))))))) rfl rfl rfl (rd_notB rfl) rfl (by kernel_rfl) rfl hle32 ?_
                                      refine D.take 9 [true, true, true, true, true, true, true, true, true, true] (.sq (.sq (.bk (.sq (.lp (.bk (.sq .bd))))))) rfl (rd_pickF rfl rfl) rfl (by kernel_rfl) rfl hle32 ?_
                                      refine D.done (by kernel_rfl) ?_
                                      refine X.sq ?_
                                      first | refine V.cond rfl (fun h165 => ?_) (fun h165 => ?_) | refine V.condB rfl (fun h165 => ?_) (fun h165 => ?_)
                                      ·
                                        refine absurd ?_ h165
                                        rw [hq31, hq30, hq3, hq2]
                                      ·
                                        refine V.skip ?_
                                        refine X.sq ?_
                                        refine V.seq ?_
                                        skip
                                        replace hp := hp.ext he3132
                                        replace hE := hE.ext he3132
                                        replace hT1 := hT1.ext he3132
                                        replace hwn := hwn.ext he3132
                                        replace hTw := hTw.ext he3132
                                        replace hTf := hTf.ext he3132
                                        replace hO25 := hO25.ext he3132
                                        replace hgb := hgb.ext he3132
                                        replace hsb := hsb.ext he3132
                                        replace hTs := hTs.ext he3132
                                        replace hO30 := hO30.ext he3132
                                        replace hg2 := hg2.ext he3132
                                        have u1 := hR12.size
                                        have u2 := he1316.size
                                        have u3 := hR17.size
                                        have u4 := he1821.size
                                        have u5 := hR22.size
                                        have u6 := he2324.size
                                        have u7 := hR25.size
                                        have u8 := he2627.size
                                        have u9 := he28.size
                                        refine V.region ?_
                                        refine L.rd (rd_fieldAddr tok rfl rfl rfl rfl rfl rfl) rfl ?_
                                        refine L.rd (rd_load1 tok rfl rfl rfl (hg2.cell rfl)) rfl ?_
                                        refine L.ef (e_call rfl (flipAnswer_ok _ L30 _ hO30 h430.sm) rfl ?_)
                                        rintro _ w33 ⟨hO33, hR33⟩
                                        replace hp := hp.rg hR33 (by omega)
                                        replace hE := hE.rg hR33 (by omega)
                                        replace hT1 := hT1.rg hR33 (by omega)
                                        replace hwn := hwn.rg hR33 (by omega)
                                        replace hTw := hTw.rg hR33 (by omega)
                                        replace hTf := hTf.rg hR33 (by omega)
                                        replace hO25 := hO25.rg hR33 (by omega)
                                        replace hgb := hgb.rg hR33 (by omega)
                                        replace hsb := hsb.rg hR33 (by omega)
                                        replace hTs := hTs.rg hR33 (by omega)
                                        refine L.nil ?_
                                        refine X.sq ?_
                                        refine V.seq ?_
                                        refine V.draw [] mixed ?_
                                        refine D.take 0 [true, false, false, false, false] (.sq (.bk (.sq (.lp (.bk (.sq .bd)))))) rfl (rd_loadN tok rfl rfl rfl hgb.cells rfl) rfl (by kernel_rfl) rfl (LeC.drew _) ?_
                                        refine D.take 2 [true, false, true, false, false] (.sq (.bk (.sq (.lp (.bk (.sq .bd)))))) rfl (rd_loadN tok rfl rfl rfl hsb.cells rfl) rfl (by kernel_rfl) rfl (LeC.drew _) ?_
                                        refine D.one 1 [true, true, true, false, false] rfl (by kernel_rfl) rfl (e_call rfl (polyOut_ok _ M7 _ (hO25.tl.le (LeC.drew _)) h425.sm) rfl ?_)
                                        rintro _ w34 ⟨v34, rfl, L34, hO34, hq34, he34'⟩
                                        have he34 : Ext w33.heap.size w33 w34 := (Ext.refl _ _).drew.trans he34'
                                        have hle34 := he34.leC
                                        refine ⟨fun _ => hle34, ?_⟩
                                        refine D.one 3 [true, true, true, true, false] rfl (by kernel_rfl) rfl (e_call rfl (eqPolyL_ok _ _ L34 L28 _ hO34.tl (hTs.ext he34) (by rw [hq34]; exact h425.sm)) rfl ?_)
                                        rintro _ w35 ⟨rfl, he35⟩
                                        have he3435 := he34.next he35
                                        have hle35 := he3435.leC
                                        refine ⟨fun _ => hle35, ?_⟩
                                        first | refine D.take 4 [true, true, true, true, true] (.sq (.bk (.sq (.lp (.bk (.sq .bd)))))) rfl (rd_not rfl) rfl (by kernel_rfl) rfl hle35 ?_ | refine D.take 4 [true, true, true, true, true] (.sq (.bk (.sq (.lp (.bk (.sq .bd)))))) rfl (rd_notB rfl) rfl (by kernel_rfl) rfl hle35 ?_
                                        refine D.done (by kernel_rfl) ?_
                                        refine X.sq ?_
                                        first | refine V.cond rfl (fun h173 => ?_) (fun h173 => ?_) | refine V.condB rfl (fun h173 => ?_) (fun h173 => ?_)
                                        ·
                                          exact absurd (hq34.trans hq28.symm) h173
                                        ·
                                          refine V.skip ?_
                                          refine X.bk ?_
                                          refine X.sq ?_
                                          refine V.region ?_
                                          refine L.rd (rd_move rfl) rfl ?_
                                          (refine L.rd (rd_add3 rfl rfl ?_) rfl ?_; omega)
                                          refine L.rd (rd_assign rfl) rfl ?_
                                          refine L.nil ?_
                                          skip
                                          replace hp := hp.ext he3435
                                          replace hE := hE.ext he3435
                                          replace hT1 := hT1.ext he3435
                                          replace hwn := hwn.ext he3435
                                          replace hTw := hTw.ext he3435
                                          replace hTf := hTf.ext he3435
                                          exact X.lp ⟨_, _, by omega, (by repeat' (first | exact trivial | refine ⟨rfl, ?_⟩)), k + 1, rfl, rfl, by omega, hE, hp, hT1, hwn, hTw, hTf, by have := hwn.lt; have := he3435.size; have := hR33.size; have := he3132.size; have := hef.size; have := he2930.size; have := hee.size; have := he28.size; have := he2627.size; have := hR25.size; have := he2324.size; have := hR22.size; have := he1821.size; have := hR17.size; have := he1316.size; have := hR12.size; omega⟩
              ·
                refine V.exit ?_
                refine X.sqExit ?_
                refine X.lpExit ?_
                refine X.bkHere ?_
                refine X.sq ?_
                refine V.seq ?_
                refine V.region ?_
                refine L.rd (rd_assign rfl) rfl ?_
                refine L.nil ?_
                refine X.sq ?_
                refine V.ret ?_
                refine ret_1 Yacm.results4 rfl ?_
                exact ⟨rfl, hE⟩
open Go.ChangeShapes Go.WideShapes Go.ChangeAt Go.RowKit
theorem own : ownKnob Yacm.prog.godebug = none := by kernel_rfl
theorem laidOut : laidOutB Yacm.prog = true := by kernel_rfl
theorem readable0 : Yacm.prog.readableRec 39 = true := by kernel_rfl
theorem readable1 : Yacm.prog.readableRec 3 = true := by kernel_rfl

set_option maxRecDepth 100000 in
theorem lifted (os : Os) (started : os.Started) (H : Type) (enc : TypeId × Value → H) :
    ReturnsInHanded {} Yacm.checked os 4 .any (Rows.fnExactDiffPolySpec.pre6 enc Yacm.prog Yacm.f4 Rows.fnExactDiffPolyRow.domain false) (Rows.fnExactDiffPolySpec.post enc Yacm.prog Yacm.f4 false true false false) := by
  refine returnsInHanded_of_change_sized (C := Yacm.checked) own started (by kernel_rfl) Yacm.func4
    (ChangeSpec.witness6 (enc := enc) (C := Yacm.checked) false ⟨#[], #[.agg #[.slice none 0 0], .int .i64 0], []⟩ 8 (by kernel_rfl) (by kernel_rfl) (by kernel_rfl) (by kernel_rfl)) ?_
  intro W base args ds gs before hval0 hW hcnd hwt0 _
  have hval : ∀ (j : Nat) t v, Yacm.f4.params[j]? = some t → args[j]? = some v → Value.okWide Yacm.prog W .any base t v := hval0
  have hwt : (DataW.weightsEach Yacm.prog (Yacm.f4.params.toList ++ _) (ds ++ gs)).all (· ≤ reachBytes) = true := hwt0
  have hW' := hW
  obtain ⟨p, q, hA0, hV, rfl, hfz, hnd⟩ := hW
  have hA : DataW.TrodAll enc Yacm.prog W 0 (fun _ => true) true Yacm.f4.params.toList args.toList ds p := hA0
  rw [Yacm.params4] at hA hval hwt
  obtain ⟨v0, vs0, d0, ds0, p0, q0, hargs0, rfl, rfl, h0, r0⟩ := trodAll_cons hA
  obtain ⟨v1, vs1, d1, ds1, p1, q1, hargs1, rfl, rfl, h1, r1⟩ := trodAll_cons r0
  obtain ⟨hnil, rfl, rfl⟩ := trodAll_nil r1
  obtain rfl : args = #[v0, v1] := by cases args; simp_all
  obtain ⟨rfl, rfl⟩ := trodVars_none hV
  have hok0 := hval 0 39 v0 rfl rfl
  have hww0 := weights_arg hwt (j := 0) rfl rfl
  obtain ⟨u0, fuel0, y0, rfl, hy0, hyw0⟩ := open_one Yacm.underlying39 rfl (by kernel_rfl) (by kernel_rfl) hok0 h0
  obtain ⟨Ls0, hT0, hL0, hF0⟩ := tl_of_trod Yacm.underlying37 Yacm.underlying42 (by kernel_rfl) rfl rfl (by kernel_rfl) (by kernel_rfl) (by kernel_rfl) Yacm.underlying40 Yacm.underlying107 (by kernel_rfl) rfl rfl (by kernel_rfl) (by kernel_rfl) (by kernel_rfl) (by kernel_rfl) (by decide +kernel) (by decide +kernel) hy0 (fun n hn => hww0 n (hyw0 n hn))
  have hok1 := hval 1 3 v1 rfl rfl
  obtain ⟨n1, rfl, -, -, hn1⟩ := open_int Yacm.underlying3 hok1 h1
  clear hA0 hval0
  simp only [List.append_nil] at hW'
  refine (law u0 Ls0 n1 W hT0 hL0 (fun t ht => (hF0 t ht).2.1)).call.mono fun e W' ⟨v, he, hv, hg⟩ => ?_
  subst he hv
  exact ⟨_, rfl, post_belowE (pv := []) hW' (fun _ _ _ => (trodAll_mk1 (shut_bool Yacm.underlying4 _))) (trodAll_mk2 (Below.trod laidOut readable0 (by decide +kernel) h0 hg.below (fun x hx => hW'.lt x (by first | exact hx | (simp only [List.mem_append]; simp [hx])))) (Below.trod laidOut readable1 (by decide +kernel) h1 hg.below (fun x hx => hW'.lt x (by first | exact hx | (simp only [List.mem_append]; simp [hx]))))) rfl (by simp) hg⟩

theorem over : Rows.fnExactDiffPolyRow.holds Yacm.pinned (OpenSpec.ofChange Rows.fnExactDiffPolySpec) :=
  OpenClaim.holds_of_wide 4 Yacm.f4 rfl rfl rfl rfl rfl rfl rfl ⟨rfl, rfl, rfl, rfl, rfl⟩ rfl rfl rfl rfl rfl (by kernel_rfl) Yacm.func4 (by kernel_rfl)
    (of_decide_eq_true (by kernel_rfl)) (by unfold Func.isWrapper; first | (rw [if_pos (by decide +kernel)]; kernel_rfl) | (rw [if_neg (by decide +kernel)]; exact ⟨rfl, rfl⟩))
    (fun os started H enc _ => lifted os started H enc)

theorem proved : Rows.FnExactDiffPolySaid :=
  over
end Go.Proofs.Ybxacw.fnExactDiffPoly
