/-
  The statement FnExactMulPolySaid.
-/
import Derived.Test.YbxabwRows
import Derived.Test.YbxabwRowP
import Derived.Test.YbxabwAmW4
import Derived.Test.YbxabwLawP
import Derived.WalkKit
import Derived.ProofKit
import Derived.SizedLaws
set_option linter.unusedVariables false
set_option linter.unusedSimpArgs false
set_option maxRecDepth 10000
namespace Go.Proofs.Ybxabw.fnExactMulPoly
open Go.Mw

theorem law (va vb : Value) (Ls Ms : List Lt) (w : World) (hT : Tl w 0 w.heap.size va Ls) (hU : Tl w 0 w.heap.size vb Ms) (hqa : Cq (pol Ls)) (hqb : Cq (pol Ms)) (hL : Ls.length ≤ 140737488351232) (hL2 : Ms.length ≤ 140737488351232) (hF : ∀ t ∈ Ls, t.2.2.length ≤ 140737488351232) (hF2 : ∀ t ∈ Ms, t.2.2.length ≤ 140737488351232) :
    Ret Yabm.prog 12 [.agg #[va], .agg #[vb]] w fun v w' => v = .bool true ∧ Ext w.heap.size w w' := by
  obtain ⟨aa, ca, rfl, hfa⟩ := hT.form
  obtain ⟨ab, cb, rfl, hfb⟩ := hU.form
  refine enter2 Yabm.func12 Yabm.ntmps12 (by kernel_rfl) rfl rfl ?_
  refine V.seq ?_
  refine V.region ?_
  refine L.ef (e_box (cs := [_]) rfl rfl (by first | (simp only [size_addB, size_setB, size_drew]; rfl) | rfl) rfl ?_)
  refine L.ef (e_box (cs := [_]) rfl rfl (by first | (simp only [size_addB, size_setB, size_drew]; rfl) | rfl) rfl ?_)
  refine L.rd (rd_assign rfl) rfl ?_
  refine L.nil ?_
  refine X.sq ?_
  refine V.seq ?_
  have hp := (Bl.new w 62 [.slice aa Ls.length ca]).add 62 [.slice ab Ms.length cb]
  have hq := Bl.new' (w := addB w 62 [.slice aa Ls.length ca]) (b := w.heap.size + 1) (by rw [size_addB]) 62 [.slice ab Ms.length cb]
  have hE := ((Ext.refl _ w).addNew 62 [.slice aa Ls.length ca]).addNew 62 [.slice ab Ms.length cb]
  generalize addB (addB w 62 [.slice aa Ls.length ca]) 62 [.slice ab Ms.length cb] = w0 at hp hq hE ⊢
  have hT1 := hT.ext hE
  have hU1 := hU.ext hE
  refine V.region ?_
  refine L.rd (rd_assign rfl) rfl ?_
  refine L.nil ?_
  refine X.sq ?_
  refine V.seq ?_
  refine V.region ?_
  refine L.rd (rd_move rfl) rfl ?_
  refine L.rd (rd_fieldAddr tok rfl rfl rfl rfl rfl rfl) rfl ?_
  refine L.rd (rd_load1 tok rfl rfl rfl (hp.cell rfl)) rfl ?_
  refine L.rd (rd_lenSlice tok rfl rfl rfl) rfl ?_
  (refine L.rd (rd_add3 rfl rfl ?_) rfl ?_; omega)
  refine L.rd (rd_assign rfl) rfl ?_
  refine L.nil ?_
  refine X.sq ?_
  refine V.seq ?_
  refine V.seq ?_
  refine V.region ?_
  refine L.rd (rd_move rfl) rfl ?_
  refine L.rd (rd_gtr rfl rfl) rfl ?_
  refine L.nil ?_
  refine X.sq ?_
  first | refine V.cond rfl (fun h29 => ?_) (fun h29 => ?_) | refine V.condB rfl (fun h29 => ?_) (fun h29 => ?_)
  ·
    refine V.seq ?_
    refine V.region ?_
    refine L.rd (rd_assign rfl) rfl ?_
    refine L.nil ?_
    refine X.sq ?_
    refine V.ret ?_
    refine X.sqRet ?_
    refine ret_1 Yabm.results12 rfl ?_
    exact ⟨rfl, hE⟩
  ·
    refine V.skip ?_
    refine X.sq ?_
    refine V.seq ?_
    refine V.seq ?_
    refine V.region ?_
    refine L.rd (rd_assign rfl) rfl ?_
    refine L.nil ?_
    refine X.sq ?_
    refine V.block ?_
    refine V.loop (fun m l wr => ∃ (k : Nat) (s : Int), l = [(2, .pointer (some ⟨w.heap.size, 0, none⟩)), (3, .pointer (some ⟨w.heap.size + 1, 0, none⟩)), (5, .int .i64 s), (6, .int .i64 k)] ∧ m = Ls.length - k ∧ k ≤ Ls.length ∧ 0 ≤ s ∧ s ≤ 1048576 ∧ (∀ i t, i < k → Ls[i]? = some t → t.2.2.length ≤ 1048576) ∧ w0 = wr) ?_ ?_
    ·
      exact ⟨_, _, (by repeat' (first | exact trivial | refine ⟨rfl, ?_⟩)), 0, _, rfl, rfl, by omega, by omega, by omega, fun i t h => by omega, rfl⟩
    ·
      rintro m l wr ⟨k, s, rfl, rfl, hk, hs0, hs1, hall, rfl⟩
      refine V.seq ?_
      refine V.seq ?_
      refine V.region ?_
      refine L.rd (rd_move rfl) rfl ?_
      refine L.rd (rd_fieldAddr tok rfl rfl rfl rfl rfl rfl) rfl ?_
      refine L.rd (rd_load1 tok rfl rfl rfl (hp.cell rfl)) rfl ?_
      refine L.rd (rd_lenSlice tok rfl rfl rfl) rfl ?_
      refine L.rd (rd_lss rfl rfl) rfl ?_
      refine L.nil ?_
      refine X.sq ?_
      first | refine V.cond rfl (fun h34 => ?_) (fun h34 => ?_) | refine V.condB rfl (fun h34 => ?_) (fun h34 => ?_)
      ·
        obtain ⟨b1, o1, rfl, -, -, hc1⟩ := hfa.resolve_left (by omega)
        obtain ⟨⟨c, fv, fs⟩, ht⟩ := nth_of_lt Ls k (by omega)
        have hcx := Tl.cells (hc1.le hE.leC) ht
        obtain ⟨fa, fc, hfv, hff⟩ := hT1.nth ht
        have hFk := hF _ (List.mem_of_getElem? ht)
        simp only at hfv hff hcx hFk
        subst hfv
        refine V.skip ?_
        refine X.sq ?_
        refine V.seq ?_
        refine V.block ?_
        refine V.seq ?_
        refine V.region ?_
        refine L.rd (rd_move rfl) rfl ?_
        refine L.rd (rd_fieldAddr tok rfl rfl rfl rfl rfl rfl) rfl ?_
        refine L.rd (rd_load1 tok rfl rfl rfl (hp.cell rfl)) rfl ?_
        refine L.rd (rd_move rfl) rfl ?_
        (refine L.rd (rd_indexSlice (sz := 2) tok rfl rfl rfl rfl rfl rfl rfl ?_) rfl ?_; omega)
        refine L.rd (rd_fieldAddr tok rfl rfl rfl rfl rfl rfl) rfl ?_
        refine L.rd (rd_load1 tok rfl rfl rfl (hcx.at_ 1 _ rfl)) rfl ?_
        refine L.rd (rd_lenSlice tok rfl rfl rfl) rfl ?_
        (refine L.rd (rd_add3 rfl rfl ?_) rfl ?_; omega)
        refine L.rd (rd_assign rfl) rfl ?_
        refine L.nil ?_
        refine X.sq ?_
        refine V.seq ?_
        refine V.region ?_
        refine L.rd (rd_move rfl) rfl ?_
        refine L.rd (rd_gtr rfl rfl) rfl ?_
        refine L.nil ?_
        refine X.sq ?_
        first | refine V.cond rfl (fun h47 => ?_) (fun h47 => ?_) | refine V.condB rfl (fun h47 => ?_) (fun h47 => ?_)
        ·
          refine V.seq ?_
          refine V.region ?_
          refine L.rd (rd_assign rfl) rfl ?_
          refine L.nil ?_
          refine X.sq ?_
          refine V.ret ?_
          refine X.bkRet ?_
          refine X.sqRet ?_
          refine X.lpRet ?_
          refine X.bkRet ?_
          refine X.sqRet ?_
          refine ret_1 Yabm.results12 rfl ?_
          exact ⟨rfl, hE⟩
        ·
          refine V.skip ?_
          refine X.bk ?_
          refine X.sq ?_
          refine V.region ?_
          refine L.rd (rd_move rfl) rfl ?_
          (refine L.rd (rd_add3 rfl rfl ?_) rfl ?_; omega)
          refine L.rd (rd_assign rfl) rfl ?_
          refine L.nil ?_
          refine X.lp ⟨_, _, by omega, (by repeat' (first | exact trivial | refine ⟨rfl, ?_⟩)), k + 1, _, rfl, rfl, by omega, by omega, by omega, fun i t hi hti => ?_, rfl⟩
          rcases Nat.lt_or_ge i k with h | h
          · exact hall i t h hti
          · obtain rfl : i = k := by omega
            rw [ht] at hti
            simp only [Option.some.injEq] at hti
            subst hti
            simp only []; omega
      ·
        refine V.exit ?_
        refine X.sqExit ?_
        refine X.lpExit ?_
        refine X.bkHere ?_
        refine X.sq ?_
        refine V.seq ?_
        have hS : Sm (pol Ls) := ⟨by rw [pol_length]; omega, fun t ht => by
          simp only [pol, List.mem_map] at ht
          obtain ⟨u, hu, rfl⟩ := ht
          obtain ⟨i, hi⟩ := List.getElem?_of_mem hu
          have hil := (List.getElem?_eq_some_iff.1 hi).1
          have := hall i u (by omega) hi
          simp only []; omega⟩
        refine V.region ?_
        refine L.rd (rd_move rfl) rfl ?_
        refine L.rd (rd_fieldAddr tok rfl rfl rfl rfl rfl rfl) rfl ?_
        refine L.rd (rd_load1 tok rfl rfl rfl (hq.cell rfl)) rfl ?_
        refine L.rd (rd_lenSlice tok rfl rfl rfl) rfl ?_
        (refine L.rd (rd_add3 rfl rfl ?_) rfl ?_; omega)
        refine L.rd (rd_assign rfl) rfl ?_
        refine L.nil ?_
        refine X.sq ?_
        refine V.seq ?_
        refine V.seq ?_
        refine V.region ?_
        refine L.rd (rd_move rfl) rfl ?_
        refine L.rd (rd_gtr rfl rfl) rfl ?_
        refine L.nil ?_
        refine X.sq ?_
        first | refine V.cond rfl (fun h54 => ?_) (fun h54 => ?_) | refine V.condB rfl (fun h54 => ?_) (fun h54 => ?_)
        ·
          refine V.seq ?_
          refine V.region ?_
          refine L.rd (rd_assign rfl) rfl ?_
          refine L.nil ?_
          refine X.sq ?_
          refine V.ret ?_
          refine X.sqRet ?_
          refine ret_1 Yabm.results12 rfl ?_
          exact ⟨rfl, hE⟩
        ·
          refine V.skip ?_
          refine X.sq ?_
          refine V.seq ?_
          refine V.seq ?_
          refine V.region ?_
          refine L.rd (rd_assign rfl) rfl ?_
          refine L.nil ?_
          refine X.sq ?_
          refine V.block ?_
          refine V.loop (fun m l wr => ∃ (k : Nat) (s : Int), l = [(2, .pointer (some ⟨w.heap.size, 0, none⟩)), (3, .pointer (some ⟨w.heap.size + 1, 0, none⟩)), (5, .int .i64 s), (7, .int .i64 k)] ∧ m = Ms.length - k ∧ k ≤ Ms.length ∧ 0 ≤ s ∧ s ≤ 1048576 ∧ (∀ i t, i < k → Ms[i]? = some t → t.2.2.length ≤ 1048576) ∧ w0 = wr) ?_ ?_
          ·
            exact ⟨_, _, (by repeat' (first | exact trivial | refine ⟨rfl, ?_⟩)), 0, _, rfl, rfl, by omega, by omega, by omega, fun i t h => by omega, rfl⟩
          ·
            rintro m l wr ⟨k2, s2, rfl, rfl, hk2, hs20, hs21, hall2, rfl⟩
            refine V.seq ?_
            refine V.seq ?_
            refine V.region ?_
            refine L.rd (rd_move rfl) rfl ?_
            refine L.rd (rd_fieldAddr tok rfl rfl rfl rfl rfl rfl) rfl ?_
            refine L.rd (rd_load1 tok rfl rfl rfl (hq.cell rfl)) rfl ?_
            refine L.rd (rd_lenSlice tok rfl rfl rfl) rfl ?_
            refine L.rd (rd_lss rfl rfl) rfl ?_
            refine L.nil ?_
            refine X.sq ?_
            first | refine V.cond rfl (fun h59 => ?_) (fun h59 => ?_) | refine V.condB rfl (fun h59 => ?_) (fun h59 => ?_)
            ·
              obtain ⟨b1, o1, rfl, -, -, hc1⟩ := hfb.resolve_left (by omega)
              obtain ⟨⟨c, fv, fs⟩, ht⟩ := nth_of_lt Ms k2 (by omega)
              have hcx := Tl.cells (hc1.le hE.leC) ht
              obtain ⟨fa, fc, hfv, hff⟩ := hU1.nth ht
              have hFk := hF2 _ (List.mem_of_getElem? ht)
              simp only at hfv hff hcx hFk
              subst hfv
              refine V.skip ?_
              refine X.sq ?_
              refine V.seq ?_
              refine V.block ?_
              refine V.seq ?_
              refine V.region ?_
              refine L.rd (rd_move rfl) rfl ?_
              refine L.rd (rd_fieldAddr tok rfl rfl rfl rfl rfl rfl) rfl ?_
              refine L.rd (rd_load1 tok rfl rfl rfl (hq.cell rfl)) rfl ?_
              refine L.rd (rd_move rfl) rfl ?_
              (refine L.rd (rd_indexSlice (sz := 2) tok rfl rfl rfl rfl rfl rfl rfl ?_) rfl ?_; omega)
              refine L.rd (rd_fieldAddr tok rfl rfl rfl rfl rfl rfl) rfl ?_
              refine L.rd (rd_load1 tok rfl rfl rfl (hcx.at_ 1 _ rfl)) rfl ?_
              refine L.rd (rd_lenSlice tok rfl rfl rfl) rfl ?_
              (refine L.rd (rd_add3 rfl rfl ?_) rfl ?_; omega)
              refine L.rd (rd_assign rfl) rfl ?_
              refine L.nil ?_
              refine X.sq ?_
              refine V.seq ?_
              refine V.region ?_
              refine L.rd (rd_move rfl) rfl ?_
              refine L.rd (rd_gtr rfl rfl) rfl ?_
              refine L.nil ?_
              refine X.sq ?_
              first | refine V.cond rfl (fun h72 => ?_) (fun h72 => ?_) | refine V.condB rfl (fun h72 => ?_) (fun h72 => ?_)
              ·
                refine V.seq ?_
                refine V.region ?_
                refine L.rd (rd_assign rfl) rfl ?_
                refine L.nil ?_
                refine X.sq ?_
                refine V.ret ?_
                refine X.bkRet ?_
                refine X.sqRet ?_
                refine X.lpRet ?_
                refine X.bkRet ?_
                refine X.sqRet ?_
                refine ret_1 Yabm.results12 rfl ?_
                exact ⟨rfl, hE⟩
              ·
                refine V.skip ?_
                refine X.bk ?_
                refine X.sq ?_
                refine V.region ?_
                refine L.rd (rd_move rfl) rfl ?_
                (refine L.rd (rd_add3 rfl rfl ?_) rfl ?_; omega)
                refine L.rd (rd_assign rfl) rfl ?_
                refine L.nil ?_
                refine X.lp ⟨_, _, by omega, (by repeat' (first | exact trivial | refine ⟨rfl, ?_⟩)), k2 + 1, _, rfl, rfl, by omega, by omega, by omega, fun i t hi hti => ?_, rfl⟩
                rcases Nat.lt_or_ge i k2 with h | h
                · exact hall2 i t h hti
                · obtain rfl : i = k2 := by omega
                  rw [ht] at hti
                  simp only [Option.some.injEq] at hti
                  subst hti
                  simp only []; omega
            ·
              refine V.exit ?_
              refine X.sqExit ?_
              refine X.lpExit ?_
              refine X.bkHere ?_
              refine X.sq ?_
              refine V.seq ?_
              refine V.seq ?_
              have hS2 : Sm (pol Ms) := ⟨by rw [pol_length]; omega, fun t ht => by
                simp only [pol, List.mem_map] at ht
                obtain ⟨u, hu, rfl⟩ := ht
                obtain ⟨i, hi⟩ := List.getElem?_of_mem hu
                have hil := (List.getElem?_eq_some_iff.1 hi).1
                have := hall2 i u (by omega) hi
                simp only []; omega⟩
              refine V.region ?_
              refine L.rd (rd_move rfl) rfl ?_
              refine L.rd (rd_gtr rfl rfl) rfl ?_
              refine L.nil ?_
              refine X.sq ?_
              first | refine V.cond rfl (fun h74 => ?_) (fun h74 => ?_) | refine V.condB rfl (fun h74 => ?_) (fun h74 => ?_)
              ·
                refine V.seq ?_
                refine V.region ?_
                refine L.rd (rd_assign rfl) rfl ?_
                refine L.nil ?_
                refine X.sq ?_
                refine V.ret ?_
                refine X.sqRet ?_
                refine ret_1 Yabm.results12 rfl ?_
                exact ⟨rfl, hE⟩
              ·
                refine V.skip ?_
                refine X.sq ?_
                refine V.seq ?_
                refine V.seq ?_
                refine V.draw [] mixed ?_
                refine D.take 0 [true, false, false, false, false, false, false, false] (.sq (.sq .bd)) rfl (rd_fieldAddr tok rfl rfl rfl rfl rfl rfl) rfl (by kernel_rfl) rfl (LeC.drew _) ?_
                refine D.take 1 [true, true, false, false, false, false, false, false] (.sq (.sq .bd)) rfl (rd_load1 tok rfl rfl rfl (hp.cell rfl)) rfl (by kernel_rfl) rfl (LeC.drew _) ?_
                refine D.take 3 [true, true, false, true, false, false, false, false] (.sq (.sq .bd)) rfl (rd_fieldAddr tok rfl rfl rfl rfl rfl rfl) rfl (by kernel_rfl) rfl (LeC.drew _) ?_
                refine D.take 4 [true, true, false, true, true, false, false, false] (.sq (.sq .bd)) rfl (rd_load1 tok rfl rfl rfl (hq.cell rfl)) rfl (by kernel_rfl) rfl (LeC.drew _) ?_
                refine D.one 2 [true, true, true, true, true, false, false, false] rfl (by kernel_rfl) rfl (e_call rfl (termsSize_ok _ Ls _ (hT1.le (LeC.drew _)) hS) rfl ?_)
                rintro _ _ ⟨s3, rfl, hs30, hs31, rfl⟩
                refine ⟨fun _ => (LeC.drew _), ?_⟩
                refine D.one 5 [true, true, true, true, true, true, false, false] rfl (by kernel_rfl) rfl (e_call rfl (termsSize_ok _ Ms _ (hU1.le (LeC.drew _)) hS2) rfl ?_)
                rintro _ _ ⟨s4, rfl, hs40, hs41, rfl⟩
                refine ⟨fun _ => (LeC.drew _), ?_⟩
                (refine D.take 6 [true, true, true, true, true, true, true, false] (.sq (.sq .bd)) rfl (rd_add3 rfl rfl ?_) rfl (by kernel_rfl) rfl (LeC.drew _) ?_; omega)
                refine D.take 7 [true, true, true, true, true, true, true, true] (.sq (.sq .bd)) rfl (rd_gtr rfl rfl) rfl (by kernel_rfl) rfl (LeC.drew _) ?_
                refine D.done (by kernel_rfl) ?_
                refine X.sq ?_
                first | refine V.cond rfl (fun h82 => ?_) (fun h82 => ?_) | refine V.condB rfl (fun h82 => ?_) (fun h82 => ?_)
                ·
                  refine V.seq ?_
                  refine V.region ?_
                  refine L.rd (rd_assign rfl) rfl ?_
                  refine L.nil ?_
                  refine X.sq ?_
                  refine V.ret ?_
                  refine X.sqRet ?_
                  refine ret_1 Yabm.results12 rfl ?_
                  exact ⟨rfl, hE.drew⟩
                ·
                  refine V.skip ?_
                  refine X.sq ?_
                  refine V.seq ?_
                  refine V.cut (fun l w' => ∃ (b lo hi : Nat) (a2 : Option Addr) (c2 : Nat) (L2 : List Lt), l = [(2, .pointer (some ⟨w.heap.size, 0, none⟩)), (3, .pointer (some ⟨w.heap.size + 1, 0, none⟩)), (8, .pointer (some ⟨b, 0, none⟩)), (9, .bool (mulP (pol Ls) (pol Ms)).isSome)] ∧ Ext w0.heap.size w0 w' ∧ Bl w' b 70 [.slice a2 L2.length c2] ∧ OwnT w' lo hi 133 135 (.slice a2 L2.length c2) L2 ∧ pol L2 = (mulP (pol Ls) (pol Ms)).getD []) ?_ ?_
                  ·
                    have he0 : Ext w0.heap.size w0 w0.drew := (Ext.refl _ w0).drew
                    replace hp := hp.ext he0
                    replace hq := hq.ext he0
                    replace hE := hE.ext he0
                    replace hT1 := hT1.ext he0
                    replace hU1 := hU1.ext he0
                    generalize w0.drew = wS at he0 hp hq hE hT1 hU1 ⊢
                    have heS : Ext wS.heap.size wS wS.drew := (Ext.refl _ wS).drew
                    refine V.draw [] mixed ?_
                    refine D.take 0 [true, false, false, false, false, false, false, false, false, false, false] (.ct (.sq .bd)) rfl (rd_loadN tok rfl rfl rfl hp.cells rfl) rfl (by kernel_rfl) rfl (LeC.drew _) ?_
                    refine D.take 2 [true, false, true, false, false, false, false, false, false, false, false] (.ct (.sq .bd)) rfl (rd_loadN tok rfl rfl rfl hq.cells rfl) rfl (by kernel_rfl) rfl (LeC.drew _) ?_
                    refine D.two 1 8 [true, true, true, false, false, false, false, false, false, false, false] [true, false, true, false, false, false, false, false, true, false, false] rfl rfl (by kernel_rfl) rfl rfl (e_call rfl (polyIn_ok _ Ls false _ (hT1.ext heS) hS) rfl ?_) (e_alloc (cs := [_]) tok rfl rfl (by first | (simp only [size_addB, size_setB, size_drew]; rfl) | rfl) rfl ?_)
                    ·
                      rintro _ w1 ⟨v1, rfl, L1, hO1, hq1, he1⟩
                      have hSq1 : Sm (pol L1) := hq1 ▸ hS
                      replace heS := heS.next he1
                      try replace hmb := hmb.ext he1
                      refine ⟨fun _ => (heS.leC), ?_⟩
                      refine D.two 3 8 [true, true, true, true, false, false, false, false, false, false, false] [true, true, true, false, false, false, false, false, true, false, false] rfl rfl (by kernel_rfl) rfl rfl (e_call rfl (polyIn_ok _ Ms false _ (hU1.ext heS) hS2) rfl ?_) (e_alloc (cs := [_]) tok rfl rfl (by first | (simp only [size_addB, size_setB, size_drew]; rfl) | rfl) rfl ?_)
                      ·
                        rintro _ w2 ⟨v2, rfl, L2, hO2, hq2, he2⟩
                        have hSq2 : Sm (pol L2) := hq2 ▸ hS2
                        replace heS := heS.next he2
                        replace hO1 := hO1.ext he2
                        try replace hmb := hmb.ext he2
                        refine ⟨fun _ => (heS.leC), ?_⟩
                        refine D.two 4 8 [true, true, true, true, true, false, false, false, false, false, false] [true, true, true, true, false, false, false, false, true, false, false] rfl rfl (by kernel_rfl) rfl rfl (e_call rfl (smul_ok _ _ L1 L2 _ hO1.tl hO2.tl hSq1 hSq2 (by rw [hq1]; exact hqa) (by rw [hq2]; exact hqb)) rfl ?_) (e_alloc (cs := [_]) tok rfl rfl (by first | (simp only [size_addB, size_setB, size_drew]; rfl) | rfl) rfl ?_)
                        ·
                          rintro _ w3 ⟨v3, L3, rfl, hO3, hq3, he3⟩
                          rw [hq1, hq2] at hq3 ⊢
                          obtain ⟨a3, c3, rfl⟩ := own_form hO3.top
                          replace heS := heS.next he3
                          try replace hmb := hmb.ext he3
                          refine ⟨fun _ => (heS.leC), ?_⟩
                          refine D.take 5 [true, true, true, true, true, true, false, false, false, false, false] (.ct (.sq .bd)) rfl (rd_move rfl) rfl (by kernel_rfl) rfl (heS.leC) ?_
                          refine D.take 6 [true, true, true, true, true, true, true, false, false, false, false] (.ct (.sq .bd)) rfl (rd_ext0 rfl) rfl (by kernel_rfl) rfl (heS.leC) ?_
                          refine D.take 7 [true, true, true, true, true, true, true, true, false, false, false] (.ct (.sq .bd)) rfl (rd_ext1 rfl) rfl (by kernel_rfl) rfl (heS.leC) ?_
                          refine D.one 8 [true, true, true, true, true, true, true, true, true, false, false] rfl (by kernel_rfl) rfl (e_alloc (cs := [_]) tok rfl rfl (by first | (simp only [size_addB, size_setB, size_drew]; rfl) | rfl) rfl ?_)
                          generalize hwm : addB _ _ _ = wm
                          have hem := ext_of_add hwm
                          have hmb := bl_of_add hwm
                          have hsm := heS.size
                          replace heS := heS.next hem
                          try replace hO1 := hO1.ext hem
                          try replace hO2 := hO2.ext hem
                          try replace hO3 := hO3.ext hem
                          refine ⟨fun _ => (heS.leC), ?_⟩
                          refine D.one 9 [true, true, true, true, true, true, true, true, true, true, false] rfl (by kernel_rfl) rfl (e_store (vs := [_]) tok rfl rfl rfl rfl hmb rfl (by simp [Value.oneCell']) (by simp) ?_)
                          replace heS := heS.set hsm 70 (putAt [Value.slice none 0 0] 0 [Value.slice a3 L3.length c3])
                          refine ⟨fun _ => (heS.leC), ?_⟩
                          refine D.take 10 [true, true, true, true, true, true, true, true, true, true, true] (.ct (.sq .bd)) rfl (rd_assign rfl) rfl (by kernel_rfl) rfl (heS.leC) ?_
                          refine D.done (by kernel_rfl) ?_
                          exact X.ct ⟨_, (by repeat' (first | exact trivial | refine ⟨rfl, ?_⟩)), _, _, _, a3, c3, L3, rfl, he0.next heS, hmb.set _ _, hO3.off hmb rfl rfl _, hq3⟩
                        ·
                          generalize hwm : addB _ _ _ = wm
                          have hem := ext_of_add hwm
                          have hmb := bl_of_add hwm
                          have hsm := heS.size
                          replace heS := heS.next hem
                          try replace hO1 := hO1.ext hem
                          try replace hO2 := hO2.ext hem
                          try replace hO3 := hO3.ext hem
                          refine ⟨fun _ => (heS.leC), ?_⟩
                          refine D.one 4 [true, true, true, true, true, false, false, false, true, false, false] rfl (by kernel_rfl) rfl (e_call rfl (smul_ok _ _ L1 L2 _ hO1.tl hO2.tl hSq1 hSq2 (by rw [hq1]; exact hqa) (by rw [hq2]; exact hqb)) rfl ?_)
                          rintro _ w3 ⟨v3, L3, rfl, hO3, hq3, he3⟩
                          rw [hq1, hq2] at hq3 ⊢
                          obtain ⟨a3, c3, rfl⟩ := own_form hO3.top
                          replace heS := heS.next he3
                          try replace hmb := hmb.ext he3
                          refine ⟨fun _ => (heS.leC), ?_⟩
                          refine D.take 5 [true, true, true, true, true, true, false, false, true, false, false] (.ct (.sq .bd)) rfl (rd_move rfl) rfl (by kernel_rfl) rfl (heS.leC) ?_
                          refine D.take 6 [true, true, true, true, true, true, true, false, true, false, false] (.ct (.sq .bd)) rfl (rd_ext0 rfl) rfl (by kernel_rfl) rfl (heS.leC) ?_
                          refine D.take 7 [true, true, true, true, true, true, true, true, true, false, false] (.ct (.sq .bd)) rfl (rd_ext1 rfl) rfl (by kernel_rfl) rfl (heS.leC) ?_
                          refine D.one 9 [true, true, true, true, true, true, true, true, true, true, false] rfl (by kernel_rfl) rfl (e_store (vs := [_]) tok rfl rfl rfl rfl hmb rfl (by simp [Value.oneCell']) (by simp) ?_)
                          replace heS := heS.set hsm 70 (putAt [Value.slice none 0 0] 0 [Value.slice a3 L3.length c3])
                          refine ⟨fun _ => (heS.leC), ?_⟩
                          refine D.take 10 [true, true, true, true, true, true, true, true, true, true, true] (.ct (.sq .bd)) rfl (rd_assign rfl) rfl (by kernel_rfl) rfl (heS.leC) ?_
                          refine D.done (by kernel_rfl) ?_
                          exact X.ct ⟨_, (by repeat' (first | exact trivial | refine ⟨rfl, ?_⟩)), _, _, _, a3, c3, L3, rfl, he0.next heS, hmb.set _ _, hO3.off hmb rfl rfl _, hq3⟩
                      ·
                        generalize hwm : addB _ _ _ = wm
                        have hem := ext_of_add hwm
                        have hmb := bl_of_add hwm
                        have hsm := heS.size
                        replace heS := heS.next hem
                        try replace hO1 := hO1.ext hem
                        try replace hO2 := hO2.ext hem
                        try replace hO3 := hO3.ext hem
                        refine ⟨fun _ => (heS.leC), ?_⟩
                        refine D.one 3 [true, true, true, true, false, false, false, false, true, false, false] rfl (by kernel_rfl) rfl (e_call rfl (polyIn_ok _ Ms false _ (hU1.ext heS) hS2) rfl ?_)
                        rintro _ w2 ⟨v2, rfl, L2, hO2, hq2, he2⟩
                        have hSq2 : Sm (pol L2) := hq2 ▸ hS2
                        replace heS := heS.next he2
                        replace hO1 := hO1.ext he2
                        try replace hmb := hmb.ext he2
                        refine ⟨fun _ => (heS.leC), ?_⟩
                        refine D.one 4 [true, true, true, true, true, false, false, false, true, false, false] rfl (by kernel_rfl) rfl (e_call rfl (smul_ok _ _ L1 L2 _ hO1.tl hO2.tl hSq1 hSq2 (by rw [hq1]; exact hqa) (by rw [hq2]; exact hqb)) rfl ?_)
                        rintro _ w3 ⟨v3, L3, rfl, hO3, hq3, he3⟩
                        rw [hq1, hq2] at hq3 ⊢
                        obtain ⟨a3, c3, rfl⟩ := own_form hO3.top
                        replace heS := heS.next he3
                        try replace hmb := hmb.ext he3
                        refine ⟨fun _ => (heS.leC), ?_⟩
                        refine D.take 5 [true, true, true, true, true, true, false, false, true, false, false] (.ct (.sq .bd)) rfl (rd_move rfl) rfl (by kernel_rfl) rfl (heS.leC) ?_
                        refine D.take 6 [true, true, true, true, true, true, true, false, true, false, false] (.ct (.sq .bd)) rfl (rd_ext0 rfl) rfl (by kernel_rfl) rfl (heS.leC) ?_
                        refine D.take 7 [true, true, true, true, true, true, true, true, true, false, false] (.ct (.sq .bd)) rfl (rd_ext1 rfl) rfl (by kernel_rfl) rfl (heS.leC) ?_
                        refine D.one 9 [true, true, true, true, true, true, true, true, true, true, false] rfl (by kernel_rfl) rfl (e_store (vs := [_]) tok rfl rfl rfl rfl hmb rfl (by simp [Value.oneCell']) (by simp) ?_)
                        replace heS := heS.set hsm 70 (putAt [Value.slice none 0 0] 0 [Value.slice a3 L3.length c3])
                        refine ⟨fun _ => (heS.leC), ?_⟩
                        refine D.take 10 [true, true, true, true, true, true, true, true, true, true, true] (.ct (.sq .bd)) rfl (rd_assign rfl) rfl (by kernel_rfl) rfl (heS.leC) ?_
                        refine D.done (by kernel_rfl) ?_
                        exact X.ct ⟨_, (by repeat' (first | exact trivial | refine ⟨rfl, ?_⟩)), _, _, _, a3, c3, L3, rfl, he0.next heS, hmb.set _ _, hO3.off hmb rfl rfl _, hq3⟩
                    ·
                      generalize hwm : addB _ _ _ = wm
                      have hem := ext_of_add hwm
                      have hmb := bl_of_add hwm
                      have hsm := heS.size
                      replace heS := heS.next hem
                      try replace hO1 := hO1.ext hem
                      try replace hO2 := hO2.ext hem
                      try replace hO3 := hO3.ext hem
                      refine ⟨fun _ => (heS.leC), ?_⟩
                      refine D.one 1 [true, true, true, false, false, false, false, false, true, false, false] rfl (by kernel_rfl) rfl (e_call rfl (polyIn_ok _ Ls false _ (hT1.ext heS) hS) rfl ?_)
                      rintro _ w1 ⟨v1, rfl, L1, hO1, hq1, he1⟩
                      have hSq1 : Sm (pol L1) := hq1 ▸ hS
                      replace heS := heS.next he1
                      try replace hmb := hmb.ext he1
                      refine ⟨fun _ => (heS.leC), ?_⟩
                      refine D.one 3 [true, true, true, true, false, false, false, false, true, false, false] rfl (by kernel_rfl) rfl (e_call rfl (polyIn_ok _ Ms false _ (hU1.ext heS) hS2) rfl ?_)
                      rintro _ w2 ⟨v2, rfl, L2, hO2, hq2, he2⟩
                      have hSq2 : Sm (pol L2) := hq2 ▸ hS2
                      replace heS := heS.next he2
                      replace hO1 := hO1.ext he2
                      try replace hmb := hmb.ext he2
                      refine ⟨fun _ => (heS.leC), ?_⟩
                      refine D.one 4 [true, true, true, true, true, false, false, false, true, false, false] rfl (by kernel_rfl) rfl (e_call rfl (smul_ok _ _ L1 L2 _ hO1.tl hO2.tl hSq1 hSq2 (by rw [hq1]; exact hqa) (by rw [hq2]; exact hqb)) rfl ?_)
                      rintro _ w3 ⟨v3, L3, rfl, hO3, hq3, he3⟩
                      rw [hq1, hq2] at hq3 ⊢
                      obtain ⟨a3, c3, rfl⟩ := own_form hO3.top
                      replace heS := heS.next he3
                      try replace hmb := hmb.ext he3
                      refine ⟨fun _ => (heS.leC), ?_⟩
                      refine D.take 5 [true, true, true, true, true, true, false, false, true, false, false] (.ct (.sq .bd)) rfl (rd_move rfl) rfl (by kernel_rfl) rfl (heS.leC) ?_
                      refine D.take 6 [true, true, true, true, true, true, true, false, true, false, false] (.ct (.sq .bd)) rfl (rd_ext0 rfl) rfl (by kernel_rfl) rfl (heS.leC) ?_
                      refine D.take 7 [true, true, true, true, true, true, true, true, true, false, false] (.ct (.sq .bd)) rfl (rd_ext1 rfl) rfl (by kernel_rfl) rfl (heS.leC) ?_
                      refine D.one 9 [true, true, true, true, true, true, true, true, true, true, false] rfl (by kernel_rfl) rfl (e_store (vs := [_]) tok rfl rfl rfl rfl hmb rfl (by simp [Value.oneCell']) (by simp) ?_)
                      replace heS := heS.set hsm 70 (putAt [Value.slice none 0 0] 0 [Value.slice a3 L3.length c3])
                      refine ⟨fun _ => (heS.leC), ?_⟩
                      refine D.take 10 [true, true, true, true, true, true, true, true, true, true, true] (.ct (.sq .bd)) rfl (rd_assign rfl) rfl (by kernel_rfl) rfl (heS.leC) ?_
                      refine D.done (by kernel_rfl) ?_
                      exact X.ct ⟨_, (by repeat' (first | exact trivial | refine ⟨rfl, ?_⟩)), _, _, _, a3, c3, L3, rfl, he0.next heS, hmb.set _ _, hO3.off hmb rfl rfl _, hq3⟩
                  ·
                    rintro l w2 ⟨bm, lo2, hi2, a2, c2, L2, rfl, he2, hmw, hO2, hq2⟩
                    have h42 := mulP_s4 hq2
                    replace hp := hp.ext he2
                    replace hq := hq.ext he2
                    replace hE := hE.ext he2
                    replace hT1 := hT1.ext he2
                    replace hU1 := hU1.ext he2
                    refine X.sq ?_
                    refine V.seq ?_
                    refine V.region ?_
                    refine L.rd (rd_loadN tok rfl rfl rfl hmw.cells rfl) rfl ?_
                    refine L.ef (e_call rfl (polyOut_ok _ L2 _ hO2.tl h42.sm) rfl ?_)
                    rintro _ w3 ⟨v3, rfl, L3, hO3, hq3, he3⟩
                    obtain ⟨a3, c3, rfl⟩ := own_form hO3.top
                    replace hp := hp.ext he3
                    replace hq := hq.ext he3
                    replace hE := hE.ext he3
                    replace hT1 := hT1.ext he3
                    replace hU1 := hU1.ext he3
                    refine L.ef (e_alloc (cs := [_]) tok rfl rfl (by first | (simp only [size_addB, size_setB, size_drew]; rfl) | rfl) rfl ?_)
                    refine L.ef (e_store (vs := [_]) tok rfl rfl rfl rfl (by (repeat (first | assumption | (refine Bl.new' ?_ _ _; first | with_reducible rfl | (simp only [size_addB, size_setB, size_drew]; done)) | apply Bl.add | apply Bl.drew | (apply Bl.setNe; omega) | (refine Bl.set' ?_ _ _; (try simp only [size_addB, size_setB, size_drew]); omega)))) rfl (by simp [Value.oneCell']) (by simp) ?_)
                    refine L.nil ?_
                    refine X.sq ?_
                    refine V.seq ?_
                    generalize hwb : setB _ _ _ _ = wb
                    have heb := ext_of_new hwb
                    have hwn := bl_of_new hwb
                    have hsb := size_of_new hwb
                    replace hwn : Bl wb w3.heap.size 62 [.slice a3 L3.length c3] := hwn
                    replace hp := hp.ext heb
                    replace hq := hq.ext heb
                    replace hE := hE.ext heb
                    replace hT1 := hT1.ext heb
                    replace hU1 := hU1.ext heb
                    replace hO3 := hO3.ext heb
                    have hTw := hO3.tl
                    have h43 := h42.of_pol hq3
                    refine V.region ?_
                    refine L.rd (rd_fieldAddr tok rfl rfl rfl rfl rfl rfl) rfl ?_
                    refine L.rd (rd_load1 tok rfl rfl rfl (hp.cell rfl)) rfl ?_
                    refine L.ef (e_call rfl (flipTermsL_ok _ Ls _ hT1 hS) rfl ?_)
                    rintro vf w4 ⟨Lf, hOf, hqf, he4⟩
                    obtain ⟨af, cf, rfl⟩ := own_form hOf.top
                    replace hp := hp.ext he4
                    replace hq := hq.ext he4
                    replace hE := hE.ext he4
                    replace hT1 := hT1.ext he4
                    replace hU1 := hU1.ext he4
                    replace hwn := hwn.ext he4
                    replace hTw := hTw.ext he4
                    have hTf := hOf.tl
                    refine L.rd (rd_assign rfl) rfl ?_
                    refine L.nil ?_
                    refine X.sq ?_
                    refine V.seq ?_
                    refine V.region ?_
                    refine L.rd (rd_fieldAddr tok rfl rfl rfl rfl rfl rfl) rfl ?_
                    refine L.rd (rd_load1 tok rfl rfl rfl (hq.cell rfl)) rfl ?_
                    refine L.ef (e_call rfl (flipTermsL_ok _ Ms _ hU1 hS2) rfl ?_)
                    rintro vg w5 ⟨Lg, hOg, hqg, he5⟩
                    obtain ⟨ag, cg, rfl⟩ := own_form hOg.top
                    replace hp := hp.ext he5
                    replace hq := hq.ext he5
                    replace hE := hE.ext he5
                    replace hT1 := hT1.ext he5
                    replace hU1 := hU1.ext he5
                    replace hwn := hwn.ext he5
                    replace hTw := hTw.ext he5
                    replace hTf := hTf.ext he5
                    have hTg := hOg.tl
                    have z0 := hE.size
                    have z1 := he2.size
                    have z2 := he3.size
                    have z4 := he4.size
                    have z5 := he5.size
                    have z6 := hwn.lt
                    have z7 := hq.lt
                    have z8 := hTw
                    refine L.rd (rd_assign rfl) rfl ?_
                    refine L.nil ?_
                    refine X.sq ?_
                    refine V.seq ?_
                    refine V.seq ?_
                    refine V.region ?_
                    refine L.rd (rd_assign rfl) rfl ?_
                    refine L.nil ?_
                    refine X.sq ?_
                    refine V.block ?_
                    refine V.loop (fun m l wr => ∃ (k : Nat), l = [(2, .pointer (some ⟨w.heap.size, 0, none⟩)), (3, .pointer (some ⟨w.heap.size + 1, 0, none⟩)), (9, .bool (mulP (pol Ls) (pol Ms)).isSome), (10, .pointer (some ⟨w3.heap.size, 0, none⟩)), (11, .slice af Lf.length cf), (12, .slice ag Lg.length cg), (13, .int .i64 k)] ∧ m = 2 - k ∧ k ≤ 2 ∧ Ext w.heap.size w wr ∧ Bl wr w.heap.size 62 [.slice aa Ls.length ca] ∧ Bl wr (w.heap.size + 1) 62 [.slice ab Ms.length cb] ∧ Tl wr 0 w.heap.size (.slice aa Ls.length ca) Ls ∧ Tl wr 0 w.heap.size (.slice ab Ms.length cb) Ms ∧ Bl wr w3.heap.size 62 [.slice a3 L3.length c3] ∧ Tl wr w2.heap.size w3.heap.size (.slice a3 L3.length c3) L3 ∧ Tl wr wb.heap.size w4.heap.size (.slice af Lf.length cf) Lf ∧ Tl wr w4.heap.size w5.heap.size (.slice ag Lg.length cg) Lg ∧ w5.heap.size ≤ wr.heap.size) ?_ ?_
                    ·
                      exact ⟨_, _, (by repeat' (first | exact trivial | refine ⟨rfl, ?_⟩)), 0, rfl, rfl, by omega, hE, hp, hq, hT1, hU1, hwn, hTw, hTf, hTg, Nat.le_refl _⟩
                    ·
                      clear hp hq hE hT1 hU1 hwn hTw hTf hTg hmw z7 z8 z0
                      rintro m l wr ⟨k, rfl, rfl, hk, hE, hp, hq, hT1, hU1, hwn, hTw, hTf, hTg, hwr⟩
                      have z0 := hE.size
                      have z7 := hq.lt
                      refine V.seq ?_
                      refine V.seq ?_
                      refine V.region ?_
                      refine L.rd (rd_move rfl) rfl ?_
                      refine L.rd (rd_lss rfl rfl) rfl ?_
                      refine L.nil ?_
                      refine X.sq ?_
                      first | refine V.cond rfl (fun h100 => ?_) (fun h100 => ?_) | refine V.condB rfl (fun h100 => ?_) (fun h100 => ?_)
                      ·
                        refine V.skip ?_
                        refine X.sq ?_
                        refine V.seq ?_
                        refine V.block ?_
                        refine V.seq ?_
                        refine V.region ?_
                        refine L.rd (rd_loadN tok rfl rfl rfl hp.cells rfl) rfl ?_
                        refine L.rd (rd_move rfl) rfl ?_
                        refine L.rd (rd_eql rfl rfl) rfl ?_
                        refine L.ef (e_call rfl (polyIn_ok _ Ls _ _ hT1 hS) rfl ?_)
                        rintro _ w5b ⟨v5, rfl, L5, hO5, hq5, he5b⟩
                        obtain ⟨a5, c5, rfl⟩ := own_form hO5.top
                        have hS5 : Sm (pol L5) := hq5 ▸ hS
                        replace hp := hp.ext he5b
                        replace hq := hq.ext he5b
                        replace hE := hE.ext he5b
                        replace hT1 := hT1.ext he5b
                        replace hU1 := hU1.ext he5b
                        replace hwn := hwn.ext he5b
                        replace hTw := hTw.ext he5b
                        replace hTf := hTf.ext he5b
                        replace hTg := hTg.ext he5b
                        refine L.ef (e_alloc (cs := [_]) tok rfl rfl (by first | (simp only [size_addB, size_setB, size_drew]; rfl) | rfl) rfl ?_)
                        refine L.ef (e_store (vs := [_]) tok rfl rfl rfl rfl (by (repeat (first | assumption | (refine Bl.new' ?_ _ _; first | with_reducible rfl | (simp only [size_addB, size_setB, size_drew]; done)) | apply Bl.add | apply Bl.drew | (apply Bl.setNe; omega) | (refine Bl.set' ?_ _ _; (try simp only [size_addB, size_setB, size_drew]); omega)))) rfl (by simp [Value.oneCell']) (by simp) ?_)
                        refine L.nil ?_
                        refine X.sq ?_
                        refine V.seq ?_
                        generalize hwc : setB _ _ _ _ = wc
                        have hec := ext_of_new hwc
                        have hh : Bl wc w5b.heap.size 70 [.slice a5 L5.length c5] := bl_of_new hwc
                        have hsc := size_of_new hwc
                        replace hp := hp.ext hec
                        replace hq := hq.ext hec
                        replace hE := hE.ext hec
                        replace hT1 := hT1.ext hec
                        replace hU1 := hU1.ext hec
                        replace hwn := hwn.ext hec
                        replace hTw := hTw.ext hec
                        replace hTf := hTf.ext hec
                        replace hTg := hTg.ext hec
                        replace hO5 := hO5.ext hec
                        refine V.region ?_
                        refine L.rd (rd_loadN tok rfl rfl rfl hq.cells rfl) rfl ?_
                        refine L.rd (rd_move rfl) rfl ?_
                        refine L.rd (rd_eql rfl rfl) rfl ?_
                        refine L.ef (e_call rfl (polyIn_ok _ Ms _ _ hU1 hS2) rfl ?_)
                        rintro _ w6 ⟨v6, rfl, L6, hO6, hq6, he6⟩
                        obtain ⟨a6, c6, rfl⟩ := own_form hO6.top
                        have hS6 : Sm (pol L6) := hq6 ▸ hS2
                        replace hp := hp.ext he6
                        replace hq := hq.ext he6
                        replace hE := hE.ext he6
                        replace hT1 := hT1.ext he6
                        replace hU1 := hU1.ext he6
                        replace hwn := hwn.ext he6
                        replace hTw := hTw.ext he6
                        replace hTf := hTf.ext he6
                        replace hTg := hTg.ext he6
                        replace hO5 := hO5.ext he6
                        replace hh := hh.ext he6
                        refine L.ef (e_alloc (cs := [_]) tok rfl rfl (by first | (simp only [size_addB, size_setB, size_drew]; rfl) | rfl) rfl ?_)
                        refine L.ef (e_store (vs := [_]) tok rfl rfl rfl rfl (by (repeat (first | assumption | (refine Bl.new' ?_ _ _; first | with_reducible rfl | (simp only [size_addB, size_setB, size_drew]; done)) | apply Bl.add | apply Bl.drew | (apply Bl.setNe; omega) | (refine Bl.set' ?_ _ _; (try simp only [size_addB, size_setB, size_drew]); omega)))) rfl (by simp [Value.oneCell']) (by simp) ?_)
                        refine L.nil ?_
                        refine X.sq ?_
                        refine V.seq ?_
                        generalize hwd : setB _ _ _ _ = wd
                        have hed := ext_of_new hwd
                        have hk6 : Bl wd w6.heap.size 70 [.slice a6 L6.length c6] := bl_of_new hwd
                        have hsd := size_of_new hwd
                        replace hp := hp.ext hed
                        replace hq := hq.ext hed
                        replace hE := hE.ext hed
                        replace hT1 := hT1.ext hed
                        replace hU1 := hU1.ext hed
                        replace hwn := hwn.ext hed
                        replace hTw := hTw.ext hed
                        replace hTf := hTf.ext hed
                        replace hTg := hTg.ext hed
                        replace hO5 := hO5.ext hed
                        replace hh := hh.ext hed
                        replace hO6 := hO6.ext hed
                        refine V.region ?_
                        refine L.rd (rd_fieldAddr tok rfl rfl rfl rfl rfl rfl) rfl ?_
                        refine L.rd (rd_load1 tok rfl rfl rfl (hh.cell rfl)) rfl ?_
                        refine L.ef (e_call rfl (keepFactors_ok _ L5 _ hO5.tl hS5) rfl ?_)
                        rintro vk w7 ⟨hK5, he7⟩
                        obtain ⟨ak, ck, rfl, -⟩ := id hK5.form
                        replace hp := hp.ext he7
                        replace hq := hq.ext he7
                        replace hE := hE.ext he7
                        replace hT1 := hT1.ext he7
                        replace hU1 := hU1.ext he7
                        replace hwn := hwn.ext he7
                        replace hTw := hTw.ext he7
                        replace hTf := hTf.ext he7
                        replace hTg := hTg.ext he7
                        replace hO5 := hO5.ext he7
                        replace hh := hh.ext he7
                        replace hO6 := hO6.ext he7
                        replace hk6 := hk6.ext he7
                        refine L.rd (rd_assign rfl) rfl ?_
                        refine L.nil ?_
                        refine X.sq ?_
                        refine V.seq ?_
                        refine V.region ?_
                        refine L.rd (rd_fieldAddr tok rfl rfl rfl rfl rfl rfl) rfl ?_
                        refine L.rd (rd_load1 tok rfl rfl rfl (hk6.cell rfl)) rfl ?_
                        refine L.ef (e_call rfl (keepFactors_ok _ L6 _ hO6.tl hS6) rfl ?_)
                        rintro vk w8 ⟨hK6, he8⟩
                        obtain ⟨ak2, ck2, rfl, -⟩ := id hK6.form
                        replace hp := hp.ext he8
                        replace hq := hq.ext he8
                        replace hE := hE.ext he8
                        replace hT1 := hT1.ext he8
                        replace hU1 := hU1.ext he8
                        replace hwn := hwn.ext he8
                        replace hTw := hTw.ext he8
                        replace hTf := hTf.ext he8
                        replace hTg := hTg.ext he8
                        replace hO5 := hO5.ext he8
                        replace hh := hh.ext he8
                        replace hO6 := hO6.ext he8
                        replace hk6 := hk6.ext he8
                        replace hK5 := hK5.ext he8
                        refine L.rd (rd_assign rfl) rfl ?_
                        refine L.nil ?_
                        refine X.sq ?_
                        refine V.seq ?_
                        refine V.region ?_
                        refine L.rd (rd_loadN tok rfl rfl rfl hh.cells rfl) rfl ?_
                        refine L.rd (rd_loadN tok rfl rfl rfl hk6.cells rfl) rfl ?_
                        refine L.ef (e_call rfl (imul_ok _ _ L5 L6 _ hO5.tl hO6.tl hS5 hS6 (by rw [hq5]; exact hqa) (by rw [hq6]; exact hqb)) rfl ?_)
                        rintro _ w9 ⟨v9, L9, rfl, hO9, hq9, he9⟩
                        rw [hq5, hq6] at hq9 ⊢
                        obtain ⟨a9, c9, rfl⟩ := own_form hO9.top
                        have h49 := mulP_s4 hq9
                        replace hp := hp.ext he9
                        replace hq := hq.ext he9
                        replace hE := hE.ext he9
                        replace hT1 := hT1.ext he9
                        replace hU1 := hU1.ext he9
                        replace hwn := hwn.ext he9
                        replace hTw := hTw.ext he9
                        replace hTf := hTf.ext he9
                        replace hTg := hTg.ext he9
                        replace hO5 := hO5.ext he9
                        replace hh := hh.ext he9
                        replace hO6 := hO6.ext he9
                        replace hk6 := hk6.ext he9
                        replace hK5 := hK5.ext he9
                        replace hK6 := hK6.ext he9
                        refine L.rd (rd_move rfl) rfl ?_
                        refine L.rd (rd_ext0 rfl) rfl ?_
                        refine L.rd (rd_ext1 rfl) rfl ?_
                        refine L.ef (e_alloc (cs := [_]) tok rfl rfl (by first | (simp only [size_addB, size_setB, size_drew]; rfl) | rfl) rfl ?_)
                        refine L.ef (e_store (vs := [_]) tok rfl rfl rfl rfl (by (repeat (first | assumption | (refine Bl.new' ?_ _ _; first | with_reducible rfl | (simp only [size_addB, size_setB, size_drew]; done)) | apply Bl.add | apply Bl.drew | (apply Bl.setNe; omega) | (refine Bl.set' ?_ _ _; (try simp only [size_addB, size_setB, size_drew]); omega)))) rfl (by simp [Value.oneCell']) (by simp) ?_)
                        refine L.rd (rd_assign rfl) rfl ?_
                        refine L.nil ?_
                        refine X.sq ?_
                        refine V.seq ?_
                        refine V.seq ?_
                        generalize hwe : setB _ _ _ _ = we
                        have hee := ext_of_new hwe
                        have hgb : Bl we w9.heap.size 70 [.slice a9 L9.length c9] := bl_of_new hwe
                        have hse := size_of_new hwe
                        replace hp := hp.ext hee
                        replace hq := hq.ext hee
                        replace hE := hE.ext hee
                        replace hT1 := hT1.ext hee
                        replace hU1 := hU1.ext hee
                        replace hwn := hwn.ext hee
                        replace hTw := hTw.ext hee
                        replace hTf := hTf.ext hee
                        replace hTg := hTg.ext hee
                        replace hO5 := hO5.ext hee
                        replace hh := hh.ext hee
                        replace hO6 := hO6.ext hee
                        replace hk6 := hk6.ext hee
                        replace hK5 := hK5.ext hee
                        replace hK6 := hK6.ext hee
                        replace hO9 := hO9.ext hee
                        have y1 := he5b.size
                        have y2 := he6.size
                        have y3 := he7.size
                        have y4 := he8.size
                        have y5 := he9.size
                        have heS : Ext we.heap.size we we.drew := (Ext.refl _ we).drew
                        refine V.draw [] mixed ?_
                        refine D.take 0 [true, false, false, false, false, false, false, false, false, false, false, false] (.sq (.sq (.bk (.sq (.lp (.bk (.sq .bd))))))) rfl (rd_loadN tok rfl rfl rfl hh.cells rfl) rfl (by kernel_rfl) rfl (LeC.drew _) ?_
                        refine D.take 2 [true, false, true, false, false, false, false, false, false, false, false, false] (.sq (.sq (.bk (.sq (.lp (.bk (.sq .bd))))))) rfl (rd_loadN tok rfl rfl rfl hp.cells rfl) rfl (by kernel_rfl) rfl (LeC.drew _) ?_
                        refine D.one 1 [true, true, true, false, false, false, false, false, false, false, false, false] rfl (by kernel_rfl) rfl (e_call rfl (polyOut_ok _ L5 _ (hO5.tl.ext heS) hS5) rfl ?_)
                        rintro _ w10 ⟨v10, rfl, L10, hO10, hq10, he10⟩
                        replace heS := heS.next he10
                        refine ⟨fun _ => (heS.leC), ?_⟩
                        refine D.one 3 [true, true, true, true, false, false, false, false, false, false, false, false] rfl (by kernel_rfl) rfl (e_call rfl (eqPolyL_ok _ _ L10 Ls _ hO10.tl (hT1.ext heS) (by rw [hq10]; exact hS5)) rfl ?_)
                        rintro _ w11 ⟨rfl, he11⟩
                        replace heS := heS.next he11
                        refine ⟨fun _ => (heS.leC), ?_⟩
                        first | refine D.take 4 [true, true, true, true, true, false, false, false, false, false, false, false] (.sq (.sq (.bk (.sq (.lp (.bk (.sq .bd))))))) rfl (rd_not rfl) rfl (by kernel_rfl) rfl (heS.leC) ?_ | refine D.take 4 [true, true, true, true, true, false, false, false, false, false, false, false] (.sq (.sq (.bk (.sq (.lp (.bk (.sq .bd))))))) rfl (rd_notB rfl) rfl (by kernel_rfl) rfl (heS.leC) ?_
                        refine D.take 5 [true, true, true, true, true, true, false, false, false, false, false, false] (.sq (.sq (.bk (.sq (.lp (.bk (.sq .bd))))))) rfl (rd_move rfl) rfl (by kernel_rfl) rfl (heS.leC) ?_
                        first | refine D.part 128 rfl (fun g128 => ?_) (fun g128 => ?_) | refine D.partB 128 rfl (fun g128 => ?_) (fun g128 => ?_)
                        ·
                          exact absurd (hq10.trans hq5) g128
                        ·
                          refine D.takeYes 6 [true, true, true, true, true, true, true, false, false, false, false, false] (.sq (.sq (.bk (.sq (.lp (.bk (.sq .bd))))))) rfl rfl rfl (rd_loadN tok rfl rfl rfl hk6.cells rfl) rfl (by kernel_rfl) rfl (heS.leC) ?_
                          refine D.takeYes 8 [true, true, true, true, true, true, true, false, true, false, false, false] (.sq (.sq (.bk (.sq (.lp (.bk (.sq .bd))))))) rfl rfl rfl (rd_loadN tok rfl rfl rfl hq.cells rfl) rfl (by kernel_rfl) rfl (heS.leC) ?_
                          refine D.oneYes 7 [true, true, true, true, true, true, true, true, true, false, false, false] rfl rfl rfl (by kernel_rfl) rfl (e_call rfl (polyOut_ok _ L6 _ (hO6.tl.ext heS) hS6) rfl ?_)
                          rintro _ w12 ⟨v12, rfl, L12, hO12, hq12, he12⟩
                          replace heS := heS.next he12
                          refine ⟨fun _ => (heS.leC), ?_⟩
                          refine D.oneYes 9 [true, true, true, true, true, true, true, true, true, true, false, false] rfl rfl rfl (by kernel_rfl) rfl (e_call rfl (eqPolyL_ok _ _ L12 Ms _ hO12.tl (hU1.ext heS) (by rw [hq12]; exact hS6)) rfl ?_)
                          rintro _ w13 ⟨rfl, he13⟩
                          replace heS := heS.next he13
                          refine ⟨fun _ => (heS.leC), ?_⟩
                          first | refine D.takeYes 10 [true, true, true, true, true, true, true, true, true, true, true, false] (.sq (.sq (.bk (.sq (.lp (.bk (.sq .bd))))))) rfl rfl rfl (rd_not rfl) rfl (by kernel_rfl) rfl (heS.leC) ?_ | refine D.takeYes 10 [true, true, true, true, true, true, true, true, true, true, true, false] (.sq (.sq (.bk (.sq (.lp (.bk (.sq .bd))))))) rfl rfl rfl (rd_notB rfl) rfl (by kernel_rfl) rfl (heS.leC) ?_
                          refine D.take 11 [true, true, true, true, true, true, true, true, true, true, true, true] (.sq (.sq (.bk (.sq (.lp (.bk (.sq .bd))))))) rfl (rd_pickF rfl rfl) rfl (by kernel_rfl) rfl (heS.leC) ?_
                          refine D.done (by kernel_rfl) ?_
                          refine X.sq ?_
                          first | refine V.cond rfl (fun h134 => ?_) (fun h134 => ?_) | refine V.condB rfl (fun h134 => ?_) (fun h134 => ?_)
                          ·
                            exact absurd (hq12.trans hq6) h134
                          ·
                            refine V.skip ?_
                            refine X.sq ?_
                            refine V.seq ?_
                            refine V.seq ?_
                            skip
                            replace hp := hp.ext heS
                            replace hq := hq.ext heS
                            replace hE := hE.ext heS
                            replace hT1 := hT1.ext heS
                            replace hU1 := hU1.ext heS
                            replace hwn := hwn.ext heS
                            replace hTw := hTw.ext heS
                            replace hTf := hTf.ext heS
                            replace hTg := hTg.ext heS
                            replace hO5 := hO5.ext heS
                            replace hh := hh.ext heS
                            replace hO6 := hO6.ext heS
                            replace hk6 := hk6.ext heS
                            replace hK5 := hK5.ext heS
                            replace hK6 := hK6.ext heS
                            replace hO9 := hO9.ext heS
                            replace hgb := hgb.ext heS
                            have y6 := heS.size
                            clear heS
                            have heS : Ext w13.heap.size w13 w13.drew := (Ext.refl _ w13).drew
                            refine V.draw [] mixed ?_
                            refine D.take 0 [true, false, false, false, false, false, false, false, false, false] (.sq (.sq (.bk (.sq (.lp (.bk (.sq .bd))))))) rfl (rd_move rfl) rfl (by kernel_rfl) rfl (LeC.drew _) ?_
                            refine D.take 1 [true, true, false, false, false, false, false, false, false, false] (.sq (.sq (.bk (.sq (.lp (.bk (.sq .bd))))))) rfl (rd_move rfl) rfl (by kernel_rfl) rfl (LeC.drew _) ?_
                            refine D.take 2 [true, true, true, false, false, false, false, false, false, false] (.sq (.sq (.bk (.sq (.lp (.bk (.sq .bd))))))) rfl (rd_neqB tok rfl rfl rfl rfl) rfl (by kernel_rfl) rfl (LeC.drew _) ?_
                            refine D.take 3 [true, true, true, true, false, false, false, false, false, false] (.sq (.sq (.bk (.sq (.lp (.bk (.sq .bd))))))) rfl (rd_move rfl) rfl (by kernel_rfl) rfl (LeC.drew _) ?_
                            first | refine D.part 138 rfl (fun g138 => ?_) (fun g138 => ?_) | refine D.partB 138 rfl (fun g138 => ?_) (fun g138 => ?_)
                            ·
                              exact absurd rfl g138
                            ·
                              refine D.takeYes 4 [true, true, true, true, true, false, false, false, false, false] (.sq (.sq (.bk (.sq (.lp (.bk (.sq .bd))))))) rfl rfl rfl (rd_loadN tok rfl rfl rfl hgb.cells rfl) rfl (by kernel_rfl) rfl (LeC.drew _) ?_
                              refine D.takeYes 6 [true, true, true, true, true, false, true, false, false, false] (.sq (.sq (.bk (.sq (.lp (.bk (.sq .bd))))))) rfl rfl rfl (rd_loadN tok rfl rfl rfl hwn.cells rfl) rfl (by kernel_rfl) rfl (LeC.drew _) ?_
                              refine D.oneYes 5 [true, true, true, true, true, true, true, false, false, false] rfl rfl rfl (by kernel_rfl) rfl (e_call rfl (polyOut_ok _ L9 _ (hO9.tl.ext heS) h49.sm) rfl ?_)
                              rintro _ w14 ⟨v14, rfl, L14, hO14, hq14, he14⟩
                              replace heS := heS.next he14
                              refine ⟨fun _ => (heS.leC), ?_⟩
                              refine D.oneYes 7 [true, true, true, true, true, true, true, true, false, false] rfl rfl rfl (by kernel_rfl) rfl (e_call rfl (eqPolyL_ok _ _ L14 L3 _ hO14.tl (hTw.ext heS) (by rw [hq14]; exact h49.sm)) rfl ?_)
                              rintro _ w15 ⟨rfl, he15⟩
                              replace heS := heS.next he15
                              refine ⟨fun _ => (heS.leC), ?_⟩
                              first | refine D.takeYes 8 [true, true, true, true, true, true, true, true, true, false] (.sq (.sq (.bk (.sq (.lp (.bk (.sq .bd))))))) rfl rfl rfl (rd_not rfl) rfl (by kernel_rfl) rfl (heS.leC) ?_ | refine D.takeYes 8 [true, true, true, true, true, true, true, true, true, false] (.sq (.sq (.bk (.sq (.lp (.bk (.sq .bd))))))) rfl rfl rfl (rd_notB rfl) rfl (by kernel_rfl) rfl (heS.leC) ?_
                              refine D.take 9 [true, true, true, true, true, true, true, true, true, true] (.sq (.sq (.bk (.sq (.lp (.bk (.sq .bd))))))) rfl (rd_pickF rfl rfl) rfl (by kernel_rfl) rfl (heS.leC) ?_
                              refine D.done (by kernel_rfl) ?_
                              refine X.sq ?_
                              first | refine V.cond rfl (fun h144 => ?_) (fun h144 => ?_) | refine V.condB rfl (fun h144 => ?_) (fun h144 => ?_)
                              ·
                                refine absurd ?_ h144
                                rw [hq14, hq9, hq3, hq2]
                              ·
                                refine V.skip ?_
                                refine X.sq ?_
                                refine V.seq ?_
                                skip
                                replace hp := hp.ext heS
                                replace hq := hq.ext heS
                                replace hE := hE.ext heS
                                replace hT1 := hT1.ext heS
                                replace hU1 := hU1.ext heS
                                replace hwn := hwn.ext heS
                                replace hTw := hTw.ext heS
                                replace hTf := hTf.ext heS
                                replace hTg := hTg.ext heS
                                replace hO5 := hO5.ext heS
                                replace hh := hh.ext heS
                                replace hO6 := hO6.ext heS
                                replace hk6 := hk6.ext heS
                                replace hK5 := hK5.ext heS
                                replace hK6 := hK6.ext heS
                                replace hO9 := hO9.ext heS
                                replace hgb := hgb.ext heS
                                have y7 := heS.size
                                clear heS
                                refine V.region ?_
                                refine L.rd (rd_fieldAddr tok rfl rfl rfl rfl rfl rfl) rfl ?_
                                refine L.rd (rd_load1 tok rfl rfl rfl (hgb.cell rfl)) rfl ?_
                                refine L.ef (e_call rfl (growTerms_ok _ L9 _ hO9 h49.sm (by omega)) rfl ?_)
                                rintro _ w16 ⟨hO16, hR16⟩
                                clear hO9
                                replace hp := hp.rg hR16 (by omega)
                                replace hq := hq.rg hR16 (by omega)
                                replace hE := hE.rg hR16 (by omega)
                                replace hT1 := hT1.rg hR16 (by omega)
                                replace hU1 := hU1.rg hR16 (by omega)
                                replace hwn := hwn.rg hR16 (by omega)
                                replace hTw := hTw.rg hR16 (by omega)
                                replace hTf := hTf.rg hR16 (by omega)
                                replace hTg := hTg.rg hR16 (by omega)
                                replace hO5 := hO5.rg hR16 (by omega)
                                replace hh := hh.rg hR16 (by omega)
                                replace hO6 := hO6.rg hR16 (by omega)
                                replace hk6 := hk6.rg hR16 (by omega)
                                replace hK5 := hK5.rg hR16 (by omega)
                                replace hK6 := hK6.rg hR16 (by omega)
                                replace hgb := hgb.rg hR16 (by omega)
                                refine L.nil ?_
                                refine X.sq ?_
                                refine V.seq ?_
                                refine V.seq ?_
                                have heS : Ext w16.heap.size w16 w16.drew := (Ext.refl _ w16).drew
                                have y8 := hR16.size
                                refine V.draw [] mixed ?_
                                refine D.take 0 [true, false, false, false, false, false, false, false, false, false, false, false, false, false, false, false, false, false, false] (.sq (.sq (.bk (.sq (.lp (.bk (.sq .bd))))))) rfl (rd_loadN tok rfl rfl rfl hh.cells rfl) rfl (by kernel_rfl) rfl (LeC.drew _) ?_
                                refine D.take 2 [true, false, true, false, false, false, false, false, false, false, false, false, false, false, false, false, false, false, false] (.sq (.sq (.bk (.sq (.lp (.bk (.sq .bd))))))) rfl (rd_loadN tok rfl rfl rfl hp.cells rfl) rfl (by kernel_rfl) rfl (LeC.drew _) ?_
                                refine D.one 1 [true, true, true, false, false, false, false, false, false, false, false, false, false, false, false, false, false, false, false] rfl (by kernel_rfl) rfl (e_call rfl (polyOut_ok _ L5 _ (hO5.tl.ext heS) hS5) rfl ?_)
                                rintro _ w17 ⟨v17, rfl, L17, hO17, hq17, he17⟩
                                replace heS := heS.next he17
                                refine ⟨fun _ => (heS.leC), ?_⟩
                                refine D.one 3 [true, true, true, true, false, false, false, false, false, false, false, false, false, false, false, false, false, false, false] rfl (by kernel_rfl) rfl (e_call rfl (eqPolyL_ok _ _ L17 Ls _ hO17.tl (hT1.ext heS) (by rw [hq17]; exact hS5)) rfl ?_)
                                rintro _ w18 ⟨rfl, he18⟩
                                replace heS := heS.next he18
                                refine ⟨fun _ => (heS.leC), ?_⟩
                                first | refine D.take 4 [true, true, true, true, true, false, false, false, false, false, false, false, false, false, false, false, false, false, false] (.sq (.sq (.bk (.sq (.lp (.bk (.sq .bd))))))) rfl (rd_not rfl) rfl (by kernel_rfl) rfl (heS.leC) ?_ | refine D.take 4 [true, true, true, true, true, false, false, false, false, false, false, false, false, false, false, false, false, false, false] (.sq (.sq (.bk (.sq (.lp (.bk (.sq .bd))))))) rfl (rd_notB rfl) rfl (by kernel_rfl) rfl (heS.leC) ?_
                                refine D.take 5 [true, true, true, true, true, true, false, false, false, false, false, false, false, false, false, false, false, false, false] (.sq (.sq (.bk (.sq (.lp (.bk (.sq .bd))))))) rfl (rd_move rfl) rfl (by kernel_rfl) rfl (heS.leC) ?_
                                first | refine D.part 153 rfl (fun g153 => ?_) (fun g153 => ?_) | refine D.partB 153 rfl (fun g153 => ?_) (fun g153 => ?_)
                                ·
                                  exact absurd (hq17.trans hq5) g153
                                ·
                                  refine D.takeYes 6 [true, true, true, true, true, true, true, false, false, false, false, false, false, false, false, false, false, false, false] (.sq (.sq (.bk (.sq (.lp (.bk (.sq .bd))))))) rfl rfl rfl (rd_loadN tok rfl rfl rfl hk6.cells rfl) rfl (by kernel_rfl) rfl (heS.leC) ?_
                                  refine D.takeYes 8 [true, true, true, true, true, true, true, false, true, false, false, false, false, false, false, false, false, false, false] (.sq (.sq (.bk (.sq (.lp (.bk (.sq .bd))))))) rfl rfl rfl (rd_loadN tok rfl rfl rfl hq.cells rfl) rfl (by kernel_rfl) rfl (heS.leC) ?_
                                  refine D.oneYes 7 [true, true, true, true, true, true, true, true, true, false, false, false, false, false, false, false, false, false, false] rfl rfl rfl (by kernel_rfl) rfl (e_call rfl (polyOut_ok _ L6 _ (hO6.tl.ext heS) hS6) rfl ?_)
                                  rintro _ w19 ⟨v19, rfl, L19, hO19, hq19, he19⟩
                                  replace heS := heS.next he19
                                  refine ⟨fun _ => (heS.leC), ?_⟩
                                  refine D.oneYes 9 [true, true, true, true, true, true, true, true, true, true, false, false, false, false, false, false, false, false, false] rfl rfl rfl (by kernel_rfl) rfl (e_call rfl (eqPolyL_ok _ _ L19 Ms _ hO19.tl (hU1.ext heS) (by rw [hq19]; exact hS6)) rfl ?_)
                                  rintro _ w20 ⟨rfl, he20⟩
                                  replace heS := heS.next he20
                                  refine ⟨fun _ => (heS.leC), ?_⟩
                                  first | refine D.takeYes 10 [true, true, true, true, true, true, true, true, true, true, true, false, false, false, false, false, false, false, false] (.sq (.sq (.bk (.sq (.lp (.bk (.sq .bd))))))) rfl rfl rfl (rd_not rfl) rfl (by kernel_rfl) rfl (heS.leC) ?_ | refine D.takeYes 10 [true, true, true, true, true, true, true, true, true, true, true, false, false, false, false, false, false, false, false] (.sq (.sq (.bk (.sq (.lp (.bk (.sq .bd))))))) rfl rfl rfl (rd_notB rfl) rfl (by kernel_rfl) rfl (heS.leC) ?_
                                  refine D.take 11 [true, true, true, true, true, true, true, true, true, true, true, true, false, false, false, false, false, false, false] (.sq (.sq (.bk (.sq (.lp (.bk (.sq .bd))))))) rfl (rd_pickF rfl rfl) rfl (by kernel_rfl) rfl (heS.leC) ?_
                                  refine D.take 12 [true, true, true, true, true, true, true, true, true, true, true, true, true, false, false, false, false, false, false] (.sq (.sq (.bk (.sq (.lp (.bk (.sq .bd))))))) rfl (rd_move rfl) rfl (by kernel_rfl) rfl (heS.leC) ?_
                                  first | refine D.part 160 rfl (fun g160 => ?_) (fun g160 => ?_) | refine D.partB 160 rfl (fun g160 => ?_) (fun g160 => ?_)
                                  ·
                                    exact absurd (hq19.trans hq6) g160
                                  ·
                                    refine D.takeYes 13 [true, true, true, true, true, true, true, true, true, true, true, true, true, true, false, false, false, false, false] (.sq (.sq (.bk (.sq (.lp (.bk (.sq .bd))))))) rfl rfl rfl (rd_loadN tok rfl rfl rfl hgb.cells rfl) rfl (by kernel_rfl) rfl (heS.leC) ?_
                                    refine D.takeYes 15 [true, true, true, true, true, true, true, true, true, true, true, true, true, true, false, true, false, false, false] (.sq (.sq (.bk (.sq (.lp (.bk (.sq .bd))))))) rfl rfl rfl (rd_loadN tok rfl rfl rfl hwn.cells rfl) rfl (by kernel_rfl) rfl (heS.leC) ?_
                                    refine D.oneYes 14 [true, true, true, true, true, true, true, true, true, true, true, true, true, true, true, true, false, false, false] rfl rfl rfl (by kernel_rfl) rfl (e_call rfl (polyOut_ok _ L9 _ (hO16.tl.ext heS) h49.sm) rfl ?_)
                                    rintro _ w21 ⟨v21, rfl, L21, hO21, hq21, he21⟩
                                    replace heS := heS.next he21
                                    refine ⟨fun _ => (heS.leC), ?_⟩
                                    refine D.oneYes 16 [true, true, true, true, true, true, true, true, true, true, true, true, true, true, true, true, true, false, false] rfl rfl rfl (by kernel_rfl) rfl (e_call rfl (eqPolyL_ok _ _ L21 L3 _ hO21.tl (hTw.ext heS) (by rw [hq21]; exact h49.sm)) rfl ?_)
                                    rintro _ w22 ⟨rfl, he22⟩
                                    replace heS := heS.next he22
                                    refine ⟨fun _ => (heS.leC), ?_⟩
                                    first | refine D.takeYes 17 [true, true, true, true, true, true, true, true, true, true, true, true, true, true, true, true, true, true, false] (.sq (.sq (.bk (.sq (.lp (.bk (.sq .bd))))))) rfl rfl rfl (rd_not rfl) rfl (by kernel_rfl) rfl (heS.leC) ?_ | refine D.takeYes 17 [true, true, true, true, true, true, true, true, true, true, true, true, true, true, true, true, true, true, false] (.sq (.sq (.bk (.sq (.lp (.bk (.sq .bd))))))) rfl rfl rfl (rd_notB rfl) rfl (by kernel_rfl) rfl (heS.leC) ?_
                                    refine D.take 18 [true, true, true, true, true, true, true, true, true, true, true, true, true, true, true, true, true, true, true] (.sq (.sq (.bk (.sq (.lp (.bk (.sq .bd))))))) rfl (rd_pickF rfl rfl) rfl (by kernel_rfl) rfl (heS.leC) ?_
                                    refine D.done (by kernel_rfl) ?_
                                    refine X.sq ?_
                                    first | refine V.cond rfl (fun h166 => ?_) (fun h166 => ?_) | refine V.condB rfl (fun h166 => ?_) (fun h166 => ?_)
                                    ·
                                      refine absurd ?_ h166
                                      rw [hq21, hq9, hq3, hq2]
                                    ·
                                      refine V.skip ?_
                                      refine X.sq ?_
                                      refine V.seq ?_
                                      skip
                                      replace hp := hp.ext heS
                                      replace hq := hq.ext heS
                                      replace hE := hE.ext heS
                                      replace hT1 := hT1.ext heS
                                      replace hU1 := hU1.ext heS
                                      replace hwn := hwn.ext heS
                                      replace hTw := hTw.ext heS
                                      replace hTf := hTf.ext heS
                                      replace hTg := hTg.ext heS
                                      replace hO5 := hO5.ext heS
                                      replace hh := hh.ext heS
                                      replace hO6 := hO6.ext heS
                                      replace hk6 := hk6.ext heS
                                      replace hK5 := hK5.ext heS
                                      replace hK6 := hK6.ext heS
                                      replace hO16 := hO16.ext heS
                                      replace hgb := hgb.ext heS
                                      have y9 := heS.size
                                      clear heS
                                      refine V.region ?_
                                      refine L.rd (rd_fieldAddr tok rfl rfl rfl rfl rfl rfl) rfl ?_
                                      refine L.rd (rd_load1 tok rfl rfl rfl (hh.cell rfl)) rfl ?_
                                      refine L.rd (rd_move rfl) rfl ?_
                                      refine L.ef (e_call rfl (flipHeld_ok _ _ L5 _ hO5 hK5 (.inl (by omega)) hS5) rfl ?_)
                                      rintro _ w23 ⟨M5, hO23, hq23, hR23⟩
                                      clear hO5 hK5
                                      replace hp := hp.rg hR23 (by omega)
                                      replace hq := hq.rg hR23 (by omega)
                                      replace hE := hE.rg hR23 (by omega)
                                      replace hT1 := hT1.rg hR23 (by omega)
                                      replace hU1 := hU1.rg hR23 (by omega)
                                      replace hwn := hwn.rg hR23 (by omega)
                                      replace hTw := hTw.rg hR23 (by omega)
                                      replace hTf := hTf.rg hR23 (by omega)
                                      replace hTg := hTg.rg hR23 (by omega)
                                      replace hh := hh.rg hR23 (by omega)
                                      replace hO6 := hO6.rg hR23 (by omega)
                                      replace hk6 := hk6.rg hR23 (by omega)
                                      replace hK6 := hK6.rg hR23 (by omega)
                                      replace hO16 := hO16.rg hR23 (by omega)
                                      replace hgb := hgb.rg hR23 (by omega)
                                      have hS23 : Sm (pol M5) := by rw [hq23, hq5]; exact hS.flip
                                      have hcmp : pol M5 = pol Lf := by rw [hq23, hq5, hqf]
                                      have x1 := hR23.size
                                      refine L.nil ?_
                                      refine X.sq ?_
                                      refine V.seq ?_
                                      refine V.region ?_
                                      refine L.rd (rd_fieldAddr tok rfl rfl rfl rfl rfl rfl) rfl ?_
                                      refine L.rd (rd_load1 tok rfl rfl rfl (hk6.cell rfl)) rfl ?_
                                      refine L.rd (rd_move rfl) rfl ?_
                                      refine L.ef (e_call rfl (flipHeld_ok _ _ L6 _ hO6 hK6 (.inl (by omega)) hS6) rfl ?_)
                                      rintro _ w24 ⟨M6, hO24, hq24, hR24⟩
                                      clear hO6 hK6
                                      replace hp := hp.rg hR24 (by omega)
                                      replace hq := hq.rg hR24 (by omega)
                                      replace hE := hE.rg hR24 (by omega)
                                      replace hT1 := hT1.rg hR24 (by omega)
                                      replace hU1 := hU1.rg hR24 (by omega)
                                      replace hwn := hwn.rg hR24 (by omega)
                                      replace hTw := hTw.rg hR24 (by omega)
                                      replace hTf := hTf.rg hR24 (by omega)
                                      replace hTg := hTg.rg hR24 (by omega)
                                      replace hh := hh.rg hR24 (by omega)
                                      replace hO23 := hO23.rg hR24 (by omega)
                                      replace hk6 := hk6.rg hR24 (by omega)
                                      replace hO16 := hO16.rg hR24 (by omega)
                                      replace hgb := hgb.rg hR24 (by omega)
                                      have hS24 : Sm (pol M6) := by rw [hq24, hq6]; exact hS2.flip
                                      have hcmp2 : pol M6 = pol Lg := by rw [hq24, hq6, hqg]
                                      have x2 := hR24.size
                                      refine L.nil ?_
                                      refine X.sq ?_
                                      refine V.seq ?_
                                      refine V.seq ?_
                                      have heS : Ext w24.heap.size w24 w24.drew := (Ext.refl _ w24).drew
                                      refine V.draw [] mixed ?_
                                      refine D.take 0 [true, false, false, false, false, false, false, false, false, false, false, false, false, false, false, false, false, false, false, false, false] (.sq (.sq (.bk (.sq (.lp (.bk (.sq .bd))))))) rfl (rd_fieldAddr tok rfl rfl rfl rfl rfl rfl) rfl (by kernel_rfl) rfl (LeC.drew _) ?_
                                      refine D.take 1 [true, true, false, false, false, false, false, false, false, false, false, false, false, false, false, false, false, false, false, false, false] (.sq (.sq (.bk (.sq (.lp (.bk (.sq .bd))))))) rfl (rd_load1 tok rfl rfl rfl (hh.cell rfl)) rfl (by kernel_rfl) rfl (LeC.drew _) ?_
                                      refine D.take 3 [true, true, false, true, false, false, false, false, false, false, false, false, false, false, false, false, false, false, false, false, false] (.sq (.sq (.bk (.sq (.lp (.bk (.sq .bd))))))) rfl (rd_move rfl) rfl (by kernel_rfl) rfl (LeC.drew _) ?_
                                      refine D.one 2 [true, true, true, true, false, false, false, false, false, false, false, false, false, false, false, false, false, false, false, false, false] rfl (by kernel_rfl) rfl (e_call rfl (termsOut_ok _ M5 _ (hO23.tl.ext heS) hS23) rfl ?_)
                                      rintro v25 w25 ⟨L25, hO25, hq25, he25⟩
                                      obtain ⟨a25, c25, rfl⟩ := own_form hO25.top
                                      replace heS := heS.next he25
                                      refine ⟨fun _ => (heS.leC), ?_⟩
                                      refine D.one 4 [true, true, true, true, true, false, false, false, false, false, false, false, false, false, false, false, false, false, false, false, false] rfl (by kernel_rfl) rfl (e_call rfl (eqTermsL_ok _ _ L25 Lf _ hO25.tl (hTf.ext heS) (by rw [hq25]; exact hS23)) rfl ?_)
                                      rintro _ w26 ⟨rfl, he26⟩
                                      replace heS := heS.next he26
                                      refine ⟨fun _ => (heS.leC), ?_⟩
                                      first | refine D.take 5 [true, true, true, true, true, true, false, false, false, false, false, false, false, false, false, false, false, false, false, false, false] (.sq (.sq (.bk (.sq (.lp (.bk (.sq .bd))))))) rfl (rd_not rfl) rfl (by kernel_rfl) rfl (heS.leC) ?_ | refine D.take 5 [true, true, true, true, true, true, false, false, false, false, false, false, false, false, false, false, false, false, false, false, false] (.sq (.sq (.bk (.sq (.lp (.bk (.sq .bd))))))) rfl (rd_notB rfl) rfl (by kernel_rfl) rfl (heS.leC) ?_
                                      refine D.take 6 [true, true, true, true, true, true, true, false, false, false, false, false, false, false, false, false, false, false, false, false, false] (.sq (.sq (.bk (.sq (.lp (.bk (.sq .bd))))))) rfl (rd_move rfl) rfl (by kernel_rfl) rfl (heS.leC) ?_
                                      first | refine D.part 181 rfl (fun g181 => ?_) (fun g181 => ?_) | refine D.partB 181 rfl (fun g181 => ?_) (fun g181 => ?_)
                                      ·
                                        exact absurd (hq25.trans hcmp) g181
                                      ·
                                        refine D.takeYes 7 [true, true, true, true, true, true, true, true, false, false, false, false, false, false, false, false, false, false, false, false, false] (.sq (.sq (.bk (.sq (.lp (.bk (.sq .bd))))))) rfl rfl rfl (rd_fieldAddr tok rfl rfl rfl rfl rfl rfl) rfl (by kernel_rfl) rfl (heS.leC) ?_
                                        refine D.takeYes 8 [true, true, true, true, true, true, true, true, true, false, false, false, false, false, false, false, false, false, false, false, false] (.sq (.sq (.bk (.sq (.lp (.bk (.sq .bd))))))) rfl rfl rfl (rd_load1 tok rfl rfl rfl (hk6.cell rfl)) rfl (by kernel_rfl) rfl (heS.leC) ?_
                                        refine D.takeYes 10 [true, true, true, true, true, true, true, true, true, false, true, false, false, false, false, false, false, false, false, false, false] (.sq (.sq (.bk (.sq (.lp (.bk (.sq .bd))))))) rfl rfl rfl (rd_move rfl) rfl (by kernel_rfl) rfl (heS.leC) ?_
                                        refine D.oneYes 9 [true, true, true, true, true, true, true, true, true, true, true, false, false, false, false, false, false, false, false, false, false] rfl rfl rfl (by kernel_rfl) rfl (e_call rfl (termsOut_ok _ M6 _ (hO24.tl.ext heS) hS24) rfl ?_)
                                        rintro v27 w27 ⟨L27, hO27, hq27, he27⟩
                                        obtain ⟨a27, c27, rfl⟩ := own_form hO27.top
                                        replace heS := heS.next he27
                                        refine ⟨fun _ => (heS.leC), ?_⟩
                                        refine D.oneYes 11 [true, true, true, true, true, true, true, true, true, true, true, true, false, false, false, false, false, false, false, false, false] rfl rfl rfl (by kernel_rfl) rfl (e_call rfl (eqTermsL_ok _ _ L27 Lg _ hO27.tl (hTg.ext heS) (by rw [hq27]; exact hS24)) rfl ?_)
                                        rintro _ w28 ⟨rfl, he28⟩
                                        replace heS := heS.next he28
                                        refine ⟨fun _ => (heS.leC), ?_⟩
                                        first | refine D.takeYes 12 [true, true, true, true, true, true, true, true, true, true, true, true, true, false, false, false, false, false, false, false, false] (.sq (.sq (.bk (.sq (.lp (.bk (.sq .bd))))))) rfl rfl rfl (rd_not rfl) rfl (by kernel_rfl) rfl (heS.leC) ?_ | refine D.takeYes 12 [true, true, true, true, true, true, true, true, true, true, true, true, true, false, false, false, false, false, false, false, false] (.sq (.sq (.bk (.sq (.lp (.bk (.sq .bd))))))) rfl rfl rfl (rd_notB rfl) rfl (by kernel_rfl) rfl (heS.leC) ?_
                                        refine D.take 13 [true, true, true, true, true, true, true, true, true, true, true, true, true, true, false, false, false, false, false, false, false] (.sq (.sq (.bk (.sq (.lp (.bk (.sq .bd))))))) rfl (rd_pickF rfl rfl) rfl (by kernel_rfl) rfl (heS.leC) ?_
                                        refine D.take 14 [true, true, true, true, true, true, true, true, true, true, true, true, true, true, true, false, false, false, false, false, false] (.sq (.sq (.bk (.sq (.lp (.bk (.sq .bd))))))) rfl (rd_move rfl) rfl (by kernel_rfl) rfl (heS.leC) ?_
                                        first | refine D.part 189 rfl (fun g189 => ?_) (fun g189 => ?_) | refine D.partB 189 rfl (fun g189 => ?_) (fun g189 => ?_)
                                        ·
                                          exact absurd (hq27.trans hcmp2) g189
                                        ·
                                          refine D.takeYes 15 [true, true, true, true, true, true, true, true, true, true, true, true, true, true, true, true, false, false, false, false, false] (.sq (.sq (.bk (.sq (.lp (.bk (.sq .bd))))))) rfl rfl rfl (rd_loadN tok rfl rfl rfl hgb.cells rfl) rfl (by kernel_rfl) rfl (heS.leC) ?_
                                          refine D.takeYes 17 [true, true, true, true, true, true, true, true, true, true, true, true, true, true, true, true, false, true, false, false, false] (.sq (.sq (.bk (.sq (.lp (.bk (.sq .bd))))))) rfl rfl rfl (rd_loadN tok rfl rfl rfl hwn.cells rfl) rfl (by kernel_rfl) rfl (heS.leC) ?_
                                          refine D.oneYes 16 [true, true, true, true, true, true, true, true, true, true, true, true, true, true, true, true, true, true, false, false, false] rfl rfl rfl (by kernel_rfl) rfl (e_call rfl (polyOut_ok _ L9 _ (hO16.tl.ext heS) h49.sm) rfl ?_)
                                          rintro _ w29 ⟨v29, rfl, L29, hO29, hq29, he29⟩
                                          replace heS := heS.next he29
                                          refine ⟨fun _ => (heS.leC), ?_⟩
                                          refine D.oneYes 18 [true, true, true, true, true, true, true, true, true, true, true, true, true, true, true, true, true, true, true, false, false] rfl rfl rfl (by kernel_rfl) rfl (e_call rfl (eqPolyL_ok _ _ L29 L3 _ hO29.tl (hTw.ext heS) (by rw [hq29]; exact h49.sm)) rfl ?_)
                                          rintro _ w30 ⟨rfl, he30⟩
                                          replace heS := heS.next he30
                                          refine ⟨fun _ => (heS.leC), ?_⟩
                                          first | refine D.takeYes 19 [true, true, true, true, true, true, true, true, true, true, true, true, true, true, true, true, true, true, true, true, false] (.sq (.sq (.bk (.sq (.lp (.bk (.sq .bd))))))) rfl rfl rfl (rd_not rfl) rfl (by kernel_rfl) rfl (heS.leC) ?_ | refine D.takeYes 19 [true, true, true, true, true, true, true, true, true, true, true, true, true, true, true, true, true, true, true, true, false] (.sq (.sq (.bk (.sq (.lp (.bk (.sq .bd))))))) rfl rfl rfl (rd_notB rfl) rfl (by kernel_rfl) rfl (heS.leC) ?_
                                          refine D.take 20 [true, true, true, true, true, true, true, true, true, true, true, true, true, true, true, true, true, true, true, true, true] (.sq (.sq (.bk (.sq (.lp (.bk (.sq .bd))))))) rfl (rd_pickF rfl rfl) rfl (by kernel_rfl) rfl (heS.leC) ?_
                                          refine D.done (by kernel_rfl) ?_
                                          refine X.sq ?_
                                          first | refine V.cond rfl (fun h195 => ?_) (fun h195 => ?_) | refine V.condB rfl (fun h195 => ?_) (fun h195 => ?_)
                                          ·
                                            refine absurd ?_ h195
                                            rw [hq29, hq9, hq3, hq2]
                                          ·
                                            refine V.skip ?_
                                            refine X.sq ?_
                                            refine V.seq ?_
                                            skip
                                            replace hp := hp.ext heS
                                            replace hq := hq.ext heS
                                            replace hE := hE.ext heS
                                            replace hT1 := hT1.ext heS
                                            replace hU1 := hU1.ext heS
                                            replace hwn := hwn.ext heS
                                            replace hTw := hTw.ext heS
                                            replace hTf := hTf.ext heS
                                            replace hTg := hTg.ext heS
                                            replace hh := hh.ext heS
                                            replace hO23 := hO23.ext heS
                                            replace hO24 := hO24.ext heS
                                            replace hk6 := hk6.ext heS
                                            replace hO16 := hO16.ext heS
                                            replace hgb := hgb.ext heS
                                            have x3 := heS.size
                                            clear heS
                                            refine V.region ?_
                                            refine L.rd (rd_fieldAddr tok rfl rfl rfl rfl rfl rfl) rfl ?_
                                            refine L.rd (rd_load1 tok rfl rfl rfl (hgb.cell rfl)) rfl ?_
                                            refine L.ef (e_call rfl (flipAnswer_ok _ L9 _ hO16 h49.sm) rfl ?_)
                                            rintro _ w31 ⟨hO31, hR31⟩
                                            clear hO16
                                            replace hp := hp.rg hR31 (by omega)
                                            replace hq := hq.rg hR31 (by omega)
                                            replace hE := hE.rg hR31 (by omega)
                                            replace hT1 := hT1.rg hR31 (by omega)
                                            replace hU1 := hU1.rg hR31 (by omega)
                                            replace hwn := hwn.rg hR31 (by omega)
                                            replace hTw := hTw.rg hR31 (by omega)
                                            replace hTf := hTf.rg hR31 (by omega)
                                            replace hTg := hTg.rg hR31 (by omega)
                                            replace hh := hh.rg hR31 (by omega)
                                            replace hO23 := hO23.rg hR31 (by omega)
                                            replace hO24 := hO24.rg hR31 (by omega)
                                            replace hk6 := hk6.rg hR31 (by omega)
                                            replace hgb := hgb.rg hR31 (by omega)
                                            refine L.nil ?_
                                            refine X.sq ?_
                                            refine V.seq ?_
                                            refine V.seq ?_
                                            have heS : Ext w31.heap.size w31 w31 := Ext.refl _ w31
                                            have x4 := hR31.size
                                            refine V.region ?_
                                            refine L.rd (rd_fieldAddr tok rfl rfl rfl rfl rfl rfl) rfl ?_
                                            refine L.rd (rd_load1 tok rfl rfl rfl (hh.cell rfl)) rfl ?_
                                            refine L.ef (e_call rfl (termsOut_ok _ M5 _ (hO23.tl.ext heS) hS23) rfl ?_)
                                            rintro v32 w32 ⟨L32, hO32, hq32, he32⟩
                                            obtain ⟨a32, c32, rfl⟩ := own_form hO32.top
                                            replace heS := heS.next he32
                                            refine L.rd (rd_move rfl) rfl ?_
                                            refine L.ef (e_call rfl (eqTermsL_ok _ _ L32 Lf _ hO32.tl (hTf.ext heS) (by rw [hq32]; exact hS23)) rfl ?_)
                                            rintro _ w33 ⟨rfl, he33⟩
                                            replace heS := heS.next he33
                                            first | refine L.rd (rd_not rfl) rfl ?_ | refine L.rd (rd_notB rfl) rfl ?_
                                            refine L.rd (rd_move rfl) rfl ?_
                                            first | refine L.partG rfl rfl (fun g205 => ?_) (fun g205 => ?_) | refine L.partGB rfl rfl (fun g205 => ?_) (fun g205 => ?_)
                                            ·
                                              exact absurd (hq32.trans hcmp) g205
                                            ·
                                              refine L.yes rfl rfl ?_
                                              refine L.rd (rd_fieldAddr tok rfl rfl rfl rfl rfl rfl) rfl ?_
                                              refine L.yes rfl rfl ?_
                                              refine L.rd (rd_load1 tok rfl rfl rfl ((hk6.ext heS).cell rfl)) rfl ?_
                                              refine L.yes rfl rfl ?_
                                              refine L.ef (e_call rfl (termsOut_ok _ M6 _ (hO24.tl.ext heS) hS24) rfl ?_)
                                              rintro v34 w34 ⟨L34, hO34, hq34, he34⟩
                                              obtain ⟨a34, c34, rfl⟩ := own_form hO34.top
                                              replace heS := heS.next he34
                                              refine L.yes rfl rfl ?_
                                              refine L.rd (rd_move rfl) rfl ?_
                                              refine L.yes rfl rfl ?_
                                              refine L.ef (e_call rfl (eqTermsL_ok _ _ L34 Lg _ hO34.tl (hTg.ext heS) (by rw [hq34]; exact hS24)) rfl ?_)
                                              rintro _ w35 ⟨rfl, he35⟩
                                              replace heS := heS.next he35
                                              refine L.yes rfl rfl ?_
                                              first | refine L.rd (rd_not rfl) rfl ?_ | refine L.rd (rd_notB rfl) rfl ?_
                                              refine L.rd (rd_pickF rfl rfl) rfl ?_
                                              refine L.nil ?_
                                              refine X.sq ?_
                                              first | refine V.cond rfl (fun h212 => ?_) (fun h212 => ?_) | refine V.condB rfl (fun h212 => ?_) (fun h212 => ?_)
                                              ·
                                                exact absurd (hq34.trans hcmp2) h212
                                              ·
                                                refine V.skip ?_
                                                refine X.sq ?_
                                                refine V.seq ?_
                                                refine V.seq ?_
                                                skip
                                                replace hp := hp.ext heS
                                                replace hq := hq.ext heS
                                                replace hE := hE.ext heS
                                                replace hT1 := hT1.ext heS
                                                replace hU1 := hU1.ext heS
                                                replace hwn := hwn.ext heS
                                                replace hTw := hTw.ext heS
                                                replace hTf := hTf.ext heS
                                                replace hTg := hTg.ext heS
                                                replace hh := hh.ext heS
                                                replace hO23 := hO23.ext heS
                                                replace hO24 := hO24.ext heS
                                                replace hk6 := hk6.ext heS
                                                replace hO31 := hO31.ext heS
                                                replace hgb := hgb.ext heS
                                                have x5 := heS.size
                                                clear heS
                                                refine V.region ?_
                                                refine L.rd (rd_fieldAddr tok rfl rfl rfl rfl rfl rfl) rfl ?_
                                                refine L.rd (rd_load1 tok rfl rfl rfl (hgb.cell rfl)) rfl ?_
                                                refine L.ef (e_call rfl (stampTerms_ok _ _ _ hO31 h49.flip) rfl ?_)
                                                rintro _ w36 ⟨rfl, M9, hO36, h436, hR36⟩
                                                clear hO31
                                                replace hp := hp.rg hR36 (by omega)
                                                replace hq := hq.rg hR36 (by omega)
                                                replace hE := hE.rg hR36 (by omega)
                                                replace hT1 := hT1.rg hR36 (by omega)
                                                replace hU1 := hU1.rg hR36 (by omega)
                                                replace hwn := hwn.rg hR36 (by omega)
                                                replace hTw := hTw.rg hR36 (by omega)
                                                replace hTf := hTf.rg hR36 (by omega)
                                                replace hTg := hTg.rg hR36 (by omega)
                                                replace hh := hh.rg hR36 (by omega)
                                                replace hO23 := hO23.rg hR36 (by omega)
                                                replace hO24 := hO24.rg hR36 (by omega)
                                                replace hk6 := hk6.rg hR36 (by omega)
                                                replace hgb := hgb.rg hR36 (by omega)
                                                first | refine L.rd (rd_not rfl) rfl ?_ | refine L.rd (rd_notB rfl) rfl ?_
                                                refine L.nil ?_
                                                refine X.sq ?_
                                                first | refine V.cond rfl (fun h216 => ?_) (fun h216 => ?_) | refine V.condB rfl (fun h216 => ?_) (fun h216 => ?_)
                                                ·
                                                  cases h216
                                                ·
                                                  refine V.skip ?_
                                                  refine X.sq ?_
                                                  refine V.seq ?_
                                                  refine V.seq ?_
                                                  have heS : Ext w36.heap.size w36 w36 := Ext.refl _ w36
                                                  have x6 := hR36.size
                                                  refine V.region ?_
                                                  refine L.rd (rd_fieldAddr tok rfl rfl rfl rfl rfl rfl) rfl ?_
                                                  refine L.rd (rd_load1 tok rfl rfl rfl (hh.cell rfl)) rfl ?_
                                                  refine L.ef (e_call rfl (termsOut_ok _ M5 _ (hO23.tl.ext heS) hS23) rfl ?_)
                                                  rintro v37 w37 ⟨L37, hO37, hq37, he37⟩
                                                  obtain ⟨a37, c37, rfl⟩ := own_form hO37.top
                                                  replace heS := heS.next he37
                                                  refine L.rd (rd_move rfl) rfl ?_
                                                  refine L.ef (e_call rfl (eqTermsL_ok _ _ L37 Lf _ hO37.tl (hTf.ext heS) (by rw [hq37]; exact hS23)) rfl ?_)
                                                  rintro _ w38 ⟨rfl, he38⟩
                                                  replace heS := heS.next he38
                                                  first | refine L.rd (rd_not rfl) rfl ?_ | refine L.rd (rd_notB rfl) rfl ?_
                                                  refine L.rd (rd_move rfl) rfl ?_
                                                  first | refine L.partG rfl rfl (fun g223 => ?_) (fun g223 => ?_) | refine L.partGB rfl rfl (fun g223 => ?_) (fun g223 => ?_)
                                                  ·
                                                    exact absurd (hq37.trans hcmp) g223
                                                  ·
                                                    refine L.yes rfl rfl ?_
                                                    refine L.rd (rd_fieldAddr tok rfl rfl rfl rfl rfl rfl) rfl ?_
                                                    refine L.yes rfl rfl ?_
                                                    refine L.rd (rd_load1 tok rfl rfl rfl ((hk6.ext heS).cell rfl)) rfl ?_
                                                    refine L.yes rfl rfl ?_
                                                    refine L.ef (e_call rfl (termsOut_ok _ M6 _ (hO24.tl.ext heS) hS24) rfl ?_)
                                                    rintro v39 w39 ⟨L39, hO39, hq39, he39⟩
                                                    obtain ⟨a39, c39, rfl⟩ := own_form hO39.top
                                                    replace heS := heS.next he39
                                                    refine L.yes rfl rfl ?_
                                                    refine L.rd (rd_move rfl) rfl ?_
                                                    refine L.yes rfl rfl ?_
                                                    refine L.ef (e_call rfl (eqTermsL_ok _ _ L39 Lg _ hO39.tl (hTg.ext heS) (by rw [hq39]; exact hS24)) rfl ?_)
                                                    rintro _ w40 ⟨rfl, he40⟩
                                                    replace heS := heS.next he40
                                                    refine L.yes rfl rfl ?_
                                                    first | refine L.rd (rd_not rfl) rfl ?_ | refine L.rd (rd_notB rfl) rfl ?_
                                                    refine L.rd (rd_pickF rfl rfl) rfl ?_
                                                    refine L.nil ?_
                                                    refine X.sq ?_
                                                    first | refine V.cond rfl (fun h230 => ?_) (fun h230 => ?_) | refine V.condB rfl (fun h230 => ?_) (fun h230 => ?_)
                                                    ·
                                                      exact absurd (hq39.trans hcmp2) h230
                                                    ·
                                                      refine V.skip ?_
                                                      refine X.sq ?_
                                                      refine V.seq ?_
                                                      skip
                                                      replace hp := hp.ext heS
                                                      replace hq := hq.ext heS
                                                      replace hE := hE.ext heS
                                                      replace hT1 := hT1.ext heS
                                                      replace hU1 := hU1.ext heS
                                                      replace hwn := hwn.ext heS
                                                      replace hTw := hTw.ext heS
                                                      replace hTf := hTf.ext heS
                                                      replace hTg := hTg.ext heS
                                                      replace hO36 := hO36.ext heS
                                                      replace hgb := hgb.ext heS
                                                      have x7 := heS.size
                                                      clear heS
                                                      refine V.region ?_
                                                      refine L.rd (rd_loadN tok rfl rfl rfl hgb.cells rfl) rfl ?_
                                                      refine L.ef (e_call rfl (polyOut_ok _ M9 _ hO36.tl h436.sm) rfl ?_)
                                                      rintro _ w41 ⟨v41, rfl, L41, hO41, hq41, he41⟩
                                                      obtain ⟨a41, c41, rfl⟩ := own_form hO41.top
                                                      have x8 := he41.size
                                                      replace hp := hp.ext he41
                                                      replace hq := hq.ext he41
                                                      replace hE := hE.ext he41
                                                      replace hT1 := hT1.ext he41
                                                      replace hU1 := hU1.ext he41
                                                      replace hwn := hwn.ext he41
                                                      replace hTw := hTw.ext he41
                                                      replace hTf := hTf.ext he41
                                                      replace hTg := hTg.ext he41
                                                      replace hO36 := hO36.ext he41
                                                      replace hgb := hgb.ext he41
                                                      refine L.ef (e_alloc (cs := [_]) tok rfl rfl (by first | (simp only [size_addB, size_setB, size_drew]; rfl) | rfl) rfl ?_)
                                                      refine L.ef (e_store (vs := [_]) tok rfl rfl rfl rfl (by (repeat (first | assumption | (refine Bl.new' ?_ _ _; first | with_reducible rfl | (simp only [size_addB, size_setB, size_drew]; done)) | apply Bl.add | apply Bl.drew | (apply Bl.setNe; omega) | (refine Bl.set' ?_ _ _; (try simp only [size_addB, size_setB, size_drew]); omega)))) rfl (by simp [Value.oneCell']) (by simp) ?_)
                                                      refine L.nil ?_
                                                      refine X.sq ?_
                                                      refine V.seq ?_
                                                      refine V.cut (fun l w' => ∃ (b lo hi : Nat) (a2 : Option Addr) (c2 : Nat) (L8 : List Lt), l = [(2, .pointer (some ⟨w.heap.size, 0, none⟩)), (3, .pointer (some ⟨w.heap.size + 1, 0, none⟩)), (9, .bool (mulP (pol Ls) (pol Ms)).isSome), (10, .pointer (some ⟨w3.heap.size, 0, none⟩)), (11, .slice af Lf.length cf), (12, .slice ag Lg.length cg), (13, .int .i64 k), (18, .pointer (some ⟨w9.heap.size, 0, none⟩)), (20, .pointer (some ⟨w41.heap.size, 0, none⟩)), (21, .pointer (some ⟨b, 0, none⟩)), (22, .bool (mulP (pol Ls) (pol Ms)).isSome)] ∧ Ext w41.heap.size w41 w' ∧ Bl w' w41.heap.size 62 [.slice a41 L41.length c41] ∧ Tl w' w40.heap.size w41.heap.size (.slice a41 L41.length c41) L41 ∧ Bl w' b 70 [.slice a2 L8.length c2] ∧ OwnT w' lo hi 133 135 (.slice a2 L8.length c2) L8 ∧ pol L8 = (mulP (pol Ls) (pol Ms)).getD [] ∧ w41.heap.size + 1 ≤ lo) ?_ ?_
                                                      ·
                                                        generalize hwf : setB _ _ _ _ = wf
                                                        have hef := ext_of_new hwf
                                                        have hsp : Bl wf w41.heap.size 62 [.slice a41 L41.length c41] := bl_of_new hwf
                                                        have hsf := size_of_new hwf
                                                        replace hp := hp.ext hef
                                                        replace hq := hq.ext hef
                                                        replace hE := hE.ext hef
                                                        replace hT1 := hT1.ext hef
                                                        replace hU1 := hU1.ext hef
                                                        replace hwn := hwn.ext hef
                                                        replace hTw := hTw.ext hef
                                                        replace hTf := hTf.ext hef
                                                        replace hTg := hTg.ext hef
                                                        replace hO36 := hO36.ext hef
                                                        replace hgb := hgb.ext hef
                                                        replace hO41 := hO41.ext hef
                                                        have hTs := hO41.tl
                                                        have heS : Ext wf.heap.size wf wf.drew := (Ext.refl _ wf).drew
                                                        refine V.draw [] mixed ?_
                                                        refine D.take 0 [true, false, false, false, false, false, false, false, false, false, false, false, false, false, false] (.ct (.sq (.bk (.sq (.lp (.bk (.sq .bd))))))) rfl (rd_loadN tok rfl rfl rfl hp.cells rfl) rfl (by kernel_rfl) rfl (LeC.drew _) ?_
                                                        refine D.take 1 [true, true, false, false, false, false, false, false, false, false, false, false, false, false, false] (.ct (.sq (.bk (.sq (.lp (.bk (.sq .bd))))))) rfl (rd_move rfl) rfl (by kernel_rfl) rfl (LeC.drew _) ?_
                                                        refine D.take 2 [true, true, true, false, false, false, false, false, false, false, false, false, false, false, false] (.ct (.sq (.bk (.sq (.lp (.bk (.sq .bd))))))) rfl (rd_eql rfl rfl) rfl (by kernel_rfl) rfl (LeC.drew _) ?_
                                                        refine D.take 4 [true, true, true, false, true, false, false, false, false, false, false, false, false, false, false] (.ct (.sq (.bk (.sq (.lp (.bk (.sq .bd))))))) rfl (rd_loadN tok rfl rfl rfl hq.cells rfl) rfl (by kernel_rfl) rfl (LeC.drew _) ?_
                                                        refine D.take 5 [true, true, true, false, true, true, false, false, false, false, false, false, false, false, false] (.ct (.sq (.bk (.sq (.lp (.bk (.sq .bd))))))) rfl (rd_move rfl) rfl (by kernel_rfl) rfl (LeC.drew _) ?_
                                                        refine D.take 6 [true, true, true, false, true, true, true, false, false, false, false, false, false, false, false] (.ct (.sq (.bk (.sq (.lp (.bk (.sq .bd))))))) rfl (rd_eql rfl rfl) rfl (by kernel_rfl) rfl (LeC.drew _) ?_
                                                        refine D.two 3 12 [true, true, true, true, true, true, true, false, false, false, false, false, false, false, false] [true, true, true, false, true, true, true, false, false, false, false, false, true, false, false] rfl rfl (by kernel_rfl) rfl rfl (e_call rfl (polyIn_ok _ Ls _ _ (hT1.ext heS) hS) rfl ?_) (e_alloc (cs := [_]) tok rfl rfl (by first | (simp only [size_addB, size_setB, size_drew]; rfl) | rfl) rfl ?_)
                                                        ·
                                                          rintro _ w42 ⟨v42, rfl, L42, hO42, hq42, he42⟩
                                                          have hSq42 : Sm (pol L42) := hq42 ▸ hS
                                                          replace heS := heS.next he42
                                                          try replace hmb := hmb.ext he42
                                                          refine ⟨fun _ => (heS.leC), ?_⟩
                                                          refine D.two 7 12 [true, true, true, true, true, true, true, true, false, false, false, false, false, false, false] [true, true, true, true, true, true, true, false, false, false, false, false, true, false, false] rfl rfl (by kernel_rfl) rfl rfl (e_call rfl (polyIn_ok _ Ms _ _ (hU1.ext heS) hS2) rfl ?_) (e_alloc (cs := [_]) tok rfl rfl (by first | (simp only [size_addB, size_setB, size_drew]; rfl) | rfl) rfl ?_)
                                                          ·
                                                            rintro _ w43 ⟨v43, rfl, L43, hO43, hq43, he43⟩
                                                            have hSq43 : Sm (pol L43) := hq43 ▸ hS2
                                                            replace heS := heS.next he43
                                                            replace hO42 := hO42.ext he43
                                                            try replace hmb := hmb.ext he43
                                                            refine ⟨fun _ => (heS.leC), ?_⟩
                                                            refine D.two 8 12 [true, true, true, true, true, true, true, true, true, false, false, false, false, false, false] [true, true, true, true, true, true, true, true, false, false, false, false, true, false, false] rfl rfl (by kernel_rfl) rfl rfl (e_call rfl (imul_ok _ _ L42 L43 _ hO42.tl hO43.tl hSq42 hSq43 (by rw [hq42]; exact hqa) (by rw [hq43]; exact hqb)) rfl ?_) (e_alloc (cs := [_]) tok rfl rfl (by first | (simp only [size_addB, size_setB, size_drew]; rfl) | rfl) rfl ?_)
                                                            ·
                                                              rintro _ w44 ⟨v44, L44, rfl, hO44, hq44, he44⟩
                                                              rw [hq42, hq43] at hq44 ⊢
                                                              obtain ⟨a44, c44, rfl⟩ := own_form hO44.top
                                                              have hlo := heS.size
                                                              replace heS := heS.next he44
                                                              try replace hmb := hmb.ext he44
                                                              refine ⟨fun _ => (heS.leC), ?_⟩
                                                              refine D.take 9 [true, true, true, true, true, true, true, true, true, true, false, false, false, false, false] (.ct (.sq (.bk (.sq (.lp (.bk (.sq .bd))))))) rfl (rd_move rfl) rfl (by kernel_rfl) rfl (heS.leC) ?_
                                                              refine D.take 10 [true, true, true, true, true, true, true, true, true, true, true, false, false, false, false] (.ct (.sq (.bk (.sq (.lp (.bk (.sq .bd))))))) rfl (rd_ext0 rfl) rfl (by kernel_rfl) rfl (heS.leC) ?_
                                                              refine D.take 11 [true, true, true, true, true, true, true, true, true, true, true, true, false, false, false] (.ct (.sq (.bk (.sq (.lp (.bk (.sq .bd))))))) rfl (rd_ext1 rfl) rfl (by kernel_rfl) rfl (heS.leC) ?_
                                                              refine D.one 12 [true, true, true, true, true, true, true, true, true, true, true, true, true, false, false] rfl (by kernel_rfl) rfl (e_alloc (cs := [_]) tok rfl rfl (by first | (simp only [size_addB, size_setB, size_drew]; rfl) | rfl) rfl ?_)
                                                              generalize hwm : addB _ _ _ = wm
                                                              have hem := ext_of_add hwm
                                                              have hmb := bl_of_add hwm
                                                              have hsm := heS.size
                                                              replace heS := heS.next hem
                                                              try replace hO42 := hO42.ext hem
                                                              try replace hO43 := hO43.ext hem
                                                              try replace hO44 := hO44.ext hem
                                                              refine ⟨fun _ => (heS.leC), ?_⟩
                                                              refine D.one 13 [true, true, true, true, true, true, true, true, true, true, true, true, true, true, false] rfl (by kernel_rfl) rfl (e_store (vs := [_]) tok rfl rfl rfl rfl hmb rfl (by simp [Value.oneCell']) (by simp) ?_)
                                                              replace heS := heS.set hsm 70 (putAt [Value.slice none 0 0] 0 [Value.slice a44 L44.length c44])
                                                              refine ⟨fun _ => (heS.leC), ?_⟩
                                                              refine D.take 14 [true, true, true, true, true, true, true, true, true, true, true, true, true, true, true] (.ct (.sq (.bk (.sq (.lp (.bk (.sq .bd))))))) rfl (rd_assign rfl) rfl (by kernel_rfl) rfl (heS.leC) ?_
                                                              refine D.done (by kernel_rfl) ?_
                                                              exact X.ct ⟨_, (by repeat' (first | exact trivial | refine ⟨rfl, ?_⟩)), _, _, _, a44, c44, L44, rfl, hef.next heS, hsp.ext heS, hTs.ext heS, hmb.set _ _, hO44.off hmb rfl rfl _, hq44, by omega⟩
                                                            ·
                                                              generalize hwm : addB _ _ _ = wm
                                                              have hem := ext_of_add hwm
                                                              have hmb := bl_of_add hwm
                                                              have hsm := heS.size
                                                              replace heS := heS.next hem
                                                              try replace hO42 := hO42.ext hem
                                                              try replace hO43 := hO43.ext hem
                                                              try replace hO44 := hO44.ext hem
                                                              refine ⟨fun _ => (heS.leC), ?_⟩
                                                              refine D.one 8 [true, true, true, true, true, true, true, true, true, false, false, false, true, false, false] rfl (by kernel_rfl) rfl (e_call rfl (imul_ok _ _ L42 L43 _ hO42.tl hO43.tl hSq42 hSq43 (by rw [hq42]; exact hqa) (by rw [hq43]; exact hqb)) rfl ?_)
                                                              rintro _ w44 ⟨v44, L44, rfl, hO44, hq44, he44⟩
                                                              rw [hq42, hq43] at hq44 ⊢
                                                              obtain ⟨a44, c44, rfl⟩ := own_form hO44.top
                                                              have hlo := heS.size
                                                              replace heS := heS.next he44
                                                              try replace hmb := hmb.ext he44
                                                              refine ⟨fun _ => (heS.leC), ?_⟩
                                                              refine D.take 9 [true, true, true, true, true, true, true, true, true, true, false, false, true, false, false] (.ct (.sq (.bk (.sq (.lp (.bk (.sq .bd))))))) rfl (rd_move rfl) rfl (by kernel_rfl) rfl (heS.leC) ?_
                                                              refine D.take 10 [true, true, true, true, true, true, true, true, true, true, true, false, true, false, false] (.ct (.sq (.bk (.sq (.lp (.bk (.sq .bd))))))) rfl (rd_ext0 rfl) rfl (by kernel_rfl) rfl (heS.leC) ?_
                                                              refine D.take 11 [true, true, true, true, true, true, true, true, true, true, true, true, true, false, false] (.ct (.sq (.bk (.sq (.lp (.bk (.sq .bd))))))) rfl (rd_ext1 rfl) rfl (by kernel_rfl) rfl (heS.leC) ?_
                                                              refine D.one 13 [true, true, true, true, true, true, true, true, true, true, true, true, true, true, false] rfl (by kernel_rfl) rfl (e_store (vs := [_]) tok rfl rfl rfl rfl hmb rfl (by simp [Value.oneCell']) (by simp) ?_)
                                                              replace heS := heS.set hsm 70 (putAt [Value.slice none 0 0] 0 [Value.slice a44 L44.length c44])
                                                              refine ⟨fun _ => (heS.leC), ?_⟩
                                                              refine D.take 14 [true, true, true, true, true, true, true, true, true, true, true, true, true, true, true] (.ct (.sq (.bk (.sq (.lp (.bk (.sq .bd))))))) rfl (rd_assign rfl) rfl (by kernel_rfl) rfl (heS.leC) ?_
                                                              refine D.done (by kernel_rfl) ?_
                                                              exact X.ct ⟨_, (by repeat' (first | exact trivial | refine ⟨rfl, ?_⟩)), _, _, _, a44, c44, L44, rfl, hef.next heS, hsp.ext heS, hTs.ext heS, hmb.set _ _, hO44.off hmb rfl rfl _, hq44, by omega⟩
                                                          ·
                                                            generalize hwm : addB _ _ _ = wm
                                                            have hem := ext_of_add hwm
                                                            have hmb := bl_of_add hwm
                                                            have hsm := heS.size
                                                            replace heS := heS.next hem
                                                            try replace hO42 := hO42.ext hem
                                                            try replace hO43 := hO43.ext hem
                                                            try replace hO44 := hO44.ext hem
                                                            refine ⟨fun _ => (heS.leC), ?_⟩
                                                            refine D.one 7 [true, true, true, true, true, true, true, true, false, false, false, false, true, false, false] rfl (by kernel_rfl) rfl (e_call rfl (polyIn_ok _ Ms _ _ (hU1.ext heS) hS2) rfl ?_)
                                                            rintro _ w43 ⟨v43, rfl, L43, hO43, hq43, he43⟩
                                                            have hSq43 : Sm (pol L43) := hq43 ▸ hS2
                                                            replace heS := heS.next he43
                                                            replace hO42 := hO42.ext he43
                                                            try replace hmb := hmb.ext he43
                                                            refine ⟨fun _ => (heS.leC), ?_⟩
                                                            refine D.one 8 [true, true, true, true, true, true, true, true, true, false, false, false, true, false, false] rfl (by kernel_rfl) rfl (e_call rfl (imul_ok _ _ L42 L43 _ hO42.tl hO43.tl hSq42 hSq43 (by rw [hq42]; exact hqa) (by rw [hq43]; exact hqb)) rfl ?_)
                                                            rintro _ w44 ⟨v44, L44, rfl, hO44, hq44, he44⟩
                                                            rw [hq42, hq43] at hq44 ⊢
                                                            obtain ⟨a44, c44, rfl⟩ := own_form hO44.top
                                                            have hlo := heS.size
                                                            replace heS := heS.next he44
                                                            try replace hmb := hmb.ext he44
                                                            refine ⟨fun _ => (heS.leC), ?_⟩
                                                            refine D.take 9 [true, true, true, true, true, true, true, true, true, true, false, false, true, false, false] (.ct (.sq (.bk (.sq (.lp (.bk (.sq .bd))))))) rfl (rd_move rfl) rfl (by kernel_rfl) rfl (heS.leC) ?_
                                                            refine D.take 10 [true, true, true, true, true, true, true, true, true, true, true, false, true, false, false] (.ct (.sq (.bk (.sq (.lp (.bk (.sq .bd))))))) rfl (rd_ext0 rfl) rfl (by kernel_rfl) rfl (heS.leC) ?_
                                                            refine D.take 11 [true, true, true, true, true, true, true, true, true, true, true, true, true, false, false] (.ct (.sq (.bk (.sq (.lp (.bk (.sq .bd))))))) rfl (rd_ext1 rfl) rfl (by kernel_rfl) rfl (heS.leC) ?_
                                                            refine D.one 13 [true, true, true, true, true, true, true, true, true, true, true, true, true, true, false] rfl (by kernel_rfl) rfl (e_store (vs := [_]) tok rfl rfl rfl rfl hmb rfl (by simp [Value.oneCell']) (by simp) ?_)
                                                            replace heS := heS.set hsm 70 (putAt [Value.slice none 0 0] 0 [Value.slice a44 L44.length c44])
                                                            refine ⟨fun _ => (heS.leC), ?_⟩
                                                            refine D.take 14 [true, true, true, true, true, true, true, true, true, true, true, true, true, true, true] (.ct (.sq (.bk (.sq (.lp (.bk (.sq .bd))))))) rfl (rd_assign rfl) rfl (by kernel_rfl) rfl (heS.leC) ?_
                                                            refine D.done (by kernel_rfl) ?_
                                                            exact X.ct ⟨_, (by repeat' (first | exact trivial | refine ⟨rfl, ?_⟩)), _, _, _, a44, c44, L44, rfl, hef.next heS, hsp.ext heS, hTs.ext heS, hmb.set _ _, hO44.off hmb rfl rfl _, hq44, by omega⟩
                                                        ·
                                                          generalize hwm : addB _ _ _ = wm
                                                          have hem := ext_of_add hwm
                                                          have hmb := bl_of_add hwm
                                                          have hsm := heS.size
                                                          replace heS := heS.next hem
                                                          try replace hO42 := hO42.ext hem
                                                          try replace hO43 := hO43.ext hem
                                                          try replace hO44 := hO44.ext hem
                                                          refine ⟨fun _ => (heS.leC), ?_⟩
                                                          refine D.one 3 [true, true, true, true, true, true, true, false, false, false, false, false, true, false, false] rfl (by kernel_rfl) rfl (e_call rfl (polyIn_ok _ Ls _ _ (hT1.ext heS) hS) rfl ?_)
                                                          rintro _ w42 ⟨v42, rfl, L42, hO42, hq42, he42⟩
                                                          have hSq42 : Sm (pol L42) := hq42 ▸ hS
                                                          replace heS := heS.next he42
                                                          try replace hmb := hmb.ext he42
                                                          refine ⟨fun _ => (heS.leC), ?_⟩
                                                          refine D.one 7 [true, true, true, true, true, true, true, true, false, false, false, false, true, false, false] rfl (by kernel_rfl) rfl (e_call rfl (polyIn_ok _ Ms _ _ (hU1.ext heS) hS2) rfl ?_)
                                                          rintro _ w43 ⟨v43, rfl, L43, hO43, hq43, he43⟩
                                                          have hSq43 : Sm (pol L43) := hq43 ▸ hS2
                                                          replace heS := heS.next he43
                                                          replace hO42 := hO42.ext he43
                                                          try replace hmb := hmb.ext he43
                                                          refine ⟨fun _ => (heS.leC), ?_⟩
                                                          refine D.one 8 [true, true, true, true, true, true, true, true, true, false, false, false, true, false, false] rfl (by kernel_rfl) rfl (e_call rfl (imul_ok _ _ L42 L43 _ hO42.tl hO43.tl hSq42 hSq43 (by rw [hq42]; exact hqa) (by rw [hq43]; exact hqb)) rfl ?_)
                                                          rintro _ w44 ⟨v44, L44, rfl, hO44, hq44, he44⟩
                                                          rw [hq42, hq43] at hq44 ⊢
                                                          obtain ⟨a44, c44, rfl⟩ := own_form hO44.top
                                                          have hlo := heS.size
                                                          replace heS := heS.next he44
                                                          try replace hmb := hmb.ext he44
                                                          refine ⟨fun _ => (heS.leC), ?_⟩
                                                          refine D.take 9 [true, true, true, true, true, true, true, true, true, true, false, false, true, false, false] (.ct (.sq (.bk (.sq (.lp (.bk (.sq .bd))))))) rfl (rd_move rfl) rfl (by kernel_rfl) rfl (heS.leC) ?_
                                                          refine D.take 10 [true, true, true, true, true, true, true, true, true, true, true, false, true, false, false] (.ct (.sq (.bk (.sq (.lp (.bk (.sq .bd))))))) rfl (rd_ext0 rfl) rfl (by kernel_rfl) rfl (heS.leC) ?_
                                                          refine D.take 11 [true, true, true, true, true, true, true, true, true, true, true, true, true, false, false] (.ct (.sq (.bk (.sq (.lp (.bk (.sq .bd))))))) rfl (rd_ext1 rfl) rfl (by kernel_rfl) rfl (heS.leC) ?_
                                                          refine D.one 13 [true, true, true, true, true, true, true, true, true, true, true, true, true, true, false] rfl (by kernel_rfl) rfl (e_store (vs := [_]) tok rfl rfl rfl rfl hmb rfl (by simp [Value.oneCell']) (by simp) ?_)
                                                          replace heS := heS.set hsm 70 (putAt [Value.slice none 0 0] 0 [Value.slice a44 L44.length c44])
                                                          refine ⟨fun _ => (heS.leC), ?_⟩
                                                          refine D.take 14 [true, true, true, true, true, true, true, true, true, true, true, true, true, true, true] (.ct (.sq (.bk (.sq (.lp (.bk (.sq .bd))))))) rfl (rd_assign rfl) rfl (by kernel_rfl) rfl (heS.leC) ?_
                                                          refine D.done (by kernel_rfl) ?_
                                                          exact X.ct ⟨_, (by repeat' (first | exact trivial | refine ⟨rfl, ?_⟩)), _, _, _, a44, c44, L44, rfl, hef.next heS, hsp.ext heS, hTs.ext heS, hmb.set _ _, hO44.off hmb rfl rfl _, hq44, by omega⟩
                                                      ·
                                                        rintro l w45 ⟨b8, lo8, hi8, a8, c8, L8, rfl, he45, hsp, hTs, hg2, hO8, hq8, hlo8⟩
                                                        have h48 := mulP_s4 hq8
                                                        have x9 := he45.size
                                                        replace hp := hp.ext he45
                                                        replace hq := hq.ext he45
                                                        replace hE := hE.ext he45
                                                        replace hT1 := hT1.ext he45
                                                        replace hU1 := hU1.ext he45
                                                        replace hwn := hwn.ext he45
                                                        replace hTw := hTw.ext he45
                                                        replace hTf := hTf.ext he45
                                                        replace hTg := hTg.ext he45
                                                        replace hO36 := hO36.ext he45
                                                        replace hgb := hgb.ext he45
                                                        refine X.sq ?_
                                                        refine V.seq ?_
                                                        refine V.seq ?_
                                                        have heS : Ext w45.heap.size w45 w45.drew := (Ext.refl _ w45).drew
                                                        refine V.draw [] mixed ?_
                                                        refine D.take 0 [true, false, false, false, false, false, false, false, false, false] (.sq (.sq (.bk (.sq (.lp (.bk (.sq .bd))))))) rfl (rd_move rfl) rfl (by kernel_rfl) rfl (LeC.drew _) ?_
                                                        refine D.take 1 [true, true, false, false, false, false, false, false, false, false] (.sq (.sq (.bk (.sq (.lp (.bk (.sq .bd))))))) rfl (rd_move rfl) rfl (by kernel_rfl) rfl (LeC.drew _) ?_
                                                        refine D.take 2 [true, true, true, false, false, false, false, false, false, false] (.sq (.sq (.bk (.sq (.lp (.bk (.sq .bd))))))) rfl (rd_neqB tok rfl rfl rfl rfl) rfl (by kernel_rfl) rfl (LeC.drew _) ?_
                                                        refine D.take 3 [true, true, true, true, false, false, false, false, false, false] (.sq (.sq (.bk (.sq (.lp (.bk (.sq .bd))))))) rfl (rd_move rfl) rfl (by kernel_rfl) rfl (LeC.drew _) ?_
                                                        first | refine D.part 248 rfl (fun g248 => ?_) (fun g248 => ?_) | refine D.partB 248 rfl (fun g248 => ?_) (fun g248 => ?_)
                                                        ·
                                                          exact absurd rfl g248
                                                        ·
                                                          refine D.takeYes 4 [true, true, true, true, true, false, false, false, false, false] (.sq (.sq (.bk (.sq (.lp (.bk (.sq .bd))))))) rfl rfl rfl (rd_loadN tok rfl rfl rfl hg2.cells rfl) rfl (by kernel_rfl) rfl (LeC.drew _) ?_
                                                          refine D.takeYes 6 [true, true, true, true, true, false, true, false, false, false] (.sq (.sq (.bk (.sq (.lp (.bk (.sq .bd))))))) rfl rfl rfl (rd_loadN tok rfl rfl rfl hwn.cells rfl) rfl (by kernel_rfl) rfl (LeC.drew _) ?_
                                                          refine D.oneYes 5 [true, true, true, true, true, true, true, false, false, false] rfl rfl rfl (by kernel_rfl) rfl (e_call rfl (polyOut_ok _ L8 _ (hO8.tl.ext heS) h48.sm) rfl ?_)
                                                          rintro _ w46 ⟨v46, rfl, L46, hO46, hq46, he46⟩
                                                          replace heS := heS.next he46
                                                          refine ⟨fun _ => (heS.leC), ?_⟩
                                                          refine D.oneYes 7 [true, true, true, true, true, true, true, true, false, false] rfl rfl rfl (by kernel_rfl) rfl (e_call rfl (eqPolyL_ok _ _ L46 L3 _ hO46.tl (hTw.ext heS) (by rw [hq46]; exact h48.sm)) rfl ?_)
                                                          rintro _ w47 ⟨rfl, he47⟩
                                                          replace heS := heS.next he47
                                                          refine ⟨fun _ => (heS.leC), ?_⟩
                                                          first | refine D.takeYes 8 [true, true, true, true, true, true, true, true, true, false] (.sq (.sq (.bk (.sq (.lp (.bk (.sq .bd))))))) rfl rfl rfl (rd_not rfl) rfl (by kernel_rfl) rfl (heS.leC) ?_ | refine D.takeYes 8 [true, true, true, true, true, true, true, true, true, false] (.sq (.sq (.bk (.sq (.lp (.bk (.sq .bd))))))) rfl rfl rfl (rd_notB rfl) rfl (by kernel_rfl) rfl (heS.leC) ?_
                                                          refine D.take 9 [true, true, true, true, true, true, true, true, true, true] (.sq (.sq (.bk (.sq (.lp (.bk (.sq .bd))))))) rfl (rd_pickF rfl rfl) rfl (by kernel_rfl) rfl (heS.leC) ?_
                                                          refine D.done (by kernel_rfl) ?_
                                                          refine X.sq ?_
                                                          first | refine V.cond rfl (fun h254 => ?_) (fun h254 => ?_) | refine V.condB rfl (fun h254 => ?_) (fun h254 => ?_)
                                                          ·
                                                            refine absurd ?_ h254
                                                            rw [hq46, hq8, hq3, hq2]
                                                          ·
                                                            refine V.skip ?_
                                                            refine X.sq ?_
                                                            refine V.seq ?_
                                                            skip
                                                            replace hp := hp.ext heS
                                                            replace hq := hq.ext heS
                                                            replace hE := hE.ext heS
                                                            replace hT1 := hT1.ext heS
                                                            replace hU1 := hU1.ext heS
                                                            replace hwn := hwn.ext heS
                                                            replace hTw := hTw.ext heS
                                                            replace hTf := hTf.ext heS
                                                            replace hTg := hTg.ext heS
                                                            replace hO36 := hO36.ext heS
                                                            replace hgb := hgb.ext heS
                                                            replace hsp := hsp.ext heS
                                                            replace hTs := hTs.ext heS
                                                            replace hg2 := hg2.ext heS
                                                            replace hO8 := hO8.ext heS
                                                            have x10 := heS.size
                                                            clear heS
                                                            refine V.region ?_
                                                            refine L.rd (rd_fieldAddr tok rfl rfl rfl rfl rfl rfl) rfl ?_
                                                            refine L.rd (rd_load1 tok rfl rfl rfl (hg2.cell rfl)) rfl ?_
                                                            refine L.ef (e_call rfl (flipAnswer_ok _ L8 _ hO8 h48.sm) rfl ?_)
                                                            rintro _ w48 ⟨hO48, hR48⟩
                                                            clear hO8
                                                            replace hp := hp.rg hR48 (by omega)
                                                            replace hq := hq.rg hR48 (by omega)
                                                            replace hE := hE.rg hR48 (by omega)
                                                            replace hT1 := hT1.rg hR48 (by omega)
                                                            replace hU1 := hU1.rg hR48 (by omega)
                                                            replace hwn := hwn.rg hR48 (by omega)
                                                            replace hTw := hTw.rg hR48 (by omega)
                                                            replace hTf := hTf.rg hR48 (by omega)
                                                            replace hTg := hTg.rg hR48 (by omega)
                                                            replace hO36 := hO36.rg hR48 (by omega)
                                                            replace hgb := hgb.rg hR48 (by omega)
                                                            replace hsp := hsp.rg hR48 (by omega)
                                                            replace hTs := hTs.rg hR48 (by omega)
                                                            refine L.nil ?_
                                                            refine X.sq ?_
                                                            refine V.seq ?_
                                                            have heS : Ext w48.heap.size w48 w48.drew := (Ext.refl _ w48).drew
                                                            have x11 := hR48.size
                                                            refine V.draw [] mixed ?_
                                                            refine D.take 0 [true, false, false, false, false] (.sq (.bk (.sq (.lp (.bk (.sq .bd)))))) rfl (rd_loadN tok rfl rfl rfl hgb.cells rfl) rfl (by kernel_rfl) rfl (LeC.drew _) ?_
                                                            refine D.take 2 [true, false, true, false, false] (.sq (.bk (.sq (.lp (.bk (.sq .bd)))))) rfl (rd_loadN tok rfl rfl rfl hsp.cells rfl) rfl (by kernel_rfl) rfl (LeC.drew _) ?_
                                                            refine D.one 1 [true, true, true, false, false] rfl (by kernel_rfl) rfl (e_call rfl (polyOut_ok _ M9 _ (hO36.tl.ext heS) h436.sm) rfl ?_)
                                                            rintro _ w49 ⟨v49, rfl, L49, hO49, hq49, he49⟩
                                                            replace heS := heS.next he49
                                                            refine ⟨fun _ => (heS.leC), ?_⟩
                                                            refine D.one 3 [true, true, true, true, false] rfl (by kernel_rfl) rfl (e_call rfl (eqPolyL_ok _ _ L49 L41 _ hO49.tl (hTs.ext heS) (by rw [hq49]; exact h436.sm)) rfl ?_)
                                                            rintro _ w50 ⟨rfl, he50⟩
                                                            replace heS := heS.next he50
                                                            refine ⟨fun _ => (heS.leC), ?_⟩
                                                            first | refine D.take 4 [true, true, true, true, true] (.sq (.bk (.sq (.lp (.bk (.sq .bd)))))) rfl (rd_not rfl) rfl (by kernel_rfl) rfl (heS.leC) ?_ | refine D.take 4 [true, true, true, true, true] (.sq (.bk (.sq (.lp (.bk (.sq .bd)))))) rfl (rd_notB rfl) rfl (by kernel_rfl) rfl (heS.leC) ?_
                                                            refine D.done (by kernel_rfl) ?_
                                                            refine X.sq ?_
                                                            first | refine V.cond rfl (fun h262 => ?_) (fun h262 => ?_) | refine V.condB rfl (fun h262 => ?_) (fun h262 => ?_)
                                                            ·
                                                              exact absurd (hq49.trans hq41.symm) h262
                                                            ·
                                                              refine V.skip ?_
                                                              refine X.bk ?_
                                                              refine X.sq ?_
                                                              refine V.region ?_
                                                              refine L.rd (rd_move rfl) rfl ?_
                                                              (refine L.rd (rd_add3 rfl rfl ?_) rfl ?_; omega)
                                                              refine L.rd (rd_assign rfl) rfl ?_
                                                              refine L.nil ?_
                                                              have x12 := heS.size
                                                              replace hp := hp.ext heS
                                                              replace hq := hq.ext heS
                                                              replace hE := hE.ext heS
                                                              replace hT1 := hT1.ext heS
                                                              replace hU1 := hU1.ext heS
                                                              replace hwn := hwn.ext heS
                                                              replace hTw := hTw.ext heS
                                                              replace hTf := hTf.ext heS
                                                              replace hTg := hTg.ext heS
                                                              exact X.lp ⟨_, _, by omega, (by repeat' (first | exact trivial | refine ⟨rfl, ?_⟩)), k + 1, rfl, rfl, by omega, hE, hp, hq, hT1, hU1, hwn, hTw, hTf, hTg, by omega⟩
                      ·
                        refine V.exit ?_
                        refine X.sqExit ?_
                        refine X.lpExit ?_
                        refine X.bkHere ?_
                        refine X.sq ?_
                        refine V.seq ?_
                        refine V.region ?_
                        refine L.rd (rd_assign rfl) rfl ?_
                        refine L.nil ?_
                        refine X.sq ?_
                        refine V.ret ?_
                        refine ret_1 Yabm.results12 rfl ?_
                        exact ⟨rfl, hE⟩
open Go.ChangeShapes Go.WideShapes Go.ChangeAt Go.RowKit
theorem own : ownKnob Yabm.prog.godebug = none := by kernel_rfl
theorem laidOut : laidOutB Yabm.prog = true := by kernel_rfl
theorem readable0 : Yabm.prog.readableRec 62 = true := by kernel_rfl
theorem readable1 : Yabm.prog.readableRec 62 = true := by kernel_rfl

set_option maxRecDepth 100000 in
theorem lifted (os : Os) (started : os.Started) (H : Type) (enc : TypeId × Value → H) :
    ReturnsInHanded {} Yabm.checked os 12 .any (Rows.fnExactMulPolySpec.pre6 enc Yabm.prog Yabm.f12 Rows.fnExactMulPolyRow.domain false) (Rows.fnExactMulPolySpec.post enc Yabm.prog Yabm.f12 false true false false) := by
  refine returnsInHanded_of_change_sized (C := Yabm.checked) own started (by kernel_rfl) Yabm.func12
    (ChangeSpec.witness6 (enc := enc) (C := Yabm.checked) false ⟨#[], #[.agg #[.slice none 0 0], .agg #[.slice none 0 0]], []⟩ 8 (by kernel_rfl) (by kernel_rfl) (by kernel_rfl) (by kernel_rfl)) ?_
  intro W base args ds gs before hval0 hW hcnd hwt0 _
  have hval : ∀ (j : Nat) t v, Yabm.f12.params[j]? = some t → args[j]? = some v → Value.okWide Yabm.prog W .any base t v := hval0
  have hwt : (DataW.weightsEach Yabm.prog (Yabm.f12.params.toList ++ _) (ds ++ gs)).all (· ≤ reachBytes) = true := hwt0
  have hW' := hW
  obtain ⟨p, q, hA0, hV, rfl, hfz, hnd⟩ := hW
  have hA : DataW.TrodAll enc Yabm.prog W 0 (fun _ => true) true Yabm.f12.params.toList args.toList ds p := hA0
  rw [Yabm.params12] at hA hval hwt
  obtain ⟨v0, vs0, d0, ds0, p0, q0, hargs0, rfl, rfl, h0, r0⟩ := trodAll_cons hA
  obtain ⟨v1, vs1, d1, ds1, p1, q1, hargs1, rfl, rfl, h1, r1⟩ := trodAll_cons r0
  obtain ⟨hnil, rfl, rfl⟩ := trodAll_nil r1
  obtain rfl : args = #[v0, v1] := by cases args; simp_all
  obtain ⟨rfl, rfl⟩ := trodVars_none hV
  have hok0 := hval 0 62 v0 rfl rfl
  have hww0 := weights_arg hwt (j := 0) rfl rfl
  obtain ⟨u0, fuel0, y0, rfl, hy0, hyw0⟩ := open_one Yabm.underlying62 rfl (by kernel_rfl) (by kernel_rfl) hok0 h0
  obtain ⟨Ls0, hT0, hL0, hF0⟩ := tl_of_trod Yabm.underlying60 Yabm.underlying65 (by kernel_rfl) rfl rfl (by kernel_rfl) (by kernel_rfl) (by kernel_rfl) Yabm.underlying63 Yabm.underlying138 (by kernel_rfl) rfl rfl (by kernel_rfl) (by kernel_rfl) (by kernel_rfl) (by kernel_rfl) (by decide +kernel) (by decide +kernel) hy0 (fun n hn => hww0 n (hyw0 n hn))
  have hok1 := hval 1 62 v1 rfl rfl
  have hww1 := weights_arg hwt (j := 1) rfl rfl
  obtain ⟨u1, fuel1, y1, rfl, hy1, hyw1⟩ := open_one Yabm.underlying62 rfl (by kernel_rfl) (by kernel_rfl) hok1 h1
  obtain ⟨Ls1, hT1, hL1, hF1⟩ := tl_of_trod Yabm.underlying60 Yabm.underlying65 (by kernel_rfl) rfl rfl (by kernel_rfl) (by kernel_rfl) (by kernel_rfl) Yabm.underlying63 Yabm.underlying138 (by kernel_rfl) rfl rfl (by kernel_rfl) (by kernel_rfl) (by kernel_rfl) (by kernel_rfl) (by decide +kernel) (by decide +kernel) hy1 (fun n hn => hww1 n (hyw1 n hn))
  clear hA0 hval0
  simp only [List.append_nil] at hW'
  refine (law u0 u1 Ls0 Ls1 W hT0 hT1 (cq_of fun t ht => (hF0 t ht).1) (cq_of fun t ht => (hF1 t ht).1) hL0 hL1 (fun t ht => (hF0 t ht).2.1) (fun t ht => (hF1 t ht).2.1)).call.mono fun e W' ⟨v, he, hv, hg⟩ => ?_
  subst he hv
  exact ⟨_, rfl, post_belowE (pv := []) hW' (fun _ _ _ => (trodAll_mk1 (shut_bool Yabm.underlying4 _))) (trodAll_mk2 (Below.trod laidOut readable0 (by decide +kernel) h0 hg.below (fun x hx => hW'.lt x (by first | exact hx | (simp only [List.mem_append]; simp [hx])))) (Below.trod laidOut readable1 (by decide +kernel) h1 hg.below (fun x hx => hW'.lt x (by first | exact hx | (simp only [List.mem_append]; simp [hx]))))) rfl (by simp) hg⟩

theorem over : Rows.fnExactMulPolyRow.holds Yabm.pinned (OpenSpec.ofChange Rows.fnExactMulPolySpec) :=
  OpenClaim.holds_of_wide 12 Yabm.f12 rfl rfl rfl rfl rfl rfl rfl ⟨rfl, rfl, rfl, rfl, rfl⟩ rfl rfl rfl rfl rfl (by kernel_rfl) Yabm.func12 (by kernel_rfl)
    (of_decide_eq_true (by kernel_rfl)) (by unfold Func.isWrapper; first | (rw [if_pos (by decide +kernel)]; kernel_rfl) | (rw [if_neg (by decide +kernel)]; exact ⟨rfl, rfl⟩))
    (fun os started H enc _ => lifted os started H enc)

theorem proved : Rows.FnExactMulPolySaid :=
  over
end Go.Proofs.Ybxabw.fnExactMulPoly
