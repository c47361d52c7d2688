/-
  The statement FnPrintPolyRoundTripSaid.
-/
import Derived.Test.YbxaawRows
import Derived.Test.YbxaawRowP
import Derived.Test.YbxaawNmW2
import Derived.Test.YbxaawS4W
import Derived.Test.YbxaawEqPolyW
import Derived.Test.YbxaawPrintW
import Derived.Test.YbxaawPrintW2
import Derived.Test.YbxaawLawP
import Derived.Test.YbxaawCnW4
import Derived.Test.YbxaawXpW2
import Derived.Test.YbxaawRtW
import Derived.WalkKit
import Derived.ProofKit
import Derived.SizedLaws
set_option linter.unusedVariables false
set_option linter.unusedSimpArgs false
set_option maxRecDepth 10000
namespace Go.Proofs.Ybxaaw.fnPrintPolyRoundTrip
open Go.Mw Lexp

theorem law (va : Value) (Ls : List Lt) (w : World) (hT : Tl w 0 w.heap.size va Ls) (hCq : Cq (pol Ls)) (hL : Ls.length ≤ 140737488351232) (hF : ∀ t ∈ Ls, t.2.2.length ≤ 140737488351232) :
    Ret Yaam.prog 13 [va] w fun v w' => v = .bool true ∧ Ext w.heap.size w w' := by
  obtain ⟨aa, ca, rfl, hfa⟩ := hT.form
  refine enter1 Yaam.func13 Yaam.ntmps13 (by kernel_rfl) rfl rfl ?_
  refine V.seq ?_
  refine V.region ?_
  refine L.rd (rd_assign rfl) rfl ?_
  refine L.nil ?_
  refine X.sq ?_
  refine V.seq ?_
  have hE := Ext.refl w.heap.size w
  refine V.region ?_
  refine L.rd (rd_assign rfl) rfl ?_
  refine L.nil ?_
  refine X.sq ?_
  refine V.seq ?_
  refine V.region ?_
  refine L.rd (rd_move rfl) rfl ?_
  refine L.rd (rd_move rfl) rfl ?_
  refine L.rd (rd_lenSlice tok rfl rfl rfl) rfl ?_
  (refine L.rd (rd_add3 rfl rfl ?_) rfl ?_; omega)
  refine L.rd (rd_assign rfl) rfl ?_
  refine L.nil ?_
  refine X.sq ?_
  refine V.seq ?_
  refine V.seq ?_
  refine V.region ?_
  refine L.rd (rd_move rfl) rfl ?_
  refine L.rd (rd_gtr rfl rfl) rfl ?_
  refine L.nil ?_
  refine X.sq ?_
  first | refine V.cond rfl (fun h29 => ?_) (fun h29 => ?_) | refine V.condB rfl (fun h29 => ?_) (fun h29 => ?_)
  ·
    refine V.seq ?_
    refine V.region ?_
    refine L.rd (rd_assign rfl) rfl ?_
    refine L.nil ?_
    refine X.sq ?_
    refine V.ret ?_
    refine X.sqRet ?_
    refine ret_1 Yaam.results13 rfl ?_
    exact ⟨rfl, hE⟩
  ·
    refine V.skip ?_
    refine X.sq ?_
    refine V.seq ?_
    refine V.seq ?_
    refine V.region ?_
    refine L.rd (rd_assign rfl) rfl ?_
    refine L.nil ?_
    refine X.sq ?_
    refine V.block ?_
    refine V.loop (fun m l wr => ∃ (k : Nat) (s : Int), l = [(0, .slice aa Ls.length ca), (3, .int .i64 s), (4, .int .i64 k)] ∧ m = Ls.length - k ∧ k ≤ Ls.length ∧ 0 ≤ s ∧ s ≤ 1048576 ∧ (∀ i t, i < k → Ls[i]? = some t → t.2.2.length ≤ 1048576) ∧ w = wr) ?_ ?_
    ·
      exact ⟨_, _, (by repeat' (first | exact trivial | refine ⟨rfl, ?_⟩)), 0, _, rfl, rfl, by omega, by omega, by omega, fun i t h => by omega, rfl⟩
    ·
      rintro m l wr ⟨k, s, rfl, rfl, hk, hs0, hs1, hall, rfl⟩
      refine V.seq ?_
      refine V.seq ?_
      refine V.region ?_
      refine L.rd (rd_move rfl) rfl ?_
      refine L.rd (rd_move rfl) rfl ?_
      refine L.rd (rd_lenSlice tok rfl rfl rfl) rfl ?_
      refine L.rd (rd_lss rfl rfl) rfl ?_
      refine L.nil ?_
      refine X.sq ?_
      first | refine V.cond rfl (fun h33 => ?_) (fun h33 => ?_) | refine V.condB rfl (fun h33 => ?_) (fun h33 => ?_)
      ·
        obtain ⟨b1, o1, rfl, -, -, hc1⟩ := hfa.resolve_left (by omega)
        obtain ⟨⟨c, fv, fs⟩, ht⟩ := nth_of_lt Ls k (by omega)
        have hcx := Tl.cells hc1 ht
        obtain ⟨fa, fc, hfv, hff⟩ := hT.nth ht
        have hFk := hF _ (List.mem_of_getElem? ht)
        simp only at hfv hff hcx hFk
        subst hfv
        refine V.skip ?_
        refine X.sq ?_
        refine V.seq ?_
        refine V.block ?_
        refine V.seq ?_
        refine V.region ?_
        refine L.rd (rd_move rfl) rfl ?_
        refine L.rd (rd_move rfl) rfl ?_
        refine L.rd (rd_move rfl) rfl ?_
        (refine L.rd (rd_indexSlice (sz := 2) tok rfl rfl rfl rfl rfl rfl rfl ?_) rfl ?_; omega)
        refine L.rd (rd_fieldAddr tok rfl rfl rfl rfl rfl rfl) rfl ?_
        refine L.rd (rd_load1 tok rfl rfl rfl (hcx.at_ 1 _ rfl)) rfl ?_
        refine L.rd (rd_lenSlice tok rfl rfl rfl) rfl ?_
        (refine L.rd (rd_add3 rfl rfl ?_) rfl ?_; omega)
        refine L.rd (rd_assign rfl) rfl ?_
        refine L.nil ?_
        refine X.sq ?_
        refine V.seq ?_
        refine V.region ?_
        refine L.rd (rd_move rfl) rfl ?_
        refine L.rd (rd_gtr rfl rfl) rfl ?_
        refine L.nil ?_
        refine X.sq ?_
        first | refine V.cond rfl (fun h45 => ?_) (fun h45 => ?_) | refine V.condB rfl (fun h45 => ?_) (fun h45 => ?_)
        ·
          refine V.seq ?_
          refine V.region ?_
          refine L.rd (rd_assign rfl) rfl ?_
          refine L.nil ?_
          refine X.sq ?_
          refine V.ret ?_
          refine X.bkRet ?_
          refine X.sqRet ?_
          refine X.lpRet ?_
          refine X.bkRet ?_
          refine X.sqRet ?_
          refine ret_1 Yaam.results13 rfl ?_
          exact ⟨rfl, hE⟩
        ·
          refine V.skip ?_
          refine X.bk ?_
          refine X.sq ?_
          refine V.region ?_
          refine L.rd (rd_move rfl) rfl ?_
          (refine L.rd (rd_add3 rfl rfl ?_) rfl ?_; omega)
          refine L.rd (rd_assign rfl) rfl ?_
          refine L.nil ?_
          refine X.lp ⟨_, _, by omega, (by repeat' (first | exact trivial | refine ⟨rfl, ?_⟩)), k + 1, _, rfl, rfl, by omega, by omega, by omega, fun i t hi hti => ?_, rfl⟩
          rcases Nat.lt_or_ge i k with h | h
          · exact hall i t h hti
          · obtain rfl : i = k := by omega
            rw [ht] at hti
            simp only [Option.some.injEq] at hti
            subst hti
            simp only []; omega
      ·
        refine V.exit ?_
        refine X.sqExit ?_
        refine X.lpExit ?_
        refine X.bkHere ?_
        refine X.sq ?_
        refine V.seq ?_
        refine V.seq ?_
        have hS : Sm (pol Ls) := ⟨by rw [pol_length]; omega, fun t ht => by
          simp only [pol, List.mem_map] at ht
          obtain ⟨u, hu, rfl⟩ := ht
          obtain ⟨i, hi⟩ := List.getElem?_of_mem hu
          have hil := (List.getElem?_eq_some_iff.1 hi).1
          have := hall i u (by omega) hi
          simp only []; omega⟩
        refine V.region ?_
        refine L.rd (rd_move rfl) rfl ?_
        refine L.rd (rd_gtr rfl rfl) rfl ?_
        refine L.nil ?_
        refine X.sq ?_
        first | refine V.cond rfl (fun h47 => ?_) (fun h47 => ?_) | refine V.condB rfl (fun h47 => ?_) (fun h47 => ?_)
        ·
          refine V.seq ?_
          refine V.region ?_
          refine L.rd (rd_assign rfl) rfl ?_
          refine L.nil ?_
          refine X.sq ?_
          refine V.ret ?_
          refine X.sqRet ?_
          refine ret_1 Yaam.results13 rfl ?_
          exact ⟨rfl, hE⟩
        ·
          refine V.skip ?_
          refine X.sq ?_
          refine V.seq ?_
          refine V.seq ?_
          refine V.region ?_
          refine L.rd (rd_move rfl) rfl ?_
          refine L.rd (rd_lenSlice tok rfl rfl rfl) rfl ?_
          refine L.rd (rd_gtr rfl rfl) rfl ?_
          refine L.nil ?_
          refine X.sq ?_
          first | refine V.cond rfl (fun h50 => ?_) (fun h50 => ?_) | refine V.condB rfl (fun h50 => ?_) (fun h50 => ?_)
          ·
            refine V.seq ?_
            refine V.region ?_
            refine L.rd (rd_assign rfl) rfl ?_
            refine L.nil ?_
            refine X.sq ?_
            refine V.ret ?_
            refine X.sqRet ?_
            refine ret_1 Yaam.results13 rfl ?_
            exact ⟨rfl, hE⟩
          ·
            refine V.skip ?_
            refine X.sq ?_
            refine V.seq ?_
            refine V.region ?_
            refine L.rd (rd_move rfl) rfl ?_
            refine L.ef (e_call rfl (snorm_ok _ Ls _ hT hCq) rfl ?_)
            rintro _ w1 ⟨v1, L1, rfl, hO1, hq1, he1⟩
            obtain ⟨a1, c1, rfl⟩ := own_form hO1.top
            replace hE := hE.ext he1
            replace hT := hT.ext he1
            refine L.rd (rd_move rfl) rfl ?_
            refine L.rd (rd_ext0 rfl) rfl ?_
            refine L.rd (rd_ext1 rfl) rfl ?_
            refine L.ef (e_alloc (cs := [_]) tok rfl rfl (by first | (simp only [size_addB, size_setB, size_drew]; rfl) | rfl) rfl ?_)
            refine L.ef (e_store (vs := [_]) tok rfl rfl rfl rfl (by (repeat (first | assumption | (refine Bl.new' ?_ _ _; first | with_reducible rfl | (simp only [size_addB, size_setB, size_drew]; done)) | apply Bl.add | apply Bl.drew | (apply Bl.setNe; omega) | (refine Bl.set' ?_ _ _; (try simp only [size_addB, size_setB, size_drew]); omega)))) rfl (by simp [Value.oneCell']) (by simp) ?_)
            refine L.rd (rd_assign rfl) rfl ?_
            refine L.nil ?_
            refine X.sq ?_
            refine V.seq ?_
            refine V.seq ?_
            generalize hwa : setB _ _ _ _ = wa
            have hea := ext_of_new hwa
            have hsa := size_of_new hwa
            have hs1 := he1.size
            have hbp : Bl wa w1.heap.size 34 [.slice a1 L1.length c1] := bl_of_new hwa
            replace hE := hE.ext hea
            replace hT := hT.ext hea
            replace hO1 := hO1.ext hea
            have hT1 := hO1.tl.wide (Nat.zero_le _) (Nat.le_refl _)
            refine V.region ?_
            refine L.rd (rd_move rfl) rfl ?_
            first | refine L.rd (rd_not rfl) rfl ?_ | refine L.rd (rd_notB rfl) rfl ?_
            refine L.nil ?_
            refine X.sq ?_
            refine V.cut (fun l w' => ∃ (pa : Option Addr) (pc : Nat) (Lp : List Lt), l = [(0, .slice aa Ls.length ca), (5, .pointer (some ⟨w1.heap.size, 0, none⟩))] ∧ Bl w' w1.heap.size 34 [.slice pa Lp.length pc] ∧ Tl w' 0 w1.heap.size (.slice pa Lp.length pc) Lp ∧ pol Lp = (normP (pol Ls)).getD [] ∧ Ext w.heap.size w w' ∧ Tl w' 0 w.heap.size (.slice aa Ls.length ca) Ls) ?_ ?_
            ·
              first | refine V.cond rfl (fun h57 => ?_) (fun h57 => ?_) | refine V.condB rfl (fun h57 => ?_) (fun h57 => ?_)
              ·
                refine V.region ?_
                refine L.rd (rd_build (out := [_]) tok rfl rfl rfl rfl rfl) rfl ?_
                refine L.ef (e_store (vs := [_]) tok rfl rfl rfl rfl (by (repeat (first | assumption | (refine Bl.new' ?_ _ _; first | with_reducible rfl | (simp only [size_addB, size_setB, size_drew]; done)) | apply Bl.add | apply Bl.drew | (apply Bl.setNe; omega) | (refine Bl.set' ?_ _ _; (try simp only [size_addB, size_setB, size_drew]); omega)))) rfl (by simp [Value.oneCell']) (by simp) ?_)
                refine L.nil ?_
                refine X.ct ⟨_, (by repeat' (first | exact trivial | refine ⟨rfl, ?_⟩)), none, 0, [], rfl, hbp.set _ _, Tl.nil _ _ _ _ _, ?_, hE.set (by omega) _ _, hT.rg (Rg.set (lo := w1.heap.size) (hi := w1.heap.size + 1) (by omega) _ _) (by omega)⟩
                cases hn : normP (pol Ls) with
                | none => rfl
                | some r => rw [hn] at h57; simp at h57
              ·
                refine V.skip ?_
                exact X.ct ⟨_, (by repeat' (first | exact trivial | refine ⟨rfl, ?_⟩)), a1, c1, L1, rfl, hbp, hT1, hq1, hE, hT⟩
            ·
              rintro l w' ⟨pa, pc, Lp, rfl, hbp, hTp, hqp, hE, hT⟩
              have hSp : Sm (pol Lp) := (norm_s4 hqp).sm
              refine X.sq ?_
              refine V.seq ?_
              refine V.region ?_
              refine L.rd (rd_loadN tok rfl rfl rfl hbp.cells rfl) rfl ?_
              refine L.ef (e_call rfl (iprint_ok _ Lp _ hTp hSp) rfl ?_)
              rintro _ w2 ⟨rfl, he2⟩
              replace hE := hE.ext he2
              replace hT := hT.ext he2
              replace hTp := hTp.ext he2
              replace hbp := hbp.ext he2
              refine L.rd (rd_move rfl) rfl ?_
              refine L.rd (rd_ext0 rfl) rfl ?_
              refine L.rd (rd_ext1 rfl) rfl ?_
              refine L.rd (rd_assign rfl) rfl ?_
              refine L.rd (rd_assign rfl) rfl ?_
              refine L.nil ?_
              refine X.sq ?_
              refine V.seq ?_
              refine V.region ?_
              refine L.rd (rd_loadN tok rfl rfl rfl hbp.cells rfl) rfl ?_
              refine L.ef (e_call rfl (sprint_ok _ Lp _ hTp hSp) rfl ?_)
              rintro _ w3 ⟨rfl, he3⟩
              replace hE := hE.ext he3
              replace hT := hT.ext he3
              replace hTp := hTp.ext he3
              replace hbp := hbp.ext he3
              refine L.rd (rd_move rfl) rfl ?_
              refine L.rd (rd_ext0 rfl) rfl ?_
              refine L.rd (rd_ext1 rfl) rfl ?_
              refine L.rd (rd_assign rfl) rfl ?_
              refine L.rd (rd_assign rfl) rfl ?_
              refine L.nil ?_
              refine X.sq ?_
              refine V.seq ?_
              refine V.seq ?_
              refine V.region ?_
              refine L.rd (rd_move rfl) rfl ?_
              refine L.rd (rd_move rfl) rfl ?_
              refine L.rd (rd_neqB tok rfl rfl rfl rfl) rfl ?_
              refine L.rd (rd_move rfl) rfl ?_
              first | refine L.partG rfl rfl (fun g72 => ?_) (fun g72 => ?_) | refine L.partGB rfl rfl (fun g72 => ?_) (fun g72 => ?_)
              ·
                exact absurd rfl g72
              ·
                refine L.yes rfl rfl ?_
                refine L.rd (rd_move rfl) rfl ?_
                refine L.yes rfl rfl ?_
                refine L.rd (rd_move rfl) rfl ?_
                refine L.yes rfl rfl ?_
                refine L.rd (rd_neqS rfl rfl) rfl ?_
                refine L.rd (rd_pickF rfl rfl) rfl ?_
                refine L.nil ?_
                refine X.sq ?_
                first | refine V.cond rfl (fun h76 => ?_) (fun h76 => ?_) | refine V.condB rfl (fun h76 => ?_) (fun h76 => ?_)
                ·
                  exact absurd h76 (by simp)
                ·
                  refine V.skip ?_
                  refine X.sq ?_
                  refine V.seq ?_
                  refine V.region ?_
                  refine L.rd (rd_move rfl) rfl ?_
                  refine L.rd (rd_build (out := [_]) tok rfl rfl rfl rfl rfl) rfl ?_
                  refine L.ef (e_alloc (cs := [_]) tok rfl rfl (by first | (simp only [size_addB, size_setB, size_drew]; rfl) | rfl) rfl ?_)
                  refine L.ef (e_store (vs := [_]) tok rfl rfl rfl rfl (by (repeat (first | assumption | (refine Bl.new' ?_ _ _; first | with_reducible rfl | (simp only [size_addB, size_setB, size_drew]; done)) | apply Bl.add | apply Bl.drew | (apply Bl.setNe; omega) | (refine Bl.set' ?_ _ _; (try simp only [size_addB, size_setB, size_drew]); omega)))) rfl (by simp [Value.oneCell']) (by simp) ?_)
                  refine L.nil ?_
                  refine X.sq ?_
                  refine V.seq ?_
                  generalize hwb : setB _ _ _ _ = wb
                  have heb := ext_of_new hwb
                  have hbr : Bl wb w3.heap.size 34 [.slice aa Ls.length ca] := bl_of_new hwb
                  replace hE := hE.ext heb
                  replace hT := hT.ext heb
                  replace hTp := hTp.ext heb
                  replace hbp := hbp.ext heb
                  refine V.region ?_
                  refine L.rd (rd_loadN tok rfl rfl rfl hbr.cells rfl) rfl ?_
                  refine L.ef (e_call rfl (iprint_ok _ Ls _ hT hS) rfl ?_)
                  rintro _ w4 ⟨rfl, he4⟩
                  replace hE := hE.ext he4
                  replace hT := hT.ext he4
                  replace hTp := hTp.ext he4
                  replace hbp := hbp.ext he4
                  replace hbr := hbr.ext he4
                  refine L.rd (rd_move rfl) rfl ?_
                  refine L.rd (rd_ext0 rfl) rfl ?_
                  refine L.rd (rd_ext1 rfl) rfl ?_
                  refine L.rd (rd_assign rfl) rfl ?_
                  refine L.rd (rd_assign rfl) rfl ?_
                  refine L.nil ?_
                  refine X.sq ?_
                  refine V.seq ?_
                  refine V.region ?_
                  refine L.rd (rd_loadN tok rfl rfl rfl hbr.cells rfl) rfl ?_
                  refine L.ef (e_call rfl (sprint_ok _ Ls _ hT hS) rfl ?_)
                  rintro _ w5 ⟨rfl, he5⟩
                  replace hE := hE.ext he5
                  replace hT := hT.ext he5
                  replace hTp := hTp.ext he5
                  replace hbp := hbp.ext he5
                  replace hbr := hbr.ext he5
                  refine L.rd (rd_move rfl) rfl ?_
                  refine L.rd (rd_ext0 rfl) rfl ?_
                  refine L.rd (rd_ext1 rfl) rfl ?_
                  refine L.rd (rd_assign rfl) rfl ?_
                  refine L.rd (rd_assign rfl) rfl ?_
                  refine L.nil ?_
                  refine X.sq ?_
                  refine V.seq ?_
                  refine V.seq ?_
                  refine V.region ?_
                  refine L.rd (rd_move rfl) rfl ?_
                  refine L.rd (rd_move rfl) rfl ?_
                  refine L.rd (rd_neqB tok rfl rfl rfl rfl) rfl ?_
                  refine L.rd (rd_move rfl) rfl ?_
                  first | refine L.partG rfl rfl (fun g92 => ?_) (fun g92 => ?_) | refine L.partGB rfl rfl (fun g92 => ?_) (fun g92 => ?_)
                  ·
                    exact absurd rfl g92
                  ·
                    refine L.yes rfl rfl ?_
                    refine L.rd (rd_move rfl) rfl ?_
                    refine L.yes rfl rfl ?_
                    refine L.rd (rd_move rfl) rfl ?_
                    refine L.yes rfl rfl ?_
                    refine L.rd (rd_neqS rfl rfl) rfl ?_
                    refine L.rd (rd_pickF rfl rfl) rfl ?_
                    refine L.rd (rd_move rfl) rfl ?_
                    first | refine L.partG rfl rfl (fun g97 => ?_) (fun g97 => ?_) | refine L.partGB rfl rfl (fun g97 => ?_) (fun g97 => ?_)
                    ·
                      exact absurd g97 (by simp)
                    ·
                      refine L.yes rfl rfl ?_
                      refine L.rd (rd_move rfl) rfl ?_
                      refine L.yes rfl rfl ?_
                      refine L.rd (rd_move rfl) rfl ?_
                      refine L.yes rfl rfl ?_
                      refine L.rd (rd_loadN tok rfl rfl rfl hbr.cells rfl) rfl ?_
                      refine L.yes rfl rfl ?_
                      refine L.ef (e_call rfl (scan_ok _ Ls _ hT hS) rfl ?_)
                      rintro _ w6 ⟨rfl, he6⟩
                      replace hE := hE.ext he6
                      replace hT := hT.ext he6
                      replace hTp := hTp.ext he6
                      replace hbp := hbp.ext he6
                      refine L.yes rfl rfl ?_
                      first | refine L.rd (rd_not rfl) rfl ?_ | refine L.rd (rd_notB rfl) rfl ?_
                      refine L.yes rfl rfl ?_
                      refine L.ef (e_call rfl (okS_ok _ _ _ _ (fun h => by simp [h]) (fun h => by rw [h]; rfl)) rfl ?_)
                      rintro _ w7 ⟨rfl, he7⟩
                      replace hE := hE.ext he7
                      replace hT := hT.ext he7
                      replace hTp := hTp.ext he7
                      replace hbp := hbp.ext he7
                      refine L.yes rfl rfl ?_
                      first | refine L.rd (rd_not rfl) rfl ?_ | refine L.rd (rd_notB rfl) rfl ?_
                      refine L.rd (rd_pickF rfl rfl) rfl ?_
                      refine L.nil ?_
                      refine X.sq ?_
                      first | refine V.cond rfl (fun h105 => ?_) (fun h105 => ?_) | refine V.condB rfl (fun h105 => ?_) (fun h105 => ?_)
                      ·
                        cases h105
                      ·
                        refine V.skip ?_
                        refine X.sq ?_
                        refine V.seq ?_
                        refine V.seq ?_
                        refine V.region ?_
                        refine L.rd (rd_move rfl) rfl ?_
                        first | refine L.rd (rd_not rfl) rfl ?_ | refine L.rd (rd_notB rfl) rfl ?_
                        refine L.nil ?_
                        refine X.sq ?_
                        first | refine V.cond rfl (fun h107 => ?_) (fun h107 => ?_) | refine V.condB rfl (fun h107 => ?_) (fun h107 => ?_)
                        ·
                          refine V.seq ?_
                          refine V.region ?_
                          refine L.rd (rd_assign rfl) rfl ?_
                          refine L.nil ?_
                          refine X.sq ?_
                          refine V.ret ?_
                          refine X.sqRet ?_
                          refine ret_1 Yaam.results13 rfl ?_
                          exact ⟨rfl, hE⟩
                        ·
                          refine V.skip ?_
                          refine X.sq ?_
                          refine V.seq ?_
                          have hcan : canon (pol Lp) = true := by simpa using h107
                          obtain ⟨R, hR, hRp⟩ := norm_cm hqp
                          obtain ⟨hPo, hsrc, -⟩ := round hR
                          obtain ⟨hwt, hwi, hsz⟩ := src_wt hsrc
                          have hlx := printP_lex hPo
                          have hps := parse_of_src hlx hsrc
                          have hpl := printP_len hPo
                          rw [if_pos hcan, hRp]
                          have hbl : bl (mkS (printP (toP R))) = printP (toP R) := bl_mkS _ (printP_lt hPo)
                          have hwz := cn_wz _ hwt
                          have hwzs := hwz.sz
                          have hcwi := cn_wi _ hwi
                          clear hcan
                          refine V.region ?_
                          refine L.rd (rd_move rfl) rfl ?_
                          refine L.ef (e_call rfl (ilex_ok (mkS (printP (toP R))) _ (by rw [mkS_size]; omega)) rfl ?_)
                          rintro _ w8 ⟨sv8, rfl, ho8, he8⟩
                          rw [hbl, hlx] at ho8
                          rw [hbl, hlx]
                          obtain ⟨sa, sn, rfl⟩ := slice_form ho8
                          simp only [Option.getD_some, Option.isSome_some] at ho8 ⊢
                          replace hE := hE.ext he8
                          replace hTp := hTp.ext he8
                          replace hbp := hbp.ext he8
                          refine L.rd (rd_move rfl) rfl ?_
                          refine L.rd (rd_ext0 rfl) rfl ?_
                          refine L.rd (rd_ext1 rfl) rfl ?_
                          refine L.rd (rd_assign rfl) rfl ?_
                          refine L.rd (rd_assign rfl) rfl ?_
                          refine L.nil ?_
                          refine X.sq ?_
                          refine V.seq ?_
                          refine V.seq ?_
                          refine V.region ?_
                          refine L.rd (rd_move rfl) rfl ?_
                          first | refine L.rd (rd_not rfl) rfl ?_ | refine L.rd (rd_notB rfl) rfl ?_
                          refine L.nil ?_
                          refine X.sq ?_
                          first | refine V.cond rfl (fun h114 => ?_) (fun h114 => ?_) | refine V.condB rfl (fun h114 => ?_) (fun h114 => ?_)
                          ·
                            first | cases h114 | simp at h114
                          ·
                            refine V.skip ?_
                            refine X.sq ?_
                            refine V.seq ?_
                            refine V.region ?_
                            refine L.rd (rd_move rfl) rfl ?_
                            refine L.ef (e_call rfl (iparse_ok _ (ptk (toP R)) _ (Rr.of_own (own_low ho8 (Nat.zero_le _)) (fun k hk => (own_block_lt ho8 hk).2))) rfl ?_)
                            rintro _ w9 ⟨nv9, ns9, root9, rfl, ho9, hg9, hn9, he9⟩
                            rw [hps] at hg9 ⊢
                            obtain ⟨rfl, rfl⟩ := hg9 _ rfl
                            obtain ⟨na9, nc9, rfl⟩ := own_form ho9
                            replace hE := hE.ext he9
                            replace hTp := hTp.ext he9
                            replace hbp := hbp.ext he9
                            refine L.rd (rd_move rfl) rfl ?_
                            refine L.rd (rd_ext0 rfl) rfl ?_
                            refine L.rd (rd_ext1 rfl) rfl ?_
                            refine L.ef (e_alloc (cs := [_, _]) tok rfl rfl (by first | (simp only [size_addB, size_setB, size_drew]; rfl) | rfl) rfl ?_)
                            refine L.ef (e_store (vs := [_, _]) tok rfl rfl rfl rfl (by (repeat (first | assumption | (refine Bl.new' ?_ _ _; first | with_reducible rfl | (simp only [size_addB, size_setB, size_drew]; done)) | apply Bl.add | apply Bl.drew | (apply Bl.setNe; omega) | (refine Bl.set' ?_ _ _; (try simp only [size_addB, size_setB, size_drew]); omega)))) rfl (by simp [Value.oneCell']) (by simp) ?_)
                            refine L.rd (rd_assign rfl) rfl ?_
                            refine L.nil ?_
                            refine X.sq ?_
                            refine V.seq ?_
                            refine V.seq ?_
                            generalize hw10 : setB _ _ _ _ = w10
                            have he10 := ext_of_new hw10
                            have hb10 : Bl w10 w9.heap.size 28 [.slice na9 (flat (ptre (toP R)) 0).length nc9, .int .i64 ((tsz (ptre (toP R)) : Int) - 1)] := bl_of_new hw10
                            have ho10 := own_ext ho9 he10
                            replace hE := hE.ext he10
                            replace hTp := hTp.ext he10
                            replace hbp := hbp.ext he10
                            refine V.region ?_
                            refine L.rd (rd_move rfl) rfl ?_
                            first | refine L.rd (rd_not rfl) rfl ?_ | refine L.rd (rd_notB rfl) rfl ?_
                            refine L.nil ?_
                            refine X.sq ?_
                            first | refine V.cond rfl (fun h121 => ?_) (fun h121 => ?_) | refine V.condB rfl (fun h121 => ?_) (fun h121 => ?_)
                            ·
                              first | cases h121 | simp at h121
                            ·
                              refine V.skip ?_
                              refine X.sq ?_
                              refine V.seq ?_
                              refine V.region ?_
                              refine L.rd (rd_loadN tok rfl rfl rfl hb10.cells rfl) rfl ?_
                              refine L.ef (e_call rfl (icanon_ok (ptre (toP R)) hwt hsz _ _ (Rs.of_own ho10)) rfl ?_)
                              rintro _ w11 ⟨nv11, ns11, root11, rfl, ho11, hg11, hn11, he11⟩
                              obtain ⟨rfl, rfl⟩ := hg11 (cn (ptre (toP R))) rfl
                              obtain ⟨na11, nc11, rfl⟩ := own_form ho11
                              replace hE := hE.ext he11
                              replace hTp := hTp.ext he11
                              replace hbp := hbp.ext he11
                              refine L.rd (rd_move rfl) rfl ?_
                              refine L.rd (rd_ext0 rfl) rfl ?_
                              refine L.rd (rd_ext1 rfl) rfl ?_
                              refine L.ef (e_alloc (cs := [_, _]) tok rfl rfl (by first | (simp only [size_addB, size_setB, size_drew]; rfl) | rfl) rfl ?_)
                              refine L.ef (e_store (vs := [_, _]) tok rfl rfl rfl rfl (by (repeat (first | assumption | (refine Bl.new' ?_ _ _; first | with_reducible rfl | (simp only [size_addB, size_setB, size_drew]; done)) | apply Bl.add | apply Bl.drew | (apply Bl.setNe; omega) | (refine Bl.set' ?_ _ _; (try simp only [size_addB, size_setB, size_drew]); omega)))) rfl (by simp [Value.oneCell']) (by simp) ?_)
                              refine L.rd (rd_assign rfl) rfl ?_
                              refine L.nil ?_
                              refine X.sq ?_
                              refine V.seq ?_
                              refine V.seq ?_
                              generalize hw12 : setB _ _ _ _ = w12
                              have he12 := ext_of_new hw12
                              have hb12 : Bl w12 w11.heap.size 28 [.slice na11 (flat (cn (ptre (toP R))) 0).length nc11, .int .i64 ((tsz (cn (ptre (toP R))) : Int) - 1)] := bl_of_new hw12
                              have ho12 := own_ext ho11 he12
                              replace hE := hE.ext he12
                              replace hTp := hTp.ext he12
                              replace hbp := hbp.ext he12
                              refine V.region ?_
                              refine L.rd (rd_move rfl) rfl ?_
                              first | refine L.rd (rd_not rfl) rfl ?_ | refine L.rd (rd_notB rfl) rfl ?_
                              refine L.nil ?_
                              refine X.sq ?_
                              first | refine V.cond rfl (fun h128 => ?_) (fun h128 => ?_) | refine V.condB rfl (fun h128 => ?_) (fun h128 => ?_)
                              ·
                                first | cases h128 | simp at h128
                              ·
                                refine V.skip ?_
                                refine X.sq ?_
                                refine V.seq ?_
                                refine V.region ?_
                                refine L.rd (rd_loadN tok rfl rfl rfl hb12.cells rfl) rfl ?_
                                refine L.ef (e_call rfl (itopoly_ok (cn (ptre (toP R))) hwz.wt hcwi (by omega) _ _ (Rs.of_own ho12)) rfl ?_)
                                rintro _ w13 ⟨v13, Lq, rfl, hTq, hpq, he13⟩
                                obtain ⟨qa, qc, rfl, -⟩ := hTq.form
                                replace hE := hE.ext he13
                                replace hTp := hTp.ext he13
                                replace hbp := hbp.ext he13
                                refine L.rd (rd_move rfl) rfl ?_
                                refine L.rd (rd_ext0 rfl) rfl ?_
                                refine L.rd (rd_ext1 rfl) rfl ?_
                                refine L.ef (e_alloc (cs := [_]) tok rfl rfl (by first | (simp only [size_addB, size_setB, size_drew]; rfl) | rfl) rfl ?_)
                                refine L.ef (e_store (vs := [_]) tok rfl rfl rfl rfl (by (repeat (first | assumption | (refine Bl.new' ?_ _ _; first | with_reducible rfl | (simp only [size_addB, size_setB, size_drew]; done)) | apply Bl.add | apply Bl.drew | (apply Bl.setNe; omega) | (refine Bl.set' ?_ _ _; (try simp only [size_addB, size_setB, size_drew]); omega)))) rfl (by simp [Value.oneCell']) (by simp) ?_)
                                refine L.rd (rd_assign rfl) rfl ?_
                                refine L.nil ?_
                                refine X.sq ?_
                                refine V.seq ?_
                                refine V.seq ?_
                                generalize hw14 : setB _ _ _ _ = w14
                                have he14 := ext_of_new hw14
                                have hb14 : Bl w14 w13.heap.size 34 [.slice qa Lq.length qc] := bl_of_new hw14
                                replace hE := hE.ext he14
                                replace hTp := hTp.ext he14
                                replace hbp := hbp.ext he14
                                replace hTq := hTq.ext he14
                                refine V.region ?_
                                refine L.rd (rd_move rfl) rfl ?_
                                refine L.rd (rd_move rfl) rfl ?_
                                first | refine L.partG rfl rfl (fun g135 => ?_) (fun g135 => ?_) | refine L.partGB rfl rfl (fun g135 => ?_) (fun g135 => ?_)
                                ·
                                  obtain ⟨q, hq⟩ : ∃ q, tpP (cn (ptre (toP R))) = some q := Option.isSome_iff_exists.1 (by simpa using g135)
                                  have hqe := round_back hR hq
                                  rw [hq, Option.getD_some, hqe] at hpq
                                  have hSq : Sm (pol Lq) := by rw [hpq]; exact canon_sm hR.canon
                                  refine L.yes rfl rfl ?_
                                  refine L.rd (rd_loadN tok rfl rfl rfl hb14.cells rfl) rfl ?_
                                  refine L.yes rfl rfl ?_
                                  refine L.rd (rd_loadN tok rfl rfl rfl hbp.cells rfl) rfl ?_
                                  refine L.yes rfl rfl ?_
                                  refine L.ef (e_call rfl (eqPoly_ok _ _ Lq Lp _ hTq hTp hSq) rfl ?_)
                                  rintro _ w15 ⟨rfl, he15⟩
                                  replace hE := hE.ext he15
                                  refine L.yes rfl rfl ?_
                                  first | refine L.rd (rd_not rfl) rfl ?_ | refine L.rd (rd_notB rfl) rfl ?_
                                  refine L.rd (rd_pickT rfl rfl) rfl ?_
                                  refine L.nil ?_
                                  refine X.sq ?_
                                  first | refine V.cond rfl (fun h140 => ?_) (fun h140 => ?_) | refine V.condB rfl (fun h140 => ?_) (fun h140 => ?_)
                                  ·
                                    exact absurd (hpq.trans hRp.symm) h140
                                  ·
                                    refine V.skip ?_
                                    refine X.sq ?_
                                    refine V.seq ?_
                                    refine V.region ?_
                                    refine L.rd (rd_assign rfl) rfl ?_
                                    refine L.nil ?_
                                    refine X.sq ?_
                                    refine V.ret ?_
                                    refine ret_1 Yaam.results13 rfl ?_
                                    exact ⟨rfl, hE⟩
                                ·
                                  refine L.no rfl rfl rfl rfl ?_
                                  refine L.no rfl rfl rfl rfl ?_
                                  refine L.no rfl rfl rfl rfl ?_
                                  refine L.no rfl rfl rfl rfl ?_
                                  refine L.rd (rd_pickF rfl rfl) rfl ?_
                                  refine L.nil ?_
                                  refine X.sq ?_
                                  refine V.condF rfl ?_
                                  refine V.skip ?_
                                  refine X.sq ?_
                                  refine V.seq ?_
                                  refine V.region ?_
                                  refine L.rd (rd_assign rfl) rfl ?_
                                  refine L.nil ?_
                                  refine X.sq ?_
                                  refine V.ret ?_
                                  refine ret_1 Yaam.results13 rfl ?_
                                  exact ⟨rfl, hE⟩
open Go.ChangeShapes Go.WideShapes Go.ChangeAt Go.RowKit
theorem own : ownKnob Yaam.prog.godebug = none := by kernel_rfl
theorem laidOut : laidOutB Yaam.prog = true := by kernel_rfl
theorem readable0 : Yaam.prog.readableRec 32 = true := by kernel_rfl

set_option maxRecDepth 100000 in
theorem lifted (os : Os) (started : os.Started) (H : Type) (enc : TypeId × Value → H) :
    ReturnsInHanded {} Yaam.checked os 13 .any (Rows.fnPrintPolyRoundTripSpec.pre6 enc Yaam.prog Yaam.f13 Rows.fnPrintPolyRoundTripRow.domain false) (Rows.fnPrintPolyRoundTripSpec.post enc Yaam.prog Yaam.f13 false true false false) := by
  refine returnsInHanded_of_change_sized (C := Yaam.checked) own started (by kernel_rfl) Yaam.func13
    (ChangeSpec.witness6 (enc := enc) (C := Yaam.checked) false ⟨#[], #[.slice none 0 0], []⟩ 8 (by kernel_rfl) (by kernel_rfl) (by kernel_rfl) (by kernel_rfl)) ?_
  intro W base args ds gs before hval0 hW hcnd hwt0 _
  have hval : ∀ (j : Nat) t v, Yaam.f13.params[j]? = some t → args[j]? = some v → Value.okWide Yaam.prog W .any base t v := hval0
  have hwt : (DataW.weightsEach Yaam.prog (Yaam.f13.params.toList ++ _) (ds ++ gs)).all (· ≤ reachBytes) = true := hwt0
  have hW' := hW
  obtain ⟨p, q, hA0, hV, rfl, hfz, hnd⟩ := hW
  have hA : DataW.TrodAll enc Yaam.prog W 0 (fun _ => true) true Yaam.f13.params.toList args.toList ds p := hA0
  rw [Yaam.params13] at hA hval hwt
  obtain ⟨v0, vs0, d0, ds0, p0, q0, hargs0, rfl, rfl, h0, r0⟩ := trodAll_cons hA
  obtain ⟨hnil, rfl, rfl⟩ := trodAll_nil r0
  obtain rfl : args = #[v0] := by cases args; simp_all
  obtain ⟨rfl, rfl⟩ := trodVars_none hV
  have hok0 := hval 0 32 v0 rfl rfl
  have hww0 := weights_arg hwt (j := 0) rfl rfl
  obtain ⟨fuel0, hy0⟩ := id h0
  rw [one_cell Yaam.underlying32 hok0] at hy0
  obtain ⟨Ls0, hT0, hL0, hF0⟩ := tl_of_trod Yaam.underlying32 Yaam.underlying58 (by kernel_rfl) rfl rfl (by kernel_rfl) (by kernel_rfl) (by kernel_rfl) Yaam.underlying56 Yaam.underlying109 (by kernel_rfl) rfl rfl (by kernel_rfl) (by kernel_rfl) (by kernel_rfl) (by kernel_rfl) (by decide +kernel) (by decide +kernel) hy0 hww0
  clear hA0 hval0
  simp only [List.append_nil] at hW'
  refine (law v0 Ls0 W hT0 (cq_of fun t ht => (hF0 t ht).1) hL0 (fun t ht => (hF0 t ht).2.1)).call.mono fun e W' ⟨v, he, hv, hg⟩ => ?_
  subst he hv
  exact ⟨_, rfl, post_belowE (pv := []) hW' (fun _ _ _ => (trodAll_mk1 (shut_bool Yaam.underlying4 _))) (trodAll_mk1 (Below.trod laidOut readable0 (by decide +kernel) h0 hg.below (fun x hx => hW'.lt x (by first | exact hx | (simp only [List.mem_append]; simp [hx]))))) rfl (by simp) hg⟩

theorem over : Rows.fnPrintPolyRoundTripRow.holds Yaam.pinned (OpenSpec.ofChange Rows.fnPrintPolyRoundTripSpec) :=
  OpenClaim.holds_of_wide 13 Yaam.f13 rfl rfl rfl rfl rfl rfl rfl ⟨rfl, rfl, rfl, rfl, rfl⟩ rfl rfl rfl rfl rfl (by kernel_rfl) Yaam.func13 (by kernel_rfl)
    (of_decide_eq_true (by kernel_rfl)) (by unfold Func.isWrapper; first | (rw [if_pos (by decide +kernel)]; kernel_rfl) | (rw [if_neg (by decide +kernel)]; exact ⟨rfl, rfl⟩))
    (fun os started H enc _ => lifted os started H enc)

theorem proved : Rows.FnPrintPolyRoundTripSaid :=
  over
end Go.Proofs.Ybxaaw.fnPrintPolyRoundTrip
