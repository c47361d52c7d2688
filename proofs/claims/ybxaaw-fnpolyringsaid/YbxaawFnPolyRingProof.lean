/-
  The statement FnPolyRingSaid.
-/
import Derived.Test.YbxaawRows
import Derived.Test.YbxaawRowP
import Derived.Test.YbxaawAmW2
import Derived.Test.YbxaawAmW4
import Derived.Test.YbxaawNmW2
import Derived.Test.YbxaawEvalW
import Derived.Test.YbxaawEqPolyW
import Derived.Test.YbxaawLawP
import Derived.Test.YbxaawRingP
import Derived.WalkKit
import Derived.ProofKit
import Derived.SizedLaws
set_option linter.unusedVariables false
set_option linter.unusedSimpArgs false
set_option maxRecDepth 10000
namespace Go.Mw
theorem normD_canon (q : List PT) : canon ((normP q).getD []) = true := by
  cases h : normP q with
  | none => decide
  | some r => exact (normP_good h).2.1
theorem normD_cq (q : List PT) : Cq ((normP q).getD []) := by
  cases h : normP q with
  | none => exact fun t ht => (by cases ht)
  | some r => exact (normP_good h).2.2.2
end Go.Mw
namespace Go.Proofs.Ybxaaw.fnPolyRing
open Go.Mw

theorem law (va vb vp : Value) (Ls Ms : List Lt) (pt : List Int) (w : World) (hT : Tl w 0 w.heap.size va Ls) (hU : Tl w 0 w.heap.size vb Ms) (hP : Rr w 0 w.heap.size 1 vp pt.length (iC .i64 pt)) (hqa : Cq (pol Ls)) (hqb : Cq (pol Ms)) (hL : Ls.length ≤ 140737488351232) (hL2 : Ms.length ≤ 140737488351232) (hF : ∀ t ∈ Ls, t.2.2.length ≤ 140737488351232) (hF2 : ∀ t ∈ Ms, t.2.2.length ≤ 140737488351232) :
    Ret Yaam.prog 10 [va, vb, vp] w fun v w' => v = .bool true ∧ Ext w.heap.size w w' := by
  obtain ⟨aa, ca, rfl, hfa⟩ := hT.form
  obtain ⟨ab, cb, rfl, hfb⟩ := hU.form
  obtain ⟨pa, pc, rfl, hfp⟩ := id hP.form
  refine enter3 Yaam.func10 Yaam.ntmps10 (by kernel_rfl) rfl rfl ?_
  refine V.seq ?_
  refine V.region ?_
  refine L.rd (rd_assign rfl) rfl ?_
  refine L.nil ?_
  refine X.sq ?_
  refine V.seq ?_
  have hE := Ext.refl w.heap.size w
  refine V.region ?_
  refine L.rd (rd_assign rfl) rfl ?_
  refine L.nil ?_
  refine X.sq ?_
  refine V.seq ?_
  refine V.region ?_
  refine L.rd (rd_move rfl) rfl ?_
  refine L.rd (rd_move rfl) rfl ?_
  refine L.rd (rd_lenSlice tok rfl rfl rfl) rfl ?_
  (refine L.rd (rd_add3 rfl rfl ?_) rfl ?_; omega)
  refine L.rd (rd_assign rfl) rfl ?_
  refine L.nil ?_
  refine X.sq ?_
  refine V.seq ?_
  refine V.seq ?_
  refine V.region ?_
  refine L.rd (rd_move rfl) rfl ?_
  refine L.rd (rd_gtr rfl rfl) rfl ?_
  refine L.nil ?_
  refine X.sq ?_
  first | refine V.cond rfl (fun h50 => ?_) (fun h50 => ?_) | refine V.condB rfl (fun h50 => ?_) (fun h50 => ?_)
  ·
    refine V.seq ?_
    refine V.region ?_
    refine L.rd (rd_assign rfl) rfl ?_
    refine L.nil ?_
    refine X.sq ?_
    refine V.ret ?_
    refine X.sqRet ?_
    refine ret_1 Yaam.results10 rfl ?_
    exact ⟨rfl, hE⟩
  ·
    refine V.skip ?_
    refine X.sq ?_
    refine V.seq ?_
    refine V.seq ?_
    refine V.region ?_
    refine L.rd (rd_assign rfl) rfl ?_
    refine L.nil ?_
    refine X.sq ?_
    refine V.block ?_
    refine V.loop (fun m l wr => ∃ (k : Nat) (s : Int), l = [(0, .slice aa Ls.length ca), (1, .slice ab Ms.length cb), (2, .slice pa pt.length pc), (7, .int .i64 s), (8, .int .i64 k)] ∧ m = Ls.length - k ∧ k ≤ Ls.length ∧ 0 ≤ s ∧ s ≤ 1048576 ∧ (∀ i t, i < k → Ls[i]? = some t → t.2.2.length ≤ 1048576) ∧ w = wr) ?_ ?_
    ·
      exact ⟨_, _, (by repeat' (first | exact trivial | refine ⟨rfl, ?_⟩)), 0, _, rfl, rfl, by omega, by omega, by omega, fun i t h => by omega, rfl⟩
    ·
      rintro m l wr ⟨k, s, rfl, rfl, hk, hs0, hs1, hall, rfl⟩
      refine V.seq ?_
      refine V.seq ?_
      refine V.region ?_
      refine L.rd (rd_move rfl) rfl ?_
      refine L.rd (rd_move rfl) rfl ?_
      refine L.rd (rd_lenSlice tok rfl rfl rfl) rfl ?_
      refine L.rd (rd_lss rfl rfl) rfl ?_
      refine L.nil ?_
      refine X.sq ?_
      first | refine V.cond rfl (fun h54 => ?_) (fun h54 => ?_) | refine V.condB rfl (fun h54 => ?_) (fun h54 => ?_)
      ·
        obtain ⟨b1, o1, rfl, -, -, hc1⟩ := hfa.resolve_left (by omega)
        obtain ⟨⟨c, fv, fs⟩, ht⟩ := nth_of_lt Ls k (by omega)
        have hcx := Tl.cells hc1 ht
        obtain ⟨fa, fc, hfv, hff⟩ := hT.nth ht
        have hFk := hF _ (List.mem_of_getElem? ht)
        simp only at hfv hff hcx hFk
        subst hfv
        refine V.skip ?_
        refine X.sq ?_
        refine V.seq ?_
        refine V.block ?_
        refine V.seq ?_
        refine V.region ?_
        refine L.rd (rd_move rfl) rfl ?_
        refine L.rd (rd_move rfl) rfl ?_
        refine L.rd (rd_move rfl) rfl ?_
        (refine L.rd (rd_indexSlice (sz := 2) tok rfl rfl rfl rfl rfl rfl rfl ?_) rfl ?_; omega)
        refine L.rd (rd_fieldAddr tok rfl rfl rfl rfl rfl rfl) rfl ?_
        refine L.rd (rd_load1 tok rfl rfl rfl (hcx.at_ 1 _ rfl)) rfl ?_
        refine L.rd (rd_lenSlice tok rfl rfl rfl) rfl ?_
        (refine L.rd (rd_add3 rfl rfl ?_) rfl ?_; omega)
        refine L.rd (rd_assign rfl) rfl ?_
        refine L.nil ?_
        refine X.sq ?_
        refine V.seq ?_
        refine V.region ?_
        refine L.rd (rd_move rfl) rfl ?_
        refine L.rd (rd_gtr rfl rfl) rfl ?_
        refine L.nil ?_
        refine X.sq ?_
        first | refine V.cond rfl (fun h66 => ?_) (fun h66 => ?_) | refine V.condB rfl (fun h66 => ?_) (fun h66 => ?_)
        ·
          refine V.seq ?_
          refine V.region ?_
          refine L.rd (rd_assign rfl) rfl ?_
          refine L.nil ?_
          refine X.sq ?_
          refine V.ret ?_
          refine X.bkRet ?_
          refine X.sqRet ?_
          refine X.lpRet ?_
          refine X.bkRet ?_
          refine X.sqRet ?_
          refine ret_1 Yaam.results10 rfl ?_
          exact ⟨rfl, hE⟩
        ·
          refine V.skip ?_
          refine X.bk ?_
          refine X.sq ?_
          refine V.region ?_
          refine L.rd (rd_move rfl) rfl ?_
          (refine L.rd (rd_add3 rfl rfl ?_) rfl ?_; omega)
          refine L.rd (rd_assign rfl) rfl ?_
          refine L.nil ?_
          refine X.lp ⟨_, _, by omega, (by repeat' (first | exact trivial | refine ⟨rfl, ?_⟩)), k + 1, _, rfl, rfl, by omega, by omega, by omega, fun i t hi hti => ?_, rfl⟩
          rcases Nat.lt_or_ge i k with h | h
          · exact hall i t h hti
          · obtain rfl : i = k := by omega
            rw [ht] at hti
            simp only [Option.some.injEq] at hti
            subst hti
            simp only []; omega
      ·
        refine V.exit ?_
        refine X.sqExit ?_
        refine X.lpExit ?_
        refine X.bkHere ?_
        refine X.sq ?_
        refine V.seq ?_
        have hS : Sm (pol Ls) := ⟨by rw [pol_length]; omega, fun t ht => by
          simp only [pol, List.mem_map] at ht
          obtain ⟨u, hu, rfl⟩ := ht
          obtain ⟨i, hi⟩ := List.getElem?_of_mem hu
          have hil := (List.getElem?_eq_some_iff.1 hi).1
          have := hall i u (by omega) hi
          simp only []; omega⟩
        refine V.region ?_
        refine L.rd (rd_move rfl) rfl ?_
        refine L.rd (rd_move rfl) rfl ?_
        refine L.rd (rd_lenSlice tok rfl rfl rfl) rfl ?_
        (refine L.rd (rd_add3 rfl rfl ?_) rfl ?_; omega)
        refine L.rd (rd_assign rfl) rfl ?_
        refine L.nil ?_
        refine X.sq ?_
        refine V.seq ?_
        refine V.seq ?_
        refine V.region ?_
        refine L.rd (rd_move rfl) rfl ?_
        refine L.rd (rd_gtr rfl rfl) rfl ?_
        refine L.nil ?_
        refine X.sq ?_
        first | refine V.cond rfl (fun h72 => ?_) (fun h72 => ?_) | refine V.condB rfl (fun h72 => ?_) (fun h72 => ?_)
        ·
          refine V.seq ?_
          refine V.region ?_
          refine L.rd (rd_assign rfl) rfl ?_
          refine L.nil ?_
          refine X.sq ?_
          refine V.ret ?_
          refine X.sqRet ?_
          refine ret_1 Yaam.results10 rfl ?_
          exact ⟨rfl, hE⟩
        ·
          refine V.skip ?_
          refine X.sq ?_
          refine V.seq ?_
          refine V.seq ?_
          refine V.region ?_
          refine L.rd (rd_assign rfl) rfl ?_
          refine L.nil ?_
          refine X.sq ?_
          refine V.block ?_
          refine V.loop (fun m l wr => ∃ (k : Nat) (s : Int), l = [(0, .slice aa Ls.length ca), (1, .slice ab Ms.length cb), (2, .slice pa pt.length pc), (7, .int .i64 s), (9, .int .i64 k)] ∧ m = Ms.length - k ∧ k ≤ Ms.length ∧ 0 ≤ s ∧ s ≤ 1048576 ∧ (∀ i t, i < k → Ms[i]? = some t → t.2.2.length ≤ 1048576) ∧ w = wr) ?_ ?_
          ·
            exact ⟨_, _, (by repeat' (first | exact trivial | refine ⟨rfl, ?_⟩)), 0, _, rfl, rfl, by omega, by omega, by omega, fun i t h => by omega, rfl⟩
          ·
            rintro m l wr ⟨k2, s2, rfl, rfl, hk2, hs20, hs21, hall2, rfl⟩
            refine V.seq ?_
            refine V.seq ?_
            refine V.region ?_
            refine L.rd (rd_move rfl) rfl ?_
            refine L.rd (rd_move rfl) rfl ?_
            refine L.rd (rd_lenSlice tok rfl rfl rfl) rfl ?_
            refine L.rd (rd_lss rfl rfl) rfl ?_
            refine L.nil ?_
            refine X.sq ?_
            first | refine V.cond rfl (fun h76 => ?_) (fun h76 => ?_) | refine V.condB rfl (fun h76 => ?_) (fun h76 => ?_)
            ·
              obtain ⟨b1, o1, rfl, -, -, hc1⟩ := hfb.resolve_left (by omega)
              obtain ⟨⟨c, fv, fs⟩, ht⟩ := nth_of_lt Ms k2 (by omega)
              have hcx := Tl.cells hc1 ht
              obtain ⟨fa, fc, hfv, hff⟩ := hU.nth ht
              have hFk := hF2 _ (List.mem_of_getElem? ht)
              simp only at hfv hff hcx hFk
              subst hfv
              refine V.skip ?_
              refine X.sq ?_
              refine V.seq ?_
              refine V.block ?_
              refine V.seq ?_
              refine V.region ?_
              refine L.rd (rd_move rfl) rfl ?_
              refine L.rd (rd_move rfl) rfl ?_
              refine L.rd (rd_move rfl) rfl ?_
              (refine L.rd (rd_indexSlice (sz := 2) tok rfl rfl rfl rfl rfl rfl rfl ?_) rfl ?_; omega)
              refine L.rd (rd_fieldAddr tok rfl rfl rfl rfl rfl rfl) rfl ?_
              refine L.rd (rd_load1 tok rfl rfl rfl (hcx.at_ 1 _ rfl)) rfl ?_
              refine L.rd (rd_lenSlice tok rfl rfl rfl) rfl ?_
              (refine L.rd (rd_add3 rfl rfl ?_) rfl ?_; omega)
              refine L.rd (rd_assign rfl) rfl ?_
              refine L.nil ?_
              refine X.sq ?_
              refine V.seq ?_
              refine V.region ?_
              refine L.rd (rd_move rfl) rfl ?_
              refine L.rd (rd_gtr rfl rfl) rfl ?_
              refine L.nil ?_
              refine X.sq ?_
              first | refine V.cond rfl (fun h88 => ?_) (fun h88 => ?_) | refine V.condB rfl (fun h88 => ?_) (fun h88 => ?_)
              ·
                refine V.seq ?_
                refine V.region ?_
                refine L.rd (rd_assign rfl) rfl ?_
                refine L.nil ?_
                refine X.sq ?_
                refine V.ret ?_
                refine X.bkRet ?_
                refine X.sqRet ?_
                refine X.lpRet ?_
                refine X.bkRet ?_
                refine X.sqRet ?_
                refine ret_1 Yaam.results10 rfl ?_
                exact ⟨rfl, hE⟩
              ·
                refine V.skip ?_
                refine X.bk ?_
                refine X.sq ?_
                refine V.region ?_
                refine L.rd (rd_move rfl) rfl ?_
                (refine L.rd (rd_add3 rfl rfl ?_) rfl ?_; omega)
                refine L.rd (rd_assign rfl) rfl ?_
                refine L.nil ?_
                refine X.lp ⟨_, _, by omega, (by repeat' (first | exact trivial | refine ⟨rfl, ?_⟩)), k2 + 1, _, rfl, rfl, by omega, by omega, by omega, fun i t hi hti => ?_, rfl⟩
                rcases Nat.lt_or_ge i k2 with h | h
                · exact hall2 i t h hti
                · obtain rfl : i = k2 := by omega
                  rw [ht] at hti
                  simp only [Option.some.injEq] at hti
                  subst hti
                  simp only []; omega
            ·
              refine V.exit ?_
              refine X.sqExit ?_
              refine X.lpExit ?_
              refine X.bkHere ?_
              refine X.sq ?_
              refine V.seq ?_
              refine V.seq ?_
              have hS2 : Sm (pol Ms) := ⟨by rw [pol_length]; omega, fun t ht => by
                simp only [pol, List.mem_map] at ht
                obtain ⟨u, hu, rfl⟩ := ht
                obtain ⟨i, hi⟩ := List.getElem?_of_mem hu
                have hil := (List.getElem?_eq_some_iff.1 hi).1
                have := hall2 i u (by omega) hi
                simp only []; omega⟩
              refine V.region ?_
              refine L.rd (rd_move rfl) rfl ?_
              refine L.rd (rd_gtr rfl rfl) rfl ?_
              refine L.nil ?_
              refine X.sq ?_
              first | refine V.cond rfl (fun h90 => ?_) (fun h90 => ?_) | refine V.condB rfl (fun h90 => ?_) (fun h90 => ?_)
              ·
                refine V.seq ?_
                refine V.region ?_
                refine L.rd (rd_assign rfl) rfl ?_
                refine L.nil ?_
                refine X.sq ?_
                refine V.ret ?_
                refine X.sqRet ?_
                refine ret_1 Yaam.results10 rfl ?_
                exact ⟨rfl, hE⟩
              ·
                refine V.skip ?_
                refine X.sq ?_
                refine V.seq ?_
                refine V.seq ?_
                refine V.region ?_
                refine L.rd (rd_move rfl) rfl ?_
                refine L.rd (rd_lenSlice tok rfl rfl rfl) rfl ?_
                refine L.rd (rd_gtr rfl rfl) rfl ?_
                refine L.rd (rd_move rfl) rfl ?_
                first | refine L.partG rfl rfl (fun g94 => ?_) (fun g94 => ?_) | refine L.partGB rfl rfl (fun g94 => ?_) (fun g94 => ?_)
                ·
                  refine L.no rfl rfl rfl rfl ?_
                  refine L.no rfl rfl rfl rfl ?_
                  refine L.no rfl rfl rfl rfl ?_
                  refine L.rd (rd_pickT rfl rfl) rfl ?_
                  refine L.rd (rd_move rfl) rfl ?_
                  refine L.no rfl rfl rfl rfl ?_
                  refine L.no rfl rfl rfl rfl ?_
                  refine L.no rfl rfl rfl rfl ?_
                  refine L.rd (rd_pickT rfl rfl) rfl ?_
                  refine L.nil ?_
                  refine X.sq ?_
                  refine V.condT rfl ?_
                  refine V.seq ?_
                  refine V.region ?_
                  refine L.rd (rd_assign rfl) rfl ?_
                  refine L.nil ?_
                  refine X.sq ?_
                  refine V.ret ?_
                  refine X.sqRet ?_
                  refine ret_1 Yaam.results10 rfl ?_
                  exact ⟨rfl, hE⟩
                ·
                  refine L.yes rfl rfl ?_
                  refine L.rd (rd_move rfl) rfl ?_
                  refine L.yes rfl rfl ?_
                  refine L.rd (rd_lenSlice tok rfl rfl rfl) rfl ?_
                  refine L.yes rfl rfl ?_
                  refine L.rd (rd_gtr rfl rfl) rfl ?_
                  refine L.rd (rd_pickF rfl rfl) rfl ?_
                  refine L.rd (rd_move rfl) rfl ?_
                  first | refine L.partG rfl rfl (fun g99 => ?_) (fun g99 => ?_) | refine L.partGB rfl rfl (fun g99 => ?_) (fun g99 => ?_)
                  ·
                    refine L.no rfl rfl rfl rfl ?_
                    refine L.no rfl rfl rfl rfl ?_
                    refine L.no rfl rfl rfl rfl ?_
                    refine L.rd (rd_pickT rfl rfl) rfl ?_
                    refine L.nil ?_
                    refine X.sq ?_
                    refine V.condT rfl ?_
                    refine V.seq ?_
                    refine V.region ?_
                    refine L.rd (rd_assign rfl) rfl ?_
                    refine L.nil ?_
                    refine X.sq ?_
                    refine V.ret ?_
                    refine X.sqRet ?_
                    refine ret_1 Yaam.results10 rfl ?_
                    exact ⟨rfl, hE⟩
                  ·
                    refine L.yes rfl rfl ?_
                    refine L.rd (rd_move rfl) rfl ?_
                    refine L.yes rfl rfl ?_
                    refine L.rd (rd_lenSlice tok rfl rfl rfl) rfl ?_
                    refine L.yes rfl rfl ?_
                    refine L.rd (rd_gtr rfl rfl) rfl ?_
                    refine L.rd (rd_pickF rfl rfl) rfl ?_
                    refine L.nil ?_
                    refine X.sq ?_
                    first | refine V.cond rfl (fun h103 => ?_) (fun h103 => ?_) | refine V.condB rfl (fun h103 => ?_) (fun h103 => ?_)
                    ·
                      refine V.seq ?_
                      refine V.region ?_
                      refine L.rd (rd_assign rfl) rfl ?_
                      refine L.nil ?_
                      refine X.sq ?_
                      refine V.ret ?_
                      refine X.sqRet ?_
                      refine ret_1 Yaam.results10 rfl ?_
                      exact ⟨rfl, hE⟩
                    ·
                      refine V.skip ?_
                      refine X.sq ?_
                      refine V.seq ?_
                      refine V.region ?_
                      refine L.rd (rd_move rfl) rfl ?_
                      refine L.ef (e_call rfl (snorm_ok _ Ls _ hT hqa) rfl ?_)
                      rintro _ w1 ⟨v1, L1, rfl, hO1, hq1, he1⟩
                      obtain ⟨a1, c1, rfl⟩ := own_form hO1.top
                      replace hE := hE.ext he1
                      replace hT := hT.ext he1
                      replace hU := hU.ext he1
                      replace hP := hP.ext he1
                      refine L.rd (rd_move rfl) rfl ?_
                      refine L.rd (rd_ext0 rfl) rfl ?_
                      refine L.rd (rd_ext1 rfl) rfl ?_
                      refine L.ef (e_alloc (cs := [_]) tok rfl rfl (by first | (simp only [size_addB, size_setB, size_drew]; rfl) | rfl) rfl ?_)
                      refine L.ef (e_store (vs := [_]) tok rfl rfl rfl rfl (by (repeat (first | assumption | (refine Bl.new' ?_ _ _; first | with_reducible rfl | (simp only [size_addB, size_setB, size_drew]; done)) | apply Bl.add | apply Bl.drew | (apply Bl.setNe; omega) | (refine Bl.set' ?_ _ _; (try simp only [size_addB, size_setB, size_drew]); omega)))) rfl (by simp [Value.oneCell']) (by simp) ?_)
                      refine L.rd (rd_assign rfl) rfl ?_
                      refine L.nil ?_
                      refine X.sq ?_
                      refine V.seq ?_
                      refine V.seq ?_
                      generalize hwa : setB _ _ _ _ = wa
                      have hea := ext_of_new hwa
                      have hbp : Bl wa w1.heap.size 34 [.slice a1 L1.length c1] := bl_of_new hwa
                      replace hE := hE.ext hea
                      replace hT := hT.ext hea
                      replace hU := hU.ext hea
                      replace hP := hP.ext hea
                      replace hO1 := hO1.ext hea
                      refine V.region ?_
                      refine L.rd (rd_move rfl) rfl ?_
                      first | refine L.rd (rd_not rfl) rfl ?_ | refine L.rd (rd_notB rfl) rfl ?_
                      refine L.nil ?_
                      refine X.sq ?_
                      refine V.cut (fun l w' => ∃ (a : Option Addr) (c lo hi : Nat) (Pp : List Lt), l = [(0, .slice aa Ls.length ca), (1, .slice ab Ms.length cb), (2, .slice pa pt.length pc), (10, .pointer (some ⟨w1.heap.size, 0, none⟩))] ∧ Ext w.heap.size w w' ∧ Tl w' 0 w.heap.size (.slice aa Ls.length ca) Ls ∧ Tl w' 0 w.heap.size (.slice ab Ms.length cb) Ms ∧ Rr w' 0 w.heap.size 1 (.slice pa pt.length pc) pt.length (iC .i64 pt) ∧ Bl w' w1.heap.size 34 [.slice a Pp.length c] ∧ Tl w' lo hi (.slice a Pp.length c) Pp ∧ pol Pp = (normP (pol Ls)).getD [] ∧ hi ≤ w1.heap.size ∧ w1.heap.size < w'.heap.size) ?_ ?_
                      ·
                        first | refine V.cond rfl (fun h110 => ?_) (fun h110 => ?_) | refine V.condB rfl (fun h110 => ?_) (fun h110 => ?_)
                        ·
                          refine V.region ?_
                          refine L.rd (rd_build (out := [_]) tok rfl rfl rfl rfl rfl) rfl ?_
                          refine L.ef (e_store (vs := [_]) tok rfl rfl rfl rfl hbp rfl (by simp [Value.oneCell']) (by simp) ?_)
                          have hes : Rg w1.heap.size (w1.heap.size + 1) wa (setB wa w1.heap.size 34 (putAt [Value.slice a1 L1.length c1] 0 [Value.slice none 0 0])) := Rg.set (by omega) _ _
                          have hsz := he1.size
                          refine L.nil ?_
                          exact X.ct ⟨_, (by repeat' (first | exact trivial | refine ⟨rfl, ?_⟩)), none, 0, 0, 0, [], rfl, hE.rg hes hsz, hT.rg hes (.inl hsz), hU.rg hes (.inl hsz), hP.rg hes (.inl hsz), hbp.set _ _, Tl.nil _ _ _ _ _, by
                            have hn : normP (pol Ls) = none := by cases hnn : normP (pol Ls) <;> simp_all
                            rw [hn]; rfl, Nat.zero_le _, (hbp.set _ _).lt⟩
                        ·
                          refine V.skip ?_
                          exact X.ct ⟨_, (by repeat' (first | exact trivial | refine ⟨rfl, ?_⟩)), a1, c1, _, _, L1, rfl, hE, hT, hU, hP, hbp, hO1.tl, hq1, Nat.le_refl _, hbp.lt⟩
                      ·
                        clear hE hT hU hP hbp
                        rintro l w2 ⟨ap, cp, lop, hip, Pp, rfl, hE, hT, hU, hP, hbp, hTP, hqP, hhi, hw12⟩
                        have h4P := norm_s4 hqP
                        have hcP : canon (pol Pp) = true := by rw [hqP]; exact normD_canon _
                        have hwP : Cq (pol Pp) := by rw [hqP]; exact normD_cq _
                        refine X.sq ?_
                        refine V.seq ?_
                        refine V.region ?_
                        refine L.rd (rd_move rfl) rfl ?_
                        refine L.ef (e_call rfl (snorm_ok _ Ms _ hU hqb) rfl ?_)
                        rintro _ w3 ⟨v3, L3, rfl, hO3, hq3, he3⟩
                        obtain ⟨a3, c3, rfl⟩ := own_form hO3.top
                        have z2 := hE.size
                        replace hE := hE.ext he3
                        replace hT := hT.ext he3
                        replace hU := hU.ext he3
                        replace hP := hP.ext he3
                        replace hbp := hbp.ext he3
                        replace hTP := hTP.ext he3
                        refine L.rd (rd_move rfl) rfl ?_
                        refine L.rd (rd_ext0 rfl) rfl ?_
                        refine L.rd (rd_ext1 rfl) rfl ?_
                        refine L.ef (e_alloc (cs := [_]) tok rfl rfl (by first | (simp only [size_addB, size_setB, size_drew]; rfl) | rfl) rfl ?_)
                        refine L.ef (e_store (vs := [_]) tok rfl rfl rfl rfl (by (repeat (first | assumption | (refine Bl.new' ?_ _ _; first | with_reducible rfl | (simp only [size_addB, size_setB, size_drew]; done)) | apply Bl.add | apply Bl.drew | (apply Bl.setNe; omega) | (refine Bl.set' ?_ _ _; (try simp only [size_addB, size_setB, size_drew]); omega)))) rfl (by simp [Value.oneCell']) (by simp) ?_)
                        refine L.rd (rd_assign rfl) rfl ?_
                        refine L.nil ?_
                        refine X.sq ?_
                        refine V.seq ?_
                        refine V.seq ?_
                        generalize hwb : setB _ _ _ _ = wb
                        have heb := ext_of_new hwb
                        have hbq : Bl wb w3.heap.size 34 [.slice a3 L3.length c3] := bl_of_new hwb
                        replace hE := hE.ext heb
                        replace hT := hT.ext heb
                        replace hU := hU.ext heb
                        replace hP := hP.ext heb
                        replace hbp := hbp.ext heb
                        replace hTP := hTP.ext heb
                        replace hO3 := hO3.ext heb
                        refine V.region ?_
                        refine L.rd (rd_move rfl) rfl ?_
                        first | refine L.rd (rd_not rfl) rfl ?_ | refine L.rd (rd_notB rfl) rfl ?_
                        refine L.nil ?_
                        refine X.sq ?_
                        refine V.cut (fun l w' => ∃ (a : Option Addr) (c lo hi : Nat) (Qq : List Lt), l = [(0, .slice aa Ls.length ca), (2, .slice pa pt.length pc), (10, .pointer (some ⟨w1.heap.size, 0, none⟩)), (12, .pointer (some ⟨w3.heap.size, 0, none⟩))] ∧ Rg w3.heap.size (w3.heap.size + 1) wb w' ∧ Bl w' w3.heap.size 34 [.slice a Qq.length c] ∧ Tl w' lo hi (.slice a Qq.length c) Qq ∧ pol Qq = (normP (pol Ms)).getD []) ?_ ?_
                        ·
                          first | refine V.cond rfl (fun h118 => ?_) (fun h118 => ?_) | refine V.condB rfl (fun h118 => ?_) (fun h118 => ?_)
                          ·
                            refine V.region ?_
                            refine L.rd (rd_build (out := [_]) tok rfl rfl rfl rfl rfl) rfl ?_
                            refine L.ef (e_store (vs := [_]) tok rfl rfl rfl rfl hbq rfl (by simp [Value.oneCell']) (by simp) ?_)
                            refine L.nil ?_
                            exact X.ct ⟨_, (by repeat' (first | exact trivial | refine ⟨rfl, ?_⟩)), none, 0, 0, 0, [], rfl, Rg.set (by omega) _ _, hbq.set _ _, Tl.nil _ _ _ _ _, by
                              have hn : normP (pol Ms) = none := by cases hnn : normP (pol Ms) <;> simp_all
                              rw [hn]; rfl⟩
                          ·
                            refine V.skip ?_
                            exact X.ct ⟨_, (by repeat' (first | exact trivial | refine ⟨rfl, ?_⟩)), a3, c3, _, _, L3, rfl, Rg.refl _ _ _, hbq, hO3.tl, hq3⟩
                        ·
                          rintro l w4 ⟨aq, cq, loq, hiq, Qq, rfl, he4, hbq', hTQ, hqQ⟩
                          have h4Q := norm_s4 hqQ
                          have hcQ : canon (pol Qq) = true := by rw [hqQ]; exact normD_canon _
                          have hwQ : Cq (pol Qq) := by rw [hqQ]; exact normD_cq _
                          have z3 := he3.size
                          clear hbq
                          replace hE := hE.rg he4 (by omega)
                          replace hT := hT.rg he4 (by omega)
                          replace hP := hP.rg he4 (by omega)
                          replace hbp := hbp.rg he4 (by omega)
                          replace hTP := hTP.rg he4 (by omega)
                          have hbq := hbq'
                          refine X.sq ?_
                          refine V.seq ?_
                          refine V.region ?_
                          refine L.rd (rd_move rfl) rfl ?_
                          refine L.rd (rd_build (out := [_]) tok rfl rfl rfl rfl rfl) rfl ?_
                          refine L.ef (e_alloc (cs := [_]) tok rfl rfl (by first | (simp only [size_addB, size_setB, size_drew]; rfl) | rfl) rfl ?_)
                          refine L.ef (e_store (vs := [_]) tok rfl rfl rfl rfl (by (repeat (first | assumption | (refine Bl.new' ?_ _ _; first | with_reducible rfl | (simp only [size_addB, size_setB, size_drew]; done)) | apply Bl.add | apply Bl.drew | (apply Bl.setNe; omega) | (refine Bl.set' ?_ _ _; (try simp only [size_addB, size_setB, size_drew]); omega)))) rfl (by simp [Value.oneCell']) (by simp) ?_)
                          refine L.nil ?_
                          refine X.sq ?_
                          refine V.seq ?_
                          refine V.seq ?_
                          generalize hwr : setB _ _ _ _ = wr
                          have her := ext_of_new hwr
                          have hbr : Bl wr w4.heap.size 34 [.slice aa Ls.length ca] := bl_of_new hwr
                          replace hE := hE.ext her
                          replace hT := hT.ext her
                          replace hP := hP.ext her
                          replace hbp := hbp.ext her
                          replace hTP := hTP.ext her
                          replace hbq := hbq.ext her
                          replace hTQ := hTQ.ext her
                          have heS : Ext wr.heap.size wr wr.drew := (Ext.refl _ wr).drew
                          refine V.draw [] mixed ?_
                          refine D.take 0 [true, false, false, false, false, false, false, false, false, false, false, false] (.sq (.sq .bd)) rfl (rd_loadN tok rfl rfl rfl hbp.cells rfl) rfl (by kernel_rfl) rfl (LeC.drew _) ?_
                          refine D.take 2 [true, false, true, false, false, false, false, false, false, false, false, false] (.sq (.sq .bd)) rfl (rd_loadN tok rfl rfl rfl hbp.cells rfl) rfl (by kernel_rfl) rfl (LeC.drew _) ?_
                          refine D.one 1 [true, true, true, false, false, false, false, false, false, false, false, false] rfl (by kernel_rfl) rfl (e_call rfl (ican_ok _ Pp _ (hTP.ext heS) h4P.sm) rfl ?_)
                          rintro _ w5 ⟨rfl, he5⟩
                          replace heS := heS.next he5
                          refine ⟨fun _ => (heS.leC), ?_⟩
                          refine D.one 3 [true, true, true, true, false, false, false, false, false, false, false, false] rfl (by kernel_rfl) rfl (e_call rfl (scan_ok _ Pp _ (hTP.ext heS) h4P.sm) rfl ?_)
                          rintro _ w6 ⟨rfl, he6⟩
                          replace heS := heS.next he6
                          refine ⟨fun _ => (heS.leC), ?_⟩
                          refine D.take 4 [true, true, true, true, true, false, false, false, false, false, false, false] (.sq (.sq .bd)) rfl (rd_neqB tok rfl rfl rfl rfl) rfl (by kernel_rfl) rfl (heS.leC) ?_
                          refine D.take 5 [true, true, true, true, true, true, false, false, false, false, false, false] (.sq (.sq .bd)) rfl (rd_move rfl) rfl (by kernel_rfl) rfl (heS.leC) ?_
                          first | refine D.part 127 rfl (fun g127 => ?_) (fun g127 => ?_) | refine D.partB 127 rfl (fun g127 => ?_) (fun g127 => ?_)
                          ·
                            exact absurd rfl g127
                          ·
                            refine D.takeYes 6 [true, true, true, true, true, true, true, false, false, false, false, false] (.sq (.sq .bd)) rfl rfl rfl (rd_loadN tok rfl rfl rfl hbr.cells rfl) rfl (by kernel_rfl) rfl (heS.leC) ?_
                            refine D.takeYes 8 [true, true, true, true, true, true, true, false, true, false, false, false] (.sq (.sq .bd)) rfl rfl rfl (rd_loadN tok rfl rfl rfl hbr.cells rfl) rfl (by kernel_rfl) rfl (heS.leC) ?_
                            refine D.oneYes 7 [true, true, true, true, true, true, true, true, true, false, false, false] rfl rfl rfl (by kernel_rfl) rfl (e_call rfl (ican_ok _ Ls _ (hT.ext heS) hS) rfl ?_)
                            rintro _ w7 ⟨rfl, he7⟩
                            replace heS := heS.next he7
                            refine ⟨fun _ => (heS.leC), ?_⟩
                            refine D.oneYes 9 [true, true, true, true, true, true, true, true, true, true, false, false] rfl rfl rfl (by kernel_rfl) rfl (e_call rfl (scan_ok _ Ls _ (hT.ext heS) hS) rfl ?_)
                            rintro _ w8 ⟨rfl, he8⟩
                            replace heS := heS.next he8
                            refine ⟨fun _ => (heS.leC), ?_⟩
                            refine D.takeYes 10 [true, true, true, true, true, true, true, true, true, true, true, false] (.sq (.sq .bd)) rfl rfl rfl (rd_neqB tok rfl rfl rfl rfl) rfl (by kernel_rfl) rfl (heS.leC) ?_
                            refine D.take 11 [true, true, true, true, true, true, true, true, true, true, true, true] (.sq (.sq .bd)) rfl (rd_pickF rfl rfl) rfl (by kernel_rfl) rfl (heS.leC) ?_
                            refine D.done (by kernel_rfl) ?_
                            refine X.sq ?_
                            first | refine V.cond rfl (fun h133 => ?_) (fun h133 => ?_) | refine V.condB rfl (fun h133 => ?_) (fun h133 => ?_)
                            ·
                              exact absurd rfl h133
                            ·
                              refine V.skip ?_
                              refine X.sq ?_
                              refine V.seq ?_
                              skip
                              replace hE := hE.ext heS
                              replace hT := hT.ext heS
                              replace hP := hP.ext heS
                              replace hbp := hbp.ext heS
                              replace hTP := hTP.ext heS
                              replace hbq := hbq.ext heS
                              replace hTQ := hTQ.ext heS
                              replace hbr := hbr.ext heS
                              clear heS
                              refine V.region ?_
                              refine L.rd (rd_loadN tok rfl rfl rfl hbp.cells rfl) rfl ?_
                              refine L.rd (rd_loadN tok rfl rfl rfl hbq.cells rfl) rfl ?_
                              refine L.ef (e_call rfl (iadd_ok _ _ Pp Qq _ hTP hTQ h4P.sm h4Q.sm hwP hwQ) rfl ?_)
                              rintro _ w9 ⟨v9, Lsa, rfl, hOsa, hqsa, he9⟩
                              obtain ⟨asa, csa, rfl⟩ := own_form hOsa.top
                              have h4sa := addP_s4 hqsa
                              have hTsa := hOsa.tl
                              replace hE := hE.ext he9
                              replace hT := hT.ext he9
                              replace hP := hP.ext he9
                              replace hbp := hbp.ext he9
                              replace hTP := hTP.ext he9
                              replace hbq := hbq.ext he9
                              replace hTQ := hTQ.ext he9
                              replace hbr := hbr.ext he9
                              refine L.rd (rd_move rfl) rfl ?_
                              refine L.rd (rd_ext0 rfl) rfl ?_
                              refine L.rd (rd_ext1 rfl) rfl ?_
                              refine L.ef (e_alloc (cs := [_]) tok rfl rfl (by first | (simp only [size_addB, size_setB, size_drew]; rfl) | rfl) rfl ?_)
                              refine L.ef (e_store (vs := [_]) tok rfl rfl rfl rfl (by (repeat (first | assumption | (refine Bl.new' ?_ _ _; first | with_reducible rfl | (simp only [size_addB, size_setB, size_drew]; done)) | apply Bl.add | apply Bl.drew | (apply Bl.setNe; omega) | (refine Bl.set' ?_ _ _; (try simp only [size_addB, size_setB, size_drew]); omega)))) rfl (by simp [Value.oneCell']) (by simp) ?_)
                              refine L.rd (rd_assign rfl) rfl ?_
                              refine L.nil ?_
                              refine X.sq ?_
                              refine V.seq ?_
                              generalize hw10 : setB _ _ _ _ = w10
                              have he10 := ext_of_new hw10
                              have hbsa : Bl w10 w9.heap.size 34 [.slice asa Lsa.length csa] := bl_of_new hw10
                              replace hE := hE.ext he10
                              replace hT := hT.ext he10
                              replace hP := hP.ext he10
                              replace hbp := hbp.ext he10
                              replace hTP := hTP.ext he10
                              replace hbq := hbq.ext he10
                              replace hTQ := hTQ.ext he10
                              replace hbr := hbr.ext he10
                              replace hTsa := hTsa.ext he10
                              refine V.region ?_
                              refine L.rd (rd_loadN tok rfl rfl rfl hbp.cells rfl) rfl ?_
                              refine L.rd (rd_loadN tok rfl rfl rfl hbq.cells rfl) rfl ?_
                              refine L.ef (e_call rfl (sadd_ok _ _ Pp Qq _ hTP hTQ h4P.sm h4Q.sm hwP hwQ) rfl ?_)
                              rintro _ w11 ⟨v11, Lta, rfl, hOta, hqta, he11⟩
                              obtain ⟨ata, cta, rfl⟩ := own_form hOta.top
                              have h4ta := addP_s4 hqta
                              have hTta := hOta.tl
                              replace hE := hE.ext he11
                              replace hT := hT.ext he11
                              replace hP := hP.ext he11
                              replace hbp := hbp.ext he11
                              replace hTP := hTP.ext he11
                              replace hbq := hbq.ext he11
                              replace hTQ := hTQ.ext he11
                              replace hbr := hbr.ext he11
                              replace hTsa := hTsa.ext he11
                              replace hbsa := hbsa.ext he11
                              refine L.rd (rd_move rfl) rfl ?_
                              refine L.rd (rd_ext0 rfl) rfl ?_
                              refine L.rd (rd_ext1 rfl) rfl ?_
                              refine L.ef (e_alloc (cs := [_]) tok rfl rfl (by first | (simp only [size_addB, size_setB, size_drew]; rfl) | rfl) rfl ?_)
                              refine L.ef (e_store (vs := [_]) tok rfl rfl rfl rfl (by (repeat (first | assumption | (refine Bl.new' ?_ _ _; first | with_reducible rfl | (simp only [size_addB, size_setB, size_drew]; done)) | apply Bl.add | apply Bl.drew | (apply Bl.setNe; omega) | (refine Bl.set' ?_ _ _; (try simp only [size_addB, size_setB, size_drew]); omega)))) rfl (by simp [Value.oneCell']) (by simp) ?_)
                              refine L.rd (rd_assign rfl) rfl ?_
                              refine L.nil ?_
                              refine X.sq ?_
                              refine V.seq ?_
                              refine V.seq ?_
                              generalize hw12 : setB _ _ _ _ = w12
                              have he12 := ext_of_new hw12
                              have hbta : Bl w12 w11.heap.size 34 [.slice ata Lta.length cta] := bl_of_new hw12
                              replace hE := hE.ext he12
                              replace hT := hT.ext he12
                              replace hP := hP.ext he12
                              replace hbp := hbp.ext he12
                              replace hTP := hTP.ext he12
                              replace hbq := hbq.ext he12
                              replace hTQ := hTQ.ext he12
                              replace hbr := hbr.ext he12
                              replace hTsa := hTsa.ext he12
                              replace hbsa := hbsa.ext he12
                              replace hTta := hTta.ext he12
                              refine V.region ?_
                              refine L.rd (rd_move rfl) rfl ?_
                              refine L.rd (rd_move rfl) rfl ?_
                              refine L.rd (rd_neqB tok rfl rfl rfl rfl) rfl ?_
                              refine L.rd (rd_move rfl) rfl ?_
                              first | refine L.partG rfl rfl (fun g149 => ?_) (fun g149 => ?_) | refine L.partGB rfl rfl (fun g149 => ?_) (fun g149 => ?_)
                              ·
                                exact absurd rfl g149
                              ·
                                refine L.yes rfl rfl ?_
                                refine L.rd (rd_loadN tok rfl rfl rfl hbsa.cells rfl) rfl ?_
                                refine L.yes rfl rfl ?_
                                refine L.rd (rd_loadN tok rfl rfl rfl hbta.cells rfl) rfl ?_
                                refine L.yes rfl rfl ?_
                                refine L.ef (e_call rfl (eqPoly_ok _ _ Lsa Lta _ hTsa hTta h4sa.sm) rfl ?_)
                                rintro _ w13 ⟨rfl, he13⟩
                                refine L.yes rfl rfl ?_
                                first | refine L.rd (rd_not rfl) rfl ?_ | refine L.rd (rd_notB rfl) rfl ?_
                                refine L.rd (rd_pickF rfl rfl) rfl ?_
                                refine L.nil ?_
                                refine X.sq ?_
                                first | refine V.cond rfl (fun h154 => ?_) (fun h154 => ?_) | refine V.condB rfl (fun h154 => ?_) (fun h154 => ?_)
                                ·
                                  exact absurd (hqsa.trans hqta.symm) h154
                                ·
                                  refine V.skip ?_
                                  refine X.sq ?_
                                  refine V.seq ?_
                                  skip
                                  replace hE := hE.ext he13
                                  replace hT := hT.ext he13
                                  replace hP := hP.ext he13
                                  replace hbp := hbp.ext he13
                                  replace hTP := hTP.ext he13
                                  replace hbq := hbq.ext he13
                                  replace hTQ := hTQ.ext he13
                                  replace hbr := hbr.ext he13
                                  replace hTsa := hTsa.ext he13
                                  replace hbsa := hbsa.ext he13
                                  replace hTta := hTta.ext he13
                                  replace hbta := hbta.ext he13
                                  refine V.region ?_
                                  refine L.rd (rd_loadN tok rfl rfl rfl hbq.cells rfl) rfl ?_
                                  refine L.rd (rd_loadN tok rfl rfl rfl hbp.cells rfl) rfl ?_
                                  refine L.ef (e_call rfl (iadd_ok _ _ Qq Pp _ hTQ hTP h4Q.sm h4P.sm hwQ hwP) rfl ?_)
                                  rintro _ w14 ⟨v14, Ltb, rfl, hOtb, hqtb, he14⟩
                                  rw [addP_comm (pol Qq) (pol Pp)] at hqtb ⊢
                                  obtain ⟨atb, ctb, rfl⟩ := own_form hOtb.top
                                  have h4tb := addP_s4 hqtb
                                  have hTtb := hOtb.tl
                                  replace hE := hE.ext he14
                                  replace hT := hT.ext he14
                                  replace hP := hP.ext he14
                                  replace hbp := hbp.ext he14
                                  replace hTP := hTP.ext he14
                                  replace hbq := hbq.ext he14
                                  replace hTQ := hTQ.ext he14
                                  replace hbr := hbr.ext he14
                                  replace hTsa := hTsa.ext he14
                                  replace hbsa := hbsa.ext he14
                                  refine L.rd (rd_move rfl) rfl ?_
                                  refine L.rd (rd_ext0 rfl) rfl ?_
                                  refine L.rd (rd_ext1 rfl) rfl ?_
                                  refine L.ef (e_alloc (cs := [_]) tok rfl rfl (by first | (simp only [size_addB, size_setB, size_drew]; rfl) | rfl) rfl ?_)
                                  refine L.ef (e_store (vs := [_]) tok rfl rfl rfl rfl (by (repeat (first | assumption | (refine Bl.new' ?_ _ _; first | with_reducible rfl | (simp only [size_addB, size_setB, size_drew]; done)) | apply Bl.add | apply Bl.drew | (apply Bl.setNe; omega) | (refine Bl.set' ?_ _ _; (try simp only [size_addB, size_setB, size_drew]); omega)))) rfl (by simp [Value.oneCell']) (by simp) ?_)
                                  refine L.rd (rd_assign rfl) rfl ?_
                                  refine L.nil ?_
                                  refine X.sq ?_
                                  refine V.seq ?_
                                  refine V.seq ?_
                                  generalize hw15 : setB _ _ _ _ = w15
                                  have he15 := ext_of_new hw15
                                  have hbtb : Bl w15 w14.heap.size 34 [.slice atb Ltb.length ctb] := bl_of_new hw15
                                  replace hE := hE.ext he15
                                  replace hT := hT.ext he15
                                  replace hP := hP.ext he15
                                  replace hbp := hbp.ext he15
                                  replace hTP := hTP.ext he15
                                  replace hbq := hbq.ext he15
                                  replace hTQ := hTQ.ext he15
                                  replace hbr := hbr.ext he15
                                  replace hTsa := hTsa.ext he15
                                  replace hbsa := hbsa.ext he15
                                  replace hTtb := hTtb.ext he15
                                  refine V.region ?_
                                  refine L.rd (rd_move rfl) rfl ?_
                                  refine L.rd (rd_move rfl) rfl ?_
                                  refine L.rd (rd_neqB tok rfl rfl rfl rfl) rfl ?_
                                  refine L.rd (rd_move rfl) rfl ?_
                                  first | refine L.partG rfl rfl (fun g164 => ?_) (fun g164 => ?_) | refine L.partGB rfl rfl (fun g164 => ?_) (fun g164 => ?_)
                                  ·
                                    exact absurd rfl g164
                                  ·
                                    refine L.yes rfl rfl ?_
                                    refine L.rd (rd_loadN tok rfl rfl rfl hbtb.cells rfl) rfl ?_
                                    refine L.yes rfl rfl ?_
                                    refine L.rd (rd_loadN tok rfl rfl rfl hbsa.cells rfl) rfl ?_
                                    refine L.yes rfl rfl ?_
                                    refine L.ef (e_call rfl (eqPoly_ok _ _ Ltb Lsa _ hTtb hTsa h4tb.sm) rfl ?_)
                                    rintro _ w16 ⟨rfl, he16⟩
                                    refine L.yes rfl rfl ?_
                                    first | refine L.rd (rd_not rfl) rfl ?_ | refine L.rd (rd_notB rfl) rfl ?_
                                    refine L.rd (rd_pickF rfl rfl) rfl ?_
                                    refine L.nil ?_
                                    refine X.sq ?_
                                    first | refine V.cond rfl (fun h169 => ?_) (fun h169 => ?_) | refine V.condB rfl (fun h169 => ?_) (fun h169 => ?_)
                                    ·
                                      exact absurd (hqtb.trans hqsa.symm) h169
                                    ·
                                      refine V.skip ?_
                                      refine X.sq ?_
                                      refine V.seq ?_
                                      skip
                                      replace hE := hE.ext he16
                                      replace hT := hT.ext he16
                                      replace hP := hP.ext he16
                                      replace hbp := hbp.ext he16
                                      replace hTP := hTP.ext he16
                                      replace hbq := hbq.ext he16
                                      replace hTQ := hTQ.ext he16
                                      replace hbr := hbr.ext he16
                                      replace hTsa := hTsa.ext he16
                                      replace hbsa := hbsa.ext he16
                                      replace hTtb := hTtb.ext he16
                                      replace hbtb := hbtb.ext he16
                                      refine V.region ?_
                                      refine L.rd (rd_loadN tok rfl rfl rfl hbp.cells rfl) rfl ?_
                                      refine L.rd (rd_loadN tok rfl rfl rfl hbq.cells rfl) rfl ?_
                                      refine L.ef (e_call rfl (imul_ok _ _ Pp Qq _ hTP hTQ h4P.sm h4Q.sm hwP hwQ) rfl ?_)
                                      rintro _ w17 ⟨v17, Lm, rfl, hOm, hqm, he17⟩
                                      obtain ⟨am, cm, rfl⟩ := own_form hOm.top
                                      have h4m := mulP_s4 hqm
                                      have hTm := hOm.tl
                                      replace hE := hE.ext he17
                                      replace hT := hT.ext he17
                                      replace hP := hP.ext he17
                                      replace hbp := hbp.ext he17
                                      replace hTP := hTP.ext he17
                                      replace hbq := hbq.ext he17
                                      replace hTQ := hTQ.ext he17
                                      replace hbr := hbr.ext he17
                                      replace hTsa := hTsa.ext he17
                                      replace hbsa := hbsa.ext he17
                                      refine L.rd (rd_move rfl) rfl ?_
                                      refine L.rd (rd_ext0 rfl) rfl ?_
                                      refine L.rd (rd_ext1 rfl) rfl ?_
                                      refine L.ef (e_alloc (cs := [_]) tok rfl rfl (by first | (simp only [size_addB, size_setB, size_drew]; rfl) | rfl) rfl ?_)
                                      refine L.ef (e_store (vs := [_]) tok rfl rfl rfl rfl (by (repeat (first | assumption | (refine Bl.new' ?_ _ _; first | with_reducible rfl | (simp only [size_addB, size_setB, size_drew]; done)) | apply Bl.add | apply Bl.drew | (apply Bl.setNe; omega) | (refine Bl.set' ?_ _ _; (try simp only [size_addB, size_setB, size_drew]); omega)))) rfl (by simp [Value.oneCell']) (by simp) ?_)
                                      refine L.rd (rd_assign rfl) rfl ?_
                                      refine L.nil ?_
                                      refine X.sq ?_
                                      refine V.seq ?_
                                      generalize hw18 : setB _ _ _ _ = w18
                                      have he18 := ext_of_new hw18
                                      have hbm : Bl w18 w17.heap.size 34 [.slice am Lm.length cm] := bl_of_new hw18
                                      replace hE := hE.ext he18
                                      replace hT := hT.ext he18
                                      replace hP := hP.ext he18
                                      replace hbp := hbp.ext he18
                                      replace hTP := hTP.ext he18
                                      replace hbq := hbq.ext he18
                                      replace hTQ := hTQ.ext he18
                                      replace hbr := hbr.ext he18
                                      replace hTsa := hTsa.ext he18
                                      replace hbsa := hbsa.ext he18
                                      replace hTm := hTm.ext he18
                                      refine V.region ?_
                                      refine L.rd (rd_loadN tok rfl rfl rfl hbp.cells rfl) rfl ?_
                                      refine L.rd (rd_loadN tok rfl rfl rfl hbq.cells rfl) rfl ?_
                                      refine L.ef (e_call rfl (smul_ok _ _ Pp Qq _ hTP hTQ h4P.sm h4Q.sm hwP hwQ) rfl ?_)
                                      rintro _ w19 ⟨v19, Ln, rfl, hOn, hqn, he19⟩
                                      obtain ⟨an, cn, rfl⟩ := own_form hOn.top
                                      have h4n := mulP_s4 hqn
                                      have hTn := hOn.tl
                                      replace hE := hE.ext he19
                                      replace hT := hT.ext he19
                                      replace hP := hP.ext he19
                                      replace hbp := hbp.ext he19
                                      replace hTP := hTP.ext he19
                                      replace hbq := hbq.ext he19
                                      replace hTQ := hTQ.ext he19
                                      replace hbr := hbr.ext he19
                                      replace hTsa := hTsa.ext he19
                                      replace hbsa := hbsa.ext he19
                                      replace hTm := hTm.ext he19
                                      replace hbm := hbm.ext he19
                                      refine L.rd (rd_move rfl) rfl ?_
                                      refine L.rd (rd_ext0 rfl) rfl ?_
                                      refine L.rd (rd_ext1 rfl) rfl ?_
                                      refine L.ef (e_alloc (cs := [_]) tok rfl rfl (by first | (simp only [size_addB, size_setB, size_drew]; rfl) | rfl) rfl ?_)
                                      refine L.ef (e_store (vs := [_]) tok rfl rfl rfl rfl (by (repeat (first | assumption | (refine Bl.new' ?_ _ _; first | with_reducible rfl | (simp only [size_addB, size_setB, size_drew]; done)) | apply Bl.add | apply Bl.drew | (apply Bl.setNe; omega) | (refine Bl.set' ?_ _ _; (try simp only [size_addB, size_setB, size_drew]); omega)))) rfl (by simp [Value.oneCell']) (by simp) ?_)
                                      refine L.rd (rd_assign rfl) rfl ?_
                                      refine L.nil ?_
                                      refine X.sq ?_
                                      refine V.seq ?_
                                      refine V.seq ?_
                                      generalize hw20 : setB _ _ _ _ = w20
                                      have he20 := ext_of_new hw20
                                      have hbn : Bl w20 w19.heap.size 34 [.slice an Ln.length cn] := bl_of_new hw20
                                      replace hE := hE.ext he20
                                      replace hT := hT.ext he20
                                      replace hP := hP.ext he20
                                      replace hbp := hbp.ext he20
                                      replace hTP := hTP.ext he20
                                      replace hbq := hbq.ext he20
                                      replace hTQ := hTQ.ext he20
                                      replace hbr := hbr.ext he20
                                      replace hTsa := hTsa.ext he20
                                      replace hbsa := hbsa.ext he20
                                      replace hTm := hTm.ext he20
                                      replace hbm := hbm.ext he20
                                      replace hTn := hTn.ext he20
                                      refine V.region ?_
                                      refine L.rd (rd_move rfl) rfl ?_
                                      refine L.rd (rd_move rfl) rfl ?_
                                      refine L.rd (rd_neqB tok rfl rfl rfl rfl) rfl ?_
                                      refine L.rd (rd_move rfl) rfl ?_
                                      first | refine L.partG rfl rfl (fun g185 => ?_) (fun g185 => ?_) | refine L.partGB rfl rfl (fun g185 => ?_) (fun g185 => ?_)
                                      ·
                                        exact absurd rfl g185
                                      ·
                                        refine L.yes rfl rfl ?_
                                        refine L.rd (rd_loadN tok rfl rfl rfl hbm.cells rfl) rfl ?_
                                        refine L.yes rfl rfl ?_
                                        refine L.rd (rd_loadN tok rfl rfl rfl hbn.cells rfl) rfl ?_
                                        refine L.yes rfl rfl ?_
                                        refine L.ef (e_call rfl (eqPoly_ok _ _ Lm Ln _ hTm hTn h4m.sm) rfl ?_)
                                        rintro _ w21 ⟨rfl, he21⟩
                                        refine L.yes rfl rfl ?_
                                        first | refine L.rd (rd_not rfl) rfl ?_ | refine L.rd (rd_notB rfl) rfl ?_
                                        refine L.rd (rd_pickF rfl rfl) rfl ?_
                                        refine L.nil ?_
                                        refine X.sq ?_
                                        first | refine V.cond rfl (fun h190 => ?_) (fun h190 => ?_) | refine V.condB rfl (fun h190 => ?_) (fun h190 => ?_)
                                        ·
                                          exact absurd (hqm.trans hqn.symm) h190
                                        ·
                                          refine V.skip ?_
                                          refine X.sq ?_
                                          refine V.seq ?_
                                          skip
                                          replace hE := hE.ext he21
                                          replace hT := hT.ext he21
                                          replace hP := hP.ext he21
                                          replace hbp := hbp.ext he21
                                          replace hTP := hTP.ext he21
                                          replace hbq := hbq.ext he21
                                          replace hTQ := hTQ.ext he21
                                          replace hbr := hbr.ext he21
                                          replace hTsa := hTsa.ext he21
                                          replace hbsa := hbsa.ext he21
                                          replace hTm := hTm.ext he21
                                          replace hbm := hbm.ext he21
                                          replace hTn := hTn.ext he21
                                          replace hbn := hbn.ext he21
                                          refine V.region ?_
                                          refine L.rd (rd_loadN tok rfl rfl rfl hbq.cells rfl) rfl ?_
                                          refine L.rd (rd_loadN tok rfl rfl rfl hbp.cells rfl) rfl ?_
                                          refine L.ef (e_call rfl (imul_ok _ _ Qq Pp _ hTQ hTP h4Q.sm h4P.sm hwQ hwP) rfl ?_)
                                          rintro _ w22 ⟨v22, Ln2, rfl, hOn2, hqn2, he22⟩
                                          rw [mulP_comm (pol Qq) (pol Pp)] at hqn2 ⊢
                                          obtain ⟨an2, cn2, rfl⟩ := own_form hOn2.top
                                          have h4n2 := mulP_s4 hqn2
                                          have hTn2 := hOn2.tl
                                          replace hE := hE.ext he22
                                          replace hT := hT.ext he22
                                          replace hP := hP.ext he22
                                          replace hbp := hbp.ext he22
                                          replace hTP := hTP.ext he22
                                          replace hbq := hbq.ext he22
                                          replace hTQ := hTQ.ext he22
                                          replace hbr := hbr.ext he22
                                          replace hTsa := hTsa.ext he22
                                          replace hbsa := hbsa.ext he22
                                          replace hTm := hTm.ext he22
                                          replace hbm := hbm.ext he22
                                          refine L.rd (rd_move rfl) rfl ?_
                                          refine L.rd (rd_ext0 rfl) rfl ?_
                                          refine L.rd (rd_ext1 rfl) rfl ?_
                                          refine L.ef (e_alloc (cs := [_]) tok rfl rfl (by first | (simp only [size_addB, size_setB, size_drew]; rfl) | rfl) rfl ?_)
                                          refine L.ef (e_store (vs := [_]) tok rfl rfl rfl rfl (by (repeat (first | assumption | (refine Bl.new' ?_ _ _; first | with_reducible rfl | (simp only [size_addB, size_setB, size_drew]; done)) | apply Bl.add | apply Bl.drew | (apply Bl.setNe; omega) | (refine Bl.set' ?_ _ _; (try simp only [size_addB, size_setB, size_drew]); omega)))) rfl (by simp [Value.oneCell']) (by simp) ?_)
                                          refine L.rd (rd_assign rfl) rfl ?_
                                          refine L.nil ?_
                                          refine X.sq ?_
                                          refine V.seq ?_
                                          refine V.seq ?_
                                          generalize hw23 : setB _ _ _ _ = w23
                                          have he23 := ext_of_new hw23
                                          have hbn2 : Bl w23 w22.heap.size 34 [.slice an2 Ln2.length cn2] := bl_of_new hw23
                                          replace hE := hE.ext he23
                                          replace hT := hT.ext he23
                                          replace hP := hP.ext he23
                                          replace hbp := hbp.ext he23
                                          replace hTP := hTP.ext he23
                                          replace hbq := hbq.ext he23
                                          replace hTQ := hTQ.ext he23
                                          replace hbr := hbr.ext he23
                                          replace hTsa := hTsa.ext he23
                                          replace hbsa := hbsa.ext he23
                                          replace hTm := hTm.ext he23
                                          replace hbm := hbm.ext he23
                                          replace hTn2 := hTn2.ext he23
                                          refine V.region ?_
                                          refine L.rd (rd_move rfl) rfl ?_
                                          refine L.rd (rd_move rfl) rfl ?_
                                          refine L.rd (rd_neqB tok rfl rfl rfl rfl) rfl ?_
                                          refine L.rd (rd_move rfl) rfl ?_
                                          first | refine L.partG rfl rfl (fun g200 => ?_) (fun g200 => ?_) | refine L.partGB rfl rfl (fun g200 => ?_) (fun g200 => ?_)
                                          ·
                                            exact absurd rfl g200
                                          ·
                                            refine L.yes rfl rfl ?_
                                            refine L.rd (rd_loadN tok rfl rfl rfl hbn2.cells rfl) rfl ?_
                                            refine L.yes rfl rfl ?_
                                            refine L.rd (rd_loadN tok rfl rfl rfl hbm.cells rfl) rfl ?_
                                            refine L.yes rfl rfl ?_
                                            refine L.ef (e_call rfl (eqPoly_ok _ _ Ln2 Lm _ hTn2 hTm h4n2.sm) rfl ?_)
                                            rintro _ w24 ⟨rfl, he24⟩
                                            refine L.yes rfl rfl ?_
                                            first | refine L.rd (rd_not rfl) rfl ?_ | refine L.rd (rd_notB rfl) rfl ?_
                                            refine L.rd (rd_pickF rfl rfl) rfl ?_
                                            refine L.nil ?_
                                            refine X.sq ?_
                                            first | refine V.cond rfl (fun h205 => ?_) (fun h205 => ?_) | refine V.condB rfl (fun h205 => ?_) (fun h205 => ?_)
                                            ·
                                              exact absurd (hqn2.trans hqm.symm) h205
                                            ·
                                              refine V.skip ?_
                                              refine X.sq ?_
                                              refine V.seq ?_
                                              skip
                                              replace hE := hE.ext he24
                                              replace hT := hT.ext he24
                                              replace hP := hP.ext he24
                                              replace hbp := hbp.ext he24
                                              replace hTP := hTP.ext he24
                                              replace hbq := hbq.ext he24
                                              replace hTQ := hTQ.ext he24
                                              replace hbr := hbr.ext he24
                                              replace hTsa := hTsa.ext he24
                                              replace hbsa := hbsa.ext he24
                                              replace hTm := hTm.ext he24
                                              replace hbm := hbm.ext he24
                                              replace hTn2 := hTn2.ext he24
                                              replace hbn2 := hbn2.ext he24
                                              refine V.region ?_
                                              refine L.rd (rd_loadN tok rfl rfl rfl hbr.cells rfl) rfl ?_
                                              refine L.rd (rd_loadN tok rfl rfl rfl hbq.cells rfl) rfl ?_
                                              refine L.ef (e_call rfl (iadd_ok _ _ Ls Qq _ hT hTQ hS h4Q.sm hqa hwQ) rfl ?_)
                                              rintro _ w25 ⟨v25, Lra, rfl, hOra, hqra, he25⟩
                                              obtain ⟨ara, cra, rfl⟩ := own_form hOra.top
                                              have h4ra := addP_s4 hqra
                                              have hTra := hOra.tl
                                              replace hE := hE.ext he25
                                              replace hT := hT.ext he25
                                              replace hP := hP.ext he25
                                              replace hbp := hbp.ext he25
                                              replace hTP := hTP.ext he25
                                              replace hbq := hbq.ext he25
                                              replace hTQ := hTQ.ext he25
                                              replace hbr := hbr.ext he25
                                              replace hTsa := hTsa.ext he25
                                              replace hbsa := hbsa.ext he25
                                              replace hTm := hTm.ext he25
                                              replace hbm := hbm.ext he25
                                              refine L.rd (rd_move rfl) rfl ?_
                                              refine L.rd (rd_ext0 rfl) rfl ?_
                                              refine L.rd (rd_ext1 rfl) rfl ?_
                                              refine L.ef (e_alloc (cs := [_]) tok rfl rfl (by first | (simp only [size_addB, size_setB, size_drew]; rfl) | rfl) rfl ?_)
                                              refine L.ef (e_store (vs := [_]) tok rfl rfl rfl rfl (by (repeat (first | assumption | (refine Bl.new' ?_ _ _; first | with_reducible rfl | (simp only [size_addB, size_setB, size_drew]; done)) | apply Bl.add | apply Bl.drew | (apply Bl.setNe; omega) | (refine Bl.set' ?_ _ _; (try simp only [size_addB, size_setB, size_drew]); omega)))) rfl (by simp [Value.oneCell']) (by simp) ?_)
                                              refine L.rd (rd_assign rfl) rfl ?_
                                              refine L.nil ?_
                                              refine X.sq ?_
                                              refine V.seq ?_
                                              generalize hw26 : setB _ _ _ _ = w26
                                              have he26 := ext_of_new hw26
                                              have hbra : Bl w26 w25.heap.size 34 [.slice ara Lra.length cra] := bl_of_new hw26
                                              replace hE := hE.ext he26
                                              replace hT := hT.ext he26
                                              replace hP := hP.ext he26
                                              replace hbp := hbp.ext he26
                                              replace hTP := hTP.ext he26
                                              replace hbq := hbq.ext he26
                                              replace hTQ := hTQ.ext he26
                                              replace hbr := hbr.ext he26
                                              replace hTsa := hTsa.ext he26
                                              replace hbsa := hbsa.ext he26
                                              replace hTm := hTm.ext he26
                                              replace hbm := hbm.ext he26
                                              replace hTra := hTra.ext he26
                                              refine V.region ?_
                                              refine L.rd (rd_loadN tok rfl rfl rfl hbr.cells rfl) rfl ?_
                                              refine L.rd (rd_loadN tok rfl rfl rfl hbq.cells rfl) rfl ?_
                                              refine L.ef (e_call rfl (sadd_ok _ _ Ls Qq _ hT hTQ hS h4Q.sm hqa hwQ) rfl ?_)
                                              rintro _ w27 ⟨v27, Lrb, rfl, hOrb, hqrb, he27⟩
                                              obtain ⟨arb, crb, rfl⟩ := own_form hOrb.top
                                              have h4rb := addP_s4 hqrb
                                              have hTrb := hOrb.tl
                                              replace hE := hE.ext he27
                                              replace hT := hT.ext he27
                                              replace hP := hP.ext he27
                                              replace hbp := hbp.ext he27
                                              replace hTP := hTP.ext he27
                                              replace hbq := hbq.ext he27
                                              replace hTQ := hTQ.ext he27
                                              replace hbr := hbr.ext he27
                                              replace hTsa := hTsa.ext he27
                                              replace hbsa := hbsa.ext he27
                                              replace hTm := hTm.ext he27
                                              replace hbm := hbm.ext he27
                                              replace hTra := hTra.ext he27
                                              replace hbra := hbra.ext he27
                                              refine L.rd (rd_move rfl) rfl ?_
                                              refine L.rd (rd_ext0 rfl) rfl ?_
                                              refine L.rd (rd_ext1 rfl) rfl ?_
                                              refine L.ef (e_alloc (cs := [_]) tok rfl rfl (by first | (simp only [size_addB, size_setB, size_drew]; rfl) | rfl) rfl ?_)
                                              refine L.ef (e_store (vs := [_]) tok rfl rfl rfl rfl (by (repeat (first | assumption | (refine Bl.new' ?_ _ _; first | with_reducible rfl | (simp only [size_addB, size_setB, size_drew]; done)) | apply Bl.add | apply Bl.drew | (apply Bl.setNe; omega) | (refine Bl.set' ?_ _ _; (try simp only [size_addB, size_setB, size_drew]); omega)))) rfl (by simp [Value.oneCell']) (by simp) ?_)
                                              refine L.rd (rd_assign rfl) rfl ?_
                                              refine L.nil ?_
                                              refine X.sq ?_
                                              refine V.seq ?_
                                              refine V.seq ?_
                                              generalize hw28 : setB _ _ _ _ = w28
                                              have he28 := ext_of_new hw28
                                              have hbrb : Bl w28 w27.heap.size 34 [.slice arb Lrb.length crb] := bl_of_new hw28
                                              replace hE := hE.ext he28
                                              replace hT := hT.ext he28
                                              replace hP := hP.ext he28
                                              replace hbp := hbp.ext he28
                                              replace hTP := hTP.ext he28
                                              replace hbq := hbq.ext he28
                                              replace hTQ := hTQ.ext he28
                                              replace hbr := hbr.ext he28
                                              replace hTsa := hTsa.ext he28
                                              replace hbsa := hbsa.ext he28
                                              replace hTm := hTm.ext he28
                                              replace hbm := hbm.ext he28
                                              replace hTra := hTra.ext he28
                                              replace hbra := hbra.ext he28
                                              replace hTrb := hTrb.ext he28
                                              refine V.region ?_
                                              refine L.rd (rd_move rfl) rfl ?_
                                              refine L.rd (rd_move rfl) rfl ?_
                                              refine L.rd (rd_neqB tok rfl rfl rfl rfl) rfl ?_
                                              refine L.rd (rd_move rfl) rfl ?_
                                              first | refine L.partG rfl rfl (fun g221 => ?_) (fun g221 => ?_) | refine L.partGB rfl rfl (fun g221 => ?_) (fun g221 => ?_)
                                              ·
                                                exact absurd rfl g221
                                              ·
                                                refine L.yes rfl rfl ?_
                                                refine L.rd (rd_loadN tok rfl rfl rfl hbra.cells rfl) rfl ?_
                                                refine L.yes rfl rfl ?_
                                                refine L.rd (rd_loadN tok rfl rfl rfl hbrb.cells rfl) rfl ?_
                                                refine L.yes rfl rfl ?_
                                                refine L.ef (e_call rfl (eqPoly_ok _ _ Lra Lrb _ hTra hTrb h4ra.sm) rfl ?_)
                                                rintro _ w29 ⟨rfl, he29⟩
                                                refine L.yes rfl rfl ?_
                                                first | refine L.rd (rd_not rfl) rfl ?_ | refine L.rd (rd_notB rfl) rfl ?_
                                                refine L.rd (rd_pickF rfl rfl) rfl ?_
                                                refine L.nil ?_
                                                refine X.sq ?_
                                                first | refine V.cond rfl (fun h226 => ?_) (fun h226 => ?_) | refine V.condB rfl (fun h226 => ?_) (fun h226 => ?_)
                                                ·
                                                  exact absurd (hqra.trans hqrb.symm) h226
                                                ·
                                                  refine V.skip ?_
                                                  refine X.sq ?_
                                                  refine V.seq ?_
                                                  skip
                                                  replace hE := hE.ext he29
                                                  replace hT := hT.ext he29
                                                  replace hP := hP.ext he29
                                                  replace hbp := hbp.ext he29
                                                  replace hTP := hTP.ext he29
                                                  replace hbq := hbq.ext he29
                                                  replace hTQ := hTQ.ext he29
                                                  replace hbr := hbr.ext he29
                                                  replace hTsa := hTsa.ext he29
                                                  replace hbsa := hbsa.ext he29
                                                  replace hTm := hTm.ext he29
                                                  replace hbm := hbm.ext he29
                                                  replace hTra := hTra.ext he29
                                                  replace hbra := hbra.ext he29
                                                  replace hTrb := hTrb.ext he29
                                                  replace hbrb := hbrb.ext he29
                                                  refine V.region ?_
                                                  refine L.rd (rd_loadN tok rfl rfl rfl hbq.cells rfl) rfl ?_
                                                  refine L.rd (rd_loadN tok rfl rfl rfl hbr.cells rfl) rfl ?_
                                                  refine L.ef (e_call rfl (imul_ok _ _ Qq Ls _ hTQ hT h4Q.sm hS hwQ hqa) rfl ?_)
                                                  rintro _ w30 ⟨v30, Lu, rfl, hOu, hqu, he30⟩
                                                  obtain ⟨au, cu, rfl⟩ := own_form hOu.top
                                                  have h4u := mulP_s4 hqu
                                                  have hTu := hOu.tl
                                                  replace hE := hE.ext he30
                                                  replace hT := hT.ext he30
                                                  replace hP := hP.ext he30
                                                  replace hbp := hbp.ext he30
                                                  replace hTP := hTP.ext he30
                                                  replace hbq := hbq.ext he30
                                                  replace hTQ := hTQ.ext he30
                                                  replace hbr := hbr.ext he30
                                                  replace hTsa := hTsa.ext he30
                                                  replace hbsa := hbsa.ext he30
                                                  replace hTm := hTm.ext he30
                                                  replace hbm := hbm.ext he30
                                                  refine L.rd (rd_move rfl) rfl ?_
                                                  refine L.rd (rd_ext0 rfl) rfl ?_
                                                  refine L.rd (rd_ext1 rfl) rfl ?_
                                                  refine L.ef (e_alloc (cs := [_]) tok rfl rfl (by first | (simp only [size_addB, size_setB, size_drew]; rfl) | rfl) rfl ?_)
                                                  refine L.ef (e_store (vs := [_]) tok rfl rfl rfl rfl (by (repeat (first | assumption | (refine Bl.new' ?_ _ _; first | with_reducible rfl | (simp only [size_addB, size_setB, size_drew]; done)) | apply Bl.add | apply Bl.drew | (apply Bl.setNe; omega) | (refine Bl.set' ?_ _ _; (try simp only [size_addB, size_setB, size_drew]); omega)))) rfl (by simp [Value.oneCell']) (by simp) ?_)
                                                  refine L.rd (rd_assign rfl) rfl ?_
                                                  refine L.nil ?_
                                                  refine X.sq ?_
                                                  refine V.seq ?_
                                                  generalize hw31 : setB _ _ _ _ = w31
                                                  have he31 := ext_of_new hw31
                                                  have hbu : Bl w31 w30.heap.size 34 [.slice au Lu.length cu] := bl_of_new hw31
                                                  replace hE := hE.ext he31
                                                  replace hT := hT.ext he31
                                                  replace hP := hP.ext he31
                                                  replace hbp := hbp.ext he31
                                                  replace hTP := hTP.ext he31
                                                  replace hbq := hbq.ext he31
                                                  replace hTQ := hTQ.ext he31
                                                  replace hbr := hbr.ext he31
                                                  replace hTsa := hTsa.ext he31
                                                  replace hbsa := hbsa.ext he31
                                                  replace hTm := hTm.ext he31
                                                  replace hbm := hbm.ext he31
                                                  replace hTu := hTu.ext he31
                                                  refine V.region ?_
                                                  refine L.rd (rd_loadN tok rfl rfl rfl hbq.cells rfl) rfl ?_
                                                  refine L.rd (rd_loadN tok rfl rfl rfl hbr.cells rfl) rfl ?_
                                                  refine L.ef (e_call rfl (smul_ok _ _ Qq Ls _ hTQ hT h4Q.sm hS hwQ hqa) rfl ?_)
                                                  rintro _ w32 ⟨v32, Lu2, rfl, hOu2, hqu2, he32⟩
                                                  obtain ⟨au2, cu2, rfl⟩ := own_form hOu2.top
                                                  have h4u2 := mulP_s4 hqu2
                                                  have hTu2 := hOu2.tl
                                                  replace hE := hE.ext he32
                                                  replace hT := hT.ext he32
                                                  replace hP := hP.ext he32
                                                  replace hbp := hbp.ext he32
                                                  replace hTP := hTP.ext he32
                                                  replace hbq := hbq.ext he32
                                                  replace hTQ := hTQ.ext he32
                                                  replace hbr := hbr.ext he32
                                                  replace hTsa := hTsa.ext he32
                                                  replace hbsa := hbsa.ext he32
                                                  replace hTm := hTm.ext he32
                                                  replace hbm := hbm.ext he32
                                                  replace hTu := hTu.ext he32
                                                  replace hbu := hbu.ext he32
                                                  refine L.rd (rd_move rfl) rfl ?_
                                                  refine L.rd (rd_ext0 rfl) rfl ?_
                                                  refine L.rd (rd_ext1 rfl) rfl ?_
                                                  refine L.ef (e_alloc (cs := [_]) tok rfl rfl (by first | (simp only [size_addB, size_setB, size_drew]; rfl) | rfl) rfl ?_)
                                                  refine L.ef (e_store (vs := [_]) tok rfl rfl rfl rfl (by (repeat (first | assumption | (refine Bl.new' ?_ _ _; first | with_reducible rfl | (simp only [size_addB, size_setB, size_drew]; done)) | apply Bl.add | apply Bl.drew | (apply Bl.setNe; omega) | (refine Bl.set' ?_ _ _; (try simp only [size_addB, size_setB, size_drew]); omega)))) rfl (by simp [Value.oneCell']) (by simp) ?_)
                                                  refine L.rd (rd_assign rfl) rfl ?_
                                                  refine L.nil ?_
                                                  refine X.sq ?_
                                                  refine V.seq ?_
                                                  refine V.seq ?_
                                                  generalize hw33 : setB _ _ _ _ = w33
                                                  have he33 := ext_of_new hw33
                                                  have hbu2 : Bl w33 w32.heap.size 34 [.slice au2 Lu2.length cu2] := bl_of_new hw33
                                                  replace hE := hE.ext he33
                                                  replace hT := hT.ext he33
                                                  replace hP := hP.ext he33
                                                  replace hbp := hbp.ext he33
                                                  replace hTP := hTP.ext he33
                                                  replace hbq := hbq.ext he33
                                                  replace hTQ := hTQ.ext he33
                                                  replace hbr := hbr.ext he33
                                                  replace hTsa := hTsa.ext he33
                                                  replace hbsa := hbsa.ext he33
                                                  replace hTm := hTm.ext he33
                                                  replace hbm := hbm.ext he33
                                                  replace hTu := hTu.ext he33
                                                  replace hbu := hbu.ext he33
                                                  replace hTu2 := hTu2.ext he33
                                                  refine V.region ?_
                                                  refine L.rd (rd_move rfl) rfl ?_
                                                  refine L.rd (rd_move rfl) rfl ?_
                                                  refine L.rd (rd_neqB tok rfl rfl rfl rfl) rfl ?_
                                                  refine L.rd (rd_move rfl) rfl ?_
                                                  first | refine L.partG rfl rfl (fun g242 => ?_) (fun g242 => ?_) | refine L.partGB rfl rfl (fun g242 => ?_) (fun g242 => ?_)
                                                  ·
                                                    exact absurd rfl g242
                                                  ·
                                                    refine L.yes rfl rfl ?_
                                                    refine L.rd (rd_loadN tok rfl rfl rfl hbu.cells rfl) rfl ?_
                                                    refine L.yes rfl rfl ?_
                                                    refine L.rd (rd_loadN tok rfl rfl rfl hbu2.cells rfl) rfl ?_
                                                    refine L.yes rfl rfl ?_
                                                    refine L.ef (e_call rfl (eqPoly_ok _ _ Lu Lu2 _ hTu hTu2 h4u.sm) rfl ?_)
                                                    rintro _ w34 ⟨rfl, he34⟩
                                                    refine L.yes rfl rfl ?_
                                                    first | refine L.rd (rd_not rfl) rfl ?_ | refine L.rd (rd_notB rfl) rfl ?_
                                                    refine L.rd (rd_pickF rfl rfl) rfl ?_
                                                    refine L.nil ?_
                                                    refine X.sq ?_
                                                    first | refine V.cond rfl (fun h247 => ?_) (fun h247 => ?_) | refine V.condB rfl (fun h247 => ?_) (fun h247 => ?_)
                                                    ·
                                                      exact absurd (hqu.trans hqu2.symm) h247
                                                    ·
                                                      refine V.skip ?_
                                                      refine X.sq ?_
                                                      refine V.seq ?_
                                                      skip
                                                      replace hE := hE.ext he34
                                                      replace hT := hT.ext he34
                                                      replace hP := hP.ext he34
                                                      replace hbp := hbp.ext he34
                                                      replace hTP := hTP.ext he34
                                                      replace hbq := hbq.ext he34
                                                      replace hTQ := hTQ.ext he34
                                                      replace hbr := hbr.ext he34
                                                      replace hTsa := hTsa.ext he34
                                                      replace hbsa := hbsa.ext he34
                                                      replace hTm := hTm.ext he34
                                                      replace hbm := hbm.ext he34
                                                      replace hTu := hTu.ext he34
                                                      replace hbu := hbu.ext he34
                                                      replace hTu2 := hTu2.ext he34
                                                      replace hbu2 := hbu2.ext he34
                                                      refine V.region ?_
                                                      refine L.rd (rd_loadN tok rfl rfl rfl hbp.cells rfl) rfl ?_
                                                      refine L.rd (rd_move rfl) rfl ?_
                                                      refine L.ef (e_call rfl (ieval_ok _ _ Pp pt _ hTP h4P.sm hP.rs) rfl ?_)
                                                      rintro _ w35 ⟨rfl, he35⟩
                                                      replace hE := hE.ext he35
                                                      replace hT := hT.ext he35
                                                      replace hP := hP.ext he35
                                                      replace hbp := hbp.ext he35
                                                      replace hTP := hTP.ext he35
                                                      replace hbq := hbq.ext he35
                                                      replace hTQ := hTQ.ext he35
                                                      replace hbr := hbr.ext he35
                                                      replace hTsa := hTsa.ext he35
                                                      replace hbsa := hbsa.ext he35
                                                      replace hTm := hTm.ext he35
                                                      replace hbm := hbm.ext he35
                                                      refine L.rd (rd_move rfl) rfl ?_
                                                      refine L.rd (rd_ext0 rfl) rfl ?_
                                                      refine L.rd (rd_ext1 rfl) rfl ?_
                                                      refine L.rd (rd_assign rfl) rfl ?_
                                                      refine L.rd (rd_assign rfl) rfl ?_
                                                      refine L.nil ?_
                                                      refine X.sq ?_
                                                      refine V.seq ?_
                                                      refine V.region ?_
                                                      refine L.rd (rd_loadN tok rfl rfl rfl hbp.cells rfl) rfl ?_
                                                      refine L.rd (rd_move rfl) rfl ?_
                                                      refine L.ef (e_call rfl (seval_ok _ _ Pp pt _ hTP h4P.sm hP.rs) rfl ?_)
                                                      rintro _ w36 ⟨rfl, he36⟩
                                                      replace hE := hE.ext he36
                                                      replace hT := hT.ext he36
                                                      replace hP := hP.ext he36
                                                      replace hbp := hbp.ext he36
                                                      replace hTP := hTP.ext he36
                                                      replace hbq := hbq.ext he36
                                                      replace hTQ := hTQ.ext he36
                                                      replace hbr := hbr.ext he36
                                                      replace hTsa := hTsa.ext he36
                                                      replace hbsa := hbsa.ext he36
                                                      replace hTm := hTm.ext he36
                                                      replace hbm := hbm.ext he36
                                                      refine L.rd (rd_move rfl) rfl ?_
                                                      refine L.rd (rd_ext0 rfl) rfl ?_
                                                      refine L.rd (rd_ext1 rfl) rfl ?_
                                                      refine L.rd (rd_assign rfl) rfl ?_
                                                      refine L.rd (rd_assign rfl) rfl ?_
                                                      refine L.nil ?_
                                                      refine X.sq ?_
                                                      refine V.seq ?_
                                                      refine V.seq ?_
                                                      refine V.region ?_
                                                      refine L.rd (rd_move rfl) rfl ?_
                                                      refine L.rd (rd_move rfl) rfl ?_
                                                      refine L.rd (rd_neqB tok rfl rfl rfl rfl) rfl ?_
                                                      refine L.rd (rd_move rfl) rfl ?_
                                                      first | refine L.partG rfl rfl (fun g263 => ?_) (fun g263 => ?_) | refine L.partGB rfl rfl (fun g263 => ?_) (fun g263 => ?_)
                                                      ·
                                                        exact absurd rfl g263
                                                      ·
                                                        refine L.yes rfl rfl ?_
                                                        refine L.rd (rd_move rfl) rfl ?_
                                                        refine L.yes rfl rfl ?_
                                                        refine L.rd (rd_move rfl) rfl ?_
                                                        refine L.yes rfl rfl ?_
                                                        refine L.rd (rd_neq rfl rfl) rfl ?_
                                                        refine L.rd (rd_pickF rfl rfl) rfl ?_
                                                        refine L.nil ?_
                                                        refine X.sq ?_
                                                        first | refine V.cond rfl (fun h267 => ?_) (fun h267 => ?_) | refine V.condB rfl (fun h267 => ?_) (fun h267 => ?_)
                                                        ·
                                                          exact absurd rfl h267
                                                        ·
                                                          refine V.skip ?_
                                                          refine X.sq ?_
                                                          refine V.seq ?_
                                                          refine V.seq ?_
                                                          refine V.region ?_
                                                          refine L.rd (rd_move rfl) rfl ?_
                                                          refine L.nil ?_
                                                          refine X.sq ?_
                                                          refine V.cut (fun l w' => l = [] ∧ Ext w.heap.size w w') ?_ ?_
                                                          ·
                                                            first | refine V.cond rfl (fun h268 => ?_) (fun h268 => ?_) | refine V.condB rfl (fun h268 => ?_) (fun h268 => ?_)
                                                            ·
                                                              have hlen : pt.length = 26 := by
                                                                unfold evOk at h268
                                                                simp only [Bool.and_eq_true, decide_eq_true_eq] at h268
                                                                exact h268.2
                                                              have heQ : evOk (pol Qq) pt = true := by unfold evOk; rw [hcQ, decide_eq_true hlen]; rfl
                                                              refine V.seq ?_
                                                              refine V.region ?_
                                                              refine L.rd (rd_loadN tok rfl rfl rfl hbq.cells rfl) rfl ?_
                                                              refine L.rd (rd_move rfl) rfl ?_
                                                              refine L.ef (e_call rfl (seval_ok _ _ Qq pt _ hTQ h4Q.sm hP.rs) rfl ?_)
                                                              rintro _ wQ ⟨rfl, heQ2⟩
                                                              replace hE := hE.ext heQ2
                                                              replace hT := hT.ext heQ2
                                                              replace hP := hP.ext heQ2
                                                              replace hbp := hbp.ext heQ2
                                                              replace hTP := hTP.ext heQ2
                                                              replace hbq := hbq.ext heQ2
                                                              replace hTQ := hTQ.ext heQ2
                                                              replace hbr := hbr.ext heQ2
                                                              replace hTsa := hTsa.ext heQ2
                                                              replace hbsa := hbsa.ext heQ2
                                                              replace hTm := hTm.ext heQ2
                                                              replace hbm := hbm.ext heQ2
                                                              refine L.rd (rd_move rfl) rfl ?_
                                                              refine L.rd (rd_ext0 rfl) rfl ?_
                                                              refine L.rd (rd_ext1 rfl) rfl ?_
                                                              refine L.rd (rd_assign rfl) rfl ?_
                                                              refine L.rd (rd_assign rfl) rfl ?_
                                                              refine L.nil ?_
                                                              refine X.sq ?_
                                                              refine V.seq ?_
                                                              refine V.seq ?_
                                                              refine V.region ?_
                                                              refine L.rd (rd_move rfl) rfl ?_
                                                              refine L.nil ?_
                                                              refine X.sq ?_
                                                              refine V.cut (fun l w' => l = [(2, .slice pa pt.length pc), (21, .pointer (some ⟨w17.heap.size, 0, none⟩)), (22, .bool (mulP (pol Pp) (pol Qq)).isSome), (37, .int .i64 (if evOk (pol Pp) pt = true then evalP (pol Pp) pt else 0)), (39, .int .i64 (if evOk (pol Qq) pt = true then evalP (pol Qq) pt else 0))] ∧ Ext wQ.heap.size wQ w') ?_ ?_
                                                              ·
                                                                first | refine V.cond rfl (fun h275 => ?_) (fun h275 => ?_) | refine V.condB rfl (fun h275 => ?_) (fun h275 => ?_)
                                                                ·
                                                                  obtain ⟨s9, hs9⟩ := Option.isSome_iff_exists.1 h275
                                                                  rw [hs9, Option.getD_some] at hqsa
                                                                  obtain ⟨hcs, hvs⟩ := addP_ev pt hs9
                                                                  have heVs : evOk (pol Lsa) pt = true := by unfold evOk; rw [hqsa, hcs, decide_eq_true hlen]; rfl
                                                                  refine V.seq ?_
                                                                  refine V.region ?_
                                                                  refine L.rd (rd_loadN tok rfl rfl rfl hbsa.cells rfl) rfl ?_
                                                                  refine L.rd (rd_move rfl) rfl ?_
                                                                  refine L.ef (e_call rfl (ieval_ok _ _ Lsa pt _ hTsa h4sa.sm hP.rs) rfl ?_)
                                                                  rintro _ wV ⟨rfl, heV⟩
                                                                  refine L.rd (rd_move rfl) rfl ?_
                                                                  refine L.rd (rd_ext0 rfl) rfl ?_
                                                                  refine L.rd (rd_ext1 rfl) rfl ?_
                                                                  refine L.rd (rd_assign rfl) rfl ?_
                                                                  refine L.rd (rd_assign rfl) rfl ?_
                                                                  refine L.nil ?_
                                                                  refine X.sq ?_
                                                                  refine V.seq ?_
                                                                  refine V.region ?_
                                                                  refine L.rd (rd_move rfl) rfl ?_
                                                                  first | refine L.rd (rd_not rfl) rfl ?_ | refine L.rd (rd_notB rfl) rfl ?_
                                                                  refine L.rd (rd_move rfl) rfl ?_
                                                                  first | refine L.partG rfl rfl (fun g284 => ?_) (fun g284 => ?_) | refine L.partGB rfl rfl (fun g284 => ?_) (fun g284 => ?_)
                                                                  ·
                                                                    simp [heVs] at g284
                                                                  ·
                                                                    refine L.yes rfl rfl ?_
                                                                    refine L.rd (rd_move rfl) rfl ?_
                                                                    refine L.yes rfl rfl ?_
                                                                    refine L.rd (rd_move rfl) rfl ?_
                                                                    refine L.yes rfl rfl ?_
                                                                    refine L.rd (rd_move rfl) rfl ?_
                                                                    refine L.yes rfl rfl ?_
                                                                    refine L.rd (rd_addE (r := w64 ((if evOk (pol Pp) pt = true then evalP (pol Pp) pt else 0) + (if evOk (pol Qq) pt = true then evalP (pol Qq) pt else 0))) rfl rfl rfl) rfl ?_
                                                                    refine L.yes rfl rfl ?_
                                                                    refine L.rd (rd_neq rfl rfl) rfl ?_
                                                                    refine L.rd (rd_pickF rfl rfl) rfl ?_
                                                                    refine L.nil ?_
                                                                    refine X.sq ?_
                                                                    first | refine V.cond rfl (fun h290 => ?_) (fun h290 => ?_) | refine V.condB rfl (fun h290 => ?_) (fun h290 => ?_)
                                                                    ·
                                                                      refine absurd ?_ h290
                                                                      rw [if_pos heVs, if_pos h268, if_pos heQ, hqsa]
                                                                      exact hvs
                                                                    ·
                                                                      refine V.skip ?_
                                                                      exact X.ct ⟨_, (by repeat' (first | exact trivial | refine ⟨rfl, ?_⟩)), rfl, heV⟩
                                                                ·
                                                                  refine V.skip ?_
                                                                  exact X.ct ⟨_, (by repeat' (first | exact trivial | refine ⟨rfl, ?_⟩)), rfl, Ext.refl _ _⟩
                                                              ·
                                                                rintro l wZ ⟨rfl, heZ⟩
                                                                replace hE := hE.ext heZ
                                                                replace hT := hT.ext heZ
                                                                replace hP := hP.ext heZ
                                                                replace hbp := hbp.ext heZ
                                                                replace hTP := hTP.ext heZ
                                                                replace hbq := hbq.ext heZ
                                                                replace hTQ := hTQ.ext heZ
                                                                replace hbr := hbr.ext heZ
                                                                replace hTsa := hTsa.ext heZ
                                                                replace hbsa := hbsa.ext heZ
                                                                replace hTm := hTm.ext heZ
                                                                replace hbm := hbm.ext heZ
                                                                refine X.sq ?_
                                                                refine V.seq ?_
                                                                refine V.region ?_
                                                                refine L.rd (rd_move rfl) rfl ?_
                                                                refine L.nil ?_
                                                                refine X.sq ?_
                                                                first | refine V.cond rfl (fun h291 => ?_) (fun h291 => ?_) | refine V.condB rfl (fun h291 => ?_) (fun h291 => ?_)
                                                                ·
                                                                  obtain ⟨s9, hs9⟩ := Option.isSome_iff_exists.1 h291
                                                                  rw [hs9, Option.getD_some] at hqm
                                                                  obtain ⟨hcs, hvs⟩ := mulP_ev pt hs9
                                                                  have heVs : evOk (pol Lm) pt = true := by unfold evOk; rw [hqm, hcs, decide_eq_true hlen]; rfl
                                                                  refine V.seq ?_
                                                                  refine V.region ?_
                                                                  refine L.rd (rd_loadN tok rfl rfl rfl hbm.cells rfl) rfl ?_
                                                                  refine L.rd (rd_move rfl) rfl ?_
                                                                  refine L.ef (e_call rfl (ieval_ok _ _ Lm pt _ hTm h4m.sm hP.rs) rfl ?_)
                                                                  rintro _ wV ⟨rfl, heV⟩
                                                                  refine L.rd (rd_move rfl) rfl ?_
                                                                  refine L.rd (rd_ext0 rfl) rfl ?_
                                                                  refine L.rd (rd_ext1 rfl) rfl ?_
                                                                  refine L.rd (rd_assign rfl) rfl ?_
                                                                  refine L.rd (rd_assign rfl) rfl ?_
                                                                  refine L.nil ?_
                                                                  refine X.sq ?_
                                                                  refine V.seq ?_
                                                                  refine V.region ?_
                                                                  refine L.rd (rd_move rfl) rfl ?_
                                                                  first | refine L.rd (rd_not rfl) rfl ?_ | refine L.rd (rd_notB rfl) rfl ?_
                                                                  refine L.rd (rd_move rfl) rfl ?_
                                                                  first | refine L.partG rfl rfl (fun g300 => ?_) (fun g300 => ?_) | refine L.partGB rfl rfl (fun g300 => ?_) (fun g300 => ?_)
                                                                  ·
                                                                    simp [heVs] at g300
                                                                  ·
                                                                    refine L.yes rfl rfl ?_
                                                                    refine L.rd (rd_move rfl) rfl ?_
                                                                    refine L.yes rfl rfl ?_
                                                                    refine L.rd (rd_move rfl) rfl ?_
                                                                    refine L.yes rfl rfl ?_
                                                                    refine L.rd (rd_move rfl) rfl ?_
                                                                    refine L.yes rfl rfl ?_
                                                                    refine L.rd (rd_mulE (r := w64 ((if evOk (pol Pp) pt = true then evalP (pol Pp) pt else 0) * (if evOk (pol Qq) pt = true then evalP (pol Qq) pt else 0))) rfl rfl rfl) rfl ?_
                                                                    refine L.yes rfl rfl ?_
                                                                    refine L.rd (rd_neq rfl rfl) rfl ?_
                                                                    refine L.rd (rd_pickF rfl rfl) rfl ?_
                                                                    refine L.nil ?_
                                                                    refine X.sq ?_
                                                                    first | refine V.cond rfl (fun h306 => ?_) (fun h306 => ?_) | refine V.condB rfl (fun h306 => ?_) (fun h306 => ?_)
                                                                    ·
                                                                      refine absurd ?_ h306
                                                                      rw [if_pos heVs, if_pos h268, if_pos heQ, hqm]
                                                                      exact hvs
                                                                    ·
                                                                      refine V.skip ?_
                                                                      exact X.ct ⟨_, (by repeat' (first | exact trivial | refine ⟨rfl, ?_⟩)), rfl, hE.ext heV⟩
                                                                ·
                                                                  refine V.skip ?_
                                                                  exact X.ct ⟨_, (by repeat' (first | exact trivial | refine ⟨rfl, ?_⟩)), rfl, hE⟩
                                                            ·
                                                              refine V.skip ?_
                                                              exact X.ct ⟨_, (by repeat' (first | exact trivial | refine ⟨rfl, ?_⟩)), rfl, hE⟩
                                                          ·
                                                            rintro l wX ⟨rfl, hEX⟩
                                                            refine X.sq ?_
                                                            refine V.seq ?_
                                                            refine V.region ?_
                                                            refine L.rd (rd_assign rfl) rfl ?_
                                                            refine L.nil ?_
                                                            refine X.sq ?_
                                                            refine V.ret ?_
                                                            refine ret_1 Yaam.results10 rfl ?_
                                                            exact ⟨rfl, hEX⟩
open Go.ChangeShapes Go.WideShapes Go.ChangeAt Go.RowKit
theorem own : ownKnob Yaam.prog.godebug = none := by kernel_rfl
theorem laidOut : laidOutB Yaam.prog = true := by kernel_rfl
theorem readable0 : Yaam.prog.readableRec 32 = true := by kernel_rfl
theorem readable1 : Yaam.prog.readableRec 32 = true := by kernel_rfl
theorem readable2 : Yaam.prog.readableRec 22 = true := by kernel_rfl

set_option maxRecDepth 100000 in
theorem lifted (os : Os) (started : os.Started) (H : Type) (enc : TypeId × Value → H) :
    ReturnsInHanded {} Yaam.checked os 10 .any (Rows.fnPolyRingSpec.pre6 enc Yaam.prog Yaam.f10 Rows.fnPolyRingRow.domain false) (Rows.fnPolyRingSpec.post enc Yaam.prog Yaam.f10 false true false false) := by
  refine returnsInHanded_of_change_sized (C := Yaam.checked) own started (by kernel_rfl) Yaam.func10
    (ChangeSpec.witness6 (enc := enc) (C := Yaam.checked) false ⟨#[], #[.slice none 0 0, .slice none 0 0, .slice none 0 0], []⟩ 8 (by kernel_rfl) (by kernel_rfl) (by kernel_rfl) (by kernel_rfl)) ?_
  intro W base args ds gs before hval0 hW hcnd hwt0 _
  have hval : ∀ (j : Nat) t v, Yaam.f10.params[j]? = some t → args[j]? = some v → Value.okWide Yaam.prog W .any base t v := hval0
  have hwt : (DataW.weightsEach Yaam.prog (Yaam.f10.params.toList ++ _) (ds ++ gs)).all (· ≤ reachBytes) = true := hwt0
  have hW' := hW
  obtain ⟨p, q, hA0, hV, rfl, hfz, hnd⟩ := hW
  have hA : DataW.TrodAll enc Yaam.prog W 0 (fun _ => true) true Yaam.f10.params.toList args.toList ds p := hA0
  rw [Yaam.params10] at hA hval hwt
  obtain ⟨v0, vs0, d0, ds0, p0, q0, hargs0, rfl, rfl, h0, r0⟩ := trodAll_cons hA
  obtain ⟨v1, vs1, d1, ds1, p1, q1, hargs1, rfl, rfl, h1, r1⟩ := trodAll_cons r0
  obtain ⟨v2, vs2, d2, ds2, p2, q2, hargs2, rfl, rfl, h2, r2⟩ := trodAll_cons r1
  obtain ⟨hnil, rfl, rfl⟩ := trodAll_nil r2
  obtain rfl : args = #[v0, v1, v2] := by cases args; simp_all
  obtain ⟨rfl, rfl⟩ := trodVars_none hV
  have hok0 := hval 0 32 v0 rfl rfl
  have hww0 := weights_arg hwt (j := 0) rfl rfl
  obtain ⟨fuel0, hy0⟩ := id h0
  rw [one_cell Yaam.underlying32 hok0] at hy0
  obtain ⟨Ls0, hT0, hL0, hF0⟩ := tl_of_trod Yaam.underlying32 Yaam.underlying58 (by kernel_rfl) rfl rfl (by kernel_rfl) (by kernel_rfl) (by kernel_rfl) Yaam.underlying56 Yaam.underlying109 (by kernel_rfl) rfl rfl (by kernel_rfl) (by kernel_rfl) (by kernel_rfl) (by kernel_rfl) (by decide +kernel) (by decide +kernel) hy0 hww0
  have hok1 := hval 1 32 v1 rfl rfl
  have hww1 := weights_arg hwt (j := 1) rfl rfl
  obtain ⟨fuel1, hy1⟩ := id h1
  rw [one_cell Yaam.underlying32 hok1] at hy1
  obtain ⟨Ls1, hT1, hL1, hF1⟩ := tl_of_trod Yaam.underlying32 Yaam.underlying58 (by kernel_rfl) rfl rfl (by kernel_rfl) (by kernel_rfl) (by kernel_rfl) Yaam.underlying56 Yaam.underlying109 (by kernel_rfl) rfl rfl (by kernel_rfl) (by kernel_rfl) (by kernel_rfl) (by kernel_rfl) (by decide +kernel) (by decide +kernel) hy1 hww1
  have hok2 := hval 2 22 v2 rfl rfl
  have hww2 := weights_arg hwt (j := 2) rfl rfl
  obtain ⟨fuel2, hy2⟩ := id h2
  rw [one_cell Yaam.underlying22 hok2] at hy2
  obtain ⟨zs2, hR2, hl2, hz2⟩ := ints_of_trod Yaam.underlying22 (by kernel_rfl) (by kernel_rfl) (by decide +kernel) hy2 hww2
  clear hA0 hval0
  simp only [List.append_nil] at hW'
  refine (law v0 v1 v2 Ls0 Ls1 zs2 W hT0 hT1 hR2 (cq_of fun t ht => (hF0 t ht).1) (cq_of fun t ht => (hF1 t ht).1) hL0 hL1 (fun t ht => (hF0 t ht).2.1) (fun t ht => (hF1 t ht).2.1)).call.mono fun e W' ⟨v, he, hv, hg⟩ => ?_
  subst he hv
  exact ⟨_, rfl, post_belowE (pv := []) hW' (fun _ _ _ => (trodAll_mk1 (shut_bool Yaam.underlying4 _))) (trodAll_mk3 (Below.trod laidOut readable0 (by decide +kernel) h0 hg.below (fun x hx => hW'.lt x (by first | exact hx | (simp only [List.mem_append]; simp [hx])))) (Below.trod laidOut readable1 (by decide +kernel) h1 hg.below (fun x hx => hW'.lt x (by first | exact hx | (simp only [List.mem_append]; simp [hx])))) (Below.trod laidOut readable2 (by decide +kernel) h2 hg.below (fun x hx => hW'.lt x (by first | exact hx | (simp only [List.mem_append]; simp [hx]))))) rfl (by simp) hg⟩

theorem over : Rows.fnPolyRingRow.holds Yaam.pinned (OpenSpec.ofChange Rows.fnPolyRingSpec) :=
  OpenClaim.holds_of_wide 10 Yaam.f10 rfl rfl rfl rfl rfl rfl rfl ⟨rfl, rfl, rfl, rfl, rfl⟩ rfl rfl rfl rfl rfl (by kernel_rfl) Yaam.func10 (by kernel_rfl)
    (of_decide_eq_true (by kernel_rfl)) (by unfold Func.isWrapper; first | (rw [if_pos (by decide +kernel)]; kernel_rfl) | (rw [if_neg (by decide +kernel)]; exact ⟨rfl, rfl⟩))
    (fun os started H enc _ => lifted os started H enc)

theorem proved : Rows.FnPolyRingSaid :=
  over
end Go.Proofs.Ybxaaw.fnPolyRing
