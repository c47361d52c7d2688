/-
  laws.eqPoly, walked: two polynomials compared field by field.
-/
import Derived.Test.YbxaawGreatEqTys
import Derived.Test.YbxaawGreatTermW2
set_option linter.unusedVariables false
set_option linter.unusedSimpArgs false
set_option maxRecDepth 10000
namespace Go.Proofs.YbxaawGreat
open Go.Mw

theorem eqPoly_ok (va vb : Value) (As Bs : List Lt) (w : World) {lo hi lo' hi' : Nat} (hA : Tl w lo hi va As) (hB : Tl w lo' hi' vb Bs) (hS : Sm (pol As)) :
    Ret Yaam.prog 21 [.agg #[va], .agg #[vb]] w fun r w' => r = .bool (decide (pol As = pol Bs)) ∧ Ext w.heap.size w w' := by
  obtain ⟨aa, ca, rfl, hfa⟩ := hA.form
  obtain ⟨ab, cb, rfl, hfb⟩ := hB.form
  have hSl := hS.top
  refine enter2 Yaam.func21 Yaam.ntmps21 (by kernel_rfl) rfl rfl ?_
  refine V.seq ?_
  refine V.region ?_
  refine L.ef (e_box (cs := [_]) rfl rfl (by first | (simp only [size_addB, size_setB, size_drew]; rfl) | rfl) rfl ?_)
  refine L.ef (e_box (cs := [_]) rfl rfl (by first | (simp only [size_addB, size_setB, size_drew]; rfl) | rfl) rfl ?_)
  refine L.rd (rd_assign rfl) rfl ?_
  refine L.nil ?_
  refine X.sq ?_
  refine V.seq ?_
  refine V.seq ?_
  have hp := (Bl.new w 44 [.slice aa As.length ca]).add 44 [.slice ab Bs.length cb]
  have hq := Bl.new' (w := addB w 44 [.slice aa As.length ca]) (b := w.heap.size + 1) (by rw [size_addB]) 44 [.slice ab Bs.length cb]
  have hE0 := ((Ext.refl _ w).addNew 44 [.slice aa As.length ca]).addNew 44 [.slice ab Bs.length cb]
  generalize addB (addB w 44 [.slice aa As.length ca]) 44 [.slice ab Bs.length cb] = w0 at hp hq hE0 ⊢
  refine V.region ?_
  refine L.rd (rd_fieldAddr tok rfl rfl rfl rfl rfl rfl) rfl ?_
  refine L.rd (rd_load1 tok rfl rfl rfl (hp.cell rfl)) rfl ?_
  refine L.rd (rd_lenSlice tok rfl rfl rfl) rfl ?_
  refine L.rd (rd_fieldAddr tok rfl rfl rfl rfl rfl rfl) rfl ?_
  refine L.rd (rd_load1 tok rfl rfl rfl (hq.cell rfl)) rfl ?_
  refine L.rd (rd_lenSlice tok rfl rfl rfl) rfl ?_
  refine L.rd (rd_neq rfl rfl) rfl ?_
  refine L.nil ?_
  refine X.sq ?_
  first | refine V.cond rfl (fun h15 => ?_) (fun h15 => ?_) | refine V.condB rfl (fun h15 => ?_) (fun h15 => ?_)
  ·
    refine V.seq ?_
    refine V.region ?_
    refine L.rd (rd_assign rfl) rfl ?_
    refine L.nil ?_
    refine X.sq ?_
    refine V.ret ?_
    refine X.sqRet ?_
    refine ret_1 Yaam.results21 rfl ?_
    refine ⟨congrArg Value.bool (Eq.symm (decide_eq_false ?_)), hE0⟩
    intro e
    have := congrArg List.length e
    simp only [pol_length] at this
    omega
  ·
    refine V.skip ?_
    refine X.sq ?_
    refine V.seq ?_
    refine V.seq ?_
    refine V.region ?_
    refine L.rd (rd_fieldAddr tok rfl rfl rfl rfl rfl rfl) rfl ?_
    refine L.rd (rd_load1 tok rfl rfl rfl (hp.cell rfl)) rfl ?_
    refine L.rd (rd_lenSlice tok rfl rfl rfl) rfl ?_
    refine L.rd (rd_move rfl) rfl ?_
    refine L.nil ?_
    refine X.sq ?_
    refine V.block ?_
    refine V.loop (fun m l wr => ∃ (k : Nat), l = [(2, .pointer (some ⟨w.heap.size, 0, none⟩)), (3, .pointer (some ⟨w.heap.size + 1, 0, none⟩)), (18, .int .i64 As.length), (19, .int .i64 k)] ∧ m = As.length - k ∧ k ≤ As.length ∧ Ext w0.heap.size w0 wr ∧ (pol As).take k = (pol Bs).take k) ?_ ?_
    ·
      exact ⟨_, _, (by repeat' (first | exact trivial | refine ⟨rfl, ?_⟩)), 0, rfl, rfl, by omega, Ext.refl _ _, by simp⟩
    ·
      rintro m l wr ⟨k, rfl, rfl, hk, hE1, htk⟩
      have hpr := hE1.bl hp.lt hp
      have hqr := hE1.bl hq.lt hq
      have hE := hE0.next hE1
      refine V.seq ?_
      refine V.region ?_
      refine L.rd (rd_lss rfl rfl) rfl ?_
      refine L.nil ?_
      refine X.sq ?_
      refine V.seq ?_
      first | refine V.cond rfl (fun h20 => ?_) (fun h20 => ?_) | refine V.condB rfl (fun h20 => ?_) (fun h20 => ?_)
      ·
        obtain ⟨b1, o1, rfl, -, -, hc1⟩ := hfa.resolve_left (by omega)
        obtain ⟨b2, o2, rfl, -, -, hc2⟩ := hfb.resolve_left (by omega)
        obtain ⟨⟨c, fv, fs⟩, ht⟩ := nth_of_lt As k (by omega)
        obtain ⟨⟨d, gv, gs⟩, hu⟩ := nth_of_lt Bs k (by omega)
        have hcx := Tl.cells (hc1.le hE.leC) ht
        have hcy := Tl.cells (hc2.le hE.leC) hu
        have hSf := hS.nth ht
        obtain ⟨fa, fc, hfv, hff⟩ := (hA.ext hE).nth ht
        obtain ⟨ga, gc, hgv, hgg⟩ := (hB.ext hE).nth hu
        have hpx := pol_get ht
        have hpy := pol_get hu
        simp only at hfv hff hcx hSf hgv hgg hcy hpx hpy
        subst hfv hgv
        refine V.skip ?_
        refine X.sq ?_
        refine V.seq ?_
        refine V.block ?_
        refine V.seq ?_
        refine V.region ?_
        refine L.rd (rd_move rfl) rfl ?_
        refine L.rd (rd_assign rfl) rfl ?_
        refine L.nil ?_
        refine X.sq ?_
        refine V.seq ?_
        refine V.region ?_
        refine L.rd (rd_fieldAddr tok rfl rfl rfl rfl rfl rfl) rfl ?_
        refine L.rd (rd_load1 tok rfl rfl rfl (hpr.cell rfl)) rfl ?_
        refine L.rd (rd_move rfl) rfl ?_
        (refine L.rd (rd_indexSlice (sz := 2) tok rfl rfl rfl rfl rfl rfl rfl ?_) rfl ?_; omega)
        refine L.rd (rd_loadN tok rfl rfl rfl hcx rfl) rfl ?_
        refine L.ef (e_alloc (cs := [_, _]) tok rfl rfl (by first | (simp only [size_addB, size_setB, size_drew]; rfl) | rfl) rfl ?_)
        refine L.ef (e_store (vs := [_, _]) tok rfl rfl rfl rfl (by (repeat (first | assumption | (refine Bl.new' ?_ _ _; first | with_reducible rfl | (simp only [size_addB, size_setB, size_drew]; done)) | apply Bl.add | apply Bl.drew | (apply Bl.setNe; omega) | (refine Bl.set' ?_ _ _; (try simp only [size_addB, size_setB, size_drew]); omega)))) rfl (by simp [Value.oneCell']) (by simp) ?_)
        refine L.nil ?_
        refine X.sq ?_
        refine V.seq ?_
        generalize hwx : setB _ _ _ _ = wx
        have hbx : Bl wx wr.heap.size 91 [.int .i64 c, .slice fa fs.length fc] := by rw [← hwx]; refine Bl.set' ?_ _ _; rw [size_addB]; omega
        have hex : Ext wr.heap.size wr wx := by rw [← hwx]; exact ((Ext.refl _ _).addNew _ _).set (Nat.le_refl _) _ _
        have hqx := hex.bl hqr.lt hqr
        refine V.region ?_
        refine L.rd (rd_fieldAddr tok rfl rfl rfl rfl rfl rfl) rfl ?_
        refine L.rd (rd_load1 tok rfl rfl rfl (hqx.cell rfl)) rfl ?_
        refine L.rd (rd_move rfl) rfl ?_
        (refine L.rd (rd_indexSlice (sz := 2) tok rfl rfl rfl rfl rfl rfl rfl ?_) rfl ?_; omega)
        refine L.rd (rd_loadN tok rfl rfl rfl (hcy.le hex.leC) rfl) rfl ?_
        refine L.ef (e_alloc (cs := [_, _]) tok rfl rfl (by first | (simp only [size_addB, size_setB, size_drew]; rfl) | rfl) rfl ?_)
        refine L.ef (e_store (vs := [_, _]) tok rfl rfl rfl rfl (by (repeat (first | assumption | (refine Bl.new' ?_ _ _; first | with_reducible rfl | (simp only [size_addB, size_setB, size_drew]; done)) | apply Bl.add | apply Bl.drew | (apply Bl.setNe; omega) | (refine Bl.set' ?_ _ _; (try simp only [size_addB, size_setB, size_drew]); omega)))) rfl (by simp [Value.oneCell']) (by simp) ?_)
        refine L.nil ?_
        refine X.sq ?_
        refine V.seq ?_
        refine V.seq ?_
        generalize hwy : setB _ _ _ _ = wy
        have hby : Bl wy wx.heap.size 91 [.int .i64 d, .slice ga gs.length gc] := by rw [← hwy]; refine Bl.set' ?_ _ _; rw [size_addB]; omega
        have hey : Ext wx.heap.size wx wy := by rw [← hwy]; exact ((Ext.refl _ _).addNew _ _).set (Nat.le_refl _) _ _
        have hbx2 := hey.bl hbx.lt hbx
        have hexy := hex.next hey
        have hEy := hE.next hexy
        refine V.region ?_
        refine L.rd (rd_fieldAddr tok rfl rfl rfl rfl rfl rfl) rfl ?_
        refine L.rd (rd_load1 tok rfl rfl rfl (hbx2.cell rfl)) rfl ?_
        refine L.rd (rd_fieldAddr tok rfl rfl rfl rfl rfl rfl) rfl ?_
        refine L.rd (rd_load1 tok rfl rfl rfl (hby.cell rfl)) rfl ?_
        refine L.rd (rd_neq rfl rfl) rfl ?_
        refine L.rd (rd_move rfl) rfl ?_
        first | refine L.partG rfl rfl (fun g37 => ?_) (fun g37 => ?_) | refine L.partGB rfl rfl (fun g37 => ?_) (fun g37 => ?_)
        ·
          refine L.no rfl rfl rfl rfl ?_
          refine L.no rfl rfl rfl rfl ?_
          refine L.no rfl rfl rfl rfl ?_
          refine L.no rfl rfl rfl rfl ?_
          refine L.no rfl rfl rfl rfl ?_
          refine L.no rfl rfl rfl rfl ?_
          refine L.no rfl rfl rfl rfl ?_
          refine L.rd (rd_pickT rfl rfl) rfl ?_
          refine L.nil ?_
          refine X.sq ?_
          refine V.condT rfl ?_
          refine V.seq ?_
          refine V.region ?_
          refine L.rd (rd_assign rfl) rfl ?_
          refine L.nil ?_
          refine X.sq ?_
          refine V.ret ?_
          refine X.sqRet ?_
          refine X.bkRet ?_
          refine X.sqRet ?_
          refine X.lpRet ?_
          refine X.bkRet ?_
          refine X.sqRet ?_
          refine ret_1 Yaam.results21 rfl ?_
          refine ⟨congrArg Value.bool (Eq.symm (decide_eq_false ?_)), hEy⟩
          intro e
          rw [e, hpy] at hpx
          simp only [Option.some.injEq, Prod.mk.injEq] at hpx
          first
            | exact g37 hpx.1.symm
            | (have := congrArg List.length hpx.2; omega)
        ·
          refine L.yes rfl rfl ?_
          refine L.rd (rd_fieldAddr tok rfl rfl rfl rfl rfl rfl) rfl ?_
          refine L.yes rfl rfl ?_
          refine L.rd (rd_load1 tok rfl rfl rfl (hbx2.cell (i := 1) rfl)) rfl ?_
          refine L.yes rfl rfl ?_
          refine L.rd (rd_lenSlice tok rfl rfl rfl) rfl ?_
          refine L.yes rfl rfl ?_
          refine L.rd (rd_fieldAddr tok rfl rfl rfl rfl rfl rfl) rfl ?_
          refine L.yes rfl rfl ?_
          refine L.rd (rd_load1 tok rfl rfl rfl (hby.cell (i := 1) rfl)) rfl ?_
          refine L.yes rfl rfl ?_
          refine L.rd (rd_lenSlice tok rfl rfl rfl) rfl ?_
          refine L.yes rfl rfl ?_
          refine L.rd (rd_neq rfl rfl) rfl ?_
          refine L.rd (rd_pickF rfl rfl) rfl ?_
          refine L.nil ?_
          refine X.sq ?_
          first | refine V.cond rfl (fun h45 => ?_) (fun h45 => ?_) | refine V.condB rfl (fun h45 => ?_) (fun h45 => ?_)
          ·
            refine V.seq ?_
            refine V.region ?_
            refine L.rd (rd_assign rfl) rfl ?_
            refine L.nil ?_
            refine X.sq ?_
            refine V.ret ?_
            refine X.sqRet ?_
            refine X.bkRet ?_
            refine X.sqRet ?_
            refine X.lpRet ?_
            refine X.bkRet ?_
            refine X.sqRet ?_
            refine ret_1 Yaam.results21 rfl ?_
            refine ⟨congrArg Value.bool (Eq.symm (decide_eq_false ?_)), hEy⟩
            intro e
            rw [e, hpy] at hpx
            simp only [Option.some.injEq, Prod.mk.injEq] at hpx
            first
              | exact g37 hpx.1.symm
              | (have := congrArg List.length hpx.2; omega)
          ·
            refine V.skip ?_
            refine X.sq ?_
            refine V.seq ?_
            refine V.region ?_
            refine L.rd (rd_fieldAddr tok rfl rfl rfl rfl rfl rfl) rfl ?_
            refine L.rd (rd_load1 tok rfl rfl rfl (hbx2.cell (i := 1) rfl)) rfl ?_
            refine L.rd (rd_lenSlice tok rfl rfl rfl) rfl ?_
            refine L.rd (rd_move rfl) rfl ?_
            refine L.nil ?_
            refine X.sq ?_
            refine V.block ?_
            refine V.loop (fun m l w2 => ∃ (j : Nat), l = [(2, .pointer (some ⟨w.heap.size, 0, none⟩)), (3, .pointer (some ⟨w.heap.size + 1, 0, none⟩)), (6, .pointer (some ⟨wr.heap.size, 0, none⟩)), (7, .pointer (some ⟨wx.heap.size, 0, none⟩)), (18, .int .i64 As.length), (19, .int .i64 k), (48, .int .i64 fs.length), (49, .int .i64 j)] ∧ m = fs.length - j ∧ j ≤ fs.length ∧ Ext wy.heap.size wy w2 ∧ fs.take j = gs.take j) ?_ ?_
            ·
              exact ⟨_, _, (by repeat' (first | exact trivial | refine ⟨rfl, ?_⟩)), 0, rfl, rfl, by omega, Ext.refl _ _, by simp⟩
            ·
              rintro m l w2 ⟨j, rfl, rfl, hj, hE2, hjt⟩
              have hbx3 := hE2.bl hbx2.lt hbx2
              have hby3 := hE2.bl hby.lt hby
              have hfl : fs.length = gs.length := by omega
              have hEz := hexy.next hE2
              refine V.seq ?_
              refine V.region ?_
              refine L.rd (rd_lss rfl rfl) rfl ?_
              refine L.nil ?_
              refine X.sq ?_
              refine V.seq ?_
              first | refine V.cond rfl (fun h50 => ?_) (fun h50 => ?_) | refine V.condB rfl (fun h50 => ?_) (fun h50 => ?_)
              ·
                obtain ⟨b3, o3, rfl, -, -, hc3⟩ := hff.resolve_left (by omega)
                obtain ⟨b4, o4, rfl, -, -, hc4⟩ := hgg.resolve_left (by omega)
                obtain ⟨x, hx⟩ := nth_of_lt fs j (by omega)
                obtain ⟨y, hy⟩ := nth_of_lt gs j (by omega)
                have hcf := (hc3.le hEz.leC).sub (j * 2) (ints [x.1, x.2]) (pr_get fs j x hx)
                have hcg := (hc4.le hEz.leC).sub (j * 2) (ints [y.1, y.2]) (pr_get gs j y hy)
                refine V.skip ?_
                refine X.sq ?_
                refine V.seq ?_
                refine V.block ?_
                refine V.seq ?_
                refine V.region ?_
                refine L.rd (rd_move rfl) rfl ?_
                refine L.rd (rd_assign rfl) rfl ?_
                refine L.nil ?_
                refine X.sq ?_
                refine V.seq ?_
                refine V.draw [] mixed ?_
                refine D.take 0 [true, false, false, false, false, false, false, false, false, false, false] (.sq (.bk (.sq (.lp (.bk (.bk (.sq (.lp (.bk (.sq .bd)))))))))) rfl (rd_fieldAddr tok rfl rfl rfl rfl rfl rfl) rfl (by kernel_rfl) rfl (LeC.drew _) ?_
                refine D.take 1 [true, true, false, false, false, false, false, false, false, false, false] (.sq (.bk (.sq (.lp (.bk (.bk (.sq (.lp (.bk (.sq .bd)))))))))) rfl (rd_load1 tok rfl rfl rfl (hbx3.cell (i := 1) rfl)) rfl (by kernel_rfl) rfl (LeC.drew _) ?_
                refine D.take 2 [true, true, true, false, false, false, false, false, false, false, false] (.sq (.bk (.sq (.lp (.bk (.bk (.sq (.lp (.bk (.sq .bd)))))))))) rfl (rd_move rfl) rfl (by kernel_rfl) rfl (LeC.drew _) ?_
                (refine D.take 3 [true, true, true, true, false, false, false, false, false, false, false] (.sq (.bk (.sq (.lp (.bk (.bk (.sq (.lp (.bk (.sq .bd)))))))))) rfl (rd_indexSlice (sz := 2) tok rfl rfl rfl rfl rfl rfl rfl ?_) rfl (by kernel_rfl) rfl (LeC.drew _) ?_; omega)
                refine D.take 4 [true, true, true, true, true, false, false, false, false, false, false] (.sq (.bk (.sq (.lp (.bk (.bk (.sq (.lp (.bk (.sq .bd)))))))))) rfl (rd_loadN tok rfl rfl rfl hcf rfl) rfl (by kernel_rfl) rfl (LeC.drew _) ?_
                refine D.take 5 [true, true, true, true, true, true, false, false, false, false, false] (.sq (.bk (.sq (.lp (.bk (.bk (.sq (.lp (.bk (.sq .bd)))))))))) rfl (rd_fieldAddr tok rfl rfl rfl rfl rfl rfl) rfl (by kernel_rfl) rfl (LeC.drew _) ?_
                refine D.take 6 [true, true, true, true, true, true, true, false, false, false, false] (.sq (.bk (.sq (.lp (.bk (.bk (.sq (.lp (.bk (.sq .bd)))))))))) rfl (rd_load1 tok rfl rfl rfl (hby3.cell (i := 1) rfl)) rfl (by kernel_rfl) rfl (LeC.drew _) ?_
                refine D.take 7 [true, true, true, true, true, true, true, true, false, false, false] (.sq (.bk (.sq (.lp (.bk (.bk (.sq (.lp (.bk (.sq .bd)))))))))) rfl (rd_move rfl) rfl (by kernel_rfl) rfl (LeC.drew _) ?_
                (refine D.take 8 [true, true, true, true, true, true, true, true, true, false, false] (.sq (.bk (.sq (.lp (.bk (.bk (.sq (.lp (.bk (.sq .bd)))))))))) rfl (rd_indexSlice (sz := 2) tok rfl rfl rfl rfl rfl rfl rfl ?_) rfl (by kernel_rfl) rfl (LeC.drew _) ?_; omega)
                refine D.take 9 [true, true, true, true, true, true, true, true, true, true, false] (.sq (.bk (.sq (.lp (.bk (.bk (.sq (.lp (.bk (.sq .bd)))))))))) rfl (rd_loadN tok rfl rfl rfl hcg rfl) rfl (by kernel_rfl) rfl (LeC.drew _) ?_
                refine D.take 10 [true, true, true, true, true, true, true, true, true, true, true] (.sq (.bk (.sq (.lp (.bk (.bk (.sq (.lp (.bk (.sq .bd)))))))))) rfl (rd_neqAgg tok eqFactor rfl rfl rfl rfl) rfl (by kernel_rfl) rfl (LeC.drew _) ?_
                refine D.done (by kernel_rfl) ?_
                refine X.sq ?_
                first | refine V.cond rfl (fun h62 => ?_) (fun h62 => ?_) | refine V.condB rfl (fun h62 => ?_) (fun h62 => ?_)
                ·
                  refine V.seq ?_
                  refine V.region ?_
                  refine L.rd (rd_assign rfl) rfl ?_
                  refine L.nil ?_
                  refine X.sq ?_
                  refine V.ret ?_
                  refine X.bkRet ?_
                  refine X.sqRet ?_
                  refine X.lpRet ?_
                  refine X.bkRet ?_
                  refine X.bkRet ?_
                  refine X.sqRet ?_
                  refine X.lpRet ?_
                  refine X.bkRet ?_
                  refine X.sqRet ?_
                  refine ret_1 Yaam.results21 rfl ?_
                  refine ⟨congrArg Value.bool (Eq.symm (decide_eq_false ?_)), (hE.next hEz).drew⟩
                  intro e
                  rw [e, hpy] at hpx
                  simp only [Option.some.injEq, Prod.mk.injEq] at hpx
                  rw [← hpx.2, hy] at hx
                  simp only [Option.some.injEq] at hx
                  subst hx
                  exact h62 rfl
                ·
                  refine V.skip ?_
                  refine X.bk ?_
                  refine X.sq ?_
                  refine V.region ?_
                  (refine L.rd (rd_add3 rfl rfl ?_) rfl ?_; omega)
                  refine L.rd (rd_move rfl) rfl ?_
                  refine L.nil ?_
                  have hxy : x = y := by
                    have := Decidable.not_not.1 h62
                    simp only [List.cons.injEq, and_true] at this
                    exact Prod.ext this.1 this.2
                  subst hxy
                  exact X.lp ⟨_, _, by omega, (by repeat' (first | exact trivial | refine ⟨rfl, ?_⟩)), j + 1, rfl, rfl, by omega, hE2.drew, take_both_next hjt hx hy⟩
              ·
                refine V.exit ?_
                refine X.sqExit ?_
                refine X.lpExit ?_
                refine X.bkHere ?_
                refine X.bk ?_
                refine X.sq ?_
                refine V.region ?_
                (refine L.rd (rd_add3 rfl rfl ?_) rfl ?_; omega)
                refine L.rd (rd_move rfl) rfl ?_
                refine L.nil ?_
                have hfg : fs = gs := by
                  have hja : j = fs.length := by omega
                  subst hja
                  rwa [List.take_of_length_le (Nat.le_refl _), List.take_of_length_le (by omega)] at hjt
                subst hfg
                have hcd : c = d := Decidable.not_not.1 g37
                subst hcd
                exact X.lp ⟨_, _, by omega, (by repeat' (first | exact trivial | refine ⟨rfl, ?_⟩)), k + 1, rfl, rfl, by omega, hE1.next hEz, take_both_next htk hpx hpy⟩
      ·
        refine V.exit ?_
        refine X.sqExit ?_
        refine X.lpExit ?_
        refine X.bkHere ?_
        refine X.sq ?_
        refine V.seq ?_
        refine V.region ?_
        refine L.rd (rd_assign rfl) rfl ?_
        refine L.nil ?_
        refine X.sq ?_
        refine V.ret ?_
        refine ret_1 Yaam.results21 rfl ?_
        refine ⟨congrArg Value.bool (Eq.symm (decide_eq_true ?_)), hE⟩
        rw [List.take_of_length_le (by rw [pol_length]; omega), List.take_of_length_le (by rw [pol_length]; omega)] at htk
        exact htk
end Go.Proofs.YbxaawGreat
