/-
  What the laws do with terms: comparing, turning over, holding.
-/
import Derived.Test.YbxaawTermW
set_option linter.unusedVariables false
set_option linter.unusedSimpArgs false
set_option maxRecDepth 10000
namespace Go.Proofs.Ybxaaw
open Go.Mw

theorem eqTermsL_ok (va vb : Value) (As Bs : List Lt) (w : World) {lo hi lo' hi' : Nat} (hA : Tl w lo hi va As) (hB : Tl w lo' hi' vb Bs) (hS : Sm (pol As)) :
    Ret Yaam.prog 47 [va, vb] w fun r w' => r = .bool (decide (pol As = pol Bs)) ∧ Ext w.heap.size w w' := by
  obtain ⟨aa, ca, rfl, hfa⟩ := hA.form
  obtain ⟨ab, cb, rfl, hfb⟩ := hB.form
  have hSl := hS.top
  refine enter2 Yaam.func47 Yaam.ntmps47 (by kernel_rfl) rfl rfl ?_
  refine V.seq ?_
  refine V.region ?_
  refine L.rd (rd_assign rfl) rfl ?_
  refine L.nil ?_
  refine X.sq ?_
  refine V.seq ?_
  refine V.seq ?_
  refine V.region ?_
  refine L.rd (rd_move rfl) rfl ?_
  refine L.rd (rd_lenSlice tok rfl rfl rfl) rfl ?_
  refine L.rd (rd_move rfl) rfl ?_
  refine L.rd (rd_lenSlice tok rfl rfl rfl) rfl ?_
  refine L.rd (rd_neq rfl rfl) rfl ?_
  refine L.nil ?_
  refine X.sq ?_
  first | refine V.cond rfl (fun h13 => ?_) (fun h13 => ?_) | refine V.condB rfl (fun h13 => ?_) (fun h13 => ?_)
  ·
    refine V.seq ?_
    refine V.region ?_
    refine L.rd (rd_assign rfl) rfl ?_
    refine L.nil ?_
    refine X.sq ?_
    refine V.ret ?_
    refine X.sqRet ?_
    refine ret_1 Yaam.results47 rfl ?_
    refine ⟨congrArg Value.bool (Eq.symm (decide_eq_false ?_)), Ext.refl _ _⟩
    intro e
    have := congrArg List.length e
    simp only [pol_length] at this
    omega
  ·
    refine V.skip ?_
    refine X.sq ?_
    refine V.seq ?_
    refine V.seq ?_
    refine V.region ?_
    refine L.rd (rd_assign rfl) rfl ?_
    refine L.nil ?_
    refine X.sq ?_
    refine V.block ?_
    refine V.loop (fun m l wr => ∃ (k : Nat), l = [(0, .slice aa As.length ca), (1, .slice ab Bs.length cb), (5, .int .i64 k)] ∧ m = As.length - k ∧ k ≤ As.length ∧ Ext w.heap.size w wr ∧ (pol As).take k = (pol Bs).take k) ?_ ?_
    ·
      exact ⟨_, _, (by repeat' (first | exact trivial | refine ⟨rfl, ?_⟩)), 0, rfl, rfl, by omega, Ext.refl _ _, by simp⟩
    ·
      rintro m l wr ⟨k, rfl, rfl, hk, hE, htk⟩
      refine V.seq ?_
      refine V.seq ?_
      refine V.region ?_
      refine L.rd (rd_move rfl) rfl ?_
      refine L.rd (rd_move rfl) rfl ?_
      refine L.rd (rd_lenSlice tok rfl rfl rfl) rfl ?_
      refine L.rd (rd_lss rfl rfl) rfl ?_
      refine L.nil ?_
      refine X.sq ?_
      first | refine V.cond rfl (fun h17 => ?_) (fun h17 => ?_) | refine V.condB rfl (fun h17 => ?_) (fun h17 => ?_)
      ·
        obtain ⟨b1, o1, rfl, -, -, hc1⟩ := hfa.resolve_left (by omega)
        obtain ⟨b2, o2, rfl, -, -, hc2⟩ := hfb.resolve_left (by omega)
        obtain ⟨⟨c, fv, fs⟩, ht⟩ := nth_of_lt As k (by omega)
        obtain ⟨⟨d, gv, gs⟩, hu⟩ := nth_of_lt Bs k (by omega)
        have hcx := Tl.cells (hc1.le hE.leC) ht
        have hcy := Tl.cells (hc2.le hE.leC) hu
        have hSf := hS.nth ht
        obtain ⟨fa, fc, hfv, hff⟩ := (hA.ext hE).nth ht
        obtain ⟨ga, gc, hgv, hgg⟩ := (hB.ext hE).nth hu
        have hpx := pol_get ht
        have hpy := pol_get hu
        simp only at hfv hff hcx hSf hgv hgg hcy hpx hpy
        subst hfv hgv
        refine V.skip ?_
        refine X.sq ?_
        refine V.seq ?_
        refine V.block ?_
        refine V.seq ?_
        refine V.seq ?_
        refine V.draw [] mixed ?_
        refine D.take 0 [true, false, false, false, false, false, false, false, false, false, false, false, false, false, false, false, false, false, false, false, false, false, false, false, false, false] (.sq (.sq (.bk (.sq (.lp (.bk (.sq .bd))))))) rfl (rd_move rfl) rfl (by kernel_rfl) rfl (LeC.drew _) ?_
        refine D.take 1 [true, true, false, false, false, false, false, false, false, false, false, false, false, false, false, false, false, false, false, false, false, false, false, false, false, false] (.sq (.sq (.bk (.sq (.lp (.bk (.sq .bd))))))) rfl (rd_move rfl) rfl (by kernel_rfl) rfl (LeC.drew _) ?_
        (refine D.take 2 [true, true, true, false, false, false, false, false, false, false, false, false, false, false, false, false, false, false, false, false, false, false, false, false, false, false] (.sq (.sq (.bk (.sq (.lp (.bk (.sq .bd))))))) rfl (rd_indexSlice (sz := 2) tok rfl rfl rfl rfl rfl rfl rfl ?_) rfl (by kernel_rfl) rfl (LeC.drew _) ?_; omega)
        refine D.take 3 [true, true, true, true, false, false, false, false, false, false, false, false, false, false, false, false, false, false, false, false, false, false, false, false, false, false] (.sq (.sq (.bk (.sq (.lp (.bk (.sq .bd))))))) rfl (rd_fieldAddr tok rfl rfl rfl rfl rfl rfl) rfl (by kernel_rfl) rfl (LeC.drew _) ?_
        refine D.take 4 [true, true, true, true, true, false, false, false, false, false, false, false, false, false, false, false, false, false, false, false, false, false, false, false, false, false] (.sq (.sq (.bk (.sq (.lp (.bk (.sq .bd))))))) rfl (rd_load1 tok rfl rfl rfl (hcx.at_ 0 _ rfl)) rfl (by kernel_rfl) rfl (LeC.drew _) ?_
        refine D.take 5 [true, true, true, true, true, true, false, false, false, false, false, false, false, false, false, false, false, false, false, false, false, false, false, false, false, false] (.sq (.sq (.bk (.sq (.lp (.bk (.sq .bd))))))) rfl (rd_move rfl) rfl (by kernel_rfl) rfl (LeC.drew _) ?_
        refine D.take 6 [true, true, true, true, true, true, true, false, false, false, false, false, false, false, false, false, false, false, false, false, false, false, false, false, false, false] (.sq (.sq (.bk (.sq (.lp (.bk (.sq .bd))))))) rfl (rd_move rfl) rfl (by kernel_rfl) rfl (LeC.drew _) ?_
        (refine D.take 7 [true, true, true, true, true, true, true, true, false, false, false, false, false, false, false, false, false, false, false, false, false, false, false, false, false, false] (.sq (.sq (.bk (.sq (.lp (.bk (.sq .bd))))))) rfl (rd_indexSlice (sz := 2) tok rfl rfl rfl rfl rfl rfl rfl ?_) rfl (by kernel_rfl) rfl (LeC.drew _) ?_; omega)
        refine D.take 8 [true, true, true, true, true, true, true, true, true, false, false, false, false, false, false, false, false, false, false, false, false, false, false, false, false, false] (.sq (.sq (.bk (.sq (.lp (.bk (.sq .bd))))))) rfl (rd_fieldAddr tok rfl rfl rfl rfl rfl rfl) rfl (by kernel_rfl) rfl (LeC.drew _) ?_
        refine D.take 9 [true, true, true, true, true, true, true, true, true, true, false, false, false, false, false, false, false, false, false, false, false, false, false, false, false, false] (.sq (.sq (.bk (.sq (.lp (.bk (.sq .bd))))))) rfl (rd_load1 tok rfl rfl rfl (hcy.at_ 0 _ rfl)) rfl (by kernel_rfl) rfl (LeC.drew _) ?_
        refine D.take 10 [true, true, true, true, true, true, true, true, true, true, true, false, false, false, false, false, false, false, false, false, false, false, false, false, false, false] (.sq (.sq (.bk (.sq (.lp (.bk (.sq .bd))))))) rfl (rd_neq rfl rfl) rfl (by kernel_rfl) rfl (LeC.drew _) ?_
        refine D.take 11 [true, true, true, true, true, true, true, true, true, true, true, true, false, false, false, false, false, false, false, false, false, false, false, false, false, false] (.sq (.sq (.bk (.sq (.lp (.bk (.sq .bd))))))) rfl (rd_move rfl) rfl (by kernel_rfl) rfl (LeC.drew _) ?_
        first | refine D.part 31 rfl (fun g31 => ?_) (fun g31 => ?_) | refine D.partB 31 rfl (fun g31 => ?_) (fun g31 => ?_)
        ·
          refine D.takeNo 12 [true, true, true, true, true, true, true, true, true, true, true, true, true, false, false, false, false, false, false, false, false, false, false, false, false, false] (.sq (.sq (.bk (.sq (.lp (.bk (.sq .bd))))))) rfl rfl rfl rfl rfl (by kernel_rfl) rfl (LeC.drew _) ?_
          refine D.takeNo 13 [true, true, true, true, true, true, true, true, true, true, true, true, true, true, false, false, false, false, false, false, false, false, false, false, false, false] (.sq (.sq (.bk (.sq (.lp (.bk (.sq .bd))))))) rfl rfl rfl rfl rfl (by kernel_rfl) rfl (LeC.drew _) ?_
          refine D.takeNo 14 [true, true, true, true, true, true, true, true, true, true, true, true, true, true, true, false, false, false, false, false, false, false, false, false, false, false] (.sq (.sq (.bk (.sq (.lp (.bk (.sq .bd))))))) rfl rfl rfl rfl rfl (by kernel_rfl) rfl (LeC.drew _) ?_
          refine D.takeNo 15 [true, true, true, true, true, true, true, true, true, true, true, true, true, true, true, true, false, false, false, false, false, false, false, false, false, false] (.sq (.sq (.bk (.sq (.lp (.bk (.sq .bd))))))) rfl rfl rfl rfl rfl (by kernel_rfl) rfl (LeC.drew _) ?_
          refine D.takeNo 16 [true, true, true, true, true, true, true, true, true, true, true, true, true, true, true, true, true, false, false, false, false, false, false, false, false, false] (.sq (.sq (.bk (.sq (.lp (.bk (.sq .bd))))))) rfl rfl rfl rfl rfl (by kernel_rfl) rfl (LeC.drew _) ?_
          refine D.takeNo 17 [true, true, true, true, true, true, true, true, true, true, true, true, true, true, true, true, true, true, false, false, false, false, false, false, false, false] (.sq (.sq (.bk (.sq (.lp (.bk (.sq .bd))))))) rfl rfl rfl rfl rfl (by kernel_rfl) rfl (LeC.drew _) ?_
          refine D.takeNo 18 [true, true, true, true, true, true, true, true, true, true, true, true, true, true, true, true, true, true, true, false, false, false, false, false, false, false] (.sq (.sq (.bk (.sq (.lp (.bk (.sq .bd))))))) rfl rfl rfl rfl rfl (by kernel_rfl) rfl (LeC.drew _) ?_
          refine D.takeNo 19 [true, true, true, true, true, true, true, true, true, true, true, true, true, true, true, true, true, true, true, true, false, false, false, false, false, false] (.sq (.sq (.bk (.sq (.lp (.bk (.sq .bd))))))) rfl rfl rfl rfl rfl (by kernel_rfl) rfl (LeC.drew _) ?_
          refine D.takeNo 20 [true, true, true, true, true, true, true, true, true, true, true, true, true, true, true, true, true, true, true, true, true, false, false, false, false, false] (.sq (.sq (.bk (.sq (.lp (.bk (.sq .bd))))))) rfl rfl rfl rfl rfl (by kernel_rfl) rfl (LeC.drew _) ?_
          refine D.takeNo 21 [true, true, true, true, true, true, true, true, true, true, true, true, true, true, true, true, true, true, true, true, true, true, false, false, false, false] (.sq (.sq (.bk (.sq (.lp (.bk (.sq .bd))))))) rfl rfl rfl rfl rfl (by kernel_rfl) rfl (LeC.drew _) ?_
          refine D.takeNo 22 [true, true, true, true, true, true, true, true, true, true, true, true, true, true, true, true, true, true, true, true, true, true, true, false, false, false] (.sq (.sq (.bk (.sq (.lp (.bk (.sq .bd))))))) rfl rfl rfl rfl rfl (by kernel_rfl) rfl (LeC.drew _) ?_
          refine D.takeNo 23 [true, true, true, true, true, true, true, true, true, true, true, true, true, true, true, true, true, true, true, true, true, true, true, true, false, false] (.sq (.sq (.bk (.sq (.lp (.bk (.sq .bd))))))) rfl rfl rfl rfl rfl (by kernel_rfl) rfl (LeC.drew _) ?_
          refine D.takeNo 24 [true, true, true, true, true, true, true, true, true, true, true, true, true, true, true, true, true, true, true, true, true, true, true, true, true, false] (.sq (.sq (.bk (.sq (.lp (.bk (.sq .bd))))))) rfl rfl rfl rfl rfl (by kernel_rfl) rfl (LeC.drew _) ?_
          refine D.take 25 [true, true, true, true, true, true, true, true, true, true, true, true, true, true, true, true, true, true, true, true, true, true, true, true, true, true] (.sq (.sq (.bk (.sq (.lp (.bk (.sq .bd))))))) rfl (rd_pickT rfl rfl) rfl (by kernel_rfl) rfl (LeC.drew _) ?_
          refine D.done (by kernel_rfl) ?_
          refine X.sq ?_
          refine V.condT rfl ?_
          refine V.seq ?_
          refine V.region ?_
          refine L.rd (rd_assign rfl) rfl ?_
          refine L.nil ?_
          refine X.sq ?_
          refine V.ret ?_
          refine X.sqRet ?_
          refine X.bkRet ?_
          refine X.sqRet ?_
          refine X.lpRet ?_
          refine X.bkRet ?_
          refine X.sqRet ?_
          refine ret_1 Yaam.results47 rfl ?_
          refine ⟨congrArg Value.bool (Eq.symm (decide_eq_false ?_)), hE.drew⟩
          intro e
          rw [e, hpy] at hpx
          simp only [Option.some.injEq, Prod.mk.injEq] at hpx
          first
            | exact g31 hpx.1.symm
            | (have := congrArg List.length hpx.2; omega)
        ·
          refine D.takeYes 12 [true, true, true, true, true, true, true, true, true, true, true, true, true, false, false, false, false, false, false, false, false, false, false, false, false, false] (.sq (.sq (.bk (.sq (.lp (.bk (.sq .bd))))))) rfl rfl rfl (rd_move rfl) rfl (by kernel_rfl) rfl (LeC.drew _) ?_
          refine D.takeYes 13 [true, true, true, true, true, true, true, true, true, true, true, true, true, true, false, false, false, false, false, false, false, false, false, false, false, false] (.sq (.sq (.bk (.sq (.lp (.bk (.sq .bd))))))) rfl rfl rfl (rd_move rfl) rfl (by kernel_rfl) rfl (LeC.drew _) ?_
          (refine D.takeYes 14 [true, true, true, true, true, true, true, true, true, true, true, true, true, true, true, false, false, false, false, false, false, false, false, false, false, false] (.sq (.sq (.bk (.sq (.lp (.bk (.sq .bd))))))) rfl rfl rfl (rd_indexSlice (sz := 2) tok rfl rfl rfl rfl rfl rfl rfl ?_) rfl (by kernel_rfl) rfl (LeC.drew _) ?_; omega)
          refine D.takeYes 15 [true, true, true, true, true, true, true, true, true, true, true, true, true, true, true, true, false, false, false, false, false, false, false, false, false, false] (.sq (.sq (.bk (.sq (.lp (.bk (.sq .bd))))))) rfl rfl rfl (rd_fieldAddr tok rfl rfl rfl rfl rfl rfl) rfl (by kernel_rfl) rfl (LeC.drew _) ?_
          refine D.takeYes 16 [true, true, true, true, true, true, true, true, true, true, true, true, true, true, true, true, true, false, false, false, false, false, false, false, false, false] (.sq (.sq (.bk (.sq (.lp (.bk (.sq .bd))))))) rfl rfl rfl (rd_load1 tok rfl rfl rfl (hcx.at_ 1 _ rfl)) rfl (by kernel_rfl) rfl (LeC.drew _) ?_
          refine D.takeYes 17 [true, true, true, true, true, true, true, true, true, true, true, true, true, true, true, true, true, true, false, false, false, false, false, false, false, false] (.sq (.sq (.bk (.sq (.lp (.bk (.sq .bd))))))) rfl rfl rfl (rd_lenSlice tok rfl rfl rfl) rfl (by kernel_rfl) rfl (LeC.drew _) ?_
          refine D.takeYes 18 [true, true, true, true, true, true, true, true, true, true, true, true, true, true, true, true, true, true, true, false, false, false, false, false, false, false] (.sq (.sq (.bk (.sq (.lp (.bk (.sq .bd))))))) rfl rfl rfl (rd_move rfl) rfl (by kernel_rfl) rfl (LeC.drew _) ?_
          refine D.takeYes 19 [true, true, true, true, true, true, true, true, true, true, true, true, true, true, true, true, true, true, true, true, false, false, false, false, false, false] (.sq (.sq (.bk (.sq (.lp (.bk (.sq .bd))))))) rfl rfl rfl (rd_move rfl) rfl (by kernel_rfl) rfl (LeC.drew _) ?_
          (refine D.takeYes 20 [true, true, true, true, true, true, true, true, true, true, true, true, true, true, true, true, true, true, true, true, true, false, false, false, false, false] (.sq (.sq (.bk (.sq (.lp (.bk (.sq .bd))))))) rfl rfl rfl (rd_indexSlice (sz := 2) tok rfl rfl rfl rfl rfl rfl rfl ?_) rfl (by kernel_rfl) rfl (LeC.drew _) ?_; omega)
          refine D.takeYes 21 [true, true, true, true, true, true, true, true, true, true, true, true, true, true, true, true, true, true, true, true, true, true, false, false, false, false] (.sq (.sq (.bk (.sq (.lp (.bk (.sq .bd))))))) rfl rfl rfl (rd_fieldAddr tok rfl rfl rfl rfl rfl rfl) rfl (by kernel_rfl) rfl (LeC.drew _) ?_
          refine D.takeYes 22 [true, true, true, true, true, true, true, true, true, true, true, true, true, true, true, true, true, true, true, true, true, true, true, false, false, false] (.sq (.sq (.bk (.sq (.lp (.bk (.sq .bd))))))) rfl rfl rfl (rd_load1 tok rfl rfl rfl (hcy.at_ 1 _ rfl)) rfl (by kernel_rfl) rfl (LeC.drew _) ?_
          refine D.takeYes 23 [true, true, true, true, true, true, true, true, true, true, true, true, true, true, true, true, true, true, true, true, true, true, true, true, false, false] (.sq (.sq (.bk (.sq (.lp (.bk (.sq .bd))))))) rfl rfl rfl (rd_lenSlice tok rfl rfl rfl) rfl (by kernel_rfl) rfl (LeC.drew _) ?_
          refine D.takeYes 24 [true, true, true, true, true, true, true, true, true, true, true, true, true, true, true, true, true, true, true, true, true, true, true, true, true, false] (.sq (.sq (.bk (.sq (.lp (.bk (.sq .bd))))))) rfl rfl rfl (rd_neq rfl rfl) rfl (by kernel_rfl) rfl (LeC.drew _) ?_
          refine D.take 25 [true, true, true, true, true, true, true, true, true, true, true, true, true, true, true, true, true, true, true, true, true, true, true, true, true, true] (.sq (.sq (.bk (.sq (.lp (.bk (.sq .bd))))))) rfl (rd_pickF rfl rfl) rfl (by kernel_rfl) rfl (LeC.drew _) ?_
          refine D.done (by kernel_rfl) ?_
          refine X.sq ?_
          first | refine V.cond rfl (fun h45 => ?_) (fun h45 => ?_) | refine V.condB rfl (fun h45 => ?_) (fun h45 => ?_)
          ·
            refine V.seq ?_
            refine V.region ?_
            refine L.rd (rd_assign rfl) rfl ?_
            refine L.nil ?_
            refine X.sq ?_
            refine V.ret ?_
            refine X.sqRet ?_
            refine X.bkRet ?_
            refine X.sqRet ?_
            refine X.lpRet ?_
            refine X.bkRet ?_
            refine X.sqRet ?_
            refine ret_1 Yaam.results47 rfl ?_
            refine ⟨congrArg Value.bool (Eq.symm (decide_eq_false ?_)), hE.drew⟩
            intro e
            rw [e, hpy] at hpx
            simp only [Option.some.injEq, Prod.mk.injEq] at hpx
            first
              | exact g31 hpx.1.symm
              | (have := congrArg List.length hpx.2; omega)
          ·
            refine V.skip ?_
            refine X.sq ?_
            refine V.seq ?_
            refine V.region ?_
            refine L.rd (rd_assign rfl) rfl ?_
            refine L.nil ?_
            refine X.sq ?_
            refine V.block ?_
            refine V.loop (fun m l w2 => ∃ (j : Nat), l = [(0, .slice (some ⟨b1, o1, none⟩) As.length ca), (1, .slice (some ⟨b2, o2, none⟩) Bs.length cb), (5, .int .i64 k), (6, .int .i64 j)] ∧ m = fs.length - j ∧ j ≤ fs.length ∧ Ext wr.heap.size wr w2 ∧ fs.take j = gs.take j) ?_ ?_
            ·
              exact ⟨_, _, (by repeat' (first | exact trivial | refine ⟨rfl, ?_⟩)), 0, rfl, rfl, by omega, (Ext.refl _ _).drew, by simp⟩
            ·
              rintro m l w2 ⟨j, rfl, rfl, hj, hE2, hjt⟩
              have hcx2 := hcx.le hE2.leC
              have hcy2 := hcy.le hE2.leC
              have hfl : fs.length = gs.length := by omega
              refine V.seq ?_
              refine V.seq ?_
              refine V.region ?_
              refine L.rd (rd_move rfl) rfl ?_
              refine L.rd (rd_move rfl) rfl ?_
              refine L.rd (rd_move rfl) rfl ?_
              (refine L.rd (rd_indexSlice (sz := 2) tok rfl rfl rfl rfl rfl rfl rfl ?_) rfl ?_; omega)
              refine L.rd (rd_fieldAddr tok rfl rfl rfl rfl rfl rfl) rfl ?_
              refine L.rd (rd_load1 tok rfl rfl rfl (hcx2.at_ 1 _ rfl)) rfl ?_
              refine L.rd (rd_lenSlice tok rfl rfl rfl) rfl ?_
              refine L.rd (rd_lss rfl rfl) rfl ?_
              refine L.nil ?_
              refine X.sq ?_
              first | refine V.cond rfl (fun h53 => ?_) (fun h53 => ?_) | refine V.condB rfl (fun h53 => ?_) (fun h53 => ?_)
              ·
                obtain ⟨b3, o3, rfl, -, -, hc3⟩ := hff.resolve_left (by omega)
                obtain ⟨b4, o4, rfl, -, -, hc4⟩ := hgg.resolve_left (by omega)
                obtain ⟨x, hx⟩ := nth_of_lt fs j (by omega)
                obtain ⟨y, hy⟩ := nth_of_lt gs j (by omega)
                have hcf := (hc3.le hE2.leC).sub (j * 2) _ (pr_get fs j x hx)
                have hcg := (hc4.le hE2.leC).sub (j * 2) _ (pr_get gs j y hy)
                refine V.skip ?_
                refine X.sq ?_
                refine V.seq ?_
                refine V.block ?_
                refine V.seq ?_
                refine V.region ?_
                refine L.rd (rd_move rfl) rfl ?_
                refine L.rd (rd_move rfl) rfl ?_
                (refine L.rd (rd_indexSlice (sz := 2) tok rfl rfl rfl rfl rfl rfl rfl ?_) rfl ?_; omega)
                refine L.rd (rd_fieldAddr tok rfl rfl rfl rfl rfl rfl) rfl ?_
                refine L.rd (rd_load1 tok rfl rfl rfl (hcx2.at_ 1 _ rfl)) rfl ?_
                refine L.rd (rd_move rfl) rfl ?_
                (refine L.rd (rd_indexSlice (sz := 2) tok rfl rfl rfl rfl rfl rfl rfl ?_) rfl ?_; omega)
                refine L.rd (rd_loadN tok rfl rfl rfl hcf rfl) rfl ?_
                refine L.ef (e_alloc (cs := [_, _]) tok rfl rfl (by first | (simp only [size_addB, size_setB, size_drew]; rfl) | rfl) rfl ?_)
                refine L.ef (e_store (vs := [_, _]) tok rfl rfl rfl rfl (by (repeat (first | assumption | (refine Bl.new' ?_ _ _; first | with_reducible rfl | (simp only [size_addB, size_setB, size_drew]; done)) | apply Bl.add | apply Bl.drew | (apply Bl.setNe; omega) | (refine Bl.set' ?_ _ _; (try simp only [size_addB, size_setB, size_drew]); omega)))) rfl (by simp [Value.oneCell']) (by simp) ?_)
                refine L.nil ?_
                refine X.sq ?_
                refine V.seq ?_
                refine V.region ?_
                refine L.rd (rd_move rfl) rfl ?_
                refine L.rd (rd_move rfl) rfl ?_
                (refine L.rd (rd_indexSlice (sz := 2) tok rfl rfl rfl rfl rfl rfl rfl ?_) rfl ?_; omega)
                refine L.rd (rd_fieldAddr tok rfl rfl rfl rfl rfl rfl) rfl ?_
                refine L.rd (rd_load1 tok rfl rfl rfl ((hcy2.le (Ext.leC (((Ext.refl _ _).addNew _ _).set (Nat.le_refl _) _ _))).at_ 1 _ rfl)) rfl ?_
                refine L.rd (rd_move rfl) rfl ?_
                (refine L.rd (rd_indexSlice (sz := 2) tok rfl rfl rfl rfl rfl rfl rfl ?_) rfl ?_; omega)
                refine L.rd (rd_loadN tok rfl rfl rfl (hcg.le (Ext.leC (((Ext.refl _ _).addNew _ _).set (Nat.le_refl _) _ _))) rfl) rfl ?_
                refine L.ef (e_alloc (cs := [_, _]) tok rfl rfl (by first | (simp only [size_addB, size_setB, size_drew]; rfl) | rfl) rfl ?_)
                refine L.ef (e_store (vs := [_, _]) tok rfl rfl rfl rfl (by (repeat (first | assumption | (refine Bl.new' ?_ _ _; first | with_reducible rfl | (simp only [size_addB, size_setB, size_drew]; done)) | apply Bl.add | apply Bl.drew | (apply Bl.setNe; omega) | (refine Bl.set' ?_ _ _; (try simp only [size_addB, size_setB, size_drew]); omega)))) rfl (by simp [Value.oneCell']) (by simp) ?_)
                refine L.nil ?_
                refine X.sq ?_
                refine V.seq ?_
                have hE4 := (hE.next hE2)
                refine V.region ?_
                refine L.rd (rd_fieldAddr tok rfl rfl rfl rfl rfl rfl) rfl ?_
                refine L.rd (rd_load1 tok rfl rfl rfl (by first | assumption | exact Bl.cell (by (repeat (first | assumption | (refine Bl.new' ?_ _ _; first | with_reducible rfl | (simp only [size_addB, size_setB, size_drew]; done)) | apply Bl.add | apply Bl.drew | (apply Bl.setNe; omega) | (refine Bl.set' ?_ _ _; (try simp only [size_addB, size_setB, size_drew]); omega)))) rfl)) rfl ?_
                refine L.rd (rd_fieldAddr tok rfl rfl rfl rfl rfl rfl) rfl ?_
                refine L.rd (rd_load1 tok rfl rfl rfl (by first | assumption | exact Bl.cell (by (repeat (first | assumption | (refine Bl.new' ?_ _ _; first | with_reducible rfl | (simp only [size_addB, size_setB, size_drew]; done)) | apply Bl.add | apply Bl.drew | (apply Bl.setNe; omega) | (refine Bl.set' ?_ _ _; (try simp only [size_addB, size_setB, size_drew]); omega)))) rfl)) rfl ?_
                refine L.rd (rd_neq rfl rfl) rfl ?_
                refine L.rd (rd_move rfl) rfl ?_
                first | refine L.partG rfl rfl (fun g77 => ?_) (fun g77 => ?_) | refine L.partGB rfl rfl (fun g77 => ?_) (fun g77 => ?_)
                ·
                  refine L.no rfl rfl rfl rfl ?_
                  refine L.no rfl rfl rfl rfl ?_
                  refine L.no rfl rfl rfl rfl ?_
                  refine L.no rfl rfl rfl rfl ?_
                  refine L.no rfl rfl rfl rfl ?_
                  refine L.rd (rd_pickT rfl rfl) rfl ?_
                  refine L.nil ?_
                  refine X.sq ?_
                  refine V.condT rfl ?_
                  refine V.seq ?_
                  refine V.region ?_
                  refine L.rd (rd_assign rfl) rfl ?_
                  refine L.nil ?_
                  refine X.sq ?_
                  refine V.ret ?_
                  refine X.bkRet ?_
                  refine X.sqRet ?_
                  refine X.lpRet ?_
                  refine X.bkRet ?_
                  refine X.bkRet ?_
                  refine X.sqRet ?_
                  refine X.lpRet ?_
                  refine X.bkRet ?_
                  refine X.sqRet ?_
                  refine ret_1 Yaam.results47 rfl ?_
                  refine ⟨congrArg Value.bool (Eq.symm (decide_eq_false ?_)), (by have hsz_ := hE4.size; repeat (first | assumption | refine Ext.drew ?_ | refine Ext.addNew ?_ _ _ | (refine Ext.set ?_ ?_ _ _; rotate_left; (try simp only [size_addB, size_setB, size_drew]); omega)))⟩
                  intro e
                  rw [e, hpy] at hpx
                  simp only [Option.some.injEq, Prod.mk.injEq] at hpx
                  rw [← hpx.2, hy] at hx
                  simp only [Option.some.injEq] at hx
                  subst hx
                  first | exact g77 rfl | exact h83 rfl
                ·
                  refine L.yes rfl rfl ?_
                  refine L.rd (rd_fieldAddr tok rfl rfl rfl rfl rfl rfl) rfl ?_
                  refine L.yes rfl rfl ?_
                  refine L.rd (rd_load1 tok rfl rfl rfl (by first | assumption | exact Bl.cell (by (repeat (first | assumption | (refine Bl.new' ?_ _ _; first | with_reducible rfl | (simp only [size_addB, size_setB, size_drew]; done)) | apply Bl.add | apply Bl.drew | (apply Bl.setNe; omega) | (refine Bl.set' ?_ _ _; (try simp only [size_addB, size_setB, size_drew]); omega)))) rfl)) rfl ?_
                  refine L.yes rfl rfl ?_
                  refine L.rd (rd_fieldAddr tok rfl rfl rfl rfl rfl rfl) rfl ?_
                  refine L.yes rfl rfl ?_
                  refine L.rd (rd_load1 tok rfl rfl rfl (by first | assumption | exact Bl.cell (by (repeat (first | assumption | (refine Bl.new' ?_ _ _; first | with_reducible rfl | (simp only [size_addB, size_setB, size_drew]; done)) | apply Bl.add | apply Bl.drew | (apply Bl.setNe; omega) | (refine Bl.set' ?_ _ _; (try simp only [size_addB, size_setB, size_drew]); omega)))) rfl)) rfl ?_
                  refine L.yes rfl rfl ?_
                  refine L.rd (rd_neq rfl rfl) rfl ?_
                  refine L.rd (rd_pickF rfl rfl) rfl ?_
                  refine L.nil ?_
                  refine X.sq ?_
                  first | refine V.cond rfl (fun h83 => ?_) (fun h83 => ?_) | refine V.condB rfl (fun h83 => ?_) (fun h83 => ?_)
                  ·
                    refine V.seq ?_
                    refine V.region ?_
                    refine L.rd (rd_assign rfl) rfl ?_
                    refine L.nil ?_
                    refine X.sq ?_
                    refine V.ret ?_
                    refine X.bkRet ?_
                    refine X.sqRet ?_
                    refine X.lpRet ?_
                    refine X.bkRet ?_
                    refine X.bkRet ?_
                    refine X.sqRet ?_
                    refine X.lpRet ?_
                    refine X.bkRet ?_
                    refine X.sqRet ?_
                    refine ret_1 Yaam.results47 rfl ?_
                    refine ⟨congrArg Value.bool (Eq.symm (decide_eq_false ?_)), (by have hsz_ := hE4.size; repeat (first | assumption | refine Ext.drew ?_ | refine Ext.addNew ?_ _ _ | (refine Ext.set ?_ ?_ _ _; rotate_left; (try simp only [size_addB, size_setB, size_drew]); omega)))⟩
                    intro e
                    rw [e, hpy] at hpx
                    simp only [Option.some.injEq, Prod.mk.injEq] at hpx
                    rw [← hpx.2, hy] at hx
                    simp only [Option.some.injEq] at hx
                    subst hx
                    first | exact g77 rfl | exact h83 rfl
                  ·
                    refine V.skip ?_
                    refine X.bk ?_
                    refine X.sq ?_
                    refine V.region ?_
                    refine L.rd (rd_move rfl) rfl ?_
                    (refine L.rd (rd_add3 rfl rfl ?_) rfl ?_; omega)
                    refine L.rd (rd_assign rfl) rfl ?_
                    refine L.nil ?_
                    have hxy : x = y := Prod.ext (Decidable.not_not.1 g77) (Decidable.not_not.1 h83)
                    subst hxy
                    refine X.lp ⟨_, _, by omega, (by repeat' (first | exact trivial | refine ⟨rfl, ?_⟩)), j + 1, rfl, rfl, by omega, ?_, take_both_next hjt hx hy⟩
                    exact (by have hsz_ := hE2.size; repeat (first | assumption | refine Ext.drew ?_ | refine Ext.addNew ?_ _ _ | (refine Ext.set ?_ ?_ _ _; rotate_left; (try simp only [size_addB, size_setB, size_drew]); omega)))
              ·
                refine V.exit ?_
                refine X.sqExit ?_
                refine X.lpExit ?_
                refine X.bkHere ?_
                refine X.bk ?_
                refine X.sq ?_
                refine V.region ?_
                refine L.rd (rd_move rfl) rfl ?_
                (refine L.rd (rd_add3 rfl rfl ?_) rfl ?_; omega)
                refine L.rd (rd_assign rfl) rfl ?_
                refine L.nil ?_
                have hfg : fs = gs := by
                  have hja : j = fs.length := by omega
                  subst hja
                  rwa [List.take_of_length_le (Nat.le_refl _), List.take_of_length_le (by omega)] at hjt
                subst hfg
                have hcd : c = d := Decidable.not_not.1 g31
                subst hcd
                exact X.lp ⟨_, _, by omega, (by repeat' (first | exact trivial | refine ⟨rfl, ?_⟩)), k + 1, rfl, rfl, by omega, hE.next hE2, take_both_next htk hpx hpy⟩
      ·
        refine V.exit ?_
        refine X.sqExit ?_
        refine X.lpExit ?_
        refine X.bkHere ?_
        refine X.sq ?_
        refine V.seq ?_
        refine V.region ?_
        refine L.rd (rd_assign rfl) rfl ?_
        refine L.nil ?_
        refine X.sq ?_
        refine V.ret ?_
        refine ret_1 Yaam.results47 rfl ?_
        refine ⟨congrArg Value.bool (Eq.symm (decide_eq_true ?_)), hE⟩
        rw [List.take_of_length_le (by rw [pol_length]; omega), List.take_of_length_le (by rw [pol_length]; omega)] at htk
        exact htk

theorem keepFactors_ok (va : Value) (Ls : List Lt) (w : World) {lo hi : Nat} (hT : Tl w lo hi va Ls) (hS : Sm (pol Ls)) : Ret Yaam.prog 41 [va] w fun r w' => Rr w' w.heap.size w'.heap.size 1 r Ls.length (Ls.map (·.2.1)) ∧ Ext w.heap.size w w' := by
  obtain ⟨aa, ca, rfl, hfa⟩ := hT.form
  have hSl := hS.top
  refine enter1 Yaam.func41 Yaam.ntmps41 (by kernel_rfl) rfl rfl ?_
  refine V.seq ?_
  refine V.region ?_
  refine L.rd (rd_assign rfl) rfl ?_
  refine L.nil ?_
  refine X.sq ?_
  refine V.seq ?_
  refine V.region ?_
  refine L.rd (rd_move rfl) rfl ?_
  refine L.rd (rd_lenSlice tok rfl rfl rfl) rfl ?_
  refine L.ef (e_make (e := 56) (zs := [_]) tok rfl rfl rfl rfl rfl rfl rfl rfl (by first | (simp only [size_addB, size_setB, size_drew]; rfl) | rfl) rfl (by omega) (by simp only []; omega) (by omega) ?_)
  refine L.rd (rd_assign rfl) rfl ?_
  refine L.nil ?_
  refine X.sq ?_
  refine V.seq ?_
  refine V.seq ?_
  refine V.region ?_
  refine L.rd (rd_assign rfl) rfl ?_
  refine L.nil ?_
  refine X.sq ?_
  refine V.block ?_
  refine V.loop (fun m l wr => ∃ (k : Nat) (cs : List Value), l = [(0, .slice aa Ls.length ca), (3, .slice (some ⟨w.heap.size, 0, none⟩) Ls.length Ls.length), (4, .int .i64 k)] ∧ m = Ls.length - k ∧ k ≤ Ls.length ∧ Ext w.heap.size w wr ∧ Bl wr w.heap.size 56 cs ∧ cs.length = (Ls.map (·.2.1)).length ∧ cs.take k = (Ls.map (·.2.1)).take k) ?_ ?_
  ·
    refine ⟨_, _, (by repeat' (first | exact trivial | refine ⟨rfl, ?_⟩)), 0, _, rfl, rfl, by omega, (Ext.refl _ _).addNew _ _, Bl.new _ _ _, ?_, by simp⟩
    rw [List.length_map, List.length_flatten]; simp
  ·
    rintro m l wr ⟨k, cs, rfl, rfl, hk, hE, hbl, hcl, htk⟩
    rw [List.length_map] at hcl
    refine V.seq ?_
    refine V.seq ?_
    refine V.region ?_
    refine L.rd (rd_move rfl) rfl ?_
    refine L.rd (rd_move rfl) rfl ?_
    refine L.rd (rd_lenSlice tok rfl rfl rfl) rfl ?_
    refine L.rd (rd_lss rfl rfl) rfl ?_
    refine L.nil ?_
    refine X.sq ?_
    first | refine V.cond rfl (fun h11 => ?_) (fun h11 => ?_) | refine V.condB rfl (fun h11 => ?_) (fun h11 => ?_)
    ·
      obtain ⟨b1, o1, rfl, -, -, hc1⟩ := hfa.resolve_left (by omega)
      obtain ⟨⟨c, fv, fs⟩, ht⟩ := nth_of_lt Ls k (by omega)
      have hcx := Tl.cells (hc1.le hE.leC) ht
      obtain ⟨fa, fc, hfv, hff⟩ := (hT.ext hE).nth ht
      simp only at hfv hff hcx
      subst hfv
      refine V.skip ?_
      refine X.sq ?_
      refine V.seq ?_
      refine V.block ?_
      refine V.region ?_
      refine L.rd (rd_move rfl) rfl ?_
      refine L.rd (rd_move rfl) rfl ?_
      refine L.rd (rd_move rfl) rfl ?_
      refine L.rd (rd_move rfl) rfl ?_
      (refine L.rd (rd_indexSlice (sz := 2) tok rfl rfl rfl rfl rfl rfl rfl ?_) rfl ?_; omega)
      refine L.rd (rd_fieldAddr tok rfl rfl rfl rfl rfl rfl) rfl ?_
      refine L.rd (rd_load1 tok rfl rfl rfl (hcx.at_ 1 _ rfl)) rfl ?_
      (refine L.rd (rd_indexSlice (sz := 1) tok rfl rfl rfl rfl rfl rfl rfl ?_) rfl ?_; omega)
      refine L.ef (e_store (vs := [_]) tok rfl rfl rfl rfl hbl rfl (by simp [Value.oneCell']) (by simp; omega) ?_)
      refine L.nil ?_
      refine X.bk ?_
      refine X.sq ?_
      refine V.region ?_
      refine L.rd (rd_move rfl) rfl ?_
      (refine L.rd (rd_add3 rfl rfl ?_) rfl ?_; omega)
      refine L.rd (rd_assign rfl) rfl ?_
      refine L.nil ?_
      simp only [Nat.zero_add, Int.toNat_natCast, Nat.mul_one]
      rw [putAt_one _ _ _ (by omega)]
      refine X.lp ⟨_, _, by omega, (by repeat' (first | exact trivial | refine ⟨rfl, ?_⟩)), k + 1, _, rfl, rfl, by omega, hE.set (Nat.le_refl _) _ _, hbl.set _ _, by simp [hcl], take_put_next _ _ k _ (by rw [List.length_map]; exact hcl) (by simp [ht]) htk⟩
    ·
      refine V.exit ?_
      refine X.sqExit ?_
      refine X.lpExit ?_
      refine X.bkHere ?_
      refine X.sq ?_
      refine V.seq ?_
      refine V.region ?_
      refine L.rd (rd_move rfl) rfl ?_
      refine L.rd (rd_assign rfl) rfl ?_
      refine L.nil ?_
      refine X.sq ?_
      refine V.ret ?_
      refine ret_1 Yaam.results41 rfl ?_
      rw [List.take_of_length_le (by omega), List.take_of_length_le (by rw [List.length_map]; omega)] at htk
      subst htk
      exact ⟨Rr.of_bl hbl (by simp) (Nat.le_refl _) hbl.lt, hE⟩
end Go.Proofs.Ybxaaw
