/-
  laws.eqExpr, okE, zeroExpr, walked.
-/
import Derived.Test.YbxaawGreatEqTys
import Derived.Test.YbxaawGreatPrsP2
import Derived.Test.YbxaawGreatTermW
set_option linter.unusedVariables false
set_option linter.unusedSimpArgs false
set_option maxRecDepth 10000
namespace Go.Proofs.YbxaawGreat
open Go.Mw

theorem eqExpr_ok (va vb : Value) (A B : List Nd) (ra rb : Int) (w : World) (hA : Rs w 5 va A.length (A.flatMap ndE)) (hB : Rs w 5 vb B.length (B.flatMap ndE)) (hl : A.length ≤ 4294967296) :
    Ret Yaam.prog 13 [.agg #[va, .int .i64 ra], .agg #[vb, .int .i64 rb]] w fun r w' => r = .bool (decide (ra = rb ∧ A = B)) ∧ Ext w.heap.size w w' := by
  obtain ⟨aa, ca, rfl, hfa⟩ := hA.form
  obtain ⟨ab, cb, rfl, hfb⟩ := hB.form
  refine enter2 Yaam.func13 Yaam.ntmps13 (by kernel_rfl) rfl rfl ?_
  refine V.seq ?_
  refine V.region ?_
  refine L.ef (e_box (cs := [_, _]) rfl rfl (by first | (simp only [size_addB, size_setB, size_drew]; rfl) | rfl) rfl ?_)
  refine L.ef (e_box (cs := [_, _]) rfl rfl (by first | (simp only [size_addB, size_setB, size_drew]; rfl) | rfl) rfl ?_)
  refine L.rd (rd_assign rfl) rfl ?_
  refine L.nil ?_
  refine X.sq ?_
  refine V.seq ?_
  refine V.seq ?_
  have hp := (Bl.new w 34 [.slice aa A.length ca, .int .i64 ra]).add 34 [.slice ab B.length cb, .int .i64 rb]
  have hq := Bl.new' (w := addB w 34 [.slice aa A.length ca, .int .i64 ra]) (b := w.heap.size + 1) (by rw [size_addB]) 34 [.slice ab B.length cb, .int .i64 rb]
  have hE0 := ((Ext.refl _ w).addNew 34 [.slice aa A.length ca, .int .i64 ra]).addNew 34 [.slice ab B.length cb, .int .i64 rb]
  generalize addB (addB w 34 [.slice aa A.length ca, .int .i64 ra]) 34 [.slice ab B.length cb, .int .i64 rb] = w0 at hp hq hE0 ⊢
  refine V.region ?_
  refine L.rd (rd_fieldAddr tok rfl rfl rfl rfl rfl rfl) rfl ?_
  refine L.rd (rd_load1 tok rfl rfl rfl (hp.cell (i := 1) rfl)) rfl ?_
  refine L.rd (rd_fieldAddr tok rfl rfl rfl rfl rfl rfl) rfl ?_
  refine L.rd (rd_load1 tok rfl rfl rfl (hq.cell (i := 1) rfl)) rfl ?_
  refine L.rd (rd_neq rfl rfl) rfl ?_
  refine L.rd (rd_move rfl) rfl ?_
  first | refine L.partG rfl rfl (fun g11 => ?_) (fun g11 => ?_) | refine L.partGB rfl rfl (fun g11 => ?_) (fun g11 => ?_)
  ·
    refine L.no rfl rfl rfl rfl ?_
    refine L.no rfl rfl rfl rfl ?_
    refine L.no rfl rfl rfl rfl ?_
    refine L.no rfl rfl rfl rfl ?_
    refine L.no rfl rfl rfl rfl ?_
    refine L.no rfl rfl rfl rfl ?_
    refine L.no rfl rfl rfl rfl ?_
    refine L.rd (rd_pickT rfl rfl) rfl ?_
    refine L.nil ?_
    refine X.sq ?_
    refine V.condT rfl ?_
    refine V.seq ?_
    refine V.region ?_
    refine L.rd (rd_assign rfl) rfl ?_
    refine L.nil ?_
    refine X.sq ?_
    refine V.ret ?_
    refine X.sqRet ?_
    refine ret_1 Yaam.results13 rfl ?_
    refine ⟨congrArg Value.bool (Eq.symm (decide_eq_false ?_)), hE0⟩
    rintro ⟨e1, e2⟩
    have := congrArg List.length e2
    omega
  ·
    refine L.yes rfl rfl ?_
    refine L.rd (rd_fieldAddr tok rfl rfl rfl rfl rfl rfl) rfl ?_
    refine L.yes rfl rfl ?_
    refine L.rd (rd_load1 tok rfl rfl rfl (hp.cell rfl)) rfl ?_
    refine L.yes rfl rfl ?_
    refine L.rd (rd_lenSlice tok rfl rfl rfl) rfl ?_
    refine L.yes rfl rfl ?_
    refine L.rd (rd_fieldAddr tok rfl rfl rfl rfl rfl rfl) rfl ?_
    refine L.yes rfl rfl ?_
    refine L.rd (rd_load1 tok rfl rfl rfl (hq.cell rfl)) rfl ?_
    refine L.yes rfl rfl ?_
    refine L.rd (rd_lenSlice tok rfl rfl rfl) rfl ?_
    refine L.yes rfl rfl ?_
    refine L.rd (rd_neq rfl rfl) rfl ?_
    refine L.rd (rd_pickF rfl rfl) rfl ?_
    refine L.nil ?_
    refine X.sq ?_
    first | refine V.cond rfl (fun h19 => ?_) (fun h19 => ?_) | refine V.condB rfl (fun h19 => ?_) (fun h19 => ?_)
    ·
      refine V.seq ?_
      refine V.region ?_
      refine L.rd (rd_assign rfl) rfl ?_
      refine L.nil ?_
      refine X.sq ?_
      refine V.ret ?_
      refine X.sqRet ?_
      refine ret_1 Yaam.results13 rfl ?_
      refine ⟨congrArg Value.bool (Eq.symm (decide_eq_false ?_)), hE0⟩
      rintro ⟨e1, e2⟩
      have := congrArg List.length e2
      omega
    ·
      refine V.skip ?_
      refine X.sq ?_
      refine V.seq ?_
      refine V.seq ?_
      refine V.region ?_
      refine L.rd (rd_fieldAddr tok rfl rfl rfl rfl rfl rfl) rfl ?_
      refine L.rd (rd_load1 tok rfl rfl rfl (hp.cell rfl)) rfl ?_
      refine L.rd (rd_lenSlice tok rfl rfl rfl) rfl ?_
      refine L.rd (rd_move rfl) rfl ?_
      refine L.nil ?_
      refine X.sq ?_
      refine V.block ?_
      refine V.loop (fun m l wr => ∃ (k : Nat), l = [(2, .pointer (some ⟨w.heap.size, 0, none⟩)), (3, .pointer (some ⟨w.heap.size + 1, 0, none⟩)), (22, .int .i64 A.length), (23, .int .i64 k)] ∧ m = A.length - k ∧ k ≤ A.length ∧ Ext w0.heap.size w0 wr ∧ A.take k = B.take k) ?_ ?_
      ·
        exact ⟨_, _, (by repeat' (first | exact trivial | refine ⟨rfl, ?_⟩)), 0, rfl, rfl, by omega, Ext.refl _ _, by simp⟩
      ·
        rintro m l wr ⟨k, rfl, rfl, hk, hE1, htk⟩
        have hpr := hE1.bl hp.lt hp
        have hqr := hE1.bl hq.lt hq
        have hE := hE0.next hE1
        refine V.seq ?_
        refine V.region ?_
        refine L.rd (rd_lss rfl rfl) rfl ?_
        refine L.nil ?_
        refine X.sq ?_
        refine V.seq ?_
        first | refine V.cond rfl (fun h24 => ?_) (fun h24 => ?_) | refine V.condB rfl (fun h24 => ?_) (fun h24 => ?_)
        ·
          obtain ⟨b1, o1, rfl, hc1⟩ := hfa.resolve_left (by omega)
          obtain ⟨b2, o2, rfl, hc2⟩ := hfb.resolve_left (by omega)
          obtain ⟨x, hx⟩ := nth_of_lt A k (by omega)
          obtain ⟨y, hy⟩ := nth_of_lt B k (by omega)
          have hcf := (hc1.le hE.leC).sub (k * 5) (ints [x.1, x.2.1, x.2.2.1, x.2.2.2.1, x.2.2.2.2]) (fun j u hu => fm_get ndE_len A k x hx j u hu)
          have hcg := (hc2.le hE.leC).sub (k * 5) (ints [y.1, y.2.1, y.2.2.1, y.2.2.2.1, y.2.2.2.2]) (fun j u hu => fm_get ndE_len B k y hy j u hu)
          refine V.skip ?_
          refine X.sq ?_
          refine V.seq ?_
          refine V.block ?_
          refine V.seq ?_
          refine V.region ?_
          refine L.rd (rd_move rfl) rfl ?_
          refine L.rd (rd_assign rfl) rfl ?_
          refine L.nil ?_
          refine X.sq ?_
          refine V.seq ?_
          refine V.draw [] mixed ?_
          refine D.take 0 [true, false, false, false, false, false, false, false, false, false, false] (.sq (.bk (.sq (.lp (.bk (.sq .bd)))))) rfl (rd_fieldAddr tok rfl rfl rfl rfl rfl rfl) rfl (by kernel_rfl) rfl (LeC.drew _) ?_
          refine D.take 1 [true, true, false, false, false, false, false, false, false, false, false] (.sq (.bk (.sq (.lp (.bk (.sq .bd)))))) rfl (rd_load1 tok rfl rfl rfl (hpr.cell rfl)) rfl (by kernel_rfl) rfl (LeC.drew _) ?_
          refine D.take 2 [true, true, true, false, false, false, false, false, false, false, false] (.sq (.bk (.sq (.lp (.bk (.sq .bd)))))) rfl (rd_move rfl) rfl (by kernel_rfl) rfl (LeC.drew _) ?_
          (refine D.take 3 [true, true, true, true, false, false, false, false, false, false, false] (.sq (.bk (.sq (.lp (.bk (.sq .bd)))))) rfl (rd_indexSlice (sz := 5) tok rfl rfl rfl rfl rfl rfl rfl ?_) rfl (by kernel_rfl) rfl (LeC.drew _) ?_; omega)
          refine D.take 4 [true, true, true, true, true, false, false, false, false, false, false] (.sq (.bk (.sq (.lp (.bk (.sq .bd)))))) rfl (rd_loadN tok rfl rfl rfl hcf rfl) rfl (by kernel_rfl) rfl (LeC.drew _) ?_
          refine D.take 5 [true, true, true, true, true, true, false, false, false, false, false] (.sq (.bk (.sq (.lp (.bk (.sq .bd)))))) rfl (rd_fieldAddr tok rfl rfl rfl rfl rfl rfl) rfl (by kernel_rfl) rfl (LeC.drew _) ?_
          refine D.take 6 [true, true, true, true, true, true, true, false, false, false, false] (.sq (.bk (.sq (.lp (.bk (.sq .bd)))))) rfl (rd_load1 tok rfl rfl rfl (hqr.cell rfl)) rfl (by kernel_rfl) rfl (LeC.drew _) ?_
          refine D.take 7 [true, true, true, true, true, true, true, true, false, false, false] (.sq (.bk (.sq (.lp (.bk (.sq .bd)))))) rfl (rd_move rfl) rfl (by kernel_rfl) rfl (LeC.drew _) ?_
          (refine D.take 8 [true, true, true, true, true, true, true, true, true, false, false] (.sq (.bk (.sq (.lp (.bk (.sq .bd)))))) rfl (rd_indexSlice (sz := 5) tok rfl rfl rfl rfl rfl rfl rfl ?_) rfl (by kernel_rfl) rfl (LeC.drew _) ?_; omega)
          refine D.take 9 [true, true, true, true, true, true, true, true, true, true, false] (.sq (.bk (.sq (.lp (.bk (.sq .bd)))))) rfl (rd_loadN tok rfl rfl rfl hcg rfl) rfl (by kernel_rfl) rfl (LeC.drew _) ?_
          refine D.take 10 [true, true, true, true, true, true, true, true, true, true, true] (.sq (.bk (.sq (.lp (.bk (.sq .bd)))))) rfl (rd_neqAgg tok eqNode rfl rfl rfl rfl) rfl (by kernel_rfl) rfl (LeC.drew _) ?_
          refine D.done (by kernel_rfl) ?_
          refine X.sq ?_
          first | refine V.cond rfl (fun h36 => ?_) (fun h36 => ?_) | refine V.condB rfl (fun h36 => ?_) (fun h36 => ?_)
          ·
            refine V.seq ?_
            refine V.region ?_
            refine L.rd (rd_assign rfl) rfl ?_
            refine L.nil ?_
            refine X.sq ?_
            refine V.ret ?_
            refine X.bkRet ?_
            refine X.sqRet ?_
            refine X.lpRet ?_
            refine X.bkRet ?_
            refine X.sqRet ?_
            refine ret_1 Yaam.results13 rfl ?_
            refine ⟨congrArg Value.bool (Eq.symm (decide_eq_false ?_)), hE.drew⟩
            rintro ⟨e1, rfl⟩
            rw [hy] at hx
            simp only [Option.some.injEq] at hx
            subst hx
            exact h36 rfl
          ·
            refine V.skip ?_
            refine X.bk ?_
            refine X.sq ?_
            refine V.region ?_
            (refine L.rd (rd_add3 rfl rfl ?_) rfl ?_; omega)
            refine L.rd (rd_move rfl) rfl ?_
            refine L.nil ?_
            have hxy : x = y := by
              have := Decidable.not_not.1 h36
              simp only [List.cons.injEq, and_true] at this
              obtain ⟨h1, h2, h3, h4, h5⟩ := this
              exact Prod.ext h1 (Prod.ext h2 (Prod.ext h3 (Prod.ext h4 h5)))
            subst hxy
            exact X.lp ⟨_, _, by omega, (by repeat' (first | exact trivial | refine ⟨rfl, ?_⟩)), k + 1, rfl, rfl, by omega, hE1.drew, take_both_next htk hx hy⟩
        ·
          refine V.exit ?_
          refine X.sqExit ?_
          refine X.lpExit ?_
          refine X.bkHere ?_
          refine X.sq ?_
          refine V.seq ?_
          refine V.region ?_
          refine L.rd (rd_assign rfl) rfl ?_
          refine L.nil ?_
          refine X.sq ?_
          refine V.ret ?_
          refine ret_1 Yaam.results13 rfl ?_
          refine ⟨congrArg Value.bool (Eq.symm (decide_eq_true ⟨by omega, ?_⟩)), hE⟩
          rwa [List.take_of_length_le (by omega), List.take_of_length_le (by omega)] at htk

theorem zeroExpr_ok (a : Option Addr) (n c : Nat) (root : Int) (w : World) : Ret Yaam.prog 43 [.agg #[.slice a n c, .int .i64 root]] w fun r w' => r = .bool (decide (n = 0 ∧ root = 0)) ∧ Ext w.heap.size w w' := by
  refine enter1 Yaam.func43 Yaam.ntmps43 (by kernel_rfl) rfl rfl ?_
  refine V.seq ?_
  refine V.region ?_
  refine L.ef (e_box (cs := [_, _]) rfl rfl (by first | (simp only [size_addB, size_setB, size_drew]; rfl) | rfl) rfl ?_)
  refine L.rd (rd_assign rfl) rfl ?_
  refine L.nil ?_
  refine X.sq ?_
  refine V.seq ?_
  have hp := Bl.new w 34 [.slice a n c, .int .i64 root]
  have hE := (Ext.refl _ w).addNew 34 [.slice a n c, .int .i64 root]
  refine V.region ?_
  refine L.rd (rd_fieldAddr tok rfl rfl rfl rfl rfl rfl) rfl ?_
  refine L.rd (rd_load1 tok rfl rfl rfl (hp.cell rfl)) rfl ?_
  refine L.rd (rd_lenSlice tok rfl rfl rfl) rfl ?_
  refine L.rd (rd_eql rfl rfl) rfl ?_
  refine L.rd (rd_move rfl) rfl ?_
  first | refine L.partG rfl rfl (fun g7 => ?_) (fun g7 => ?_) | refine L.partGB rfl rfl (fun g7 => ?_) (fun g7 => ?_)
  ·
    refine L.yes rfl rfl ?_
    refine L.rd (rd_fieldAddr tok rfl rfl rfl rfl rfl rfl) rfl ?_
    refine L.yes rfl rfl ?_
    refine L.rd (rd_load1 tok rfl rfl rfl (hp.cell (i := 1) rfl)) rfl ?_
    refine L.yes rfl rfl ?_
    refine L.rd (rd_eql rfl rfl) rfl ?_
    refine L.rd (rd_pickT rfl rfl) rfl ?_
    refine L.rd (rd_assign rfl) rfl ?_
    refine L.nil ?_
    refine X.sq ?_
    refine V.ret ?_
    refine ret_1 Yaam.results43 rfl ?_
    refine ⟨?_, hE⟩
    first
      | (by_cases hr : root = 0
         · rw [decide_eq_true hr, decide_eq_true ⟨by omega, hr⟩]
         · rw [decide_eq_false hr, decide_eq_false (fun e => hr e.2)])
      | (rw [decide_eq_false (fun e => by omega)])
  ·
    refine L.no rfl rfl rfl rfl ?_
    refine L.no rfl rfl rfl rfl ?_
    refine L.no rfl rfl rfl rfl ?_
    refine L.rd (rd_pickF rfl rfl) rfl ?_
    refine L.rd (rd_assign rfl) rfl ?_
    refine L.nil ?_
    refine X.sq ?_
    refine V.ret ?_
    refine ret_1 Yaam.results43 rfl ?_
    refine ⟨?_, hE⟩
    first
      | (by_cases hr : root = 0
         · rw [decide_eq_true hr, decide_eq_true ⟨by omega, hr⟩]
         · rw [decide_eq_false hr, decide_eq_false (fun e => hr e.2)])
      | (rw [decide_eq_false (fun e => by omega)])

theorem okE_ok (a : Option Addr) (n c : Nat) (root : Int) (ok mf : Bool) (w : World) (h1 : ok = true → mf = false) (h2 : ok = false → n = 0 ∧ root = 0) : Ret Yaam.prog 14 [.agg #[.slice a n c, .int .i64 root], .bool ok, .bool mf] w fun r w' => r = .bool true ∧ Ext w.heap.size w w' := by
  obtain rfl | rfl : ok = true ∨ ok = false := by cases ok <;> simp
  · obtain rfl := h1 rfl
    refine enter3 Yaam.func14 Yaam.ntmps14 (by kernel_rfl) rfl rfl ?_
    refine V.seq ?_
    refine V.region ?_
    refine L.ef (e_box (cs := [_, _]) rfl rfl (by first | (simp only [size_addB, size_setB, size_drew]; rfl) | rfl) rfl ?_)
    refine L.rd (rd_assign rfl) rfl ?_
    refine L.nil ?_
    refine X.sq ?_
    refine V.seq ?_
    refine V.seq ?_
    have hp := Bl.new w 34 [.slice a n c, .int .i64 root]
    have hE := (Ext.refl _ w).addNew 34 [.slice a n c, .int .i64 root]
    refine V.region ?_
    refine L.rd (rd_move rfl) rfl ?_
    refine L.rd (rd_move rfl) rfl ?_
    first | refine L.partG rfl rfl (fun g8 => ?_) (fun g8 => ?_) | refine L.partGB rfl rfl (fun g8 => ?_) (fun g8 => ?_)
    ·
      cases g8
    ·
      refine L.no rfl rfl rfl rfl ?_
      refine L.rd (rd_pickF rfl rfl) rfl ?_
      refine L.nil ?_
      refine X.sq ?_
      refine V.condF rfl ?_
      refine V.skip ?_
      refine X.sq ?_
      refine V.seq ?_
      refine V.region ?_
      refine L.rd (rd_move rfl) rfl ?_
      refine L.rd (rd_move rfl) rfl ?_
      first | refine L.partG rfl rfl (fun g12 => ?_) (fun g12 => ?_) | refine L.partGB rfl rfl (fun g12 => ?_) (fun g12 => ?_)
      ·
        refine L.no rfl rfl rfl rfl ?_
        refine L.no rfl rfl rfl rfl ?_
        refine L.rd (rd_pickT rfl rfl) rfl ?_
        refine L.rd (rd_assign rfl) rfl ?_
        refine L.nil ?_
        refine X.sq ?_
        refine V.ret ?_
        refine ret_1 Yaam.results14 rfl ?_
        exact ⟨rfl, hE⟩
      ·
        cases g12
  · obtain ⟨rfl, rfl⟩ := h2 rfl
    refine enter3 Yaam.func14 Yaam.ntmps14 (by kernel_rfl) rfl rfl ?_
    refine V.seq ?_
    refine V.region ?_
    refine L.ef (e_box (cs := [_, _]) rfl rfl (by first | (simp only [size_addB, size_setB, size_drew]; rfl) | rfl) rfl ?_)
    refine L.rd (rd_assign rfl) rfl ?_
    refine L.nil ?_
    refine X.sq ?_
    refine V.seq ?_
    refine V.seq ?_
    have hp := Bl.new w 34 [.slice a 0 c, .int .i64 0]
    have hE := (Ext.refl _ w).addNew 34 [.slice a 0 c, .int .i64 0]
    refine V.region ?_
    refine L.rd (rd_move rfl) rfl ?_
    refine L.rd (rd_move rfl) rfl ?_
    first | refine L.partG rfl rfl (fun g8 => ?_) (fun g8 => ?_) | refine L.partGB rfl rfl (fun g8 => ?_) (fun g8 => ?_)
    ·
      refine L.yes rfl rfl ?_
      refine L.rd (rd_move rfl) rfl ?_
      refine L.rd (rd_pickT rfl rfl) rfl ?_
      refine L.nil ?_
      refine X.sq ?_
      first | refine V.cond rfl (fun h10 => ?_) (fun h10 => ?_) | refine V.condB rfl (fun h10 => ?_) (fun h10 => ?_)
      ·
        cases h10
      ·
        refine V.skip ?_
        refine X.sq ?_
        refine V.seq ?_
        refine V.region ?_
        refine L.rd (rd_move rfl) rfl ?_
        refine L.rd (rd_move rfl) rfl ?_
        first | refine L.partG rfl rfl (fun g12 => ?_) (fun g12 => ?_) | refine L.partGB rfl rfl (fun g12 => ?_) (fun g12 => ?_)
        ·
          cases g12
        ·
          refine L.yes rfl rfl ?_
          refine L.rd (rd_loadN tok rfl rfl rfl hp.cells rfl) rfl ?_
          refine L.yes rfl rfl ?_
          refine L.ef (e_call rfl (zeroExpr_ok a 0 c 0 _) rfl ?_)
          rintro _ w2 ⟨rfl, he2⟩
          refine L.rd (rd_pickF rfl rfl) rfl ?_
          refine L.rd (rd_assign rfl) rfl ?_
          refine L.nil ?_
          refine X.sq ?_
          refine V.ret ?_
          refine ret_1 Yaam.results14 rfl ?_
          exact ⟨rfl, hE.next he2⟩
    ·
      refine L.no rfl rfl rfl rfl ?_
      refine L.rd (rd_pickF rfl rfl) rfl ?_
      refine L.nil ?_
      refine X.sq ?_
      refine V.condF rfl ?_
      refine V.skip ?_
      refine X.sq ?_
      refine V.seq ?_
      refine V.region ?_
      refine L.rd (rd_move rfl) rfl ?_
      refine L.rd (rd_move rfl) rfl ?_
      first | refine L.partG rfl rfl (fun g12 => ?_) (fun g12 => ?_) | refine L.partGB rfl rfl (fun g12 => ?_) (fun g12 => ?_)
      ·
        cases g12
      ·
        refine L.yes rfl rfl ?_
        refine L.rd (rd_loadN tok rfl rfl rfl hp.cells rfl) rfl ?_
        refine L.yes rfl rfl ?_
        refine L.ef (e_call rfl (zeroExpr_ok a 0 c 0 _) rfl ?_)
        rintro _ w2 ⟨rfl, he2⟩
        refine L.rd (rd_pickF rfl rfl) rfl ?_
        refine L.rd (rd_assign rfl) rfl ?_
        refine L.nil ?_
        refine X.sq ?_
        refine V.ret ?_
        refine ret_1 Yaam.results14 rfl ?_
        exact ⟨rfl, hE.next he2⟩
end Go.Proofs.YbxaawGreat
