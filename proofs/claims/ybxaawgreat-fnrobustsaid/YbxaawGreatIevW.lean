/-
  impl.EvalExpr at the nodes of a tree, and at others; laws.okI.
-/
import Derived.Test.YbxaawGreatEvW
import Derived.Test.YbxaawGreatWfW3
import Derived.Test.YbxaawGreatCanQ
set_option linter.unusedVariables false
set_option linter.unusedSimpArgs false
set_option maxRecDepth 10000
set_option maxHeartbeats 4000000
namespace Go.Mw
theorem evT_num (pt : List Int) (v : Int) : evT pt (lf 1 v 0) = v := rfl
theorem evT_var (pt : List Int) (x : Int) : evT pt (lf 2 0 x) = ptv pt x := rfl
theorem evT_neg (pt : List Int) (a : Tre) : evT pt (u1 3 0 a) = w64 (-(evT pt a)) := rfl
theorem evT_pow (pt : List Int) (v : Int) (a : Tre) : evT pt (u1 7 v a) = pw (evT pt a) v.toNat := rfl
theorem evT_add (pt : List Int) (a b : Tre) : evT pt (b2 4 a b) = w64 (evT pt a + evT pt b) := rfl
theorem evT_sub (pt : List Int) (a b : Tre) : evT pt (b2 5 a b) = w64 (evT pt a - evT pt b) := rfl
theorem evT_mul (pt : List Int) (a b : Tre) : evT pt (b2 6 a b) = w64 (evT pt a * evT pt b) := rfl
end Go.Mw
namespace Go.Proofs.YbxaawGreat
open Go.Mw

theorem ievalE_ok (t : Tre) (hw : Wt t) (hz : tsz t ≤ 500000) (nv pv : Value) (pt : List Int) (w : World) (hN : Rs w 5 nv (flat t 0).length ((flat t 0).flatMap ndE)) (hP : Rs w 1 pv pt.length (iC .i64 pt)) : Ret Yaam.prog 46 [.agg #[nv, .int .i64 ((tsz t : Int) - 1)], pv] w fun r w' => r = .tuple #[.int .i64 (if pt.length = 26 then evT pt t else 0), .bool (decide (pt.length = 26))] ∧ Ext w.heap.size w w' := by
  obtain ⟨na, nc, rfl, hfn⟩ := id hN.form
  obtain ⟨pa, pc, rfl, hfp⟩ := id hP.form
  have hfl := flat_len t 0
  have htp := tsz_pos t
  have hSb := sb_tree hw
  have hroot := subs_root t
  have hSl := subs_len t
  have hiwf := iwf_ok t hw hz
  generalize hns : flat t 0 = ns at *
  generalize hSS : subs t = S at *
  refine enter2 Yaam.func46 Yaam.ntmps46 (by kernel_rfl) rfl rfl ?_
  refine V.seq ?_
  refine V.region ?_
  refine L.ef (e_box (cs := [_, _]) rfl rfl (by first | (simp only [size_addB, size_setB, size_drew]; rfl) | rfl) rfl ?_)
  refine L.rd (rd_assign rfl) rfl ?_
  refine L.rd (rd_assign rfl) rfl ?_
  refine L.nil ?_
  refine X.sq ?_
  refine V.seq ?_
  refine V.seq ?_
  have hp := Bl.new w 34 [.slice na ns.length nc, .int .i64 ((tsz t : Int) - 1)]
  have hE := (Ext.refl _ w).addNew 34 [.slice na ns.length nc, .int .i64 ((tsz t : Int) - 1)]
  refine V.region ?_
  refine L.rd (rd_loadN tok rfl rfl rfl hp.cells rfl) rfl ?_
  refine L.ef (e_call rfl (hiwf _ _ (hN.le hE.leC)) rfl ?_)
  rintro _ w1 ⟨rfl, he1⟩
  have hp1 := he1.bl hp.lt hp
  have hE1 := hE.next he1
  have hs1 : w.heap.size < w1.heap.size := by have := he1.size; rw [size_addB] at this; omega
  first | refine L.rd (rd_not rfl) rfl ?_ | refine L.rd (rd_notB rfl) rfl ?_
  refine L.rd (rd_move rfl) rfl ?_
  first | refine L.partG rfl rfl (fun g14 => ?_) (fun g14 => ?_) | refine L.partGB rfl rfl (fun g14 => ?_) (fun g14 => ?_)
  ·
    first | cases g14 | simp at g14
  ·
    refine L.yes rfl rfl ?_
    refine L.rd (rd_move rfl) rfl ?_
    refine L.yes rfl rfl ?_
    refine L.rd (rd_lenSlice tok rfl rfl rfl) rfl ?_
    refine L.yes rfl rfl ?_
    refine L.rd (rd_neq rfl rfl) rfl ?_
    refine L.rd (rd_pickF rfl rfl) rfl ?_
    refine L.nil ?_
    refine X.sq ?_
    first | refine V.cond rfl (fun h18 => ?_) (fun h18 => ?_) | refine V.condB rfl (fun h18 => ?_) (fun h18 => ?_)
    ·
      refine V.seq ?_
      refine V.region ?_
      refine L.rd (rd_assign rfl) rfl ?_
      refine L.rd (rd_assign rfl) rfl ?_
      refine L.nil ?_
      refine X.sq ?_
      refine V.ret ?_
      refine X.sqRet ?_
      refine ret_2 Yaam.results46 rfl rfl ?_
      rw [if_neg (by omega), decide_eq_false (by omega)]
      exact ⟨rfl, hE1⟩
    ·
      refine V.skip ?_
      refine X.sq ?_
      refine V.seq ?_
      have hlp : pt.length = 26 := by omega
      obtain ⟨pb, po, rfl, hcp⟩ := hfp.resolve_left (by omega)
      rw [if_pos hlp, decide_eq_true hlp]
      refine V.region ?_
      refine L.rd (rd_fieldAddr tok rfl rfl rfl rfl rfl rfl) rfl ?_
      refine L.rd (rd_load1 tok rfl rfl rfl (hp1.cell rfl)) rfl ?_
      refine L.rd (rd_lenSlice tok rfl rfl rfl) rfl ?_
      refine L.rd (rd_assign rfl) rfl ?_
      refine L.nil ?_
      refine X.sq ?_
      refine V.seq ?_
      refine V.region ?_
      refine L.rd (rd_move rfl) rfl ?_
      refine L.ef (e_make (e := 2) (zs := [_]) (m := ns.length) (c := ns.length) tok rfl rfl rfl rfl rfl rfl rfl rfl (by first | (simp only [size_addB, size_setB, size_drew]; rfl) | rfl) rfl (by omega) (by simp only []; omega) (by omega) ?_)
      refine L.rd (rd_assign rfl) rfl ?_
      refine L.nil ?_
      refine X.sq ?_
      refine V.seq ?_
      refine V.seq ?_
      refine V.region ?_
      refine L.rd (rd_assign rfl) rfl ?_
      refine L.nil ?_
      refine X.sq ?_
      refine V.block ?_
      refine V.loop (fun m l wr => ∃ (i : Nat) (Vs : List Int), l = [(1, .slice (some ⟨pb, po, none⟩) pt.length pc), (2, .pointer (some ⟨w.heap.size, 0, none⟩)), (6, .int .i64 ns.length), (7, .slice (some ⟨w1.heap.size, 0, none⟩) ns.length ns.length), (8, .int .i64 i)] ∧ m = ns.length - i ∧ i ≤ ns.length ∧ Ext w1.heap.size w1 wr ∧ Bl wr w1.heap.size 2 (iC .i64 Vs) ∧ Vs.length = ns.length ∧ (∀ (j : Nat) (s : Tre), j < i → S[j]? = some s → Vs[j]? = some (evT pt s))) ?_ ?_
      ·
        refine ⟨_, _, (by repeat' (first | exact trivial | refine ⟨rfl, ?_⟩)), 0, List.replicate ns.length 0, rfl, rfl, by omega, (Ext.refl _ _).addNew _ _, ?_, by simp, fun j s hj => absurd hj (by omega)⟩
        have := Bl.new w1 2 ((List.replicate ns.length [Value.int .i64 0]).flatten)
        simp only [flat_rep1] at this ⊢
        simpa [iC] using this
      ·
        rintro m l wr ⟨i, Vs, rfl, rfl, hi, hEw, hV, hVl, hinv⟩
        have hEr : Ext w.heap.size w wr := hE1.next hEw
        have hpr := hEw.bl hp1.lt hp1
        have hswr := hEw.size
        have hVlt := hV.lt
        have hcpr := hcp.le hEr.leC
        refine V.seq ?_
        refine V.seq ?_
        refine V.region ?_
        refine L.rd (rd_move rfl) rfl ?_
        refine L.rd (rd_move rfl) rfl ?_
        refine L.rd (rd_lss rfl rfl) rfl ?_
        refine L.nil ?_
        refine X.sq ?_
        first | refine V.cond rfl (fun h26 => ?_) (fun h26 => ?_) | refine V.condB rfl (fun h26 => ?_) (fun h26 => ?_)
        ·
          obtain ⟨b1, o1, rfl, hc1⟩ := hfn.resolve_left (by omega)
          obtain ⟨⟨k, v, x, lf_, rt⟩, ht⟩ := nth_of_lt ns i (by omega)
          obtain ⟨s, hs⟩ := nth_of_lt S i (by omega)
          obtain ⟨hok, hws⟩ := hSb.ok i _ s ht hs
          have hkk := sok_kind hok hws
          have hcx := (hc1.le hEr.leC).sub (i * 5) (ndE (k, v, x, lf_, rt)) (fun j u hu => fm_get ndE_len ns i _ ht j u hu)
          refine V.skip ?_
          refine X.sq ?_
          refine V.seq ?_
          refine V.block ?_
          refine V.seq ?_
          refine V.region ?_
          refine L.rd (rd_fieldAddr tok rfl rfl rfl rfl rfl rfl) rfl ?_
          refine L.rd (rd_load1 tok rfl rfl rfl (hpr.cell rfl)) rfl ?_
          refine L.rd (rd_move rfl) rfl ?_
          (refine L.rd (rd_indexSlice (sz := 5) tok rfl rfl rfl rfl rfl rfl rfl ?_) rfl ?_; omega)
          refine L.rd (rd_loadN tok rfl rfl rfl hcx rfl) rfl ?_
          refine L.ef (e_alloc (cs := [_, _, _, _, _]) tok rfl rfl (by first | (simp only [size_addB, size_setB, size_drew]; rfl) | rfl) rfl ?_)
          refine L.ef (e_store (vs := [_, _, _, _, _]) tok rfl rfl rfl rfl (by (repeat (first | assumption | (refine Bl.new' ?_ _ _; first | with_reducible rfl | (simp only [size_addB, size_setB, size_drew]; done)) | apply Bl.add | apply Bl.drew | (apply Bl.setNe; omega) | (refine Bl.set' ?_ _ _; (try simp only [size_addB, size_setB, size_drew]); omega)))) rfl (by simp [Value.oneCell']) (by simp) ?_)
          refine L.nil ?_
          refine X.sq ?_
          refine V.seq ?_
          generalize hw4 : setB _ _ _ _ = w4
          have hb4 : Bl w4 wr.heap.size 80 [.int .i64 k, .int .i64 v, .int .i64 x, .int .i64 lf_, .int .i64 rt] := bl_of_new hw4
          have he4 := ext_of_new hw4
          have hV4 := he4.bl hV.lt hV
          have hE4 := hEw.next he4
          have hcp4 := hcpr.le he4.leC
          refine V.region ?_
          refine L.rd (rd_assign rfl) rfl ?_
          refine L.nil ?_
          refine X.sq ?_
          refine V.seq ?_
          refine V.seq ?_
          refine V.region ?_
          refine L.rd (rd_fieldAddr tok rfl rfl rfl rfl rfl rfl) rfl ?_
          refine L.rd (rd_load1 tok rfl rfl rfl (hb4.cell rfl)) rfl ?_
          refine L.nil ?_
          refine X.sq ?_
          refine V.cut (fun l w' => l = [(1, .slice (some ⟨pb, po, none⟩) pt.length pc), (2, .pointer (some ⟨w.heap.size, 0, none⟩)), (6, .int .i64 ns.length), (7, .slice (some ⟨w1.heap.size, 0, none⟩) ns.length ns.length), (8, .int .i64 i), (10, .int .i64 (evT pt s))] ∧ Ext w1.heap.size w1 w' ∧ Bl w' w1.heap.size 2 (iC .i64 Vs)) ?_ ?_
          ·
            refine V.block ?_
            refine V.seq ?_
            refine V.region ?_
            refine L.rd (rd_eql rfl rfl) rfl ?_
            refine L.rd (rd_assign rfl) rfl ?_
            refine L.nil ?_
            refine X.sq ?_
            first | refine V.cond rfl (fun h36 => ?_) (fun h36 => ?_) | refine V.condB rfl (fun h36 => ?_) (fun h36 => ?_)
            ·
              refine V.region ?_
              refine L.rd (rd_fieldAddr tok rfl rfl rfl rfl rfl rfl) rfl ?_
              refine L.rd (rd_load1 tok rfl rfl rfl (hb4.cell (i := 1) rfl)) rfl ?_
              refine L.rd (rd_assign rfl) rfl ?_
              refine L.nil ?_
              refine X.bk ?_
              obtain ⟨rfl, -⟩ := sok1 hok hws h36
              exact X.ct ⟨_, (by repeat' (first | exact trivial | refine ⟨rfl, ?_⟩)), rfl, hE4, hV4⟩
            ·
              refine V.seq ?_
              refine V.region ?_
              refine L.rd (rd_eql rfl rfl) rfl ?_
              refine L.rd (rd_assign rfl) rfl ?_
              refine L.nil ?_
              refine X.sq ?_
              first | refine V.cond rfl (fun h40 => ?_) (fun h40 => ?_) | refine V.condB rfl (fun h40 => ?_) (fun h40 => ?_)
              ·
                obtain ⟨rfl, rfl, hx0, hx1⟩ := sok2 hok hws h40
                obtain ⟨y, hy⟩ := nth_of_lt pt x.toNat (by omega)
                have hyv : ptv pt x = y := by unfold ptv; rw [List.getD_eq_getElem?_getD, hy]; rfl
                refine V.region ?_
                refine L.rd (rd_move rfl) rfl ?_
                refine L.rd (rd_fieldAddr tok rfl rfl rfl rfl rfl rfl) rfl ?_
                refine L.rd (rd_load1 tok rfl rfl rfl (hb4.cell (i := 2) rfl)) rfl ?_
                (refine L.rd (rd_indexSlice (sz := 1) tok rfl rfl rfl rfl rfl rfl rfl ?_) rfl ?_; omega)
                refine L.rd (rd_load1 tok rfl rfl rfl (cells_at hcp4 (iC_get hy) (by simp))) rfl ?_
                refine L.rd (rd_assign rfl) rfl ?_
                refine L.nil ?_
                refine X.bk ?_
                rw [← hyv]
                exact X.ct ⟨_, (by repeat' (first | exact trivial | refine ⟨rfl, ?_⟩)), rfl, hE4, hV4⟩
              ·
                refine V.seq ?_
                refine V.region ?_
                refine L.rd (rd_eql rfl rfl) rfl ?_
                refine L.rd (rd_assign rfl) rfl ?_
                refine L.nil ?_
                refine X.sq ?_
                first | refine V.cond rfl (fun h47 => ?_) (fun h47 => ?_) | refine V.condB rfl (fun h47 => ?_) (fun h47 => ?_)
                ·
                  obtain ⟨a, j, rfl, rfl, hj, hSj, hwa⟩ := sok3 hok hws h47
                  have hVj := hinv j a hj hSj
                  refine V.region ?_
                  refine L.rd (rd_move rfl) rfl ?_
                  refine L.rd (rd_fieldAddr tok rfl rfl rfl rfl rfl rfl) rfl ?_
                  refine L.rd (rd_load1 tok rfl rfl rfl (hb4.cell (i := 3) rfl)) rfl ?_
                  (refine L.rd (rd_indexSlice (sz := 1) tok rfl rfl rfl rfl rfl rfl rfl ?_) rfl ?_; omega)
                  refine L.rd (rd_load1 tok rfl rfl rfl (cell_at (i := ((j : Nat) : Int).toNat) hV4 (by rw [Int.toNat_natCast]; exact iC_get hVj) (by simp))) rfl ?_
                  refine L.rd (rd_negE (r := w64 (-(evT pt a))) rfl rfl) rfl ?_
                  refine L.rd (rd_assign rfl) rfl ?_
                  refine L.nil ?_
                  refine X.bk ?_
                  exact X.ct ⟨_, (by repeat' (first | exact trivial | refine ⟨rfl, ?_⟩)), rfl, hE4, hV4⟩
                ·
                  refine V.seq ?_
                  refine V.region ?_
                  refine L.rd (rd_eql rfl rfl) rfl ?_
                  refine L.rd (rd_assign rfl) rfl ?_
                  refine L.nil ?_
                  refine X.sq ?_
                  first | refine V.cond rfl (fun h55 => ?_) (fun h55 => ?_) | refine V.condB rfl (fun h55 => ?_) (fun h55 => ?_)
                  ·
                    obtain rfl : k = 4 := h55
                    obtain ⟨a, b, j, j2, rfl, rfl, rfl, hj, hj2, hSj, hSj2, hwa, hwb⟩ := sokb hok hws (by omega)
                    have hVj := hinv j a hj hSj
                    have hVj2 := hinv j2 b hj2 hSj2
                    refine V.draw [] mixed ?_
                    refine D.take 0 [true, false, false, false, false, false, false, false, false, false, false, false] (.bk (.ct (.sq (.bk (.sq (.lp (.bk (.sq .bd)))))))) rfl (rd_move rfl) rfl (by kernel_rfl) rfl (LeC.drew _) ?_
                    refine D.take 1 [true, true, false, false, false, false, false, false, false, false, false, false] (.bk (.ct (.sq (.bk (.sq (.lp (.bk (.sq .bd)))))))) rfl (rd_fieldAddr tok rfl rfl rfl rfl rfl rfl) rfl (by kernel_rfl) rfl (LeC.drew _) ?_
                    refine D.take 2 [true, true, true, false, false, false, false, false, false, false, false, false] (.bk (.ct (.sq (.bk (.sq (.lp (.bk (.sq .bd)))))))) rfl (rd_load1 tok rfl rfl rfl (hb4.cell (i := 3) rfl)) rfl (by kernel_rfl) rfl (LeC.drew _) ?_
                    (refine D.take 3 [true, true, true, true, false, false, false, false, false, false, false, false] (.bk (.ct (.sq (.bk (.sq (.lp (.bk (.sq .bd)))))))) rfl (rd_indexSlice (sz := 1) tok rfl rfl rfl rfl rfl rfl rfl ?_) rfl (by kernel_rfl) rfl (LeC.drew _) ?_; omega)
                    refine D.take 4 [true, true, true, true, true, false, false, false, false, false, false, false] (.bk (.ct (.sq (.bk (.sq (.lp (.bk (.sq .bd)))))))) rfl (rd_load1 tok rfl rfl rfl (cell_at (i := ((j : Nat) : Int).toNat) hV4 (by rw [Int.toNat_natCast]; exact iC_get hVj) (by simp))) rfl (by kernel_rfl) rfl (LeC.drew _) ?_
                    refine D.take 5 [true, true, true, true, true, true, false, false, false, false, false, false] (.bk (.ct (.sq (.bk (.sq (.lp (.bk (.sq .bd)))))))) rfl (rd_move rfl) rfl (by kernel_rfl) rfl (LeC.drew _) ?_
                    refine D.take 6 [true, true, true, true, true, true, true, false, false, false, false, false] (.bk (.ct (.sq (.bk (.sq (.lp (.bk (.sq .bd)))))))) rfl (rd_fieldAddr tok rfl rfl rfl rfl rfl rfl) rfl (by kernel_rfl) rfl (LeC.drew _) ?_
                    refine D.take 7 [true, true, true, true, true, true, true, true, false, false, false, false] (.bk (.ct (.sq (.bk (.sq (.lp (.bk (.sq .bd)))))))) rfl (rd_load1 tok rfl rfl rfl (hb4.cell (i := 4) rfl)) rfl (by kernel_rfl) rfl (LeC.drew _) ?_
                    (refine D.take 8 [true, true, true, true, true, true, true, true, true, false, false, false] (.bk (.ct (.sq (.bk (.sq (.lp (.bk (.sq .bd)))))))) rfl (rd_indexSlice (sz := 1) tok rfl rfl rfl rfl rfl rfl rfl ?_) rfl (by kernel_rfl) rfl (LeC.drew _) ?_; omega)
                    refine D.take 9 [true, true, true, true, true, true, true, true, true, true, false, false] (.bk (.ct (.sq (.bk (.sq (.lp (.bk (.sq .bd)))))))) rfl (rd_load1 tok rfl rfl rfl (cell_at (i := ((j2 : Nat) : Int).toNat) hV4 (by rw [Int.toNat_natCast]; exact iC_get hVj2) (by simp))) rfl (by kernel_rfl) rfl (LeC.drew _) ?_
                    refine D.take 10 [true, true, true, true, true, true, true, true, true, true, true, false] (.bk (.ct (.sq (.bk (.sq (.lp (.bk (.sq .bd)))))))) rfl (rd_addE (r := w64 (evT pt a + evT pt b)) rfl rfl rfl) rfl (by kernel_rfl) rfl (LeC.drew _) ?_
                    refine D.take 11 [true, true, true, true, true, true, true, true, true, true, true, true] (.bk (.ct (.sq (.bk (.sq (.lp (.bk (.sq .bd)))))))) rfl (rd_assign rfl) rfl (by kernel_rfl) rfl (LeC.drew _) ?_
                    refine D.done (by kernel_rfl) ?_
                    refine X.bk ?_
                    exact X.ct ⟨_, (by repeat' (first | exact trivial | refine ⟨rfl, ?_⟩)), rfl, hE4.drew, hV4.drew⟩
                  ·
                    refine V.seq ?_
                    refine V.region ?_
                    refine L.rd (rd_eql rfl rfl) rfl ?_
                    refine L.rd (rd_assign rfl) rfl ?_
                    refine L.nil ?_
                    refine X.sq ?_
                    first | refine V.cond rfl (fun h68 => ?_) (fun h68 => ?_) | refine V.condB rfl (fun h68 => ?_) (fun h68 => ?_)
                    ·
                      obtain rfl : k = 5 := h68
                      obtain ⟨a, b, j, j2, rfl, rfl, rfl, hj, hj2, hSj, hSj2, hwa, hwb⟩ := sokb hok hws (by omega)
                      have hVj := hinv j a hj hSj
                      have hVj2 := hinv j2 b hj2 hSj2
                      refine V.draw [] mixed ?_
                      refine D.take 0 [true, false, false, false, false, false, false, false, false, false, false, false] (.bk (.ct (.sq (.bk (.sq (.lp (.bk (.sq .bd)))))))) rfl (rd_move rfl) rfl (by kernel_rfl) rfl (LeC.drew _) ?_
                      refine D.take 1 [true, true, false, false, false, false, false, false, false, false, false, false] (.bk (.ct (.sq (.bk (.sq (.lp (.bk (.sq .bd)))))))) rfl (rd_fieldAddr tok rfl rfl rfl rfl rfl rfl) rfl (by kernel_rfl) rfl (LeC.drew _) ?_
                      refine D.take 2 [true, true, true, false, false, false, false, false, false, false, false, false] (.bk (.ct (.sq (.bk (.sq (.lp (.bk (.sq .bd)))))))) rfl (rd_load1 tok rfl rfl rfl (hb4.cell (i := 3) rfl)) rfl (by kernel_rfl) rfl (LeC.drew _) ?_
                      (refine D.take 3 [true, true, true, true, false, false, false, false, false, false, false, false] (.bk (.ct (.sq (.bk (.sq (.lp (.bk (.sq .bd)))))))) rfl (rd_indexSlice (sz := 1) tok rfl rfl rfl rfl rfl rfl rfl ?_) rfl (by kernel_rfl) rfl (LeC.drew _) ?_; omega)
                      refine D.take 4 [true, true, true, true, true, false, false, false, false, false, false, false] (.bk (.ct (.sq (.bk (.sq (.lp (.bk (.sq .bd)))))))) rfl (rd_load1 tok rfl rfl rfl (cell_at (i := ((j : Nat) : Int).toNat) hV4 (by rw [Int.toNat_natCast]; exact iC_get hVj) (by simp))) rfl (by kernel_rfl) rfl (LeC.drew _) ?_
                      refine D.take 5 [true, true, true, true, true, true, false, false, false, false, false, false] (.bk (.ct (.sq (.bk (.sq (.lp (.bk (.sq .bd)))))))) rfl (rd_move rfl) rfl (by kernel_rfl) rfl (LeC.drew _) ?_
                      refine D.take 6 [true, true, true, true, true, true, true, false, false, false, false, false] (.bk (.ct (.sq (.bk (.sq (.lp (.bk (.sq .bd)))))))) rfl (rd_fieldAddr tok rfl rfl rfl rfl rfl rfl) rfl (by kernel_rfl) rfl (LeC.drew _) ?_
                      refine D.take 7 [true, true, true, true, true, true, true, true, false, false, false, false] (.bk (.ct (.sq (.bk (.sq (.lp (.bk (.sq .bd)))))))) rfl (rd_load1 tok rfl rfl rfl (hb4.cell (i := 4) rfl)) rfl (by kernel_rfl) rfl (LeC.drew _) ?_
                      (refine D.take 8 [true, true, true, true, true, true, true, true, true, false, false, false] (.bk (.ct (.sq (.bk (.sq (.lp (.bk (.sq .bd)))))))) rfl (rd_indexSlice (sz := 1) tok rfl rfl rfl rfl rfl rfl rfl ?_) rfl (by kernel_rfl) rfl (LeC.drew _) ?_; omega)
                      refine D.take 9 [true, true, true, true, true, true, true, true, true, true, false, false] (.bk (.ct (.sq (.bk (.sq (.lp (.bk (.sq .bd)))))))) rfl (rd_load1 tok rfl rfl rfl (cell_at (i := ((j2 : Nat) : Int).toNat) hV4 (by rw [Int.toNat_natCast]; exact iC_get hVj2) (by simp))) rfl (by kernel_rfl) rfl (LeC.drew _) ?_
                      refine D.take 10 [true, true, true, true, true, true, true, true, true, true, true, false] (.bk (.ct (.sq (.bk (.sq (.lp (.bk (.sq .bd)))))))) rfl (rd_subE (r := w64 (evT pt a - evT pt b)) rfl rfl rfl) rfl (by kernel_rfl) rfl (LeC.drew _) ?_
                      refine D.take 11 [true, true, true, true, true, true, true, true, true, true, true, true] (.bk (.ct (.sq (.bk (.sq (.lp (.bk (.sq .bd)))))))) rfl (rd_assign rfl) rfl (by kernel_rfl) rfl (LeC.drew _) ?_
                      refine D.done (by kernel_rfl) ?_
                      refine X.bk ?_
                      exact X.ct ⟨_, (by repeat' (first | exact trivial | refine ⟨rfl, ?_⟩)), rfl, hE4.drew, hV4.drew⟩
                    ·
                      refine V.seq ?_
                      refine V.region ?_
                      refine L.rd (rd_eql rfl rfl) rfl ?_
                      refine L.rd (rd_assign rfl) rfl ?_
                      refine L.nil ?_
                      refine X.sq ?_
                      first | refine V.cond rfl (fun h81 => ?_) (fun h81 => ?_) | refine V.condB rfl (fun h81 => ?_) (fun h81 => ?_)
                      ·
                        obtain rfl : k = 6 := h81
                        obtain ⟨a, b, j, j2, rfl, rfl, rfl, hj, hj2, hSj, hSj2, hwa, hwb⟩ := sokb hok hws (by omega)
                        have hVj := hinv j a hj hSj
                        have hVj2 := hinv j2 b hj2 hSj2
                        refine V.draw [] mixed ?_
                        refine D.take 0 [true, false, false, false, false, false, false, false, false, false, false, false] (.bk (.ct (.sq (.bk (.sq (.lp (.bk (.sq .bd)))))))) rfl (rd_move rfl) rfl (by kernel_rfl) rfl (LeC.drew _) ?_
                        refine D.take 1 [true, true, false, false, false, false, false, false, false, false, false, false] (.bk (.ct (.sq (.bk (.sq (.lp (.bk (.sq .bd)))))))) rfl (rd_fieldAddr tok rfl rfl rfl rfl rfl rfl) rfl (by kernel_rfl) rfl (LeC.drew _) ?_
                        refine D.take 2 [true, true, true, false, false, false, false, false, false, false, false, false] (.bk (.ct (.sq (.bk (.sq (.lp (.bk (.sq .bd)))))))) rfl (rd_load1 tok rfl rfl rfl (hb4.cell (i := 3) rfl)) rfl (by kernel_rfl) rfl (LeC.drew _) ?_
                        (refine D.take 3 [true, true, true, true, false, false, false, false, false, false, false, false] (.bk (.ct (.sq (.bk (.sq (.lp (.bk (.sq .bd)))))))) rfl (rd_indexSlice (sz := 1) tok rfl rfl rfl rfl rfl rfl rfl ?_) rfl (by kernel_rfl) rfl (LeC.drew _) ?_; omega)
                        refine D.take 4 [true, true, true, true, true, false, false, false, false, false, false, false] (.bk (.ct (.sq (.bk (.sq (.lp (.bk (.sq .bd)))))))) rfl (rd_load1 tok rfl rfl rfl (cell_at (i := ((j : Nat) : Int).toNat) hV4 (by rw [Int.toNat_natCast]; exact iC_get hVj) (by simp))) rfl (by kernel_rfl) rfl (LeC.drew _) ?_
                        refine D.take 5 [true, true, true, true, true, true, false, false, false, false, false, false] (.bk (.ct (.sq (.bk (.sq (.lp (.bk (.sq .bd)))))))) rfl (rd_move rfl) rfl (by kernel_rfl) rfl (LeC.drew _) ?_
                        refine D.take 6 [true, true, true, true, true, true, true, false, false, false, false, false] (.bk (.ct (.sq (.bk (.sq (.lp (.bk (.sq .bd)))))))) rfl (rd_fieldAddr tok rfl rfl rfl rfl rfl rfl) rfl (by kernel_rfl) rfl (LeC.drew _) ?_
                        refine D.take 7 [true, true, true, true, true, true, true, true, false, false, false, false] (.bk (.ct (.sq (.bk (.sq (.lp (.bk (.sq .bd)))))))) rfl (rd_load1 tok rfl rfl rfl (hb4.cell (i := 4) rfl)) rfl (by kernel_rfl) rfl (LeC.drew _) ?_
                        (refine D.take 8 [true, true, true, true, true, true, true, true, true, false, false, false] (.bk (.ct (.sq (.bk (.sq (.lp (.bk (.sq .bd)))))))) rfl (rd_indexSlice (sz := 1) tok rfl rfl rfl rfl rfl rfl rfl ?_) rfl (by kernel_rfl) rfl (LeC.drew _) ?_; omega)
                        refine D.take 9 [true, true, true, true, true, true, true, true, true, true, false, false] (.bk (.ct (.sq (.bk (.sq (.lp (.bk (.sq .bd)))))))) rfl (rd_load1 tok rfl rfl rfl (cell_at (i := ((j2 : Nat) : Int).toNat) hV4 (by rw [Int.toNat_natCast]; exact iC_get hVj2) (by simp))) rfl (by kernel_rfl) rfl (LeC.drew _) ?_
                        refine D.take 10 [true, true, true, true, true, true, true, true, true, true, true, false] (.bk (.ct (.sq (.bk (.sq (.lp (.bk (.sq .bd)))))))) rfl (rd_mulE (r := w64 (evT pt a * evT pt b)) rfl rfl rfl) rfl (by kernel_rfl) rfl (LeC.drew _) ?_
                        refine D.take 11 [true, true, true, true, true, true, true, true, true, true, true, true] (.bk (.ct (.sq (.bk (.sq (.lp (.bk (.sq .bd)))))))) rfl (rd_assign rfl) rfl (by kernel_rfl) rfl (LeC.drew _) ?_
                        refine D.done (by kernel_rfl) ?_
                        refine X.bk ?_
                        exact X.ct ⟨_, (by repeat' (first | exact trivial | refine ⟨rfl, ?_⟩)), rfl, hE4.drew, hV4.drew⟩
                      ·
                        refine V.seq ?_
                        refine V.region ?_
                        refine L.rd (rd_eql rfl rfl) rfl ?_
                        refine L.rd (rd_assign rfl) rfl ?_
                        refine L.nil ?_
                        refine X.sq ?_
                        first | refine V.cond rfl (fun h94 => ?_) (fun h94 => ?_) | refine V.condB rfl (fun h94 => ?_) (fun h94 => ?_)
                        ·
                          obtain ⟨a, j, rfl, rfl, hj, hSj, hwa, hv0, hv1⟩ := sok7 hok hws h94
                          have hVj := hinv j a hj hSj
                          obtain ⟨n, rfl⟩ : ∃ n : Nat, v = n := ⟨v.toNat, by omega⟩
                          refine V.draw [] mixed ?_
                          refine D.take 0 [true, false, false, false, false, false, false, false, false] (.bk (.ct (.sq (.bk (.sq (.lp (.bk (.sq .bd)))))))) rfl (rd_move rfl) rfl (by kernel_rfl) rfl (LeC.drew _) ?_
                          refine D.take 1 [true, true, false, false, false, false, false, false, false] (.bk (.ct (.sq (.bk (.sq (.lp (.bk (.sq .bd)))))))) rfl (rd_fieldAddr tok rfl rfl rfl rfl rfl rfl) rfl (by kernel_rfl) rfl (LeC.drew _) ?_
                          refine D.take 2 [true, true, true, false, false, false, false, false, false] (.bk (.ct (.sq (.bk (.sq (.lp (.bk (.sq .bd)))))))) rfl (rd_load1 tok rfl rfl rfl (hb4.cell (i := 3) rfl)) rfl (by kernel_rfl) rfl (LeC.drew _) ?_
                          (refine D.take 3 [true, true, true, true, false, false, false, false, false] (.bk (.ct (.sq (.bk (.sq (.lp (.bk (.sq .bd)))))))) rfl (rd_indexSlice (sz := 1) tok rfl rfl rfl rfl rfl rfl rfl ?_) rfl (by kernel_rfl) rfl (LeC.drew _) ?_; omega)
                          refine D.take 4 [true, true, true, true, true, false, false, false, false] (.bk (.ct (.sq (.bk (.sq (.lp (.bk (.sq .bd)))))))) rfl (rd_load1 tok rfl rfl rfl (cell_at (i := ((j : Nat) : Int).toNat) hV4 (by rw [Int.toNat_natCast]; exact iC_get hVj) (by simp))) rfl (by kernel_rfl) rfl (LeC.drew _) ?_
                          refine D.take 5 [true, true, true, true, true, true, false, false, false] (.bk (.ct (.sq (.bk (.sq (.lp (.bk (.sq .bd)))))))) rfl (rd_fieldAddr tok rfl rfl rfl rfl rfl rfl) rfl (by kernel_rfl) rfl (LeC.drew _) ?_
                          refine D.take 6 [true, true, true, true, true, true, true, false, false] (.bk (.ct (.sq (.bk (.sq (.lp (.bk (.sq .bd)))))))) rfl (rd_load1 tok rfl rfl rfl (hb4.cell (i := 1) rfl)) rfl (by kernel_rfl) rfl (LeC.drew _) ?_
                          refine D.one 7 [true, true, true, true, true, true, true, true, false] rfl (by kernel_rfl) rfl (e_call rfl (powWrap_ok (evT pt a) n (by omega) _) rfl ?_)
                          rintro _ _ ⟨rfl, rfl⟩
                          refine ⟨fun _ => (LeC.drew _), ?_⟩
                          refine D.take 8 [true, true, true, true, true, true, true, true, true] (.bk (.ct (.sq (.bk (.sq (.lp (.bk (.sq .bd)))))))) rfl (rd_assign rfl) rfl (by kernel_rfl) rfl (LeC.drew _) ?_
                          refine D.done (by kernel_rfl) ?_
                          refine X.bk ?_
                          exact X.ct ⟨_, (by repeat' (first | exact trivial | refine ⟨rfl, ?_⟩)), rfl, hE4.drew, hV4.drew⟩
                        ·
                          refine V.skip ?_
                          refine X.bk ?_
                          exfalso; omega
          ·
            rintro l w5 ⟨rfl, hE5, hV5⟩
            refine X.sq ?_
            refine V.region ?_
            refine L.rd (rd_move rfl) rfl ?_
            refine L.rd (rd_move rfl) rfl ?_
            refine L.rd (rd_move rfl) rfl ?_
            (refine L.rd (rd_indexSlice (sz := 1) tok rfl rfl rfl rfl rfl rfl rfl ?_) rfl ?_; omega)
            refine L.ef (e_store (vs := [_]) tok rfl rfl rfl rfl hV5 rfl (by simp [Value.oneCell']) (by simp [iC]; omega) ?_)
            (simp only [Nat.zero_add, Nat.mul_one, Int.toNat_natCast])
            rw [iC_putI _ _ _ (by omega)]
            refine L.nil ?_
            refine X.bk ?_
            refine X.sq ?_
            refine V.region ?_
            refine L.rd (rd_move rfl) rfl ?_
            (refine L.rd (rd_add3 rfl rfl ?_) rfl ?_; omega)
            refine L.rd (rd_assign rfl) rfl ?_
            refine L.nil ?_
            refine X.lp ⟨_, _, by omega, (by repeat' (first | exact trivial | refine ⟨rfl, ?_⟩)), i + 1, Vs.set i (evT pt s), rfl, rfl, by omega, hE5.set (Nat.le_refl _) _ _, hV5.set _ _, by simp [hVl], fun j s' hj hSj => ?_⟩
            rcases Nat.lt_or_ge j i with h | h
            · rw [List.getElem?_set_ne (by omega)]; exact hinv j s' h hSj
            · obtain rfl : j = i := by omega
              rw [hs] at hSj
              simp only [Option.some.injEq] at hSj
              subst hSj
              rw [List.getElem?_set_self (by omega)]
        ·
          refine V.exit ?_
          refine X.sqExit ?_
          refine X.lpExit ?_
          refine X.bkHere ?_
          refine X.sq ?_
          refine V.seq ?_
          have hlast := hinv (tsz t - 1) t (by omega) hroot
          have hix : ((ns.length : Int) - 1).toNat = tsz t - 1 := by omega
          refine V.region ?_
          refine L.rd (rd_move rfl) rfl ?_
          refine L.rd (rd_move rfl) rfl ?_
          (refine L.rd (rd_sub3 rfl rfl ?_) rfl ?_; omega)
          (refine L.rd (rd_indexSlice (sz := 1) tok rfl rfl rfl rfl rfl rfl rfl ?_) rfl ?_; omega)
          refine L.rd (rd_load1 tok rfl rfl rfl (cell_at (i := ((ns.length : Int) - 1).toNat) hV (by rw [hix]; exact iC_get hlast) (by simp))) rfl ?_
          refine L.rd (rd_assign rfl) rfl ?_
          refine L.rd (rd_assign rfl) rfl ?_
          refine L.nil ?_
          refine X.sq ?_
          refine V.ret ?_
          refine ret_2 Yaam.results46 rfl rfl ?_
          exact ⟨rfl, hEr⟩

theorem ievalE_bad (ns : List Nd) (root : Int) (hnot : ¬ WF ns root) (nv pv : Value) (n : Nat) (xs : List Value) (w : World) (hN : Rs w 5 nv ns.length (ns.flatMap ndE)) (hlen : ns.length ≤ 1000000000) (hP : Rs w 1 pv n xs) : Ret Yaam.prog 46 [.agg #[nv, .int .i64 root], pv] w fun r w' => r = .tuple #[.int .i64 0, .bool false] ∧ Ext w.heap.size w w' := by
  obtain ⟨na, nc, rfl, hfn⟩ := id hN.form
  obtain ⟨pa, pc, rfl, hfp⟩ := id hP.form
  refine enter2 Yaam.func46 Yaam.ntmps46 (by kernel_rfl) rfl rfl ?_
  refine V.seq ?_
  refine V.region ?_
  refine L.ef (e_box (cs := [_, _]) rfl rfl (by first | (simp only [size_addB, size_setB, size_drew]; rfl) | rfl) rfl ?_)
  refine L.rd (rd_assign rfl) rfl ?_
  refine L.rd (rd_assign rfl) rfl ?_
  refine L.nil ?_
  refine X.sq ?_
  refine V.seq ?_
  refine V.seq ?_
  have hp := Bl.new w 34 [.slice na ns.length nc, .int .i64 root]
  have hE := (Ext.refl _ w).addNew 34 [.slice na ns.length nc, .int .i64 root]
  refine V.region ?_
  refine L.rd (rd_loadN tok rfl rfl rfl hp.cells rfl) rfl ?_
  refine L.ef (e_call rfl (iwf_bad ns root hnot _ _ (hN.le hE.leC) hlen) rfl ?_)
  rintro _ w1 ⟨rfl, he1⟩
  first | refine L.rd (rd_not rfl) rfl ?_ | refine L.rd (rd_notB rfl) rfl ?_
  refine L.rd (rd_move rfl) rfl ?_
  first | refine L.partG rfl rfl (fun g14 => ?_) (fun g14 => ?_) | refine L.partGB rfl rfl (fun g14 => ?_) (fun g14 => ?_)
  ·
    refine L.no rfl rfl rfl rfl ?_
    refine L.no rfl rfl rfl rfl ?_
    refine L.no rfl rfl rfl rfl ?_
    refine L.rd (rd_pickT rfl rfl) rfl ?_
    refine L.nil ?_
    refine X.sq ?_
    refine V.condT rfl ?_
    refine V.seq ?_
    refine V.region ?_
    refine L.rd (rd_assign rfl) rfl ?_
    refine L.rd (rd_assign rfl) rfl ?_
    refine L.nil ?_
    refine X.sq ?_
    refine V.ret ?_
    refine X.sqRet ?_
    refine ret_2 Yaam.results46 rfl rfl ?_
    exact ⟨rfl, hE.next he1⟩
  ·
    first | exact absurd rfl g14 | simp at g14

theorem sevalE_bad (ns : List Nd) (root : Int) (hnot : ¬ WF ns root) (nv pv : Value) (n : Nat) (xs : List Value) (w : World) (hN : Rs w 5 nv ns.length (ns.flatMap ndE)) (hlen : ns.length ≤ 1000000000) (hP : Rs w 1 pv n xs) : Ret Yaam.prog 47 [.agg #[nv, .int .i64 root], pv] w fun r w' => r = .tuple #[.int .i64 0, .bool false] ∧ Ext w.heap.size w w' := by
  obtain ⟨na, nc, rfl, hfn⟩ := id hN.form
  obtain ⟨pa, pc, rfl, hfp⟩ := id hP.form
  refine enter2 Yaam.func47 Yaam.ntmps47 (by kernel_rfl) rfl rfl ?_
  refine V.seq ?_
  refine V.region ?_
  refine L.ef (e_box (cs := [_, _]) rfl rfl (by first | (simp only [size_addB, size_setB, size_drew]; rfl) | rfl) rfl ?_)
  refine L.rd (rd_assign rfl) rfl ?_
  refine L.rd (rd_assign rfl) rfl ?_
  refine L.nil ?_
  refine X.sq ?_
  refine V.seq ?_
  refine V.seq ?_
  have hp := Bl.new w 34 [.slice na ns.length nc, .int .i64 root]
  have hE := (Ext.refl _ w).addNew 34 [.slice na ns.length nc, .int .i64 root]
  refine V.region ?_
  refine L.rd (rd_loadN tok rfl rfl rfl hp.cells rfl) rfl ?_
  refine L.ef (e_call rfl (swf_bad ns root hnot _ _ (hN.le hE.leC) hlen) rfl ?_)
  rintro _ w1 ⟨rfl, he1⟩
  first | refine L.rd (rd_not rfl) rfl ?_ | refine L.rd (rd_notB rfl) rfl ?_
  refine L.rd (rd_move rfl) rfl ?_
  first | refine L.partG rfl rfl (fun g9 => ?_) (fun g9 => ?_) | refine L.partGB rfl rfl (fun g9 => ?_) (fun g9 => ?_)
  ·
    refine L.no rfl rfl rfl rfl ?_
    refine L.no rfl rfl rfl rfl ?_
    refine L.no rfl rfl rfl rfl ?_
    refine L.rd (rd_pickT rfl rfl) rfl ?_
    refine L.nil ?_
    refine X.sq ?_
    refine V.condT rfl ?_
    refine V.seq ?_
    refine V.region ?_
    refine L.rd (rd_assign rfl) rfl ?_
    refine L.rd (rd_assign rfl) rfl ?_
    refine L.nil ?_
    refine X.sq ?_
    refine V.ret ?_
    refine X.sqRet ?_
    refine ret_2 Yaam.results47 rfl rfl ?_
    exact ⟨rfl, hE.next he1⟩
  ·
    first | exact absurd rfl g9 | simp at g9

theorem okI_ok (x : Int) (ok mf : Bool) (w : World) (h1 : ok = true → mf = false) (h2 : ok = false → x = 0) : Ret Yaam.prog 48 [.int .i64 x, .bool ok, .bool mf] w fun r w' => r = .bool true ∧ Ext w.heap.size w w' := by
  obtain rfl | rfl : ok = true ∨ ok = false := by cases ok <;> simp
  · obtain rfl := h1 rfl
    refine enter3 Yaam.func48 Yaam.ntmps48 (by kernel_rfl) rfl rfl ?_
    refine V.seq ?_
    refine V.region ?_
    refine L.rd (rd_assign rfl) rfl ?_
    refine L.nil ?_
    refine X.sq ?_
    refine V.seq ?_
    refine V.seq ?_
    refine V.region ?_
    refine L.rd (rd_move rfl) rfl ?_
    refine L.rd (rd_move rfl) rfl ?_
    first | refine L.partG rfl rfl (fun g8 => ?_) (fun g8 => ?_) | refine L.partGB rfl rfl (fun g8 => ?_) (fun g8 => ?_)
    ·
      cases g8
    ·
      refine L.no rfl rfl rfl rfl ?_
      refine L.rd (rd_pickF rfl rfl) rfl ?_
      refine L.nil ?_
      refine X.sq ?_
      refine V.condF rfl ?_
      refine V.skip ?_
      refine X.sq ?_
      refine V.seq ?_
      refine V.region ?_
      refine L.rd (rd_move rfl) rfl ?_
      refine L.rd (rd_move rfl) rfl ?_
      first | refine L.partG rfl rfl (fun g12 => ?_) (fun g12 => ?_) | refine L.partGB rfl rfl (fun g12 => ?_) (fun g12 => ?_)
      ·
        refine L.no rfl rfl rfl rfl ?_
        refine L.no rfl rfl rfl rfl ?_
        refine L.rd (rd_pickT rfl rfl) rfl ?_
        refine L.rd (rd_assign rfl) rfl ?_
        refine L.nil ?_
        refine X.sq ?_
        refine V.ret ?_
        refine ret_1 Yaam.results48 rfl ?_
        exact ⟨rfl, Ext.refl _ _⟩
      ·
        cases g12
  · obtain rfl := h2 rfl
    refine enter3 Yaam.func48 Yaam.ntmps48 (by kernel_rfl) rfl rfl ?_
    refine V.seq ?_
    refine V.region ?_
    refine L.rd (rd_assign rfl) rfl ?_
    refine L.nil ?_
    refine X.sq ?_
    refine V.seq ?_
    refine V.seq ?_
    refine V.region ?_
    refine L.rd (rd_move rfl) rfl ?_
    refine L.rd (rd_move rfl) rfl ?_
    first | refine L.partG rfl rfl (fun g8 => ?_) (fun g8 => ?_) | refine L.partGB rfl rfl (fun g8 => ?_) (fun g8 => ?_)
    ·
      refine L.yes rfl rfl ?_
      refine L.rd (rd_move rfl) rfl ?_
      refine L.rd (rd_pickT rfl rfl) rfl ?_
      refine L.nil ?_
      refine X.sq ?_
      first | refine V.cond rfl (fun h10 => ?_) (fun h10 => ?_) | refine V.condB rfl (fun h10 => ?_) (fun h10 => ?_)
      ·
        cases h10
      ·
        refine V.skip ?_
        refine X.sq ?_
        refine V.seq ?_
        refine V.region ?_
        refine L.rd (rd_move rfl) rfl ?_
        refine L.rd (rd_move rfl) rfl ?_
        first | refine L.partG rfl rfl (fun g12 => ?_) (fun g12 => ?_) | refine L.partGB rfl rfl (fun g12 => ?_) (fun g12 => ?_)
        ·
          cases g12
        ·
          refine L.yes rfl rfl ?_
          refine L.rd (rd_move rfl) rfl ?_
          refine L.yes rfl rfl ?_
          refine L.rd (rd_eql rfl rfl) rfl ?_
          refine L.rd (rd_pickF rfl rfl) rfl ?_
          refine L.rd (rd_assign rfl) rfl ?_
          refine L.nil ?_
          refine X.sq ?_
          refine V.ret ?_
          refine ret_1 Yaam.results48 rfl ?_
          exact ⟨rfl, Ext.refl _ _⟩
    ·
      refine L.no rfl rfl rfl rfl ?_
      refine L.rd (rd_pickF rfl rfl) rfl ?_
      refine L.nil ?_
      refine X.sq ?_
      refine V.condF rfl ?_
      refine V.skip ?_
      refine X.sq ?_
      refine V.seq ?_
      refine V.region ?_
      refine L.rd (rd_move rfl) rfl ?_
      refine L.rd (rd_move rfl) rfl ?_
      first | refine L.partG rfl rfl (fun g12 => ?_) (fun g12 => ?_) | refine L.partGB rfl rfl (fun g12 => ?_) (fun g12 => ?_)
      ·
        cases g12
      ·
        refine L.yes rfl rfl ?_
        refine L.rd (rd_move rfl) rfl ?_
        refine L.yes rfl rfl ?_
        refine L.rd (rd_eql rfl rfl) rfl ?_
        refine L.rd (rd_pickF rfl rfl) rfl ?_
        refine L.rd (rd_assign rfl) rfl ?_
        refine L.nil ?_
        refine X.sq ?_
        refine V.ret ?_
        refine ret_1 Yaam.results48 rfl ?_
        exact ⟨rfl, Ext.refl _ _⟩
end Go.Proofs.YbxaawGreat
