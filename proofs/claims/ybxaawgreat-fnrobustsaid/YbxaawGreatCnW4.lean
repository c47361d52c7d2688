/-
  impl.Canon, walked.
-/
import Derived.Test.YbxaawGreatCnW3
import Derived.Test.YbxaawGreatEvalW
import Derived.Test.YbxaawGreatWfW
set_option linter.unusedVariables false
set_option linter.unusedSimpArgs false
set_option maxRecDepth 10000
set_option maxHeartbeats 4000000
namespace Go.Proofs.YbxaawGreat
open Go.Mw

theorem icanon_ok (t : Tre) (hw : Wt t) (hz : tsz t ≤ 500000) (nv : Value) (w : World) (hN : Rs w 5 nv (flat t 0).length ((flat t 0).flatMap ndE)) : Ret Yaam.prog 49 [.agg #[nv, .int .i64 ((tsz t : Int) - 1)]] w (XPost 80 (some (cn t)) w) := by
  obtain ⟨na, nc, rfl, hfn⟩ := id hN.form
  have hfl := flat_len t 0
  have htp := tsz_pos t
  have hwz := cn_wz t hw
  have hwzs := hwz.sz
  have hSb := sb_tree hw
  have hroot := subs_root t
  have hSl := subs_len t
  have hiwf := iwf_ok t hw hz
  generalize hns : flat t 0 = ns at *
  generalize hSS : subs t = S at *
  refine enter1 Yaam.func49 Yaam.ntmps49 (by kernel_rfl) rfl rfl ?_
  refine V.seq ?_
  refine V.region ?_
  refine L.ef (e_box (cs := [_, _]) rfl rfl (by first | (simp only [size_addB, size_setB, size_drew]; rfl) | rfl) rfl ?_)
  refine L.ef (e_alloc (cs := [_, _]) tok rfl rfl (by first | (simp only [size_addB, size_setB, size_drew]; rfl) | rfl) rfl ?_)
  refine L.rd (rd_assign rfl) rfl ?_
  refine L.nil ?_
  refine X.sq ?_
  refine V.seq ?_
  refine V.seq ?_
  have hp := (Bl.new w 34 [.slice na ns.length nc, .int .i64 ((tsz t : Int) - 1)]).add 34 [.slice none 0 0, .int .i64 0]
  have hr := Bl.new' (w := addB w 34 [.slice na ns.length nc, .int .i64 ((tsz t : Int) - 1)]) (b := w.heap.size + 1) (by rw [size_addB]) 34 [.slice none 0 0, .int .i64 0]
  have hE := ((Ext.refl _ w).addNew 34 [.slice na ns.length nc, .int .i64 ((tsz t : Int) - 1)]).addNew 34 [.slice none 0 0, .int .i64 0]
  generalize addB (addB w 34 [.slice na ns.length nc, .int .i64 ((tsz t : Int) - 1)]) 34 [.slice none 0 0, .int .i64 0] = w0 at hp hr hE ⊢
  have hrl := hr.lt
  refine V.region ?_
  refine L.rd (rd_loadN tok rfl rfl rfl hp.cells rfl) rfl ?_
  refine L.ef (e_call rfl (hiwf _ _ (hN.le hE.leC)) rfl ?_)
  rintro _ w1 ⟨rfl, he1⟩
  have hp1 := he1.bl hp.lt hp
  have hr1 := he1.bl hr.lt hr
  have hE1 := hE.next he1
  have hs1 := he1.size
  first | refine L.rd (rd_not rfl) rfl ?_ | refine L.rd (rd_notB rfl) rfl ?_
  refine L.nil ?_
  refine X.sq ?_
  first | refine V.cond rfl (fun h25 => ?_) (fun h25 => ?_) | refine V.condB rfl (fun h25 => ?_) (fun h25 => ?_)
  ·
    cases h25
  ·
    refine V.skip ?_
    refine X.sq ?_
    refine V.seq ?_
    refine V.region ?_
    refine L.rd (rd_fieldAddr tok rfl rfl rfl rfl rfl rfl) rfl ?_
    refine L.rd (rd_load1 tok rfl rfl rfl (hp1.cell rfl)) rfl ?_
    refine L.rd (rd_lenSlice tok rfl rfl rfl) rfl ?_
    refine L.rd (rd_assign rfl) rfl ?_
    refine L.nil ?_
    refine X.sq ?_
    refine V.seq ?_
    refine V.region ?_
    refine L.rd (rd_build (out := [_]) tok rfl rfl rfl rfl rfl) rfl ?_
    refine L.ef (e_box (cs := [_]) rfl rfl (by first | (simp only [size_addB, size_setB, size_drew]; rfl) | rfl) rfl ?_)
    refine L.rd (rd_assign rfl) rfl ?_
    refine L.nil ?_
    refine X.sq ?_
    refine V.seq ?_
    have hcb := Bl.new w1 128 [.slice none 0 0]
    have hE2 := (Ext.refl _ w1).addNew 128 [.slice none 0 0]
    generalize addB w1 128 [.slice none 0 0] = w2 at hcb hE2 ⊢
    have hcl := hcb.lt
    refine V.region ?_
    refine L.rd (rd_move rfl) rfl ?_
    refine L.ef (e_make (e := 3) (zs := [_]) (m := ns.length) (c := ns.length) tok rfl rfl rfl rfl rfl rfl rfl rfl (by first | (simp only [size_addB, size_setB, size_drew]; rfl) | rfl) rfl (by omega) (by simp only []; omega) (by omega) ?_)
    refine L.rd (rd_assign rfl) rfl ?_
    refine L.nil ?_
    refine X.sq ?_
    refine V.seq ?_
    refine V.seq ?_
    refine V.region ?_
    refine L.rd (rd_assign rfl) rfl ?_
    refine L.nil ?_
    refine X.sq ?_
    refine V.block ?_
    refine V.loop (fun m l wr => ∃ (i : Nat) (pool : List Nd) (M : List Int), l = [(1, .pointer (some ⟨w.heap.size, 0, none⟩)), (2, .pointer (some ⟨w.heap.size + 1, 0, none⟩)), (4, .int .i64 ns.length), (5, .pointer (some ⟨w1.heap.size, 0, none⟩)), (6, .slice (some ⟨w2.heap.size, 0, none⟩) ns.length ns.length), (7, .int .i64 i)] ∧ m = ns.length - i ∧ i ≤ ns.length ∧ CPq w1.heap.size (w2.heap.size + 1) wr pool ∧ pool.length ≤ i ∧ Bl wr w2.heap.size 3 (iC .i64 M) ∧ M.length = ns.length ∧ KP w1.heap.size w2.heap.size w2 wr ∧ (∀ (j : Nat) (s : Tre), j < i → S[j]? = some s → ∃ q, M[j]? = some q ∧ Pt pool (cn s) q)) ?_ ?_
    ·
      refine ⟨_, _, (by repeat' (first | exact trivial | refine ⟨rfl, ?_⟩)), 0, [], List.replicate ns.length 0, rfl, rfl, by omega, ⟨⟨_, hcb.add _ _, World.ownsRow_nil _ _ _ _⟩, by omega, by rw [size_addB]; omega⟩, by simp, ?_, by simp, KP.ext ((Ext.refl _ _).addNew _ _) (Nat.le_refl _) _, fun j s hj => absurd hj (by omega)⟩
      have := Bl.new w2 3 ((List.replicate ns.length [Value.int .i64 0]).flatten)
      rw [flat_rep1] at this
      simpa [iC] using this
    ·
      rintro m l wr ⟨i, pool, M, rfl, rfl, hi, hC, hpl, hM, hMl, hKP, hinv⟩
      have hse := hE1.size
      have hEr : Ext w.heap.size w wr := (hE1.next hE2).trans (hKP.low (by omega) (by omega))
      have hpr : Bl wr w.heap.size 34 [.slice na ns.length nc, .int .i64 ((tsz t : Int) - 1)] := hKP.bl (hE2.bl hp1.lt hp1) (by omega) (by omega)
      have hrr : Bl wr (w.heap.size + 1) 34 [.slice none 0 0, .int .i64 0] := hKP.bl (hE2.bl hr1.lt hr1) (by omega) (by omega)
      have hswr := hKP.size
      have hMlt := hM.lt
      refine V.seq ?_
      refine V.seq ?_
      refine V.region ?_
      refine L.rd (rd_move rfl) rfl ?_
      refine L.rd (rd_move rfl) rfl ?_
      refine L.rd (rd_lss rfl rfl) rfl ?_
      refine L.nil ?_
      refine X.sq ?_
      first | refine V.cond rfl (fun h36 => ?_) (fun h36 => ?_) | refine V.condB rfl (fun h36 => ?_) (fun h36 => ?_)
      ·
        obtain ⟨b1, o1, rfl, hc1⟩ := hfn.resolve_left (by omega)
        obtain ⟨⟨k, v, x, lf_, rt⟩, ht⟩ := nth_of_lt ns i (by omega)
        obtain ⟨s, hs⟩ := nth_of_lt S i (by omega)
        obtain ⟨hok, hws⟩ := hSb.ok i _ s ht hs
        have hkk := sok_kind hok hws
        have hcx := (hc1.le hEr.leC).sub (i * 5) (ndE (k, v, x, lf_, rt)) (fun j u hu => fm_get ndE_len ns i _ ht j u hu)
        refine V.skip ?_
        refine X.sq ?_
        refine V.seq ?_
        refine V.block ?_
        refine V.seq ?_
        refine V.region ?_
        refine L.rd (rd_fieldAddr tok rfl rfl rfl rfl rfl rfl) rfl ?_
        refine L.rd (rd_load1 tok rfl rfl rfl (hpr.cell rfl)) rfl ?_
        refine L.rd (rd_move rfl) rfl ?_
        (refine L.rd (rd_indexSlice (sz := 5) tok rfl rfl rfl rfl rfl rfl rfl ?_) rfl ?_; omega)
        refine L.rd (rd_loadN tok rfl rfl rfl hcx rfl) rfl ?_
        refine L.ef (e_alloc (cs := [_, _, _, _, _]) tok rfl rfl (by first | (simp only [size_addB, size_setB, size_drew]; rfl) | rfl) rfl ?_)
        refine L.ef (e_store (vs := [_, _, _, _, _]) tok rfl rfl rfl rfl (by (repeat (first | assumption | (refine Bl.new' ?_ _ _; first | with_reducible rfl | (simp only [size_addB, size_setB, size_drew]; done)) | apply Bl.add | apply Bl.drew | (apply Bl.setNe; omega) | (refine Bl.set' ?_ _ _; (try simp only [size_addB, size_setB, size_drew]); omega)))) rfl (by simp [Value.oneCell']) (by simp) ?_)
        refine L.nil ?_
        refine X.sq ?_
        refine V.seq ?_
        generalize hw4 : setB _ _ _ _ = w4
        have hb4 : Bl w4 wr.heap.size 80 [.int .i64 k, .int .i64 v, .int .i64 x, .int .i64 lf_, .int .i64 rt] := by rw [← hw4]; refine Bl.set' ?_ _ _; rw [size_addB]; omega
        have he4 : Ext wr.heap.size wr w4 := by rw [← hw4]; exact ((Ext.refl _ _).addNew _ _).set (Nat.le_refl _) _ _
        have hC4 := hC.ext he4
        have hM4 := he4.bl hM.lt hM
        refine V.region ?_
        refine L.rd (rd_assign rfl) rfl ?_
        refine L.nil ?_
        refine X.sq ?_
        refine V.seq ?_
        refine V.seq ?_
        refine V.region ?_
        refine L.rd (rd_fieldAddr tok rfl rfl rfl rfl rfl rfl) rfl ?_
        refine L.rd (rd_load1 tok rfl rfl rfl (hb4.cell rfl)) rfl ?_
        refine L.nil ?_
        refine X.sq ?_
        refine V.cut (fun l w' => ∃ (q : Int) (ex : List Nd), l = [(1, .pointer (some ⟨w.heap.size, 0, none⟩)), (2, .pointer (some ⟨w.heap.size + 1, 0, none⟩)), (4, .int .i64 ns.length), (5, .pointer (some ⟨w1.heap.size, 0, none⟩)), (6, .slice (some ⟨w2.heap.size, 0, none⟩) ns.length ns.length), (7, .int .i64 i), (9, .int .i64 q)] ∧ ex.length ≤ 1 ∧ CPq w1.heap.size (w2.heap.size + 1) w' (pool ++ ex) ∧ Pt (pool ++ ex) (cn s) q ∧ KP w1.heap.size (w2.heap.size + 1) w4 w') ?_ ?_
        ·
          refine V.block ?_
          refine V.seq ?_
          refine V.region ?_
          refine L.rd (rd_eql rfl rfl) rfl ?_
          refine L.rd (rd_assign rfl) rfl ?_
          refine L.nil ?_
          refine X.sq ?_
          first | refine V.cond rfl (fun h46 => ?_) (fun h46 => ?_) | refine V.condB rfl (fun h46 => ?_) (fun h46 => ?_)
          ·
            obtain ⟨rfl, rfl⟩ := sok1 hok hws h46
            refine V.region ?_
            refine L.rd (rd_move rfl) rfl ?_
            refine L.rd (rd_fieldAddr tok rfl rfl rfl rfl rfl rfl) rfl ?_
            refine L.rd (rd_load1 tok rfl rfl rfl (hb4.cell (i := 1) rfl)) rfl ?_
            refine L.ef (e_call rfl (cnum_ok v _ hC4 (by omega)) rfl ?_)
            rintro _ w5 ⟨i5, ex, rfl, hex, h5, hp5, hk5⟩
            refine L.rd (rd_assign rfl) rfl ?_
            refine L.nil ?_
            refine X.bk ?_
            exact X.ct ⟨_, (by repeat' (first | exact trivial | refine ⟨rfl, ?_⟩)), i5, ex, rfl, hex, h5, hp5, hk5⟩
          ·
            refine V.seq ?_
            refine V.region ?_
            refine L.rd (rd_eql rfl rfl) rfl ?_
            refine L.rd (rd_assign rfl) rfl ?_
            refine L.nil ?_
            refine X.sq ?_
            first | refine V.cond rfl (fun h52 => ?_) (fun h52 => ?_) | refine V.condB rfl (fun h52 => ?_) (fun h52 => ?_)
            ·
              obtain ⟨rfl, rfl, -⟩ := sok2 hok hws h52
              refine V.region ?_
              refine L.rd (rd_move rfl) rfl ?_
              refine L.rd (rd_fieldAddr tok rfl rfl rfl rfl rfl rfl) rfl ?_
              refine L.rd (rd_load1 tok rfl rfl rfl (hb4.cell (i := 2) rfl)) rfl ?_
              refine L.rd (rd_build (out := [_, _, _, _, _]) tok rfl rfl rfl rfl rfl) rfl ?_
              refine L.ef (e_call rfl (nw_ok (2, 0, x, -1, -1) _ hC4 (by omega)) rfl ?_)
              rintro _ w5 ⟨rfl, h5, hk5⟩
              refine L.rd (rd_assign rfl) rfl ?_
              refine L.nil ?_
              refine X.bk ?_
              exact X.ct ⟨_, (by repeat' (first | exact trivial | refine ⟨rfl, ?_⟩)), _, [(2, 0, x, -1, -1)], rfl, by simp, h5, Pt.leaf _ _ _ _ _ _, hk5⟩
            ·
              refine V.seq ?_
              refine V.region ?_
              refine L.rd (rd_eql rfl rfl) rfl ?_
              refine L.rd (rd_assign rfl) rfl ?_
              refine L.nil ?_
              refine X.sq ?_
              first | refine V.cond rfl (fun h59 => ?_) (fun h59 => ?_) | refine V.condB rfl (fun h59 => ?_) (fun h59 => ?_)
              ·
                obtain ⟨a, j, rfl, rfl, hj, hSj, hwa⟩ := sok3 hok hws h59
                obtain ⟨qa, hMa, hpa⟩ := hinv j a hj hSj
                refine V.region ?_
                refine L.rd (rd_move rfl) rfl ?_
                refine L.rd (rd_move rfl) rfl ?_
                refine L.rd (rd_fieldAddr tok rfl rfl rfl rfl rfl rfl) rfl ?_
                refine L.rd (rd_load1 tok rfl rfl rfl (hb4.cell (i := 3) rfl)) rfl ?_
                (refine L.rd (rd_indexSlice (sz := 1) tok rfl rfl rfl rfl rfl rfl rfl ?_) rfl ?_; omega)
                refine L.rd (rd_load1 tok rfl rfl rfl (cell_at (i := ((j : Int)).toNat) hM4 (by rw [Int.toNat_natCast]; exact iC_get hMa) (by simp))) rfl ?_
                refine L.ef (e_call rfl (cneg_ok (cn a) (cn_wz a hwa).wt qa _ hC4 (by omega) hpa) rfl ?_)
                rintro _ w5 ⟨i5, ex, rfl, hex, h5, hp5, hk5⟩
                refine L.rd (rd_assign rfl) rfl ?_
                refine L.nil ?_
                refine X.bk ?_
                exact X.ct ⟨_, (by repeat' (first | exact trivial | refine ⟨rfl, ?_⟩)), i5, ex, rfl, hex, h5, hp5, hk5⟩
              ·
                refine V.seq ?_
                refine V.seq ?_
                refine V.region ?_
                refine L.rd (rd_eql rfl rfl) rfl ?_
                refine L.rd (rd_assign rfl) rfl ?_
                refine L.nil ?_
                refine X.sq ?_
                refine V.cut (fun l w' => ∃ b : Bool, l = [(1, .pointer (some ⟨w.heap.size, 0, none⟩)), (2, .pointer (some ⟨w.heap.size + 1, 0, none⟩)), (4, .int .i64 ns.length), (5, .pointer (some ⟨w1.heap.size, 0, none⟩)), (6, .slice (some ⟨w2.heap.size, 0, none⟩) ns.length ns.length), (7, .int .i64 i), (8, .pointer (some ⟨wr.heap.size, 0, none⟩)), (45, .int .i64 k), (68, .bool b)] ∧ b = decide (k = 4 ∨ k = 5 ∨ k = 6) ∧ w4 = w') ?_ ?_
                ·
                  first | refine V.cond rfl (fun h68 => ?_) (fun h68 => ?_) | refine V.condB rfl (fun h68 => ?_) (fun h68 => ?_)
                  ·
                    refine V.skip ?_
                    refine X.ct ⟨_, (by repeat' (first | exact trivial | refine ⟨rfl, ?_⟩)), _, rfl, ?_, rfl⟩
                    first
                      | (rw [decide_eq_true h68, decide_eq_true (by omega)])
                      | (by_cases h6 : k = 6
                         · rw [decide_eq_true h6, decide_eq_true (by omega)]
                         · rw [decide_eq_false h6, decide_eq_false (by omega)])
                  ·
                    refine V.seq ?_
                    refine V.region ?_
                    refine L.rd (rd_eql rfl rfl) rfl ?_
                    refine L.rd (rd_assign rfl) rfl ?_
                    refine L.nil ?_
                    refine X.sq ?_
                    first | refine V.cond rfl (fun h68 => ?_) (fun h68 => ?_) | refine V.condB rfl (fun h68 => ?_) (fun h68 => ?_)
                    ·
                      refine V.skip ?_
                      refine X.ct ⟨_, (by repeat' (first | exact trivial | refine ⟨rfl, ?_⟩)), _, rfl, ?_, rfl⟩
                      first
                        | (rw [decide_eq_true h68, decide_eq_true (by omega)])
                        | (by_cases h6 : k = 6
                           · rw [decide_eq_true h6, decide_eq_true (by omega)]
                           · rw [decide_eq_false h6, decide_eq_false (by omega)])
                    ·
                      refine V.region ?_
                      refine L.rd (rd_eql rfl rfl) rfl ?_
                      refine L.rd (rd_assign rfl) rfl ?_
                      refine L.nil ?_
                      refine X.ct ⟨_, (by repeat' (first | exact trivial | refine ⟨rfl, ?_⟩)), _, rfl, ?_, rfl⟩
                      first
                        | (rw [decide_eq_true h68, decide_eq_true (by omega)])
                        | (by_cases h6 : k = 6
                           · rw [decide_eq_true h6, decide_eq_true (by omega)]
                           · rw [decide_eq_false h6, decide_eq_false (by omega)])
                ·
                  rintro l w' ⟨b, rfl, hb68, rfl⟩
                  refine X.sq ?_
                  first | refine V.cond rfl (fun h68 => ?_) (fun h68 => ?_) | refine V.condB rfl (fun h68 => ?_) (fun h68 => ?_)
                  ·
                    refine V.seq ?_
                    have h456 : k = 4 ∨ k = 5 ∨ k = 6 := by rw [h68] at hb68; exact of_decide_eq_true hb68.symm
                    obtain ⟨a, b', j, j2, rfl, rfl, rfl, hj, hj2, hSj, hSj2, hwa, hwb⟩ := sokb hok hws h456
                    obtain ⟨qa, hMa, hpa⟩ := hinv j a hj hSj
                    obtain ⟨qb, hMb, hpb⟩ := hinv j2 b' hj2 hSj2
                    have hwA := (cn_wz a hwa).wt
                    have hwB := (cn_wz b' hwb).wt
                    have hc4 : k = 4 → cn (b2 k a b') = addR (cn a) (cn b') := by rintro rfl; rfl
                    have hc5 : k = 5 → cn (b2 k a b') = subR (cn a) (cn b') := by rintro rfl; rfl
                    have hc6 : k = 6 → cn (b2 k a b') = mulR (cn a) (cn b') := by rintro rfl; rfl
                    generalize cn a = A at *
                    generalize cn b' = B at *
                    obtain ⟨ja, lax, rax, rfl, hja, hkda⟩ := hpa.node
                    obtain ⟨jb, lbx, rbx, rfl, hjb, hkdb⟩ := hpb.node
                    have hjal := (List.getElem?_eq_some_iff.1 hja).1
                    have hjbl := (List.getElem?_eq_some_iff.1 hjb).1
                    obtain ⟨ga, gc, hga, hpba, hca⟩ := hC4.get ndE_len hja
                    refine V.region ?_
                    refine L.rd (rd_move rfl) rfl ?_
                    refine L.rd (rd_fieldAddr tok rfl rfl rfl rfl rfl rfl) rfl ?_
                    refine L.rd (rd_load1 tok rfl rfl rfl (hb4.cell (i := 3) rfl)) rfl ?_
                    (refine L.rd (rd_indexSlice (sz := 1) tok rfl rfl rfl rfl rfl rfl rfl ?_) rfl ?_; omega)
                    refine L.rd (rd_load1 tok rfl rfl rfl (cell_at (i := ((j : Int)).toNat) hM4 (by rw [Int.toNat_natCast]; exact iC_get hMa) (by simp))) rfl ?_
                    refine L.rd (rd_assign rfl) rfl ?_
                    refine L.nil ?_
                    refine X.sq ?_
                    refine V.seq ?_
                    refine V.region ?_
                    refine L.rd (rd_move rfl) rfl ?_
                    refine L.rd (rd_fieldAddr tok rfl rfl rfl rfl rfl rfl) rfl ?_
                    refine L.rd (rd_load1 tok rfl rfl rfl (hb4.cell (i := 4) rfl)) rfl ?_
                    (refine L.rd (rd_indexSlice (sz := 1) tok rfl rfl rfl rfl rfl rfl rfl ?_) rfl ?_; omega)
                    refine L.rd (rd_load1 tok rfl rfl rfl (cell_at (i := ((j2 : Int)).toNat) hM4 (by rw [Int.toNat_natCast]; exact iC_get hMb) (by simp))) rfl ?_
                    refine L.rd (rd_assign rfl) rfl ?_
                    refine L.nil ?_
                    refine X.sq ?_
                    refine V.seq ?_
                    refine V.region ?_
                    refine L.rd (rd_move rfl) rfl ?_
                    refine L.rd (rd_nilCheck rfl) rfl ?_
                    refine L.rd (rd_fieldAddr tok rfl rfl rfl rfl rfl rfl) rfl ?_
                    refine L.rd (rd_load1 tok rfl rfl rfl (hpba.cell rfl)) rfl ?_
                    refine L.rd (rd_move rfl) rfl ?_
                    (refine L.rd (rd_indexSlice (sz := 5) tok rfl rfl rfl rfl rfl rfl rfl ?_) rfl ?_; omega)
                    refine L.rd (rd_loadN tok rfl rfl rfl hca rfl) rfl ?_
                    refine L.ef (e_alloc (cs := [_, _, _, _, _]) tok rfl rfl (by first | (simp only [size_addB, size_setB, size_drew]; rfl) | rfl) rfl ?_)
                    refine L.ef (e_store (vs := [_, _, _, _, _]) tok rfl rfl rfl rfl (by (repeat (first | assumption | (refine Bl.new' ?_ _ _; first | with_reducible rfl | (simp only [size_addB, size_setB, size_drew]; done)) | apply Bl.add | apply Bl.drew | (apply Bl.setNe; omega) | (refine Bl.set' ?_ _ _; (try simp only [size_addB, size_setB, size_drew]); omega)))) rfl (by simp [Value.oneCell']) (by simp) ?_)
                    refine L.nil ?_
                    refine X.sq ?_
                    refine V.seq ?_
                    generalize hw5 : setB _ _ _ _ = w5
                    have hb5 : Bl w5 w4.heap.size 132 [.int .i64 A.k, .int .i64 A.v, .int .i64 A.x, .int .i64 lax, .int .i64 rax] := by rw [← hw5]; refine Bl.set' ?_ _ _; rw [size_addB]; omega
                    have he5 : Ext w4.heap.size w4 w5 := by rw [← hw5]; exact ((Ext.refl _ _).addNew _ _).set (Nat.le_refl _) _ _
                    have h5 := hC4.ext he5
                    have hnd5 := he5.bl hb4.lt hb4
                    obtain ⟨gb, gcb, hgb, hpbb, hcb_⟩ := h5.get ndE_len hjb
                    refine V.region ?_
                    refine L.rd (rd_move rfl) rfl ?_
                    refine L.rd (rd_nilCheck rfl) rfl ?_
                    refine L.rd (rd_fieldAddr tok rfl rfl rfl rfl rfl rfl) rfl ?_
                    refine L.rd (rd_load1 tok rfl rfl rfl (hpbb.cell rfl)) rfl ?_
                    refine L.rd (rd_move rfl) rfl ?_
                    (refine L.rd (rd_indexSlice (sz := 5) tok rfl rfl rfl rfl rfl rfl rfl ?_) rfl ?_; omega)
                    refine L.rd (rd_loadN tok rfl rfl rfl hcb_ rfl) rfl ?_
                    refine L.ef (e_alloc (cs := [_, _, _, _, _]) tok rfl rfl (by first | (simp only [size_addB, size_setB, size_drew]; rfl) | rfl) rfl ?_)
                    refine L.ef (e_store (vs := [_, _, _, _, _]) tok rfl rfl rfl rfl (by (repeat (first | assumption | (refine Bl.new' ?_ _ _; first | with_reducible rfl | (simp only [size_addB, size_setB, size_drew]; done)) | apply Bl.add | apply Bl.drew | (apply Bl.setNe; omega) | (refine Bl.set' ?_ _ _; (try simp only [size_addB, size_setB, size_drew]); omega)))) rfl (by simp [Value.oneCell']) (by simp) ?_)
                    refine L.nil ?_
                    refine X.sq ?_
                    refine V.seq ?_
                    generalize hw6 : setB _ _ _ _ = w6
                    have hbb6 : Bl w6 w5.heap.size 132 [.int .i64 B.k, .int .i64 B.v, .int .i64 B.x, .int .i64 lbx, .int .i64 rbx] := by rw [← hw6]; refine Bl.set' ?_ _ _; rw [size_addB]; omega
                    have he6 : Ext w5.heap.size w5 w6 := by rw [← hw6]; exact ((Ext.refl _ _).addNew _ _).set (Nat.le_refl _) _ _
                    have h6 := h5.ext he6
                    have hba6 := he6.bl hb5.lt hb5
                    have hnd6 := he6.bl hnd5.lt hnd5
                    have hk6 : KP w1.heap.size (w2.heap.size + 1) w4 w6 := (KP.ext he5 hC4.le _).trans (KP.ext he6 h5.le _)
                    refine V.region ?_
                    refine L.rd (rd_fieldAddr tok rfl rfl rfl rfl rfl rfl) rfl ?_
                    refine L.rd (rd_load1 tok rfl rfl rfl (hba6.cell rfl)) rfl ?_
                    refine L.rd (rd_eql rfl rfl) rfl ?_
                    refine L.rd (rd_assign rfl) rfl ?_
                    refine L.nil ?_
                    refine X.sq ?_
                    refine V.seq ?_
                    refine V.region ?_
                    refine L.rd (rd_fieldAddr tok rfl rfl rfl rfl rfl rfl) rfl ?_
                    refine L.rd (rd_load1 tok rfl rfl rfl (hbb6.cell rfl)) rfl ?_
                    refine L.rd (rd_eql rfl rfl) rfl ?_
                    refine L.rd (rd_assign rfl) rfl ?_
                    refine L.nil ?_
                    refine X.sq ?_
                    refine V.seq ?_
                    refine V.region ?_
                    refine L.rd (rd_fieldAddr tok rfl rfl rfl rfl rfl rfl) rfl ?_
                    refine L.rd (rd_load1 tok rfl rfl rfl (hnd6.cell rfl)) rfl ?_
                    refine L.rd (rd_eql rfl rfl) rfl ?_
                    refine L.nil ?_
                    refine X.sq ?_
                    first | refine V.cond rfl (fun h104 => ?_) (fun h104 => ?_) | refine V.condB rfl (fun h104 => ?_) (fun h104 => ?_)
                    ·
                      refine V.seq ?_
                      refine V.region ?_
                      refine L.rd (rd_move rfl) rfl ?_
                      refine L.rd (rd_move rfl) rfl ?_
                      first | refine L.partG rfl rfl (fun g106 => ?_) (fun g106 => ?_) | refine L.partGB rfl rfl (fun g106 => ?_) (fun g106 => ?_)
                      ·
                        refine L.yes rfl rfl ?_
                        refine L.rd (rd_move rfl) rfl ?_
                        refine L.rd (rd_pickT rfl rfl) rfl ?_
                        refine L.nil ?_
                        refine X.sq ?_
                        first | refine V.cond rfl (fun h108 => ?_) (fun h108 => ?_) | refine V.condB rfl (fun h108 => ?_) (fun h108 => ?_)
                        ·
                          refine V.region ?_
                          refine L.rd (rd_move rfl) rfl ?_
                          refine L.rd (rd_fieldAddr tok rfl rfl rfl rfl rfl rfl) rfl ?_
                          refine L.rd (rd_load1 tok rfl rfl rfl (hba6.cell (i := 1) rfl)) rfl ?_
                          refine L.rd (rd_fieldAddr tok rfl rfl rfl rfl rfl rfl) rfl ?_
                          refine L.rd (rd_load1 tok rfl rfl rfl (hbb6.cell (i := 1) rfl)) rfl ?_
                          refine L.rd (rd_addE (r := w64 (A.v + B.v)) rfl rfl rfl) rfl ?_
                          refine L.ef (e_call rfl (cnum_ok (w64 (A.v + B.v)) _ h6 (by omega)) rfl ?_)
                          rintro _ w7 ⟨i7, ex, rfl, hex, h7, hp7, hk7⟩
                          refine L.rd (rd_assign rfl) rfl ?_
                          refine L.nil ?_
                          refine X.bk ?_
                          exact X.ct ⟨_, (by repeat' (first | exact trivial | refine ⟨rfl, ?_⟩)), i7, ex, rfl, hex, h7, (by rw [hc4 h104]; unfold addR; rw [if_pos ⟨g106, h108⟩]; exact hp7), hk6.trans hk7⟩
                        ·
                          refine V.seq ?_
                          refine V.region ?_
                          refine L.rd (rd_move rfl) rfl ?_
                          refine L.rd (rd_move rfl) rfl ?_
                          first | refine L.partG rfl rfl (fun g117 => ?_) (fun g117 => ?_) | refine L.partGB rfl rfl (fun g117 => ?_) (fun g117 => ?_)
                          ·
                            refine L.yes rfl rfl ?_
                            refine L.rd (rd_fieldAddr tok rfl rfl rfl rfl rfl rfl) rfl ?_
                            refine L.yes rfl rfl ?_
                            refine L.rd (rd_load1 tok rfl rfl rfl (hba6.cell (i := 1) rfl)) rfl ?_
                            refine L.yes rfl rfl ?_
                            refine L.rd (rd_eql rfl rfl) rfl ?_
                            refine L.rd (rd_pickT rfl rfl) rfl ?_
                            refine L.nil ?_
                            refine X.sq ?_
                            first | refine V.cond rfl (fun h121 => ?_) (fun h121 => ?_) | refine V.condB rfl (fun h121 => ?_) (fun h121 => ?_)
                            ·
                              refine V.region ?_
                              refine L.rd (rd_move rfl) rfl ?_
                              refine L.rd (rd_assign rfl) rfl ?_
                              refine L.nil ?_
                              refine X.bk ?_
                              exact X.ct ⟨_, (by repeat' (first | exact trivial | refine ⟨rfl, ?_⟩)), _, [], rfl, by simp, by rw [List.append_nil]; exact h6, (by rw [List.append_nil, hc4 h104]; unfold addR; rw [if_neg (by rintro ⟨e1, e2⟩; first | contradiction | omega), if_pos ⟨g117, h121⟩]; exact hpb), hk6⟩
                            ·
                              refine V.seq ?_
                              refine V.region ?_
                              refine L.rd (rd_move rfl) rfl ?_
                              refine L.rd (rd_move rfl) rfl ?_
                              first | refine L.partG rfl rfl (fun g124 => ?_) (fun g124 => ?_) | refine L.partGB rfl rfl (fun g124 => ?_) (fun g124 => ?_)
                              ·
                                refine L.yes rfl rfl ?_
                                refine L.rd (rd_fieldAddr tok rfl rfl rfl rfl rfl rfl) rfl ?_
                                refine L.yes rfl rfl ?_
                                refine L.rd (rd_load1 tok rfl rfl rfl (hbb6.cell (i := 1) rfl)) rfl ?_
                                refine L.yes rfl rfl ?_
                                refine L.rd (rd_eql rfl rfl) rfl ?_
                                refine L.rd (rd_pickT rfl rfl) rfl ?_
                                refine L.nil ?_
                                refine X.sq ?_
                                first | refine V.cond rfl (fun h128 => ?_) (fun h128 => ?_) | refine V.condB rfl (fun h128 => ?_) (fun h128 => ?_)
                                ·
                                  refine V.region ?_
                                  refine L.rd (rd_move rfl) rfl ?_
                                  refine L.rd (rd_assign rfl) rfl ?_
                                  refine L.nil ?_
                                  refine X.bk ?_
                                  exact X.ct ⟨_, (by repeat' (first | exact trivial | refine ⟨rfl, ?_⟩)), _, [], rfl, by simp, by rw [List.append_nil]; exact h6, (by rw [List.append_nil, hc4 h104]; unfold addR; rw [if_neg (by rintro ⟨e1, e2⟩; first | contradiction | omega), if_neg (by rintro ⟨e1, e2⟩; first | contradiction | omega), if_pos ⟨g124, h128⟩]; exact hpa), hk6⟩
                                ·
                                  refine V.region ?_
                                  refine L.rd (rd_move rfl) rfl ?_
                                  refine L.rd (rd_move rfl) rfl ?_
                                  refine L.rd (rd_move rfl) rfl ?_
                                  refine L.rd (rd_build (out := [_, _, _, _, _]) tok rfl rfl rfl rfl rfl) rfl ?_
                                  refine L.ef (e_call rfl (nw_ok (4, 0, 0, (ja : Int), (jb : Int)) _ h6 (by omega)) rfl ?_)
                                  rintro _ w7 ⟨rfl, h7, hk7⟩
                                  refine L.rd (rd_assign rfl) rfl ?_
                                  refine L.nil ?_
                                  refine X.bk ?_
                                  exact X.ct ⟨_, (by repeat' (first | exact trivial | refine ⟨rfl, ?_⟩)), _, [(4, 0, 0, (ja : Int), (jb : Int))], rfl, by simp, h7, (by rw [hc4 h104]; unfold addR; rw [if_neg (by rintro ⟨e1, e2⟩; first | contradiction | omega), if_neg (by rintro ⟨e1, e2⟩; first | contradiction | omega), if_neg (by rintro ⟨e1, e2⟩; first | contradiction | omega)]; exact Pt.bin 4 hpa hpb), hk6.trans hk7⟩
                              ·
                                refine L.no rfl rfl rfl rfl ?_
                                refine L.no rfl rfl rfl rfl ?_
                                refine L.no rfl rfl rfl rfl ?_
                                refine L.rd (rd_pickF rfl rfl) rfl ?_
                                refine L.nil ?_
                                refine X.sq ?_
                                refine V.condF rfl ?_
                                refine V.region ?_
                                refine L.rd (rd_move rfl) rfl ?_
                                refine L.rd (rd_move rfl) rfl ?_
                                refine L.rd (rd_move rfl) rfl ?_
                                refine L.rd (rd_build (out := [_, _, _, _, _]) tok rfl rfl rfl rfl rfl) rfl ?_
                                refine L.ef (e_call rfl (nw_ok (4, 0, 0, (ja : Int), (jb : Int)) _ h6 (by omega)) rfl ?_)
                                rintro _ w7 ⟨rfl, h7, hk7⟩
                                refine L.rd (rd_assign rfl) rfl ?_
                                refine L.nil ?_
                                refine X.bk ?_
                                exact X.ct ⟨_, (by repeat' (first | exact trivial | refine ⟨rfl, ?_⟩)), _, [(4, 0, 0, (ja : Int), (jb : Int))], rfl, by simp, h7, (by rw [hc4 h104]; unfold addR; rw [if_neg (by rintro ⟨e1, e2⟩; first | contradiction | omega), if_neg (by rintro ⟨e1, e2⟩; first | contradiction | omega), if_neg (by rintro ⟨e1, e2⟩; first | contradiction | omega)]; exact Pt.bin 4 hpa hpb), hk6.trans hk7⟩
                          ·
                            refine L.no rfl rfl rfl rfl ?_
                            refine L.no rfl rfl rfl rfl ?_
                            refine L.no rfl rfl rfl rfl ?_
                            refine L.rd (rd_pickF rfl rfl) rfl ?_
                            refine L.nil ?_
                            refine X.sq ?_
                            refine V.condF rfl ?_
                            refine V.seq ?_
                            refine V.region ?_
                            refine L.rd (rd_move rfl) rfl ?_
                            refine L.rd (rd_move rfl) rfl ?_
                            first | refine L.partG rfl rfl (fun g124 => ?_) (fun g124 => ?_) | refine L.partGB rfl rfl (fun g124 => ?_) (fun g124 => ?_)
                            ·
                              refine L.yes rfl rfl ?_
                              refine L.rd (rd_fieldAddr tok rfl rfl rfl rfl rfl rfl) rfl ?_
                              refine L.yes rfl rfl ?_
                              refine L.rd (rd_load1 tok rfl rfl rfl (hbb6.cell (i := 1) rfl)) rfl ?_
                              refine L.yes rfl rfl ?_
                              refine L.rd (rd_eql rfl rfl) rfl ?_
                              refine L.rd (rd_pickT rfl rfl) rfl ?_
                              refine L.nil ?_
                              refine X.sq ?_
                              first | refine V.cond rfl (fun h128 => ?_) (fun h128 => ?_) | refine V.condB rfl (fun h128 => ?_) (fun h128 => ?_)
                              ·
                                refine V.region ?_
                                refine L.rd (rd_move rfl) rfl ?_
                                refine L.rd (rd_assign rfl) rfl ?_
                                refine L.nil ?_
                                refine X.bk ?_
                                exact X.ct ⟨_, (by repeat' (first | exact trivial | refine ⟨rfl, ?_⟩)), _, [], rfl, by simp, by rw [List.append_nil]; exact h6, (by rw [List.append_nil, hc4 h104]; unfold addR; rw [if_neg (by rintro ⟨e1, e2⟩; first | contradiction | omega), if_neg (by rintro ⟨e1, e2⟩; first | contradiction | omega), if_pos ⟨g124, h128⟩]; exact hpa), hk6⟩
                              ·
                                refine V.region ?_
                                refine L.rd (rd_move rfl) rfl ?_
                                refine L.rd (rd_move rfl) rfl ?_
                                refine L.rd (rd_move rfl) rfl ?_
                                refine L.rd (rd_build (out := [_, _, _, _, _]) tok rfl rfl rfl rfl rfl) rfl ?_
                                refine L.ef (e_call rfl (nw_ok (4, 0, 0, (ja : Int), (jb : Int)) _ h6 (by omega)) rfl ?_)
                                rintro _ w7 ⟨rfl, h7, hk7⟩
                                refine L.rd (rd_assign rfl) rfl ?_
                                refine L.nil ?_
                                refine X.bk ?_
                                exact X.ct ⟨_, (by repeat' (first | exact trivial | refine ⟨rfl, ?_⟩)), _, [(4, 0, 0, (ja : Int), (jb : Int))], rfl, by simp, h7, (by rw [hc4 h104]; unfold addR; rw [if_neg (by rintro ⟨e1, e2⟩; first | contradiction | omega), if_neg (by rintro ⟨e1, e2⟩; first | contradiction | omega), if_neg (by rintro ⟨e1, e2⟩; first | contradiction | omega)]; exact Pt.bin 4 hpa hpb), hk6.trans hk7⟩
                            ·
                              refine L.no rfl rfl rfl rfl ?_
                              refine L.no rfl rfl rfl rfl ?_
                              refine L.no rfl rfl rfl rfl ?_
                              refine L.rd (rd_pickF rfl rfl) rfl ?_
                              refine L.nil ?_
                              refine X.sq ?_
                              refine V.condF rfl ?_
                              refine V.region ?_
                              refine L.rd (rd_move rfl) rfl ?_
                              refine L.rd (rd_move rfl) rfl ?_
                              refine L.rd (rd_move rfl) rfl ?_
                              refine L.rd (rd_build (out := [_, _, _, _, _]) tok rfl rfl rfl rfl rfl) rfl ?_
                              refine L.ef (e_call rfl (nw_ok (4, 0, 0, (ja : Int), (jb : Int)) _ h6 (by omega)) rfl ?_)
                              rintro _ w7 ⟨rfl, h7, hk7⟩
                              refine L.rd (rd_assign rfl) rfl ?_
                              refine L.nil ?_
                              refine X.bk ?_
                              exact X.ct ⟨_, (by repeat' (first | exact trivial | refine ⟨rfl, ?_⟩)), _, [(4, 0, 0, (ja : Int), (jb : Int))], rfl, by simp, h7, (by rw [hc4 h104]; unfold addR; rw [if_neg (by rintro ⟨e1, e2⟩; first | contradiction | omega), if_neg (by rintro ⟨e1, e2⟩; first | contradiction | omega), if_neg (by rintro ⟨e1, e2⟩; first | contradiction | omega)]; exact Pt.bin 4 hpa hpb), hk6.trans hk7⟩
                      ·
                        refine L.no rfl rfl rfl rfl ?_
                        refine L.rd (rd_pickF rfl rfl) rfl ?_
                        refine L.nil ?_
                        refine X.sq ?_
                        refine V.condF rfl ?_
                        refine V.seq ?_
                        refine V.region ?_
                        refine L.rd (rd_move rfl) rfl ?_
                        refine L.rd (rd_move rfl) rfl ?_
                        first | refine L.partG rfl rfl (fun g117 => ?_) (fun g117 => ?_) | refine L.partGB rfl rfl (fun g117 => ?_) (fun g117 => ?_)
                        ·
                          refine L.yes rfl rfl ?_
                          refine L.rd (rd_fieldAddr tok rfl rfl rfl rfl rfl rfl) rfl ?_
                          refine L.yes rfl rfl ?_
                          refine L.rd (rd_load1 tok rfl rfl rfl (hba6.cell (i := 1) rfl)) rfl ?_
                          refine L.yes rfl rfl ?_
                          refine L.rd (rd_eql rfl rfl) rfl ?_
                          refine L.rd (rd_pickT rfl rfl) rfl ?_
                          refine L.nil ?_
                          refine X.sq ?_
                          first | refine V.cond rfl (fun h121 => ?_) (fun h121 => ?_) | refine V.condB rfl (fun h121 => ?_) (fun h121 => ?_)
                          ·
                            refine V.region ?_
                            refine L.rd (rd_move rfl) rfl ?_
                            refine L.rd (rd_assign rfl) rfl ?_
                            refine L.nil ?_
                            refine X.bk ?_
                            exact X.ct ⟨_, (by repeat' (first | exact trivial | refine ⟨rfl, ?_⟩)), _, [], rfl, by simp, by rw [List.append_nil]; exact h6, (by rw [List.append_nil, hc4 h104]; unfold addR; rw [if_neg (by rintro ⟨e1, e2⟩; first | contradiction | omega), if_pos ⟨g117, h121⟩]; exact hpb), hk6⟩
                          ·
                            refine V.seq ?_
                            refine V.region ?_
                            refine L.rd (rd_move rfl) rfl ?_
                            refine L.rd (rd_move rfl) rfl ?_
                            first | refine L.partG rfl rfl (fun g124 => ?_) (fun g124 => ?_) | refine L.partGB rfl rfl (fun g124 => ?_) (fun g124 => ?_)
                            ·
                              refine L.yes rfl rfl ?_
                              refine L.rd (rd_fieldAddr tok rfl rfl rfl rfl rfl rfl) rfl ?_
                              refine L.yes rfl rfl ?_
                              refine L.rd (rd_load1 tok rfl rfl rfl (hbb6.cell (i := 1) rfl)) rfl ?_
                              refine L.yes rfl rfl ?_
                              refine L.rd (rd_eql rfl rfl) rfl ?_
                              refine L.rd (rd_pickT rfl rfl) rfl ?_
                              refine L.nil ?_
                              refine X.sq ?_
                              first | refine V.cond rfl (fun h128 => ?_) (fun h128 => ?_) | refine V.condB rfl (fun h128 => ?_) (fun h128 => ?_)
                              ·
                                refine V.region ?_
                                refine L.rd (rd_move rfl) rfl ?_
                                refine L.rd (rd_assign rfl) rfl ?_
                                refine L.nil ?_
                                refine X.bk ?_
                                exact X.ct ⟨_, (by repeat' (first | exact trivial | refine ⟨rfl, ?_⟩)), _, [], rfl, by simp, by rw [List.append_nil]; exact h6, (by rw [List.append_nil, hc4 h104]; unfold addR; rw [if_neg (by rintro ⟨e1, e2⟩; first | contradiction | omega), if_neg (by rintro ⟨e1, e2⟩; first | contradiction | omega), if_pos ⟨g124, h128⟩]; exact hpa), hk6⟩
                              ·
                                refine V.region ?_
                                refine L.rd (rd_move rfl) rfl ?_
                                refine L.rd (rd_move rfl) rfl ?_
                                refine L.rd (rd_move rfl) rfl ?_
                                refine L.rd (rd_build (out := [_, _, _, _, _]) tok rfl rfl rfl rfl rfl) rfl ?_
                                refine L.ef (e_call rfl (nw_ok (4, 0, 0, (ja : Int), (jb : Int)) _ h6 (by omega)) rfl ?_)
                                rintro _ w7 ⟨rfl, h7, hk7⟩
                                refine L.rd (rd_assign rfl) rfl ?_
                                refine L.nil ?_
                                refine X.bk ?_
                                exact X.ct ⟨_, (by repeat' (first | exact trivial | refine ⟨rfl, ?_⟩)), _, [(4, 0, 0, (ja : Int), (jb : Int))], rfl, by simp, h7, (by rw [hc4 h104]; unfold addR; rw [if_neg (by rintro ⟨e1, e2⟩; first | contradiction | omega), if_neg (by rintro ⟨e1, e2⟩; first | contradiction | omega), if_neg (by rintro ⟨e1, e2⟩; first | contradiction | omega)]; exact Pt.bin 4 hpa hpb), hk6.trans hk7⟩
                            ·
                              refine L.no rfl rfl rfl rfl ?_
                              refine L.no rfl rfl rfl rfl ?_
                              refine L.no rfl rfl rfl rfl ?_
                              refine L.rd (rd_pickF rfl rfl) rfl ?_
                              refine L.nil ?_
                              refine X.sq ?_
                              refine V.condF rfl ?_
                              refine V.region ?_
                              refine L.rd (rd_move rfl) rfl ?_
                              refine L.rd (rd_move rfl) rfl ?_
                              refine L.rd (rd_move rfl) rfl ?_
                              refine L.rd (rd_build (out := [_, _, _, _, _]) tok rfl rfl rfl rfl rfl) rfl ?_
                              refine L.ef (e_call rfl (nw_ok (4, 0, 0, (ja : Int), (jb : Int)) _ h6 (by omega)) rfl ?_)
                              rintro _ w7 ⟨rfl, h7, hk7⟩
                              refine L.rd (rd_assign rfl) rfl ?_
                              refine L.nil ?_
                              refine X.bk ?_
                              exact X.ct ⟨_, (by repeat' (first | exact trivial | refine ⟨rfl, ?_⟩)), _, [(4, 0, 0, (ja : Int), (jb : Int))], rfl, by simp, h7, (by rw [hc4 h104]; unfold addR; rw [if_neg (by rintro ⟨e1, e2⟩; first | contradiction | omega), if_neg (by rintro ⟨e1, e2⟩; first | contradiction | omega), if_neg (by rintro ⟨e1, e2⟩; first | contradiction | omega)]; exact Pt.bin 4 hpa hpb), hk6.trans hk7⟩
                        ·
                          refine L.no rfl rfl rfl rfl ?_
                          refine L.no rfl rfl rfl rfl ?_
                          refine L.no rfl rfl rfl rfl ?_
                          refine L.rd (rd_pickF rfl rfl) rfl ?_
                          refine L.nil ?_
                          refine X.sq ?_
                          refine V.condF rfl ?_
                          refine V.seq ?_
                          refine V.region ?_
                          refine L.rd (rd_move rfl) rfl ?_
                          refine L.rd (rd_move rfl) rfl ?_
                          first | refine L.partG rfl rfl (fun g124 => ?_) (fun g124 => ?_) | refine L.partGB rfl rfl (fun g124 => ?_) (fun g124 => ?_)
                          ·
                            refine L.yes rfl rfl ?_
                            refine L.rd (rd_fieldAddr tok rfl rfl rfl rfl rfl rfl) rfl ?_
                            refine L.yes rfl rfl ?_
                            refine L.rd (rd_load1 tok rfl rfl rfl (hbb6.cell (i := 1) rfl)) rfl ?_
                            refine L.yes rfl rfl ?_
                            refine L.rd (rd_eql rfl rfl) rfl ?_
                            refine L.rd (rd_pickT rfl rfl) rfl ?_
                            refine L.nil ?_
                            refine X.sq ?_
                            first | refine V.cond rfl (fun h128 => ?_) (fun h128 => ?_) | refine V.condB rfl (fun h128 => ?_) (fun h128 => ?_)
                            ·
                              refine V.region ?_
                              refine L.rd (rd_move rfl) rfl ?_
                              refine L.rd (rd_assign rfl) rfl ?_
                              refine L.nil ?_
                              refine X.bk ?_
                              exact X.ct ⟨_, (by repeat' (first | exact trivial | refine ⟨rfl, ?_⟩)), _, [], rfl, by simp, by rw [List.append_nil]; exact h6, (by rw [List.append_nil, hc4 h104]; unfold addR; rw [if_neg (by rintro ⟨e1, e2⟩; first | contradiction | omega), if_neg (by rintro ⟨e1, e2⟩; first | contradiction | omega), if_pos ⟨g124, h128⟩]; exact hpa), hk6⟩
                            ·
                              refine V.region ?_
                              refine L.rd (rd_move rfl) rfl ?_
                              refine L.rd (rd_move rfl) rfl ?_
                              refine L.rd (rd_move rfl) rfl ?_
                              refine L.rd (rd_build (out := [_, _, _, _, _]) tok rfl rfl rfl rfl rfl) rfl ?_
                              refine L.ef (e_call rfl (nw_ok (4, 0, 0, (ja : Int), (jb : Int)) _ h6 (by omega)) rfl ?_)
                              rintro _ w7 ⟨rfl, h7, hk7⟩
                              refine L.rd (rd_assign rfl) rfl ?_
                              refine L.nil ?_
                              refine X.bk ?_
                              exact X.ct ⟨_, (by repeat' (first | exact trivial | refine ⟨rfl, ?_⟩)), _, [(4, 0, 0, (ja : Int), (jb : Int))], rfl, by simp, h7, (by rw [hc4 h104]; unfold addR; rw [if_neg (by rintro ⟨e1, e2⟩; first | contradiction | omega), if_neg (by rintro ⟨e1, e2⟩; first | contradiction | omega), if_neg (by rintro ⟨e1, e2⟩; first | contradiction | omega)]; exact Pt.bin 4 hpa hpb), hk6.trans hk7⟩
                          ·
                            refine L.no rfl rfl rfl rfl ?_
                            refine L.no rfl rfl rfl rfl ?_
                            refine L.no rfl rfl rfl rfl ?_
                            refine L.rd (rd_pickF rfl rfl) rfl ?_
                            refine L.nil ?_
                            refine X.sq ?_
                            refine V.condF rfl ?_
                            refine V.region ?_
                            refine L.rd (rd_move rfl) rfl ?_
                            refine L.rd (rd_move rfl) rfl ?_
                            refine L.rd (rd_move rfl) rfl ?_
                            refine L.rd (rd_build (out := [_, _, _, _, _]) tok rfl rfl rfl rfl rfl) rfl ?_
                            refine L.ef (e_call rfl (nw_ok (4, 0, 0, (ja : Int), (jb : Int)) _ h6 (by omega)) rfl ?_)
                            rintro _ w7 ⟨rfl, h7, hk7⟩
                            refine L.rd (rd_assign rfl) rfl ?_
                            refine L.nil ?_
                            refine X.bk ?_
                            exact X.ct ⟨_, (by repeat' (first | exact trivial | refine ⟨rfl, ?_⟩)), _, [(4, 0, 0, (ja : Int), (jb : Int))], rfl, by simp, h7, (by rw [hc4 h104]; unfold addR; rw [if_neg (by rintro ⟨e1, e2⟩; first | contradiction | omega), if_neg (by rintro ⟨e1, e2⟩; first | contradiction | omega), if_neg (by rintro ⟨e1, e2⟩; first | contradiction | omega)]; exact Pt.bin 4 hpa hpb), hk6.trans hk7⟩
                    ·
                      refine V.seq ?_
                      refine V.region ?_
                      refine L.rd (rd_fieldAddr tok rfl rfl rfl rfl rfl rfl) rfl ?_
                      refine L.rd (rd_load1 tok rfl rfl rfl (hnd6.cell rfl)) rfl ?_
                      refine L.rd (rd_eql rfl rfl) rfl ?_
                      refine L.nil ?_
                      refine X.sq ?_
                      first | refine V.cond rfl (fun h137 => ?_) (fun h137 => ?_) | refine V.condB rfl (fun h137 => ?_) (fun h137 => ?_)
                      ·
                        refine V.seq ?_
                        refine V.region ?_
                        refine L.rd (rd_move rfl) rfl ?_
                        refine L.rd (rd_move rfl) rfl ?_
                        first | refine L.partG rfl rfl (fun g139 => ?_) (fun g139 => ?_) | refine L.partGB rfl rfl (fun g139 => ?_) (fun g139 => ?_)
                        ·
                          refine L.yes rfl rfl ?_
                          refine L.rd (rd_move rfl) rfl ?_
                          refine L.rd (rd_pickT rfl rfl) rfl ?_
                          refine L.nil ?_
                          refine X.sq ?_
                          first | refine V.cond rfl (fun h141 => ?_) (fun h141 => ?_) | refine V.condB rfl (fun h141 => ?_) (fun h141 => ?_)
                          ·
                            refine V.region ?_
                            refine L.rd (rd_move rfl) rfl ?_
                            refine L.rd (rd_fieldAddr tok rfl rfl rfl rfl rfl rfl) rfl ?_
                            refine L.rd (rd_load1 tok rfl rfl rfl (hba6.cell (i := 1) rfl)) rfl ?_
                            refine L.rd (rd_fieldAddr tok rfl rfl rfl rfl rfl rfl) rfl ?_
                            refine L.rd (rd_load1 tok rfl rfl rfl (hbb6.cell (i := 1) rfl)) rfl ?_
                            refine L.rd (rd_subE (r := w64 (A.v - B.v)) rfl rfl rfl) rfl ?_
                            refine L.ef (e_call rfl (cnum_ok (w64 (A.v - B.v)) _ h6 (by omega)) rfl ?_)
                            rintro _ w7 ⟨i7, ex, rfl, hex, h7, hp7, hk7⟩
                            refine L.rd (rd_assign rfl) rfl ?_
                            refine L.nil ?_
                            refine X.bk ?_
                            exact X.ct ⟨_, (by repeat' (first | exact trivial | refine ⟨rfl, ?_⟩)), i7, ex, rfl, hex, h7, (by rw [hc5 h137]; unfold subR; rw [if_pos ⟨g139, h141⟩]; exact hp7), hk6.trans hk7⟩
                          ·
                            refine V.seq ?_
                            refine V.region ?_
                            refine L.rd (rd_move rfl) rfl ?_
                            refine L.rd (rd_move rfl) rfl ?_
                            first | refine L.partG rfl rfl (fun g150 => ?_) (fun g150 => ?_) | refine L.partGB rfl rfl (fun g150 => ?_) (fun g150 => ?_)
                            ·
                              refine L.yes rfl rfl ?_
                              refine L.rd (rd_fieldAddr tok rfl rfl rfl rfl rfl rfl) rfl ?_
                              refine L.yes rfl rfl ?_
                              refine L.rd (rd_load1 tok rfl rfl rfl (hbb6.cell (i := 1) rfl)) rfl ?_
                              refine L.yes rfl rfl ?_
                              refine L.rd (rd_eql rfl rfl) rfl ?_
                              refine L.rd (rd_pickT rfl rfl) rfl ?_
                              refine L.nil ?_
                              refine X.sq ?_
                              first | refine V.cond rfl (fun h154 => ?_) (fun h154 => ?_) | refine V.condB rfl (fun h154 => ?_) (fun h154 => ?_)
                              ·
                                refine V.region ?_
                                refine L.rd (rd_move rfl) rfl ?_
                                refine L.rd (rd_assign rfl) rfl ?_
                                refine L.nil ?_
                                refine X.bk ?_
                                exact X.ct ⟨_, (by repeat' (first | exact trivial | refine ⟨rfl, ?_⟩)), _, [], rfl, by simp, by rw [List.append_nil]; exact h6, (by rw [List.append_nil, hc5 h137]; unfold subR; rw [if_neg (by rintro ⟨e1, e2⟩; first | contradiction | omega), if_pos ⟨g150, h154⟩]; exact hpa), hk6⟩
                              ·
                                refine V.seq ?_
                                refine V.region ?_
                                refine L.rd (rd_move rfl) rfl ?_
                                refine L.rd (rd_move rfl) rfl ?_
                                first | refine L.partG rfl rfl (fun g157 => ?_) (fun g157 => ?_) | refine L.partGB rfl rfl (fun g157 => ?_) (fun g157 => ?_)
                                ·
                                  refine L.yes rfl rfl ?_
                                  refine L.rd (rd_fieldAddr tok rfl rfl rfl rfl rfl rfl) rfl ?_
                                  refine L.yes rfl rfl ?_
                                  refine L.rd (rd_load1 tok rfl rfl rfl (hba6.cell (i := 1) rfl)) rfl ?_
                                  refine L.yes rfl rfl ?_
                                  refine L.rd (rd_eql rfl rfl) rfl ?_
                                  refine L.rd (rd_pickT rfl rfl) rfl ?_
                                  refine L.nil ?_
                                  refine X.sq ?_
                                  first | refine V.cond rfl (fun h161 => ?_) (fun h161 => ?_) | refine V.condB rfl (fun h161 => ?_) (fun h161 => ?_)
                                  ·
                                    refine V.region ?_
                                    refine L.rd (rd_move rfl) rfl ?_
                                    refine L.rd (rd_move rfl) rfl ?_
                                    refine L.ef (e_call rfl (cneg_ok B hwB (jb : Int) _ h6 (by omega) hpb) rfl ?_)
                                    rintro _ w7 ⟨i7, ex, rfl, hex, h7, hp7, hk7⟩
                                    refine L.rd (rd_assign rfl) rfl ?_
                                    refine L.nil ?_
                                    refine X.bk ?_
                                    exact X.ct ⟨_, (by repeat' (first | exact trivial | refine ⟨rfl, ?_⟩)), i7, ex, rfl, hex, h7, (by rw [hc5 h137]; unfold subR; rw [if_neg (by rintro ⟨e1, e2⟩; first | contradiction | omega), if_neg (by rintro ⟨e1, e2⟩; first | contradiction | omega), if_pos ⟨g157, h161⟩]; exact hp7), hk6.trans hk7⟩
                                  ·
                                    refine V.region ?_
                                    refine L.rd (rd_move rfl) rfl ?_
                                    refine L.rd (rd_move rfl) rfl ?_
                                    refine L.rd (rd_move rfl) rfl ?_
                                    refine L.rd (rd_build (out := [_, _, _, _, _]) tok rfl rfl rfl rfl rfl) rfl ?_
                                    refine L.ef (e_call rfl (nw_ok (5, 0, 0, (ja : Int), (jb : Int)) _ h6 (by omega)) rfl ?_)
                                    rintro _ w7 ⟨rfl, h7, hk7⟩
                                    refine L.rd (rd_assign rfl) rfl ?_
                                    refine L.nil ?_
                                    refine X.bk ?_
                                    exact X.ct ⟨_, (by repeat' (first | exact trivial | refine ⟨rfl, ?_⟩)), _, [(5, 0, 0, (ja : Int), (jb : Int))], rfl, by simp, h7, (by rw [hc5 h137]; unfold subR; rw [if_neg (by rintro ⟨e1, e2⟩; first | contradiction | omega), if_neg (by rintro ⟨e1, e2⟩; first | contradiction | omega), if_neg (by rintro ⟨e1, e2⟩; first | contradiction | omega)]; exact Pt.bin 5 hpa hpb), hk6.trans hk7⟩
                                ·
                                  refine L.no rfl rfl rfl rfl ?_
                                  refine L.no rfl rfl rfl rfl ?_
                                  refine L.no rfl rfl rfl rfl ?_
                                  refine L.rd (rd_pickF rfl rfl) rfl ?_
                                  refine L.nil ?_
                                  refine X.sq ?_
                                  refine V.condF rfl ?_
                                  refine V.region ?_
                                  refine L.rd (rd_move rfl) rfl ?_
                                  refine L.rd (rd_move rfl) rfl ?_
                                  refine L.rd (rd_move rfl) rfl ?_
                                  refine L.rd (rd_build (out := [_, _, _, _, _]) tok rfl rfl rfl rfl rfl) rfl ?_
                                  refine L.ef (e_call rfl (nw_ok (5, 0, 0, (ja : Int), (jb : Int)) _ h6 (by omega)) rfl ?_)
                                  rintro _ w7 ⟨rfl, h7, hk7⟩
                                  refine L.rd (rd_assign rfl) rfl ?_
                                  refine L.nil ?_
                                  refine X.bk ?_
                                  exact X.ct ⟨_, (by repeat' (first | exact trivial | refine ⟨rfl, ?_⟩)), _, [(5, 0, 0, (ja : Int), (jb : Int))], rfl, by simp, h7, (by rw [hc5 h137]; unfold subR; rw [if_neg (by rintro ⟨e1, e2⟩; first | contradiction | omega), if_neg (by rintro ⟨e1, e2⟩; first | contradiction | omega), if_neg (by rintro ⟨e1, e2⟩; first | contradiction | omega)]; exact Pt.bin 5 hpa hpb), hk6.trans hk7⟩
                            ·
                              refine L.no rfl rfl rfl rfl ?_
                              refine L.no rfl rfl rfl rfl ?_
                              refine L.no rfl rfl rfl rfl ?_
                              refine L.rd (rd_pickF rfl rfl) rfl ?_
                              refine L.nil ?_
                              refine X.sq ?_
                              refine V.condF rfl ?_
                              refine V.seq ?_
                              refine V.region ?_
                              refine L.rd (rd_move rfl) rfl ?_
                              refine L.rd (rd_move rfl) rfl ?_
                              first | refine L.partG rfl rfl (fun g157 => ?_) (fun g157 => ?_) | refine L.partGB rfl rfl (fun g157 => ?_) (fun g157 => ?_)
                              ·
                                refine L.yes rfl rfl ?_
                                refine L.rd (rd_fieldAddr tok rfl rfl rfl rfl rfl rfl) rfl ?_
                                refine L.yes rfl rfl ?_
                                refine L.rd (rd_load1 tok rfl rfl rfl (hba6.cell (i := 1) rfl)) rfl ?_
                                refine L.yes rfl rfl ?_
                                refine L.rd (rd_eql rfl rfl) rfl ?_
                                refine L.rd (rd_pickT rfl rfl) rfl ?_
                                refine L.nil ?_
                                refine X.sq ?_
                                first | refine V.cond rfl (fun h161 => ?_) (fun h161 => ?_) | refine V.condB rfl (fun h161 => ?_) (fun h161 => ?_)
                                ·
                                  refine V.region ?_
                                  refine L.rd (rd_move rfl) rfl ?_
                                  refine L.rd (rd_move rfl) rfl ?_
                                  refine L.ef (e_call rfl (cneg_ok B hwB (jb : Int) _ h6 (by omega) hpb) rfl ?_)
                                  rintro _ w7 ⟨i7, ex, rfl, hex, h7, hp7, hk7⟩
                                  refine L.rd (rd_assign rfl) rfl ?_
                                  refine L.nil ?_
                                  refine X.bk ?_
                                  exact X.ct ⟨_, (by repeat' (first | exact trivial | refine ⟨rfl, ?_⟩)), i7, ex, rfl, hex, h7, (by rw [hc5 h137]; unfold subR; rw [if_neg (by rintro ⟨e1, e2⟩; first | contradiction | omega), if_neg (by rintro ⟨e1, e2⟩; first | contradiction | omega), if_pos ⟨g157, h161⟩]; exact hp7), hk6.trans hk7⟩
                                ·
                                  refine V.region ?_
                                  refine L.rd (rd_move rfl) rfl ?_
                                  refine L.rd (rd_move rfl) rfl ?_
                                  refine L.rd (rd_move rfl) rfl ?_
                                  refine L.rd (rd_build (out := [_, _, _, _, _]) tok rfl rfl rfl rfl rfl) rfl ?_
                                  refine L.ef (e_call rfl (nw_ok (5, 0, 0, (ja : Int), (jb : Int)) _ h6 (by omega)) rfl ?_)
                                  rintro _ w7 ⟨rfl, h7, hk7⟩
                                  refine L.rd (rd_assign rfl) rfl ?_
                                  refine L.nil ?_
                                  refine X.bk ?_
                                  exact X.ct ⟨_, (by repeat' (first | exact trivial | refine ⟨rfl, ?_⟩)), _, [(5, 0, 0, (ja : Int), (jb : Int))], rfl, by simp, h7, (by rw [hc5 h137]; unfold subR; rw [if_neg (by rintro ⟨e1, e2⟩; first | contradiction | omega), if_neg (by rintro ⟨e1, e2⟩; first | contradiction | omega), if_neg (by rintro ⟨e1, e2⟩; first | contradiction | omega)]; exact Pt.bin 5 hpa hpb), hk6.trans hk7⟩
                              ·
                                refine L.no rfl rfl rfl rfl ?_
                                refine L.no rfl rfl rfl rfl ?_
                                refine L.no rfl rfl rfl rfl ?_
                                refine L.rd (rd_pickF rfl rfl) rfl ?_
                                refine L.nil ?_
                                refine X.sq ?_
                                refine V.condF rfl ?_
                                refine V.region ?_
                                refine L.rd (rd_move rfl) rfl ?_
                                refine L.rd (rd_move rfl) rfl ?_
                                refine L.rd (rd_move rfl) rfl ?_
                                refine L.rd (rd_build (out := [_, _, _, _, _]) tok rfl rfl rfl rfl rfl) rfl ?_
                                refine L.ef (e_call rfl (nw_ok (5, 0, 0, (ja : Int), (jb : Int)) _ h6 (by omega)) rfl ?_)
                                rintro _ w7 ⟨rfl, h7, hk7⟩
                                refine L.rd (rd_assign rfl) rfl ?_
                                refine L.nil ?_
                                refine X.bk ?_
                                exact X.ct ⟨_, (by repeat' (first | exact trivial | refine ⟨rfl, ?_⟩)), _, [(5, 0, 0, (ja : Int), (jb : Int))], rfl, by simp, h7, (by rw [hc5 h137]; unfold subR; rw [if_neg (by rintro ⟨e1, e2⟩; first | contradiction | omega), if_neg (by rintro ⟨e1, e2⟩; first | contradiction | omega), if_neg (by rintro ⟨e1, e2⟩; first | contradiction | omega)]; exact Pt.bin 5 hpa hpb), hk6.trans hk7⟩
                        ·
                          refine L.no rfl rfl rfl rfl ?_
                          refine L.rd (rd_pickF rfl rfl) rfl ?_
                          refine L.nil ?_
                          refine X.sq ?_
                          refine V.condF rfl ?_
                          refine V.seq ?_
                          refine V.region ?_
                          refine L.rd (rd_move rfl) rfl ?_
                          refine L.rd (rd_move rfl) rfl ?_
                          first | refine L.partG rfl rfl (fun g150 => ?_) (fun g150 => ?_) | refine L.partGB rfl rfl (fun g150 => ?_) (fun g150 => ?_)
                          ·
                            refine L.yes rfl rfl ?_
                            refine L.rd (rd_fieldAddr tok rfl rfl rfl rfl rfl rfl) rfl ?_
                            refine L.yes rfl rfl ?_
                            refine L.rd (rd_load1 tok rfl rfl rfl (hbb6.cell (i := 1) rfl)) rfl ?_
                            refine L.yes rfl rfl ?_
                            refine L.rd (rd_eql rfl rfl) rfl ?_
                            refine L.rd (rd_pickT rfl rfl) rfl ?_
                            refine L.nil ?_
                            refine X.sq ?_
                            first | refine V.cond rfl (fun h154 => ?_) (fun h154 => ?_) | refine V.condB rfl (fun h154 => ?_) (fun h154 => ?_)
                            ·
                              refine V.region ?_
                              refine L.rd (rd_move rfl) rfl ?_
                              refine L.rd (rd_assign rfl) rfl ?_
                              refine L.nil ?_
                              refine X.bk ?_
                              exact X.ct ⟨_, (by repeat' (first | exact trivial | refine ⟨rfl, ?_⟩)), _, [], rfl, by simp, by rw [List.append_nil]; exact h6, (by rw [List.append_nil, hc5 h137]; unfold subR; rw [if_neg (by rintro ⟨e1, e2⟩; first | contradiction | omega), if_pos ⟨g150, h154⟩]; exact hpa), hk6⟩
                            ·
                              refine V.seq ?_
                              refine V.region ?_
                              refine L.rd (rd_move rfl) rfl ?_
                              refine L.rd (rd_move rfl) rfl ?_
                              first | refine L.partG rfl rfl (fun g157 => ?_) (fun g157 => ?_) | refine L.partGB rfl rfl (fun g157 => ?_) (fun g157 => ?_)
                              ·
                                refine L.yes rfl rfl ?_
                                refine L.rd (rd_fieldAddr tok rfl rfl rfl rfl rfl rfl) rfl ?_
                                refine L.yes rfl rfl ?_
                                refine L.rd (rd_load1 tok rfl rfl rfl (hba6.cell (i := 1) rfl)) rfl ?_
                                refine L.yes rfl rfl ?_
                                refine L.rd (rd_eql rfl rfl) rfl ?_
                                refine L.rd (rd_pickT rfl rfl) rfl ?_
                                refine L.nil ?_
                                refine X.sq ?_
                                first | refine V.cond rfl (fun h161 => ?_) (fun h161 => ?_) | refine V.condB rfl (fun h161 => ?_) (fun h161 => ?_)
                                ·
                                  refine V.region ?_
                                  refine L.rd (rd_move rfl) rfl ?_
                                  refine L.rd (rd_move rfl) rfl ?_
                                  refine L.ef (e_call rfl (cneg_ok B hwB (jb : Int) _ h6 (by omega) hpb) rfl ?_)
                                  rintro _ w7 ⟨i7, ex, rfl, hex, h7, hp7, hk7⟩
                                  refine L.rd (rd_assign rfl) rfl ?_
                                  refine L.nil ?_
                                  refine X.bk ?_
                                  exact X.ct ⟨_, (by repeat' (first | exact trivial | refine ⟨rfl, ?_⟩)), i7, ex, rfl, hex, h7, (by rw [hc5 h137]; unfold subR; rw [if_neg (by rintro ⟨e1, e2⟩; first | contradiction | omega), if_neg (by rintro ⟨e1, e2⟩; first | contradiction | omega), if_pos ⟨g157, h161⟩]; exact hp7), hk6.trans hk7⟩
                                ·
                                  refine V.region ?_
                                  refine L.rd (rd_move rfl) rfl ?_
                                  refine L.rd (rd_move rfl) rfl ?_
                                  refine L.rd (rd_move rfl) rfl ?_
                                  refine L.rd (rd_build (out := [_, _, _, _, _]) tok rfl rfl rfl rfl rfl) rfl ?_
                                  refine L.ef (e_call rfl (nw_ok (5, 0, 0, (ja : Int), (jb : Int)) _ h6 (by omega)) rfl ?_)
                                  rintro _ w7 ⟨rfl, h7, hk7⟩
                                  refine L.rd (rd_assign rfl) rfl ?_
                                  refine L.nil ?_
                                  refine X.bk ?_
                                  exact X.ct ⟨_, (by repeat' (first | exact trivial | refine ⟨rfl, ?_⟩)), _, [(5, 0, 0, (ja : Int), (jb : Int))], rfl, by simp, h7, (by rw [hc5 h137]; unfold subR; rw [if_neg (by rintro ⟨e1, e2⟩; first | contradiction | omega), if_neg (by rintro ⟨e1, e2⟩; first | contradiction | omega), if_neg (by rintro ⟨e1, e2⟩; first | contradiction | omega)]; exact Pt.bin 5 hpa hpb), hk6.trans hk7⟩
                              ·
                                refine L.no rfl rfl rfl rfl ?_
                                refine L.no rfl rfl rfl rfl ?_
                                refine L.no rfl rfl rfl rfl ?_
                                refine L.rd (rd_pickF rfl rfl) rfl ?_
                                refine L.nil ?_
                                refine X.sq ?_
                                refine V.condF rfl ?_
                                refine V.region ?_
                                refine L.rd (rd_move rfl) rfl ?_
                                refine L.rd (rd_move rfl) rfl ?_
                                refine L.rd (rd_move rfl) rfl ?_
                                refine L.rd (rd_build (out := [_, _, _, _, _]) tok rfl rfl rfl rfl rfl) rfl ?_
                                refine L.ef (e_call rfl (nw_ok (5, 0, 0, (ja : Int), (jb : Int)) _ h6 (by omega)) rfl ?_)
                                rintro _ w7 ⟨rfl, h7, hk7⟩
                                refine L.rd (rd_assign rfl) rfl ?_
                                refine L.nil ?_
                                refine X.bk ?_
                                exact X.ct ⟨_, (by repeat' (first | exact trivial | refine ⟨rfl, ?_⟩)), _, [(5, 0, 0, (ja : Int), (jb : Int))], rfl, by simp, h7, (by rw [hc5 h137]; unfold subR; rw [if_neg (by rintro ⟨e1, e2⟩; first | contradiction | omega), if_neg (by rintro ⟨e1, e2⟩; first | contradiction | omega), if_neg (by rintro ⟨e1, e2⟩; first | contradiction | omega)]; exact Pt.bin 5 hpa hpb), hk6.trans hk7⟩
                          ·
                            refine L.no rfl rfl rfl rfl ?_
                            refine L.no rfl rfl rfl rfl ?_
                            refine L.no rfl rfl rfl rfl ?_
                            refine L.rd (rd_pickF rfl rfl) rfl ?_
                            refine L.nil ?_
                            refine X.sq ?_
                            refine V.condF rfl ?_
                            refine V.seq ?_
                            refine V.region ?_
                            refine L.rd (rd_move rfl) rfl ?_
                            refine L.rd (rd_move rfl) rfl ?_
                            first | refine L.partG rfl rfl (fun g157 => ?_) (fun g157 => ?_) | refine L.partGB rfl rfl (fun g157 => ?_) (fun g157 => ?_)
                            ·
                              refine L.yes rfl rfl ?_
                              refine L.rd (rd_fieldAddr tok rfl rfl rfl rfl rfl rfl) rfl ?_
                              refine L.yes rfl rfl ?_
                              refine L.rd (rd_load1 tok rfl rfl rfl (hba6.cell (i := 1) rfl)) rfl ?_
                              refine L.yes rfl rfl ?_
                              refine L.rd (rd_eql rfl rfl) rfl ?_
                              refine L.rd (rd_pickT rfl rfl) rfl ?_
                              refine L.nil ?_
                              refine X.sq ?_
                              first | refine V.cond rfl (fun h161 => ?_) (fun h161 => ?_) | refine V.condB rfl (fun h161 => ?_) (fun h161 => ?_)
                              ·
                                refine V.region ?_
                                refine L.rd (rd_move rfl) rfl ?_
                                refine L.rd (rd_move rfl) rfl ?_
                                refine L.ef (e_call rfl (cneg_ok B hwB (jb : Int) _ h6 (by omega) hpb) rfl ?_)
                                rintro _ w7 ⟨i7, ex, rfl, hex, h7, hp7, hk7⟩
                                refine L.rd (rd_assign rfl) rfl ?_
                                refine L.nil ?_
                                refine X.bk ?_
                                exact X.ct ⟨_, (by repeat' (first | exact trivial | refine ⟨rfl, ?_⟩)), i7, ex, rfl, hex, h7, (by rw [hc5 h137]; unfold subR; rw [if_neg (by rintro ⟨e1, e2⟩; first | contradiction | omega), if_neg (by rintro ⟨e1, e2⟩; first | contradiction | omega), if_pos ⟨g157, h161⟩]; exact hp7), hk6.trans hk7⟩
                              ·
                                refine V.region ?_
                                refine L.rd (rd_move rfl) rfl ?_
                                refine L.rd (rd_move rfl) rfl ?_
                                refine L.rd (rd_move rfl) rfl ?_
                                refine L.rd (rd_build (out := [_, _, _, _, _]) tok rfl rfl rfl rfl rfl) rfl ?_
                                refine L.ef (e_call rfl (nw_ok (5, 0, 0, (ja : Int), (jb : Int)) _ h6 (by omega)) rfl ?_)
                                rintro _ w7 ⟨rfl, h7, hk7⟩
                                refine L.rd (rd_assign rfl) rfl ?_
                                refine L.nil ?_
                                refine X.bk ?_
                                exact X.ct ⟨_, (by repeat' (first | exact trivial | refine ⟨rfl, ?_⟩)), _, [(5, 0, 0, (ja : Int), (jb : Int))], rfl, by simp, h7, (by rw [hc5 h137]; unfold subR; rw [if_neg (by rintro ⟨e1, e2⟩; first | contradiction | omega), if_neg (by rintro ⟨e1, e2⟩; first | contradiction | omega), if_neg (by rintro ⟨e1, e2⟩; first | contradiction | omega)]; exact Pt.bin 5 hpa hpb), hk6.trans hk7⟩
                            ·
                              refine L.no rfl rfl rfl rfl ?_
                              refine L.no rfl rfl rfl rfl ?_
                              refine L.no rfl rfl rfl rfl ?_
                              refine L.rd (rd_pickF rfl rfl) rfl ?_
                              refine L.nil ?_
                              refine X.sq ?_
                              refine V.condF rfl ?_
                              refine V.region ?_
                              refine L.rd (rd_move rfl) rfl ?_
                              refine L.rd (rd_move rfl) rfl ?_
                              refine L.rd (rd_move rfl) rfl ?_
                              refine L.rd (rd_build (out := [_, _, _, _, _]) tok rfl rfl rfl rfl rfl) rfl ?_
                              refine L.ef (e_call rfl (nw_ok (5, 0, 0, (ja : Int), (jb : Int)) _ h6 (by omega)) rfl ?_)
                              rintro _ w7 ⟨rfl, h7, hk7⟩
                              refine L.rd (rd_assign rfl) rfl ?_
                              refine L.nil ?_
                              refine X.bk ?_
                              exact X.ct ⟨_, (by repeat' (first | exact trivial | refine ⟨rfl, ?_⟩)), _, [(5, 0, 0, (ja : Int), (jb : Int))], rfl, by simp, h7, (by rw [hc5 h137]; unfold subR; rw [if_neg (by rintro ⟨e1, e2⟩; first | contradiction | omega), if_neg (by rintro ⟨e1, e2⟩; first | contradiction | omega), if_neg (by rintro ⟨e1, e2⟩; first | contradiction | omega)]; exact Pt.bin 5 hpa hpb), hk6.trans hk7⟩
                      ·
                        refine V.seq ?_
                        have h66 : k = 6 := by omega
                        refine V.region ?_
                        refine L.rd (rd_move rfl) rfl ?_
                        refine L.rd (rd_move rfl) rfl ?_
                        first | refine L.partG rfl rfl (fun g171 => ?_) (fun g171 => ?_) | refine L.partGB rfl rfl (fun g171 => ?_) (fun g171 => ?_)
                        ·
                          refine L.yes rfl rfl ?_
                          refine L.rd (rd_move rfl) rfl ?_
                          refine L.rd (rd_pickT rfl rfl) rfl ?_
                          refine L.nil ?_
                          refine X.sq ?_
                          first | refine V.cond rfl (fun h173 => ?_) (fun h173 => ?_) | refine V.condB rfl (fun h173 => ?_) (fun h173 => ?_)
                          ·
                            refine V.region ?_
                            refine L.rd (rd_move rfl) rfl ?_
                            refine L.rd (rd_fieldAddr tok rfl rfl rfl rfl rfl rfl) rfl ?_
                            refine L.rd (rd_load1 tok rfl rfl rfl (hba6.cell (i := 1) rfl)) rfl ?_
                            refine L.rd (rd_fieldAddr tok rfl rfl rfl rfl rfl rfl) rfl ?_
                            refine L.rd (rd_load1 tok rfl rfl rfl (hbb6.cell (i := 1) rfl)) rfl ?_
                            refine L.rd (rd_mulE (r := w64 (A.v * B.v)) rfl rfl rfl) rfl ?_
                            refine L.ef (e_call rfl (cnum_ok (w64 (A.v * B.v)) _ h6 (by omega)) rfl ?_)
                            rintro _ w7 ⟨i7, ex, rfl, hex, h7, hp7, hk7⟩
                            refine L.rd (rd_assign rfl) rfl ?_
                            refine L.nil ?_
                            refine X.bk ?_
                            exact X.ct ⟨_, (by repeat' (first | exact trivial | refine ⟨rfl, ?_⟩)), i7, ex, rfl, hex, h7, (by rw [hc6 h66]; unfold mulR; rw [if_pos ⟨g171, h173⟩]; exact hp7), hk6.trans hk7⟩
                          ·
                            refine V.seq ?_
                            refine V.region ?_
                            refine L.rd (rd_move rfl) rfl ?_
                            refine L.rd (rd_move rfl) rfl ?_
                            first | refine L.partG rfl rfl (fun g182 => ?_) (fun g182 => ?_) | refine L.partGB rfl rfl (fun g182 => ?_) (fun g182 => ?_)
                            ·
                              refine L.yes rfl rfl ?_
                              refine L.rd (rd_fieldAddr tok rfl rfl rfl rfl rfl rfl) rfl ?_
                              refine L.yes rfl rfl ?_
                              refine L.rd (rd_load1 tok rfl rfl rfl (hba6.cell (i := 1) rfl)) rfl ?_
                              refine L.yes rfl rfl ?_
                              refine L.rd (rd_eql rfl rfl) rfl ?_
                              refine L.rd (rd_pickT rfl rfl) rfl ?_
                              refine L.rd (rd_move rfl) rfl ?_
                              first | refine L.partG rfl rfl (fun g187 => ?_) (fun g187 => ?_) | refine L.partGB rfl rfl (fun g187 => ?_) (fun g187 => ?_)
                              ·
                                refine L.no rfl rfl rfl rfl ?_
                                refine L.no rfl rfl rfl rfl ?_
                                refine L.noU rfl rfl rfl ?_
                                refine L.noU rfl rfl rfl ?_
                                refine L.noU rfl rfl rfl ?_
                                refine L.no rfl rfl rfl rfl ?_
                                refine L.rd (rd_pickT rfl rfl) rfl ?_
                                refine L.nil ?_
                                refine X.sq ?_
                                refine V.condT rfl ?_
                                refine V.region ?_
                                refine L.rd (rd_move rfl) rfl ?_
                                refine L.ef (e_call rfl (cnum_ok (0) _ h6 (by omega)) rfl ?_)
                                rintro _ w7 ⟨i7, ex, rfl, hex, h7, hp7, hk7⟩
                                refine L.rd (rd_assign rfl) rfl ?_
                                refine L.nil ?_
                                refine X.bk ?_
                                exact X.ct ⟨_, (by repeat' (first | exact trivial | refine ⟨rfl, ?_⟩)), i7, ex, rfl, hex, h7, (by rw [hc6 h66]; unfold mulR; rw [if_neg (by rintro ⟨e1, e2⟩; first | contradiction | omega), if_pos (by first | exact .inl ⟨by assumption, by assumption⟩ | exact .inr ⟨by assumption, by assumption⟩)]; exact hp7), hk6.trans hk7⟩
                              ·
                                refine L.yes rfl rfl ?_
                                refine L.rd (rd_move rfl) rfl ?_
                                refine L.yes rfl rfl ?_
                                refine L.rd (rd_move rfl) rfl ?_
                                first | refine L.partG rfl rfl (fun g189 => ?_) (fun g189 => ?_) | refine L.partGB rfl rfl (fun g189 => ?_) (fun g189 => ?_)
                                ·
                                  refine L.yes rfl rfl ?_
                                  refine L.rd (rd_fieldAddr tok rfl rfl rfl rfl rfl rfl) rfl ?_
                                  refine L.yes rfl rfl ?_
                                  refine L.rd (rd_load1 tok rfl rfl rfl (hbb6.cell (i := 1) rfl)) rfl ?_
                                  refine L.yes rfl rfl ?_
                                  refine L.rd (rd_eql rfl rfl) rfl ?_
                                  refine L.yes rfl rfl ?_
                                  refine L.rd (rd_pickT rfl rfl) rfl ?_
                                  refine L.rd (rd_pickF rfl rfl) rfl ?_
                                  refine L.nil ?_
                                  refine X.sq ?_
                                  first | refine V.cond rfl (fun h194 => ?_) (fun h194 => ?_) | refine V.condB rfl (fun h194 => ?_) (fun h194 => ?_)
                                  ·
                                    refine V.region ?_
                                    refine L.rd (rd_move rfl) rfl ?_
                                    refine L.ef (e_call rfl (cnum_ok (0) _ h6 (by omega)) rfl ?_)
                                    rintro _ w7 ⟨i7, ex, rfl, hex, h7, hp7, hk7⟩
                                    refine L.rd (rd_assign rfl) rfl ?_
                                    refine L.nil ?_
                                    refine X.bk ?_
                                    exact X.ct ⟨_, (by repeat' (first | exact trivial | refine ⟨rfl, ?_⟩)), i7, ex, rfl, hex, h7, (by rw [hc6 h66]; unfold mulR; rw [if_neg (by rintro ⟨e1, e2⟩; first | contradiction | omega), if_pos (by first | exact .inl ⟨by assumption, by assumption⟩ | exact .inr ⟨by assumption, by assumption⟩)]; exact hp7), hk6.trans hk7⟩
                                  ·
                                    refine V.seq ?_
                                    refine V.region ?_
                                    refine L.rd (rd_move rfl) rfl ?_
                                    refine L.rd (rd_move rfl) rfl ?_
                                    first | refine L.partG rfl rfl (fun g198 => ?_) (fun g198 => ?_) | refine L.partGB rfl rfl (fun g198 => ?_) (fun g198 => ?_)
                                    ·
                                      refine L.yes rfl rfl ?_
                                      refine L.rd (rd_fieldAddr tok rfl rfl rfl rfl rfl rfl) rfl ?_
                                      refine L.yes rfl rfl ?_
                                      refine L.rd (rd_load1 tok rfl rfl rfl (hba6.cell (i := 1) rfl)) rfl ?_
                                      refine L.yes rfl rfl ?_
                                      refine L.rd (rd_eql rfl rfl) rfl ?_
                                      refine L.rd (rd_pickT rfl rfl) rfl ?_
                                      refine L.nil ?_
                                      refine X.sq ?_
                                      first | refine V.cond rfl (fun h202 => ?_) (fun h202 => ?_) | refine V.condB rfl (fun h202 => ?_) (fun h202 => ?_)
                                      ·
                                        refine V.region ?_
                                        refine L.rd (rd_move rfl) rfl ?_
                                        refine L.rd (rd_assign rfl) rfl ?_
                                        refine L.nil ?_
                                        refine X.bk ?_
                                        exact X.ct ⟨_, (by repeat' (first | exact trivial | refine ⟨rfl, ?_⟩)), _, [], rfl, by simp, by rw [List.append_nil]; exact h6, (by rw [List.append_nil, hc6 h66]; unfold mulR; rw [if_neg (by rintro ⟨e1, e2⟩; first | contradiction | omega), if_neg (by rintro (⟨e1, e2⟩ | ⟨e1, e2⟩) <;> first | contradiction | omega), if_pos ⟨g198, h202⟩]; exact hpb), hk6⟩
                                      ·
                                        refine V.seq ?_
                                        refine V.region ?_
                                        refine L.rd (rd_move rfl) rfl ?_
                                        refine L.rd (rd_move rfl) rfl ?_
                                        first | refine L.partG rfl rfl (fun g205 => ?_) (fun g205 => ?_) | refine L.partGB rfl rfl (fun g205 => ?_) (fun g205 => ?_)
                                        ·
                                          refine L.yes rfl rfl ?_
                                          refine L.rd (rd_fieldAddr tok rfl rfl rfl rfl rfl rfl) rfl ?_
                                          refine L.yes rfl rfl ?_
                                          refine L.rd (rd_load1 tok rfl rfl rfl (hbb6.cell (i := 1) rfl)) rfl ?_
                                          refine L.yes rfl rfl ?_
                                          refine L.rd (rd_eql rfl rfl) rfl ?_
                                          refine L.rd (rd_pickT rfl rfl) rfl ?_
                                          refine L.nil ?_
                                          refine X.sq ?_
                                          first | refine V.cond rfl (fun h209 => ?_) (fun h209 => ?_) | refine V.condB rfl (fun h209 => ?_) (fun h209 => ?_)
                                          ·
                                            refine V.region ?_
                                            refine L.rd (rd_move rfl) rfl ?_
                                            refine L.rd (rd_assign rfl) rfl ?_
                                            refine L.nil ?_
                                            refine X.bk ?_
                                            exact X.ct ⟨_, (by repeat' (first | exact trivial | refine ⟨rfl, ?_⟩)), _, [], rfl, by simp, by rw [List.append_nil]; exact h6, (by rw [List.append_nil, hc6 h66]; unfold mulR; rw [if_neg (by rintro ⟨e1, e2⟩; first | contradiction | omega), if_neg (by rintro (⟨e1, e2⟩ | ⟨e1, e2⟩) <;> first | contradiction | omega), if_neg (by rintro ⟨e1, e2⟩; first | contradiction | omega), if_pos ⟨g205, h209⟩]; exact hpa), hk6⟩
                                          ·
                                            refine V.region ?_
                                            refine L.rd (rd_move rfl) rfl ?_
                                            refine L.rd (rd_move rfl) rfl ?_
                                            refine L.rd (rd_move rfl) rfl ?_
                                            refine L.rd (rd_build (out := [_, _, _, _, _]) tok rfl rfl rfl rfl rfl) rfl ?_
                                            refine L.ef (e_call rfl (nw_ok (6, 0, 0, (ja : Int), (jb : Int)) _ h6 (by omega)) rfl ?_)
                                            rintro _ w7 ⟨rfl, h7, hk7⟩
                                            refine L.rd (rd_assign rfl) rfl ?_
                                            refine L.nil ?_
                                            refine X.bk ?_
                                            exact X.ct ⟨_, (by repeat' (first | exact trivial | refine ⟨rfl, ?_⟩)), _, [(6, 0, 0, (ja : Int), (jb : Int))], rfl, by simp, h7, (by rw [hc6 h66]; unfold mulR; rw [if_neg (by rintro ⟨e1, e2⟩; first | contradiction | omega), if_neg (by rintro (⟨e1, e2⟩ | ⟨e1, e2⟩) <;> first | contradiction | omega), if_neg (by rintro ⟨e1, e2⟩; first | contradiction | omega), if_neg (by rintro ⟨e1, e2⟩; first | contradiction | omega)]; exact Pt.bin 6 hpa hpb), hk6.trans hk7⟩
                                        ·
                                          refine L.no rfl rfl rfl rfl ?_
                                          refine L.no rfl rfl rfl rfl ?_
                                          refine L.no rfl rfl rfl rfl ?_
                                          refine L.rd (rd_pickF rfl rfl) rfl ?_
                                          refine L.nil ?_
                                          refine X.sq ?_
                                          refine V.condF rfl ?_
                                          refine V.region ?_
                                          refine L.rd (rd_move rfl) rfl ?_
                                          refine L.rd (rd_move rfl) rfl ?_
                                          refine L.rd (rd_move rfl) rfl ?_
                                          refine L.rd (rd_build (out := [_, _, _, _, _]) tok rfl rfl rfl rfl rfl) rfl ?_
                                          refine L.ef (e_call rfl (nw_ok (6, 0, 0, (ja : Int), (jb : Int)) _ h6 (by omega)) rfl ?_)
                                          rintro _ w7 ⟨rfl, h7, hk7⟩
                                          refine L.rd (rd_assign rfl) rfl ?_
                                          refine L.nil ?_
                                          refine X.bk ?_
                                          exact X.ct ⟨_, (by repeat' (first | exact trivial | refine ⟨rfl, ?_⟩)), _, [(6, 0, 0, (ja : Int), (jb : Int))], rfl, by simp, h7, (by rw [hc6 h66]; unfold mulR; rw [if_neg (by rintro ⟨e1, e2⟩; first | contradiction | omega), if_neg (by rintro (⟨e1, e2⟩ | ⟨e1, e2⟩) <;> first | contradiction | omega), if_neg (by rintro ⟨e1, e2⟩; first | contradiction | omega), if_neg (by rintro ⟨e1, e2⟩; first | contradiction | omega)]; exact Pt.bin 6 hpa hpb), hk6.trans hk7⟩
                                    ·
                                      refine L.no rfl rfl rfl rfl ?_
                                      refine L.no rfl rfl rfl rfl ?_
                                      refine L.no rfl rfl rfl rfl ?_
                                      refine L.rd (rd_pickF rfl rfl) rfl ?_
                                      refine L.nil ?_
                                      refine X.sq ?_
                                      refine V.condF rfl ?_
                                      refine V.seq ?_
                                      refine V.region ?_
                                      refine L.rd (rd_move rfl) rfl ?_
                                      refine L.rd (rd_move rfl) rfl ?_
                                      first | refine L.partG rfl rfl (fun g205 => ?_) (fun g205 => ?_) | refine L.partGB rfl rfl (fun g205 => ?_) (fun g205 => ?_)
                                      ·
                                        refine L.yes rfl rfl ?_
                                        refine L.rd (rd_fieldAddr tok rfl rfl rfl rfl rfl rfl) rfl ?_
                                        refine L.yes rfl rfl ?_
                                        refine L.rd (rd_load1 tok rfl rfl rfl (hbb6.cell (i := 1) rfl)) rfl ?_
                                        refine L.yes rfl rfl ?_
                                        refine L.rd (rd_eql rfl rfl) rfl ?_
                                        refine L.rd (rd_pickT rfl rfl) rfl ?_
                                        refine L.nil ?_
                                        refine X.sq ?_
                                        first | refine V.cond rfl (fun h209 => ?_) (fun h209 => ?_) | refine V.condB rfl (fun h209 => ?_) (fun h209 => ?_)
                                        ·
                                          refine V.region ?_
                                          refine L.rd (rd_move rfl) rfl ?_
                                          refine L.rd (rd_assign rfl) rfl ?_
                                          refine L.nil ?_
                                          refine X.bk ?_
                                          exact X.ct ⟨_, (by repeat' (first | exact trivial | refine ⟨rfl, ?_⟩)), _, [], rfl, by simp, by rw [List.append_nil]; exact h6, (by rw [List.append_nil, hc6 h66]; unfold mulR; rw [if_neg (by rintro ⟨e1, e2⟩; first | contradiction | omega), if_neg (by rintro (⟨e1, e2⟩ | ⟨e1, e2⟩) <;> first | contradiction | omega), if_neg (by rintro ⟨e1, e2⟩; first | contradiction | omega), if_pos ⟨g205, h209⟩]; exact hpa), hk6⟩
                                        ·
                                          refine V.region ?_
                                          refine L.rd (rd_move rfl) rfl ?_
                                          refine L.rd (rd_move rfl) rfl ?_
                                          refine L.rd (rd_move rfl) rfl ?_
                                          refine L.rd (rd_build (out := [_, _, _, _, _]) tok rfl rfl rfl rfl rfl) rfl ?_
                                          refine L.ef (e_call rfl (nw_ok (6, 0, 0, (ja : Int), (jb : Int)) _ h6 (by omega)) rfl ?_)
                                          rintro _ w7 ⟨rfl, h7, hk7⟩
                                          refine L.rd (rd_assign rfl) rfl ?_
                                          refine L.nil ?_
                                          refine X.bk ?_
                                          exact X.ct ⟨_, (by repeat' (first | exact trivial | refine ⟨rfl, ?_⟩)), _, [(6, 0, 0, (ja : Int), (jb : Int))], rfl, by simp, h7, (by rw [hc6 h66]; unfold mulR; rw [if_neg (by rintro ⟨e1, e2⟩; first | contradiction | omega), if_neg (by rintro (⟨e1, e2⟩ | ⟨e1, e2⟩) <;> first | contradiction | omega), if_neg (by rintro ⟨e1, e2⟩; first | contradiction | omega), if_neg (by rintro ⟨e1, e2⟩; first | contradiction | omega)]; exact Pt.bin 6 hpa hpb), hk6.trans hk7⟩
                                      ·
                                        refine L.no rfl rfl rfl rfl ?_
                                        refine L.no rfl rfl rfl rfl ?_
                                        refine L.no rfl rfl rfl rfl ?_
                                        refine L.rd (rd_pickF rfl rfl) rfl ?_
                                        refine L.nil ?_
                                        refine X.sq ?_
                                        refine V.condF rfl ?_
                                        refine V.region ?_
                                        refine L.rd (rd_move rfl) rfl ?_
                                        refine L.rd (rd_move rfl) rfl ?_
                                        refine L.rd (rd_move rfl) rfl ?_
                                        refine L.rd (rd_build (out := [_, _, _, _, _]) tok rfl rfl rfl rfl rfl) rfl ?_
                                        refine L.ef (e_call rfl (nw_ok (6, 0, 0, (ja : Int), (jb : Int)) _ h6 (by omega)) rfl ?_)
                                        rintro _ w7 ⟨rfl, h7, hk7⟩
                                        refine L.rd (rd_assign rfl) rfl ?_
                                        refine L.nil ?_
                                        refine X.bk ?_
                                        exact X.ct ⟨_, (by repeat' (first | exact trivial | refine ⟨rfl, ?_⟩)), _, [(6, 0, 0, (ja : Int), (jb : Int))], rfl, by simp, h7, (by rw [hc6 h66]; unfold mulR; rw [if_neg (by rintro ⟨e1, e2⟩; first | contradiction | omega), if_neg (by rintro (⟨e1, e2⟩ | ⟨e1, e2⟩) <;> first | contradiction | omega), if_neg (by rintro ⟨e1, e2⟩; first | contradiction | omega), if_neg (by rintro ⟨e1, e2⟩; first | contradiction | omega)]; exact Pt.bin 6 hpa hpb), hk6.trans hk7⟩
                                ·
                                  refine L.no rfl rfl rfl rfl ?_
                                  refine L.no rfl rfl rfl rfl ?_
                                  refine L.no rfl rfl rfl rfl ?_
                                  refine L.yes rfl rfl ?_
                                  refine L.rd (rd_pickF rfl rfl) rfl ?_
                                  refine L.rd (rd_pickF rfl rfl) rfl ?_
                                  refine L.nil ?_
                                  refine X.sq ?_
                                  refine V.condF rfl ?_
                                  refine V.seq ?_
                                  refine V.region ?_
                                  refine L.rd (rd_move rfl) rfl ?_
                                  refine L.rd (rd_move rfl) rfl ?_
                                  first | refine L.partG rfl rfl (fun g198 => ?_) (fun g198 => ?_) | refine L.partGB rfl rfl (fun g198 => ?_) (fun g198 => ?_)
                                  ·
                                    refine L.yes rfl rfl ?_
                                    refine L.rd (rd_fieldAddr tok rfl rfl rfl rfl rfl rfl) rfl ?_
                                    refine L.yes rfl rfl ?_
                                    refine L.rd (rd_load1 tok rfl rfl rfl (hba6.cell (i := 1) rfl)) rfl ?_
                                    refine L.yes rfl rfl ?_
                                    refine L.rd (rd_eql rfl rfl) rfl ?_
                                    refine L.rd (rd_pickT rfl rfl) rfl ?_
                                    refine L.nil ?_
                                    refine X.sq ?_
                                    first | refine V.cond rfl (fun h202 => ?_) (fun h202 => ?_) | refine V.condB rfl (fun h202 => ?_) (fun h202 => ?_)
                                    ·
                                      refine V.region ?_
                                      refine L.rd (rd_move rfl) rfl ?_
                                      refine L.rd (rd_assign rfl) rfl ?_
                                      refine L.nil ?_
                                      refine X.bk ?_
                                      exact X.ct ⟨_, (by repeat' (first | exact trivial | refine ⟨rfl, ?_⟩)), _, [], rfl, by simp, by rw [List.append_nil]; exact h6, (by rw [List.append_nil, hc6 h66]; unfold mulR; rw [if_neg (by rintro ⟨e1, e2⟩; first | contradiction | omega), if_neg (by rintro (⟨e1, e2⟩ | ⟨e1, e2⟩) <;> first | contradiction | omega), if_pos ⟨g198, h202⟩]; exact hpb), hk6⟩
                                    ·
                                      refine V.seq ?_
                                      refine V.region ?_
                                      refine L.rd (rd_move rfl) rfl ?_
                                      refine L.rd (rd_move rfl) rfl ?_
                                      first | refine L.partG rfl rfl (fun g205 => ?_) (fun g205 => ?_) | refine L.partGB rfl rfl (fun g205 => ?_) (fun g205 => ?_)
                                      ·
                                        refine L.yes rfl rfl ?_
                                        refine L.rd (rd_fieldAddr tok rfl rfl rfl rfl rfl rfl) rfl ?_
                                        refine L.yes rfl rfl ?_
                                        refine L.rd (rd_load1 tok rfl rfl rfl (hbb6.cell (i := 1) rfl)) rfl ?_
                                        refine L.yes rfl rfl ?_
                                        refine L.rd (rd_eql rfl rfl) rfl ?_
                                        refine L.rd (rd_pickT rfl rfl) rfl ?_
                                        refine L.nil ?_
                                        refine X.sq ?_
                                        first | refine V.cond rfl (fun h209 => ?_) (fun h209 => ?_) | refine V.condB rfl (fun h209 => ?_) (fun h209 => ?_)
                                        ·
                                          refine V.region ?_
                                          refine L.rd (rd_move rfl) rfl ?_
                                          refine L.rd (rd_assign rfl) rfl ?_
                                          refine L.nil ?_
                                          refine X.bk ?_
                                          exact X.ct ⟨_, (by repeat' (first | exact trivial | refine ⟨rfl, ?_⟩)), _, [], rfl, by simp, by rw [List.append_nil]; exact h6, (by rw [List.append_nil, hc6 h66]; unfold mulR; rw [if_neg (by rintro ⟨e1, e2⟩; first | contradiction | omega), if_neg (by rintro (⟨e1, e2⟩ | ⟨e1, e2⟩) <;> first | contradiction | omega), if_neg (by rintro ⟨e1, e2⟩; first | contradiction | omega), if_pos ⟨g205, h209⟩]; exact hpa), hk6⟩
                                        ·
                                          refine V.region ?_
                                          refine L.rd (rd_move rfl) rfl ?_
                                          refine L.rd (rd_move rfl) rfl ?_
                                          refine L.rd (rd_move rfl) rfl ?_
                                          refine L.rd (rd_build (out := [_, _, _, _, _]) tok rfl rfl rfl rfl rfl) rfl ?_
                                          refine L.ef (e_call rfl (nw_ok (6, 0, 0, (ja : Int), (jb : Int)) _ h6 (by omega)) rfl ?_)
                                          rintro _ w7 ⟨rfl, h7, hk7⟩
                                          refine L.rd (rd_assign rfl) rfl ?_
                                          refine L.nil ?_
                                          refine X.bk ?_
                                          exact X.ct ⟨_, (by repeat' (first | exact trivial | refine ⟨rfl, ?_⟩)), _, [(6, 0, 0, (ja : Int), (jb : Int))], rfl, by simp, h7, (by rw [hc6 h66]; unfold mulR; rw [if_neg (by rintro ⟨e1, e2⟩; first | contradiction | omega), if_neg (by rintro (⟨e1, e2⟩ | ⟨e1, e2⟩) <;> first | contradiction | omega), if_neg (by rintro ⟨e1, e2⟩; first | contradiction | omega), if_neg (by rintro ⟨e1, e2⟩; first | contradiction | omega)]; exact Pt.bin 6 hpa hpb), hk6.trans hk7⟩
                                      ·
                                        refine L.no rfl rfl rfl rfl ?_
                                        refine L.no rfl rfl rfl rfl ?_
                                        refine L.no rfl rfl rfl rfl ?_
                                        refine L.rd (rd_pickF rfl rfl) rfl ?_
                                        refine L.nil ?_
                                        refine X.sq ?_
                                        refine V.condF rfl ?_
                                        refine V.region ?_
                                        refine L.rd (rd_move rfl) rfl ?_
                                        refine L.rd (rd_move rfl) rfl ?_
                                        refine L.rd (rd_move rfl) rfl ?_
                                        refine L.rd (rd_build (out := [_, _, _, _, _]) tok rfl rfl rfl rfl rfl) rfl ?_
                                        refine L.ef (e_call rfl (nw_ok (6, 0, 0, (ja : Int), (jb : Int)) _ h6 (by omega)) rfl ?_)
                                        rintro _ w7 ⟨rfl, h7, hk7⟩
                                        refine L.rd (rd_assign rfl) rfl ?_
                                        refine L.nil ?_
                                        refine X.bk ?_
                                        exact X.ct ⟨_, (by repeat' (first | exact trivial | refine ⟨rfl, ?_⟩)), _, [(6, 0, 0, (ja : Int), (jb : Int))], rfl, by simp, h7, (by rw [hc6 h66]; unfold mulR; rw [if_neg (by rintro ⟨e1, e2⟩; first | contradiction | omega), if_neg (by rintro (⟨e1, e2⟩ | ⟨e1, e2⟩) <;> first | contradiction | omega), if_neg (by rintro ⟨e1, e2⟩; first | contradiction | omega), if_neg (by rintro ⟨e1, e2⟩; first | contradiction | omega)]; exact Pt.bin 6 hpa hpb), hk6.trans hk7⟩
                                  ·
                                    refine L.no rfl rfl rfl rfl ?_
                                    refine L.no rfl rfl rfl rfl ?_
                                    refine L.no rfl rfl rfl rfl ?_
                                    refine L.rd (rd_pickF rfl rfl) rfl ?_
                                    refine L.nil ?_
                                    refine X.sq ?_
                                    refine V.condF rfl ?_
                                    refine V.seq ?_
                                    refine V.region ?_
                                    refine L.rd (rd_move rfl) rfl ?_
                                    refine L.rd (rd_move rfl) rfl ?_
                                    first | refine L.partG rfl rfl (fun g205 => ?_) (fun g205 => ?_) | refine L.partGB rfl rfl (fun g205 => ?_) (fun g205 => ?_)
                                    ·
                                      refine L.yes rfl rfl ?_
                                      refine L.rd (rd_fieldAddr tok rfl rfl rfl rfl rfl rfl) rfl ?_
                                      refine L.yes rfl rfl ?_
                                      refine L.rd (rd_load1 tok rfl rfl rfl (hbb6.cell (i := 1) rfl)) rfl ?_
                                      refine L.yes rfl rfl ?_
                                      refine L.rd (rd_eql rfl rfl) rfl ?_
                                      refine L.rd (rd_pickT rfl rfl) rfl ?_
                                      refine L.nil ?_
                                      refine X.sq ?_
                                      first | refine V.cond rfl (fun h209 => ?_) (fun h209 => ?_) | refine V.condB rfl (fun h209 => ?_) (fun h209 => ?_)
                                      ·
                                        refine V.region ?_
                                        refine L.rd (rd_move rfl) rfl ?_
                                        refine L.rd (rd_assign rfl) rfl ?_
                                        refine L.nil ?_
                                        refine X.bk ?_
                                        exact X.ct ⟨_, (by repeat' (first | exact trivial | refine ⟨rfl, ?_⟩)), _, [], rfl, by simp, by rw [List.append_nil]; exact h6, (by rw [List.append_nil, hc6 h66]; unfold mulR; rw [if_neg (by rintro ⟨e1, e2⟩; first | contradiction | omega), if_neg (by rintro (⟨e1, e2⟩ | ⟨e1, e2⟩) <;> first | contradiction | omega), if_neg (by rintro ⟨e1, e2⟩; first | contradiction | omega), if_pos ⟨g205, h209⟩]; exact hpa), hk6⟩
                                      ·
                                        refine V.region ?_
                                        refine L.rd (rd_move rfl) rfl ?_
                                        refine L.rd (rd_move rfl) rfl ?_
                                        refine L.rd (rd_move rfl) rfl ?_
                                        refine L.rd (rd_build (out := [_, _, _, _, _]) tok rfl rfl rfl rfl rfl) rfl ?_
                                        refine L.ef (e_call rfl (nw_ok (6, 0, 0, (ja : Int), (jb : Int)) _ h6 (by omega)) rfl ?_)
                                        rintro _ w7 ⟨rfl, h7, hk7⟩
                                        refine L.rd (rd_assign rfl) rfl ?_
                                        refine L.nil ?_
                                        refine X.bk ?_
                                        exact X.ct ⟨_, (by repeat' (first | exact trivial | refine ⟨rfl, ?_⟩)), _, [(6, 0, 0, (ja : Int), (jb : Int))], rfl, by simp, h7, (by rw [hc6 h66]; unfold mulR; rw [if_neg (by rintro ⟨e1, e2⟩; first | contradiction | omega), if_neg (by rintro (⟨e1, e2⟩ | ⟨e1, e2⟩) <;> first | contradiction | omega), if_neg (by rintro ⟨e1, e2⟩; first | contradiction | omega), if_neg (by rintro ⟨e1, e2⟩; first | contradiction | omega)]; exact Pt.bin 6 hpa hpb), hk6.trans hk7⟩
                                    ·
                                      refine L.no rfl rfl rfl rfl ?_
                                      refine L.no rfl rfl rfl rfl ?_
                                      refine L.no rfl rfl rfl rfl ?_
                                      refine L.rd (rd_pickF rfl rfl) rfl ?_
                                      refine L.nil ?_
                                      refine X.sq ?_
                                      refine V.condF rfl ?_
                                      refine V.region ?_
                                      refine L.rd (rd_move rfl) rfl ?_
                                      refine L.rd (rd_move rfl) rfl ?_
                                      refine L.rd (rd_move rfl) rfl ?_
                                      refine L.rd (rd_build (out := [_, _, _, _, _]) tok rfl rfl rfl rfl rfl) rfl ?_
                                      refine L.ef (e_call rfl (nw_ok (6, 0, 0, (ja : Int), (jb : Int)) _ h6 (by omega)) rfl ?_)
                                      rintro _ w7 ⟨rfl, h7, hk7⟩
                                      refine L.rd (rd_assign rfl) rfl ?_
                                      refine L.nil ?_
                                      refine X.bk ?_
                                      exact X.ct ⟨_, (by repeat' (first | exact trivial | refine ⟨rfl, ?_⟩)), _, [(6, 0, 0, (ja : Int), (jb : Int))], rfl, by simp, h7, (by rw [hc6 h66]; unfold mulR; rw [if_neg (by rintro ⟨e1, e2⟩; first | contradiction | omega), if_neg (by rintro (⟨e1, e2⟩ | ⟨e1, e2⟩) <;> first | contradiction | omega), if_neg (by rintro ⟨e1, e2⟩; first | contradiction | omega), if_neg (by rintro ⟨e1, e2⟩; first | contradiction | omega)]; exact Pt.bin 6 hpa hpb), hk6.trans hk7⟩
                            ·
                              refine L.no rfl rfl rfl rfl ?_
                              refine L.no rfl rfl rfl rfl ?_
                              refine L.no rfl rfl rfl rfl ?_
                              refine L.rd (rd_pickF rfl rfl) rfl ?_
                              refine L.rd (rd_move rfl) rfl ?_
                              refine L.yes rfl rfl ?_
                              refine L.rd (rd_move rfl) rfl ?_
                              refine L.yes rfl rfl ?_
                              refine L.rd (rd_move rfl) rfl ?_
                              first | refine L.partG rfl rfl (fun g189 => ?_) (fun g189 => ?_) | refine L.partGB rfl rfl (fun g189 => ?_) (fun g189 => ?_)
                              ·
                                refine L.yes rfl rfl ?_
                                refine L.rd (rd_fieldAddr tok rfl rfl rfl rfl rfl rfl) rfl ?_
                                refine L.yes rfl rfl ?_
                                refine L.rd (rd_load1 tok rfl rfl rfl (hbb6.cell (i := 1) rfl)) rfl ?_
                                refine L.yes rfl rfl ?_
                                refine L.rd (rd_eql rfl rfl) rfl ?_
                                refine L.yes rfl rfl ?_
                                refine L.rd (rd_pickT rfl rfl) rfl ?_
                                refine L.rd (rd_pickF rfl rfl) rfl ?_
                                refine L.nil ?_
                                refine X.sq ?_
                                first | refine V.cond rfl (fun h194 => ?_) (fun h194 => ?_) | refine V.condB rfl (fun h194 => ?_) (fun h194 => ?_)
                                ·
                                  refine V.region ?_
                                  refine L.rd (rd_move rfl) rfl ?_
                                  refine L.ef (e_call rfl (cnum_ok (0) _ h6 (by omega)) rfl ?_)
                                  rintro _ w7 ⟨i7, ex, rfl, hex, h7, hp7, hk7⟩
                                  refine L.rd (rd_assign rfl) rfl ?_
                                  refine L.nil ?_
                                  refine X.bk ?_
                                  exact X.ct ⟨_, (by repeat' (first | exact trivial | refine ⟨rfl, ?_⟩)), i7, ex, rfl, hex, h7, (by rw [hc6 h66]; unfold mulR; rw [if_neg (by rintro ⟨e1, e2⟩; first | contradiction | omega), if_pos (by first | exact .inl ⟨by assumption, by assumption⟩ | exact .inr ⟨by assumption, by assumption⟩)]; exact hp7), hk6.trans hk7⟩
                                ·
                                  refine V.seq ?_
                                  refine V.region ?_
                                  refine L.rd (rd_move rfl) rfl ?_
                                  refine L.rd (rd_move rfl) rfl ?_
                                  first | refine L.partG rfl rfl (fun g198 => ?_) (fun g198 => ?_) | refine L.partGB rfl rfl (fun g198 => ?_) (fun g198 => ?_)
                                  ·
                                    refine L.yes rfl rfl ?_
                                    refine L.rd (rd_fieldAddr tok rfl rfl rfl rfl rfl rfl) rfl ?_
                                    refine L.yes rfl rfl ?_
                                    refine L.rd (rd_load1 tok rfl rfl rfl (hba6.cell (i := 1) rfl)) rfl ?_
                                    refine L.yes rfl rfl ?_
                                    refine L.rd (rd_eql rfl rfl) rfl ?_
                                    refine L.rd (rd_pickT rfl rfl) rfl ?_
                                    refine L.nil ?_
                                    refine X.sq ?_
                                    first | refine V.cond rfl (fun h202 => ?_) (fun h202 => ?_) | refine V.condB rfl (fun h202 => ?_) (fun h202 => ?_)
                                    ·
                                      refine V.region ?_
                                      refine L.rd (rd_move rfl) rfl ?_
                                      refine L.rd (rd_assign rfl) rfl ?_
                                      refine L.nil ?_
                                      refine X.bk ?_
                                      exact X.ct ⟨_, (by repeat' (first | exact trivial | refine ⟨rfl, ?_⟩)), _, [], rfl, by simp, by rw [List.append_nil]; exact h6, (by rw [List.append_nil, hc6 h66]; unfold mulR; rw [if_neg (by rintro ⟨e1, e2⟩; first | contradiction | omega), if_neg (by rintro (⟨e1, e2⟩ | ⟨e1, e2⟩) <;> first | contradiction | omega), if_pos ⟨g198, h202⟩]; exact hpb), hk6⟩
                                    ·
                                      refine V.seq ?_
                                      refine V.region ?_
                                      refine L.rd (rd_move rfl) rfl ?_
                                      refine L.rd (rd_move rfl) rfl ?_
                                      first | refine L.partG rfl rfl (fun g205 => ?_) (fun g205 => ?_) | refine L.partGB rfl rfl (fun g205 => ?_) (fun g205 => ?_)
                                      ·
                                        refine L.yes rfl rfl ?_
                                        refine L.rd (rd_fieldAddr tok rfl rfl rfl rfl rfl rfl) rfl ?_
                                        refine L.yes rfl rfl ?_
                                        refine L.rd (rd_load1 tok rfl rfl rfl (hbb6.cell (i := 1) rfl)) rfl ?_
                                        refine L.yes rfl rfl ?_
                                        refine L.rd (rd_eql rfl rfl) rfl ?_
                                        refine L.rd (rd_pickT rfl rfl) rfl ?_
                                        refine L.nil ?_
                                        refine X.sq ?_
                                        first | refine V.cond rfl (fun h209 => ?_) (fun h209 => ?_) | refine V.condB rfl (fun h209 => ?_) (fun h209 => ?_)
                                        ·
                                          refine V.region ?_
                                          refine L.rd (rd_move rfl) rfl ?_
                                          refine L.rd (rd_assign rfl) rfl ?_
                                          refine L.nil ?_
                                          refine X.bk ?_
                                          exact X.ct ⟨_, (by repeat' (first | exact trivial | refine ⟨rfl, ?_⟩)), _, [], rfl, by simp, by rw [List.append_nil]; exact h6, (by rw [List.append_nil, hc6 h66]; unfold mulR; rw [if_neg (by rintro ⟨e1, e2⟩; first | contradiction | omega), if_neg (by rintro (⟨e1, e2⟩ | ⟨e1, e2⟩) <;> first | contradiction | omega), if_neg (by rintro ⟨e1, e2⟩; first | contradiction | omega), if_pos ⟨g205, h209⟩]; exact hpa), hk6⟩
                                        ·
                                          refine V.region ?_
                                          refine L.rd (rd_move rfl) rfl ?_
                                          refine L.rd (rd_move rfl) rfl ?_
                                          refine L.rd (rd_move rfl) rfl ?_
                                          refine L.rd (rd_build (out := [_, _, _, _, _]) tok rfl rfl rfl rfl rfl) rfl ?_
                                          refine L.ef (e_call rfl (nw_ok (6, 0, 0, (ja : Int), (jb : Int)) _ h6 (by omega)) rfl ?_)
                                          rintro _ w7 ⟨rfl, h7, hk7⟩
                                          refine L.rd (rd_assign rfl) rfl ?_
                                          refine L.nil ?_
                                          refine X.bk ?_
                                          exact X.ct ⟨_, (by repeat' (first | exact trivial | refine ⟨rfl, ?_⟩)), _, [(6, 0, 0, (ja : Int), (jb : Int))], rfl, by simp, h7, (by rw [hc6 h66]; unfold mulR; rw [if_neg (by rintro ⟨e1, e2⟩; first | contradiction | omega), if_neg (by rintro (⟨e1, e2⟩ | ⟨e1, e2⟩) <;> first | contradiction | omega), if_neg (by rintro ⟨e1, e2⟩; first | contradiction | omega), if_neg (by rintro ⟨e1, e2⟩; first | contradiction | omega)]; exact Pt.bin 6 hpa hpb), hk6.trans hk7⟩
                                      ·
                                        refine L.no rfl rfl rfl rfl ?_
                                        refine L.no rfl rfl rfl rfl ?_
                                        refine L.no rfl rfl rfl rfl ?_
                                        refine L.rd (rd_pickF rfl rfl) rfl ?_
                                        refine L.nil ?_
                                        refine X.sq ?_
                                        refine V.condF rfl ?_
                                        refine V.region ?_
                                        refine L.rd (rd_move rfl) rfl ?_
                                        refine L.rd (rd_move rfl) rfl ?_
                                        refine L.rd (rd_move rfl) rfl ?_
                                        refine L.rd (rd_build (out := [_, _, _, _, _]) tok rfl rfl rfl rfl rfl) rfl ?_
                                        refine L.ef (e_call rfl (nw_ok (6, 0, 0, (ja : Int), (jb : Int)) _ h6 (by omega)) rfl ?_)
                                        rintro _ w7 ⟨rfl, h7, hk7⟩
                                        refine L.rd (rd_assign rfl) rfl ?_
                                        refine L.nil ?_
                                        refine X.bk ?_
                                        exact X.ct ⟨_, (by repeat' (first | exact trivial | refine ⟨rfl, ?_⟩)), _, [(6, 0, 0, (ja : Int), (jb : Int))], rfl, by simp, h7, (by rw [hc6 h66]; unfold mulR; rw [if_neg (by rintro ⟨e1, e2⟩; first | contradiction | omega), if_neg (by rintro (⟨e1, e2⟩ | ⟨e1, e2⟩) <;> first | contradiction | omega), if_neg (by rintro ⟨e1, e2⟩; first | contradiction | omega), if_neg (by rintro ⟨e1, e2⟩; first | contradiction | omega)]; exact Pt.bin 6 hpa hpb), hk6.trans hk7⟩
                                  ·
                                    refine L.no rfl rfl rfl rfl ?_
                                    refine L.no rfl rfl rfl rfl ?_
                                    refine L.no rfl rfl rfl rfl ?_
                                    refine L.rd (rd_pickF rfl rfl) rfl ?_
                                    refine L.nil ?_
                                    refine X.sq ?_
                                    refine V.condF rfl ?_
                                    refine V.seq ?_
                                    refine V.region ?_
                                    refine L.rd (rd_move rfl) rfl ?_
                                    refine L.rd (rd_move rfl) rfl ?_
                                    first | refine L.partG rfl rfl (fun g205 => ?_) (fun g205 => ?_) | refine L.partGB rfl rfl (fun g205 => ?_) (fun g205 => ?_)
                                    ·
                                      refine L.yes rfl rfl ?_
                                      refine L.rd (rd_fieldAddr tok rfl rfl rfl rfl rfl rfl) rfl ?_
                                      refine L.yes rfl rfl ?_
                                      refine L.rd (rd_load1 tok rfl rfl rfl (hbb6.cell (i := 1) rfl)) rfl ?_
                                      refine L.yes rfl rfl ?_
                                      refine L.rd (rd_eql rfl rfl) rfl ?_
                                      refine L.rd (rd_pickT rfl rfl) rfl ?_
                                      refine L.nil ?_
                                      refine X.sq ?_
                                      first | refine V.cond rfl (fun h209 => ?_) (fun h209 => ?_) | refine V.condB rfl (fun h209 => ?_) (fun h209 => ?_)
                                      ·
                                        refine V.region ?_
                                        refine L.rd (rd_move rfl) rfl ?_
                                        refine L.rd (rd_assign rfl) rfl ?_
                                        refine L.nil ?_
                                        refine X.bk ?_
                                        exact X.ct ⟨_, (by repeat' (first | exact trivial | refine ⟨rfl, ?_⟩)), _, [], rfl, by simp, by rw [List.append_nil]; exact h6, (by rw [List.append_nil, hc6 h66]; unfold mulR; rw [if_neg (by rintro ⟨e1, e2⟩; first | contradiction | omega), if_neg (by rintro (⟨e1, e2⟩ | ⟨e1, e2⟩) <;> first | contradiction | omega), if_neg (by rintro ⟨e1, e2⟩; first | contradiction | omega), if_pos ⟨g205, h209⟩]; exact hpa), hk6⟩
                                      ·
                                        refine V.region ?_
                                        refine L.rd (rd_move rfl) rfl ?_
                                        refine L.rd (rd_move rfl) rfl ?_
                                        refine L.rd (rd_move rfl) rfl ?_
                                        refine L.rd (rd_build (out := [_, _, _, _, _]) tok rfl rfl rfl rfl rfl) rfl ?_
                                        refine L.ef (e_call rfl (nw_ok (6, 0, 0, (ja : Int), (jb : Int)) _ h6 (by omega)) rfl ?_)
                                        rintro _ w7 ⟨rfl, h7, hk7⟩
                                        refine L.rd (rd_assign rfl) rfl ?_
                                        refine L.nil ?_
                                        refine X.bk ?_
                                        exact X.ct ⟨_, (by repeat' (first | exact trivial | refine ⟨rfl, ?_⟩)), _, [(6, 0, 0, (ja : Int), (jb : Int))], rfl, by simp, h7, (by rw [hc6 h66]; unfold mulR; rw [if_neg (by rintro ⟨e1, e2⟩; first | contradiction | omega), if_neg (by rintro (⟨e1, e2⟩ | ⟨e1, e2⟩) <;> first | contradiction | omega), if_neg (by rintro ⟨e1, e2⟩; first | contradiction | omega), if_neg (by rintro ⟨e1, e2⟩; first | contradiction | omega)]; exact Pt.bin 6 hpa hpb), hk6.trans hk7⟩
                                    ·
                                      refine L.no rfl rfl rfl rfl ?_
                                      refine L.no rfl rfl rfl rfl ?_
                                      refine L.no rfl rfl rfl rfl ?_
                                      refine L.rd (rd_pickF rfl rfl) rfl ?_
                                      refine L.nil ?_
                                      refine X.sq ?_
                                      refine V.condF rfl ?_
                                      refine V.region ?_
                                      refine L.rd (rd_move rfl) rfl ?_
                                      refine L.rd (rd_move rfl) rfl ?_
                                      refine L.rd (rd_move rfl) rfl ?_
                                      refine L.rd (rd_build (out := [_, _, _, _, _]) tok rfl rfl rfl rfl rfl) rfl ?_
                                      refine L.ef (e_call rfl (nw_ok (6, 0, 0, (ja : Int), (jb : Int)) _ h6 (by omega)) rfl ?_)
                                      rintro _ w7 ⟨rfl, h7, hk7⟩
                                      refine L.rd (rd_assign rfl) rfl ?_
                                      refine L.nil ?_
                                      refine X.bk ?_
                                      exact X.ct ⟨_, (by repeat' (first | exact trivial | refine ⟨rfl, ?_⟩)), _, [(6, 0, 0, (ja : Int), (jb : Int))], rfl, by simp, h7, (by rw [hc6 h66]; unfold mulR; rw [if_neg (by rintro ⟨e1, e2⟩; first | contradiction | omega), if_neg (by rintro (⟨e1, e2⟩ | ⟨e1, e2⟩) <;> first | contradiction | omega), if_neg (by rintro ⟨e1, e2⟩; first | contradiction | omega), if_neg (by rintro ⟨e1, e2⟩; first | contradiction | omega)]; exact Pt.bin 6 hpa hpb), hk6.trans hk7⟩
                              ·
                                refine L.no rfl rfl rfl rfl ?_
                                refine L.no rfl rfl rfl rfl ?_
                                refine L.no rfl rfl rfl rfl ?_
                                refine L.yes rfl rfl ?_
                                refine L.rd (rd_pickF rfl rfl) rfl ?_
                                refine L.rd (rd_pickF rfl rfl) rfl ?_
                                refine L.nil ?_
                                refine X.sq ?_
                                refine V.condF rfl ?_
                                refine V.seq ?_
                                refine V.region ?_
                                refine L.rd (rd_move rfl) rfl ?_
                                refine L.rd (rd_move rfl) rfl ?_
                                first | refine L.partG rfl rfl (fun g198 => ?_) (fun g198 => ?_) | refine L.partGB rfl rfl (fun g198 => ?_) (fun g198 => ?_)
                                ·
                                  refine L.yes rfl rfl ?_
                                  refine L.rd (rd_fieldAddr tok rfl rfl rfl rfl rfl rfl) rfl ?_
                                  refine L.yes rfl rfl ?_
                                  refine L.rd (rd_load1 tok rfl rfl rfl (hba6.cell (i := 1) rfl)) rfl ?_
                                  refine L.yes rfl rfl ?_
                                  refine L.rd (rd_eql rfl rfl) rfl ?_
                                  refine L.rd (rd_pickT rfl rfl) rfl ?_
                                  refine L.nil ?_
                                  refine X.sq ?_
                                  first | refine V.cond rfl (fun h202 => ?_) (fun h202 => ?_) | refine V.condB rfl (fun h202 => ?_) (fun h202 => ?_)
                                  ·
                                    refine V.region ?_
                                    refine L.rd (rd_move rfl) rfl ?_
                                    refine L.rd (rd_assign rfl) rfl ?_
                                    refine L.nil ?_
                                    refine X.bk ?_
                                    exact X.ct ⟨_, (by repeat' (first | exact trivial | refine ⟨rfl, ?_⟩)), _, [], rfl, by simp, by rw [List.append_nil]; exact h6, (by rw [List.append_nil, hc6 h66]; unfold mulR; rw [if_neg (by rintro ⟨e1, e2⟩; first | contradiction | omega), if_neg (by rintro (⟨e1, e2⟩ | ⟨e1, e2⟩) <;> first | contradiction | omega), if_pos ⟨g198, h202⟩]; exact hpb), hk6⟩
                                  ·
                                    refine V.seq ?_
                                    refine V.region ?_
                                    refine L.rd (rd_move rfl) rfl ?_
                                    refine L.rd (rd_move rfl) rfl ?_
                                    first | refine L.partG rfl rfl (fun g205 => ?_) (fun g205 => ?_) | refine L.partGB rfl rfl (fun g205 => ?_) (fun g205 => ?_)
                                    ·
                                      refine L.yes rfl rfl ?_
                                      refine L.rd (rd_fieldAddr tok rfl rfl rfl rfl rfl rfl) rfl ?_
                                      refine L.yes rfl rfl ?_
                                      refine L.rd (rd_load1 tok rfl rfl rfl (hbb6.cell (i := 1) rfl)) rfl ?_
                                      refine L.yes rfl rfl ?_
                                      refine L.rd (rd_eql rfl rfl) rfl ?_
                                      refine L.rd (rd_pickT rfl rfl) rfl ?_
                                      refine L.nil ?_
                                      refine X.sq ?_
                                      first | refine V.cond rfl (fun h209 => ?_) (fun h209 => ?_) | refine V.condB rfl (fun h209 => ?_) (fun h209 => ?_)
                                      ·
                                        refine V.region ?_
                                        refine L.rd (rd_move rfl) rfl ?_
                                        refine L.rd (rd_assign rfl) rfl ?_
                                        refine L.nil ?_
                                        refine X.bk ?_
                                        exact X.ct ⟨_, (by repeat' (first | exact trivial | refine ⟨rfl, ?_⟩)), _, [], rfl, by simp, by rw [List.append_nil]; exact h6, (by rw [List.append_nil, hc6 h66]; unfold mulR; rw [if_neg (by rintro ⟨e1, e2⟩; first | contradiction | omega), if_neg (by rintro (⟨e1, e2⟩ | ⟨e1, e2⟩) <;> first | contradiction | omega), if_neg (by rintro ⟨e1, e2⟩; first | contradiction | omega), if_pos ⟨g205, h209⟩]; exact hpa), hk6⟩
                                      ·
                                        refine V.region ?_
                                        refine L.rd (rd_move rfl) rfl ?_
                                        refine L.rd (rd_move rfl) rfl ?_
                                        refine L.rd (rd_move rfl) rfl ?_
                                        refine L.rd (rd_build (out := [_, _, _, _, _]) tok rfl rfl rfl rfl rfl) rfl ?_
                                        refine L.ef (e_call rfl (nw_ok (6, 0, 0, (ja : Int), (jb : Int)) _ h6 (by omega)) rfl ?_)
                                        rintro _ w7 ⟨rfl, h7, hk7⟩
                                        refine L.rd (rd_assign rfl) rfl ?_
                                        refine L.nil ?_
                                        refine X.bk ?_
                                        exact X.ct ⟨_, (by repeat' (first | exact trivial | refine ⟨rfl, ?_⟩)), _, [(6, 0, 0, (ja : Int), (jb : Int))], rfl, by simp, h7, (by rw [hc6 h66]; unfold mulR; rw [if_neg (by rintro ⟨e1, e2⟩; first | contradiction | omega), if_neg (by rintro (⟨e1, e2⟩ | ⟨e1, e2⟩) <;> first | contradiction | omega), if_neg (by rintro ⟨e1, e2⟩; first | contradiction | omega), if_neg (by rintro ⟨e1, e2⟩; first | contradiction | omega)]; exact Pt.bin 6 hpa hpb), hk6.trans hk7⟩
                                    ·
                                      refine L.no rfl rfl rfl rfl ?_
                                      refine L.no rfl rfl rfl rfl ?_
                                      refine L.no rfl rfl rfl rfl ?_
                                      refine L.rd (rd_pickF rfl rfl) rfl ?_
                                      refine L.nil ?_
                                      refine X.sq ?_
                                      refine V.condF rfl ?_
                                      refine V.region ?_
                                      refine L.rd (rd_move rfl) rfl ?_
                                      refine L.rd (rd_move rfl) rfl ?_
                                      refine L.rd (rd_move rfl) rfl ?_
                                      refine L.rd (rd_build (out := [_, _, _, _, _]) tok rfl rfl rfl rfl rfl) rfl ?_
                                      refine L.ef (e_call rfl (nw_ok (6, 0, 0, (ja : Int), (jb : Int)) _ h6 (by omega)) rfl ?_)
                                      rintro _ w7 ⟨rfl, h7, hk7⟩
                                      refine L.rd (rd_assign rfl) rfl ?_
                                      refine L.nil ?_
                                      refine X.bk ?_
                                      exact X.ct ⟨_, (by repeat' (first | exact trivial | refine ⟨rfl, ?_⟩)), _, [(6, 0, 0, (ja : Int), (jb : Int))], rfl, by simp, h7, (by rw [hc6 h66]; unfold mulR; rw [if_neg (by rintro ⟨e1, e2⟩; first | contradiction | omega), if_neg (by rintro (⟨e1, e2⟩ | ⟨e1, e2⟩) <;> first | contradiction | omega), if_neg (by rintro ⟨e1, e2⟩; first | contradiction | omega), if_neg (by rintro ⟨e1, e2⟩; first | contradiction | omega)]; exact Pt.bin 6 hpa hpb), hk6.trans hk7⟩
                                ·
                                  refine L.no rfl rfl rfl rfl ?_
                                  refine L.no rfl rfl rfl rfl ?_
                                  refine L.no rfl rfl rfl rfl ?_
                                  refine L.rd (rd_pickF rfl rfl) rfl ?_
                                  refine L.nil ?_
                                  refine X.sq ?_
                                  refine V.condF rfl ?_
                                  refine V.seq ?_
                                  refine V.region ?_
                                  refine L.rd (rd_move rfl) rfl ?_
                                  refine L.rd (rd_move rfl) rfl ?_
                                  first | refine L.partG rfl rfl (fun g205 => ?_) (fun g205 => ?_) | refine L.partGB rfl rfl (fun g205 => ?_) (fun g205 => ?_)
                                  ·
                                    refine L.yes rfl rfl ?_
                                    refine L.rd (rd_fieldAddr tok rfl rfl rfl rfl rfl rfl) rfl ?_
                                    refine L.yes rfl rfl ?_
                                    refine L.rd (rd_load1 tok rfl rfl rfl (hbb6.cell (i := 1) rfl)) rfl ?_
                                    refine L.yes rfl rfl ?_
                                    refine L.rd (rd_eql rfl rfl) rfl ?_
                                    refine L.rd (rd_pickT rfl rfl) rfl ?_
                                    refine L.nil ?_
                                    refine X.sq ?_
                                    first | refine V.cond rfl (fun h209 => ?_) (fun h209 => ?_) | refine V.condB rfl (fun h209 => ?_) (fun h209 => ?_)
                                    ·
                                      refine V.region ?_
                                      refine L.rd (rd_move rfl) rfl ?_
                                      refine L.rd (rd_assign rfl) rfl ?_
                                      refine L.nil ?_
                                      refine X.bk ?_
                                      exact X.ct ⟨_, (by repeat' (first | exact trivial | refine ⟨rfl, ?_⟩)), _, [], rfl, by simp, by rw [List.append_nil]; exact h6, (by rw [List.append_nil, hc6 h66]; unfold mulR; rw [if_neg (by rintro ⟨e1, e2⟩; first | contradiction | omega), if_neg (by rintro (⟨e1, e2⟩ | ⟨e1, e2⟩) <;> first | contradiction | omega), if_neg (by rintro ⟨e1, e2⟩; first | contradiction | omega), if_pos ⟨g205, h209⟩]; exact hpa), hk6⟩
                                    ·
                                      refine V.region ?_
                                      refine L.rd (rd_move rfl) rfl ?_
                                      refine L.rd (rd_move rfl) rfl ?_
                                      refine L.rd (rd_move rfl) rfl ?_
                                      refine L.rd (rd_build (out := [_, _, _, _, _]) tok rfl rfl rfl rfl rfl) rfl ?_
                                      refine L.ef (e_call rfl (nw_ok (6, 0, 0, (ja : Int), (jb : Int)) _ h6 (by omega)) rfl ?_)
                                      rintro _ w7 ⟨rfl, h7, hk7⟩
                                      refine L.rd (rd_assign rfl) rfl ?_
                                      refine L.nil ?_
                                      refine X.bk ?_
                                      exact X.ct ⟨_, (by repeat' (first | exact trivial | refine ⟨rfl, ?_⟩)), _, [(6, 0, 0, (ja : Int), (jb : Int))], rfl, by simp, h7, (by rw [hc6 h66]; unfold mulR; rw [if_neg (by rintro ⟨e1, e2⟩; first | contradiction | omega), if_neg (by rintro (⟨e1, e2⟩ | ⟨e1, e2⟩) <;> first | contradiction | omega), if_neg (by rintro ⟨e1, e2⟩; first | contradiction | omega), if_neg (by rintro ⟨e1, e2⟩; first | contradiction | omega)]; exact Pt.bin 6 hpa hpb), hk6.trans hk7⟩
                                  ·
                                    refine L.no rfl rfl rfl rfl ?_
                                    refine L.no rfl rfl rfl rfl ?_
                                    refine L.no rfl rfl rfl rfl ?_
                                    refine L.rd (rd_pickF rfl rfl) rfl ?_
                                    refine L.nil ?_
                                    refine X.sq ?_
                                    refine V.condF rfl ?_
                                    refine V.region ?_
                                    refine L.rd (rd_move rfl) rfl ?_
                                    refine L.rd (rd_move rfl) rfl ?_
                                    refine L.rd (rd_move rfl) rfl ?_
                                    refine L.rd (rd_build (out := [_, _, _, _, _]) tok rfl rfl rfl rfl rfl) rfl ?_
                                    refine L.ef (e_call rfl (nw_ok (6, 0, 0, (ja : Int), (jb : Int)) _ h6 (by omega)) rfl ?_)
                                    rintro _ w7 ⟨rfl, h7, hk7⟩
                                    refine L.rd (rd_assign rfl) rfl ?_
                                    refine L.nil ?_
                                    refine X.bk ?_
                                    exact X.ct ⟨_, (by repeat' (first | exact trivial | refine ⟨rfl, ?_⟩)), _, [(6, 0, 0, (ja : Int), (jb : Int))], rfl, by simp, h7, (by rw [hc6 h66]; unfold mulR; rw [if_neg (by rintro ⟨e1, e2⟩; first | contradiction | omega), if_neg (by rintro (⟨e1, e2⟩ | ⟨e1, e2⟩) <;> first | contradiction | omega), if_neg (by rintro ⟨e1, e2⟩; first | contradiction | omega), if_neg (by rintro ⟨e1, e2⟩; first | contradiction | omega)]; exact Pt.bin 6 hpa hpb), hk6.trans hk7⟩
                        ·
                          refine L.no rfl rfl rfl rfl ?_
                          refine L.rd (rd_pickF rfl rfl) rfl ?_
                          refine L.nil ?_
                          refine X.sq ?_
                          refine V.condF rfl ?_
                          refine V.seq ?_
                          refine V.region ?_
                          refine L.rd (rd_move rfl) rfl ?_
                          refine L.rd (rd_move rfl) rfl ?_
                          first | refine L.partG rfl rfl (fun g182 => ?_) (fun g182 => ?_) | refine L.partGB rfl rfl (fun g182 => ?_) (fun g182 => ?_)
                          ·
                            refine L.yes rfl rfl ?_
                            refine L.rd (rd_fieldAddr tok rfl rfl rfl rfl rfl rfl) rfl ?_
                            refine L.yes rfl rfl ?_
                            refine L.rd (rd_load1 tok rfl rfl rfl (hba6.cell (i := 1) rfl)) rfl ?_
                            refine L.yes rfl rfl ?_
                            refine L.rd (rd_eql rfl rfl) rfl ?_
                            refine L.rd (rd_pickT rfl rfl) rfl ?_
                            refine L.rd (rd_move rfl) rfl ?_
                            first | refine L.partG rfl rfl (fun g187 => ?_) (fun g187 => ?_) | refine L.partGB rfl rfl (fun g187 => ?_) (fun g187 => ?_)
                            ·
                              refine L.no rfl rfl rfl rfl ?_
                              refine L.no rfl rfl rfl rfl ?_
                              refine L.noU rfl rfl rfl ?_
                              refine L.noU rfl rfl rfl ?_
                              refine L.noU rfl rfl rfl ?_
                              refine L.no rfl rfl rfl rfl ?_
                              refine L.rd (rd_pickT rfl rfl) rfl ?_
                              refine L.nil ?_
                              refine X.sq ?_
                              refine V.condT rfl ?_
                              refine V.region ?_
                              refine L.rd (rd_move rfl) rfl ?_
                              refine L.ef (e_call rfl (cnum_ok (0) _ h6 (by omega)) rfl ?_)
                              rintro _ w7 ⟨i7, ex, rfl, hex, h7, hp7, hk7⟩
                              refine L.rd (rd_assign rfl) rfl ?_
                              refine L.nil ?_
                              refine X.bk ?_
                              exact X.ct ⟨_, (by repeat' (first | exact trivial | refine ⟨rfl, ?_⟩)), i7, ex, rfl, hex, h7, (by rw [hc6 h66]; unfold mulR; rw [if_neg (by rintro ⟨e1, e2⟩; first | contradiction | omega), if_pos (by first | exact .inl ⟨by assumption, by assumption⟩ | exact .inr ⟨by assumption, by assumption⟩)]; exact hp7), hk6.trans hk7⟩
                            ·
                              refine L.yes rfl rfl ?_
                              refine L.rd (rd_move rfl) rfl ?_
                              refine L.yes rfl rfl ?_
                              refine L.rd (rd_move rfl) rfl ?_
                              first | refine L.partG rfl rfl (fun g189 => ?_) (fun g189 => ?_) | refine L.partGB rfl rfl (fun g189 => ?_) (fun g189 => ?_)
                              ·
                                refine L.yes rfl rfl ?_
                                refine L.rd (rd_fieldAddr tok rfl rfl rfl rfl rfl rfl) rfl ?_
                                refine L.yes rfl rfl ?_
                                refine L.rd (rd_load1 tok rfl rfl rfl (hbb6.cell (i := 1) rfl)) rfl ?_
                                refine L.yes rfl rfl ?_
                                refine L.rd (rd_eql rfl rfl) rfl ?_
                                refine L.yes rfl rfl ?_
                                refine L.rd (rd_pickT rfl rfl) rfl ?_
                                refine L.rd (rd_pickF rfl rfl) rfl ?_
                                refine L.nil ?_
                                refine X.sq ?_
                                first | refine V.cond rfl (fun h194 => ?_) (fun h194 => ?_) | refine V.condB rfl (fun h194 => ?_) (fun h194 => ?_)
                                ·
                                  refine V.region ?_
                                  refine L.rd (rd_move rfl) rfl ?_
                                  refine L.ef (e_call rfl (cnum_ok (0) _ h6 (by omega)) rfl ?_)
                                  rintro _ w7 ⟨i7, ex, rfl, hex, h7, hp7, hk7⟩
                                  refine L.rd (rd_assign rfl) rfl ?_
                                  refine L.nil ?_
                                  refine X.bk ?_
                                  exact X.ct ⟨_, (by repeat' (first | exact trivial | refine ⟨rfl, ?_⟩)), i7, ex, rfl, hex, h7, (by rw [hc6 h66]; unfold mulR; rw [if_neg (by rintro ⟨e1, e2⟩; first | contradiction | omega), if_pos (by first | exact .inl ⟨by assumption, by assumption⟩ | exact .inr ⟨by assumption, by assumption⟩)]; exact hp7), hk6.trans hk7⟩
                                ·
                                  refine V.seq ?_
                                  refine V.region ?_
                                  refine L.rd (rd_move rfl) rfl ?_
                                  refine L.rd (rd_move rfl) rfl ?_
                                  first | refine L.partG rfl rfl (fun g198 => ?_) (fun g198 => ?_) | refine L.partGB rfl rfl (fun g198 => ?_) (fun g198 => ?_)
                                  ·
                                    refine L.yes rfl rfl ?_
                                    refine L.rd (rd_fieldAddr tok rfl rfl rfl rfl rfl rfl) rfl ?_
                                    refine L.yes rfl rfl ?_
                                    refine L.rd (rd_load1 tok rfl rfl rfl (hba6.cell (i := 1) rfl)) rfl ?_
                                    refine L.yes rfl rfl ?_
                                    refine L.rd (rd_eql rfl rfl) rfl ?_
                                    refine L.rd (rd_pickT rfl rfl) rfl ?_
                                    refine L.nil ?_
                                    refine X.sq ?_
                                    first | refine V.cond rfl (fun h202 => ?_) (fun h202 => ?_) | refine V.condB rfl (fun h202 => ?_) (fun h202 => ?_)
                                    ·
                                      refine V.region ?_
                                      refine L.rd (rd_move rfl) rfl ?_
                                      refine L.rd (rd_assign rfl) rfl ?_
                                      refine L.nil ?_
                                      refine X.bk ?_
                                      exact X.ct ⟨_, (by repeat' (first | exact trivial | refine ⟨rfl, ?_⟩)), _, [], rfl, by simp, by rw [List.append_nil]; exact h6, (by rw [List.append_nil, hc6 h66]; unfold mulR; rw [if_neg (by rintro ⟨e1, e2⟩; first | contradiction | omega), if_neg (by rintro (⟨e1, e2⟩ | ⟨e1, e2⟩) <;> first | contradiction | omega), if_pos ⟨g198, h202⟩]; exact hpb), hk6⟩
                                    ·
                                      refine V.seq ?_
                                      refine V.region ?_
                                      refine L.rd (rd_move rfl) rfl ?_
                                      refine L.rd (rd_move rfl) rfl ?_
                                      first | refine L.partG rfl rfl (fun g205 => ?_) (fun g205 => ?_) | refine L.partGB rfl rfl (fun g205 => ?_) (fun g205 => ?_)
                                      ·
                                        refine L.yes rfl rfl ?_
                                        refine L.rd (rd_fieldAddr tok rfl rfl rfl rfl rfl rfl) rfl ?_
                                        refine L.yes rfl rfl ?_
                                        refine L.rd (rd_load1 tok rfl rfl rfl (hbb6.cell (i := 1) rfl)) rfl ?_
                                        refine L.yes rfl rfl ?_
                                        refine L.rd (rd_eql rfl rfl) rfl ?_
                                        refine L.rd (rd_pickT rfl rfl) rfl ?_
                                        refine L.nil ?_
                                        refine X.sq ?_
                                        first | refine V.cond rfl (fun h209 => ?_) (fun h209 => ?_) | refine V.condB rfl (fun h209 => ?_) (fun h209 => ?_)
                                        ·
                                          refine V.region ?_
                                          refine L.rd (rd_move rfl) rfl ?_
                                          refine L.rd (rd_assign rfl) rfl ?_
                                          refine L.nil ?_
                                          refine X.bk ?_
                                          exact X.ct ⟨_, (by repeat' (first | exact trivial | refine ⟨rfl, ?_⟩)), _, [], rfl, by simp, by rw [List.append_nil]; exact h6, (by rw [List.append_nil, hc6 h66]; unfold mulR; rw [if_neg (by rintro ⟨e1, e2⟩; first | contradiction | omega), if_neg (by rintro (⟨e1, e2⟩ | ⟨e1, e2⟩) <;> first | contradiction | omega), if_neg (by rintro ⟨e1, e2⟩; first | contradiction | omega), if_pos ⟨g205, h209⟩]; exact hpa), hk6⟩
                                        ·
                                          refine V.region ?_
                                          refine L.rd (rd_move rfl) rfl ?_
                                          refine L.rd (rd_move rfl) rfl ?_
                                          refine L.rd (rd_move rfl) rfl ?_
                                          refine L.rd (rd_build (out := [_, _, _, _, _]) tok rfl rfl rfl rfl rfl) rfl ?_
                                          refine L.ef (e_call rfl (nw_ok (6, 0, 0, (ja : Int), (jb : Int)) _ h6 (by omega)) rfl ?_)
                                          rintro _ w7 ⟨rfl, h7, hk7⟩
                                          refine L.rd (rd_assign rfl) rfl ?_
                                          refine L.nil ?_
                                          refine X.bk ?_
                                          exact X.ct ⟨_, (by repeat' (first | exact trivial | refine ⟨rfl, ?_⟩)), _, [(6, 0, 0, (ja : Int), (jb : Int))], rfl, by simp, h7, (by rw [hc6 h66]; unfold mulR; rw [if_neg (by rintro ⟨e1, e2⟩; first | contradiction | omega), if_neg (by rintro (⟨e1, e2⟩ | ⟨e1, e2⟩) <;> first | contradiction | omega), if_neg (by rintro ⟨e1, e2⟩; first | contradiction | omega), if_neg (by rintro ⟨e1, e2⟩; first | contradiction | omega)]; exact Pt.bin 6 hpa hpb), hk6.trans hk7⟩
                                      ·
                                        refine L.no rfl rfl rfl rfl ?_
                                        refine L.no rfl rfl rfl rfl ?_
                                        refine L.no rfl rfl rfl rfl ?_
                                        refine L.rd (rd_pickF rfl rfl) rfl ?_
                                        refine L.nil ?_
                                        refine X.sq ?_
                                        refine V.condF rfl ?_
                                        refine V.region ?_
                                        refine L.rd (rd_move rfl) rfl ?_
                                        refine L.rd (rd_move rfl) rfl ?_
                                        refine L.rd (rd_move rfl) rfl ?_
                                        refine L.rd (rd_build (out := [_, _, _, _, _]) tok rfl rfl rfl rfl rfl) rfl ?_
                                        refine L.ef (e_call rfl (nw_ok (6, 0, 0, (ja : Int), (jb : Int)) _ h6 (by omega)) rfl ?_)
                                        rintro _ w7 ⟨rfl, h7, hk7⟩
                                        refine L.rd (rd_assign rfl) rfl ?_
                                        refine L.nil ?_
                                        refine X.bk ?_
                                        exact X.ct ⟨_, (by repeat' (first | exact trivial | refine ⟨rfl, ?_⟩)), _, [(6, 0, 0, (ja : Int), (jb : Int))], rfl, by simp, h7, (by rw [hc6 h66]; unfold mulR; rw [if_neg (by rintro ⟨e1, e2⟩; first | contradiction | omega), if_neg (by rintro (⟨e1, e2⟩ | ⟨e1, e2⟩) <;> first | contradiction | omega), if_neg (by rintro ⟨e1, e2⟩; first | contradiction | omega), if_neg (by rintro ⟨e1, e2⟩; first | contradiction | omega)]; exact Pt.bin 6 hpa hpb), hk6.trans hk7⟩
                                  ·
                                    refine L.no rfl rfl rfl rfl ?_
                                    refine L.no rfl rfl rfl rfl ?_
                                    refine L.no rfl rfl rfl rfl ?_
                                    refine L.rd (rd_pickF rfl rfl) rfl ?_
                                    refine L.nil ?_
                                    refine X.sq ?_
                                    refine V.condF rfl ?_
                                    refine V.seq ?_
                                    refine V.region ?_
                                    refine L.rd (rd_move rfl) rfl ?_
                                    refine L.rd (rd_move rfl) rfl ?_
                                    first | refine L.partG rfl rfl (fun g205 => ?_) (fun g205 => ?_) | refine L.partGB rfl rfl (fun g205 => ?_) (fun g205 => ?_)
                                    ·
                                      refine L.yes rfl rfl ?_
                                      refine L.rd (rd_fieldAddr tok rfl rfl rfl rfl rfl rfl) rfl ?_
                                      refine L.yes rfl rfl ?_
                                      refine L.rd (rd_load1 tok rfl rfl rfl (hbb6.cell (i := 1) rfl)) rfl ?_
                                      refine L.yes rfl rfl ?_
                                      refine L.rd (rd_eql rfl rfl) rfl ?_
                                      refine L.rd (rd_pickT rfl rfl) rfl ?_
                                      refine L.nil ?_
                                      refine X.sq ?_
                                      first | refine V.cond rfl (fun h209 => ?_) (fun h209 => ?_) | refine V.condB rfl (fun h209 => ?_) (fun h209 => ?_)
                                      ·
                                        refine V.region ?_
                                        refine L.rd (rd_move rfl) rfl ?_
                                        refine L.rd (rd_assign rfl) rfl ?_
                                        refine L.nil ?_
                                        refine X.bk ?_
                                        exact X.ct ⟨_, (by repeat' (first | exact trivial | refine ⟨rfl, ?_⟩)), _, [], rfl, by simp, by rw [List.append_nil]; exact h6, (by rw [List.append_nil, hc6 h66]; unfold mulR; rw [if_neg (by rintro ⟨e1, e2⟩; first | contradiction | omega), if_neg (by rintro (⟨e1, e2⟩ | ⟨e1, e2⟩) <;> first | contradiction | omega), if_neg (by rintro ⟨e1, e2⟩; first | contradiction | omega), if_pos ⟨g205, h209⟩]; exact hpa), hk6⟩
                                      ·
                                        refine V.region ?_
                                        refine L.rd (rd_move rfl) rfl ?_
                                        refine L.rd (rd_move rfl) rfl ?_
                                        refine L.rd (rd_move rfl) rfl ?_
                                        refine L.rd (rd_build (out := [_, _, _, _, _]) tok rfl rfl rfl rfl rfl) rfl ?_
                                        refine L.ef (e_call rfl (nw_ok (6, 0, 0, (ja : Int), (jb : Int)) _ h6 (by omega)) rfl ?_)
                                        rintro _ w7 ⟨rfl, h7, hk7⟩
                                        refine L.rd (rd_assign rfl) rfl ?_
                                        refine L.nil ?_
                                        refine X.bk ?_
                                        exact X.ct ⟨_, (by repeat' (first | exact trivial | refine ⟨rfl, ?_⟩)), _, [(6, 0, 0, (ja : Int), (jb : Int))], rfl, by simp, h7, (by rw [hc6 h66]; unfold mulR; rw [if_neg (by rintro ⟨e1, e2⟩; first | contradiction | omega), if_neg (by rintro (⟨e1, e2⟩ | ⟨e1, e2⟩) <;> first | contradiction | omega), if_neg (by rintro ⟨e1, e2⟩; first | contradiction | omega), if_neg (by rintro ⟨e1, e2⟩; first | contradiction | omega)]; exact Pt.bin 6 hpa hpb), hk6.trans hk7⟩
                                    ·
                                      refine L.no rfl rfl rfl rfl ?_
                                      refine L.no rfl rfl rfl rfl ?_
                                      refine L.no rfl rfl rfl rfl ?_
                                      refine L.rd (rd_pickF rfl rfl) rfl ?_
                                      refine L.nil ?_
                                      refine X.sq ?_
                                      refine V.condF rfl ?_
                                      refine V.region ?_
                                      refine L.rd (rd_move rfl) rfl ?_
                                      refine L.rd (rd_move rfl) rfl ?_
                                      refine L.rd (rd_move rfl) rfl ?_
                                      refine L.rd (rd_build (out := [_, _, _, _, _]) tok rfl rfl rfl rfl rfl) rfl ?_
                                      refine L.ef (e_call rfl (nw_ok (6, 0, 0, (ja : Int), (jb : Int)) _ h6 (by omega)) rfl ?_)
                                      rintro _ w7 ⟨rfl, h7, hk7⟩
                                      refine L.rd (rd_assign rfl) rfl ?_
                                      refine L.nil ?_
                                      refine X.bk ?_
                                      exact X.ct ⟨_, (by repeat' (first | exact trivial | refine ⟨rfl, ?_⟩)), _, [(6, 0, 0, (ja : Int), (jb : Int))], rfl, by simp, h7, (by rw [hc6 h66]; unfold mulR; rw [if_neg (by rintro ⟨e1, e2⟩; first | contradiction | omega), if_neg (by rintro (⟨e1, e2⟩ | ⟨e1, e2⟩) <;> first | contradiction | omega), if_neg (by rintro ⟨e1, e2⟩; first | contradiction | omega), if_neg (by rintro ⟨e1, e2⟩; first | contradiction | omega)]; exact Pt.bin 6 hpa hpb), hk6.trans hk7⟩
                              ·
                                refine L.no rfl rfl rfl rfl ?_
                                refine L.no rfl rfl rfl rfl ?_
                                refine L.no rfl rfl rfl rfl ?_
                                refine L.yes rfl rfl ?_
                                refine L.rd (rd_pickF rfl rfl) rfl ?_
                                refine L.rd (rd_pickF rfl rfl) rfl ?_
                                refine L.nil ?_
                                refine X.sq ?_
                                refine V.condF rfl ?_
                                refine V.seq ?_
                                refine V.region ?_
                                refine L.rd (rd_move rfl) rfl ?_
                                refine L.rd (rd_move rfl) rfl ?_
                                first | refine L.partG rfl rfl (fun g198 => ?_) (fun g198 => ?_) | refine L.partGB rfl rfl (fun g198 => ?_) (fun g198 => ?_)
                                ·
                                  refine L.yes rfl rfl ?_
                                  refine L.rd (rd_fieldAddr tok rfl rfl rfl rfl rfl rfl) rfl ?_
                                  refine L.yes rfl rfl ?_
                                  refine L.rd (rd_load1 tok rfl rfl rfl (hba6.cell (i := 1) rfl)) rfl ?_
                                  refine L.yes rfl rfl ?_
                                  refine L.rd (rd_eql rfl rfl) rfl ?_
                                  refine L.rd (rd_pickT rfl rfl) rfl ?_
                                  refine L.nil ?_
                                  refine X.sq ?_
                                  first | refine V.cond rfl (fun h202 => ?_) (fun h202 => ?_) | refine V.condB rfl (fun h202 => ?_) (fun h202 => ?_)
                                  ·
                                    refine V.region ?_
                                    refine L.rd (rd_move rfl) rfl ?_
                                    refine L.rd (rd_assign rfl) rfl ?_
                                    refine L.nil ?_
                                    refine X.bk ?_
                                    exact X.ct ⟨_, (by repeat' (first | exact trivial | refine ⟨rfl, ?_⟩)), _, [], rfl, by simp, by rw [List.append_nil]; exact h6, (by rw [List.append_nil, hc6 h66]; unfold mulR; rw [if_neg (by rintro ⟨e1, e2⟩; first | contradiction | omega), if_neg (by rintro (⟨e1, e2⟩ | ⟨e1, e2⟩) <;> first | contradiction | omega), if_pos ⟨g198, h202⟩]; exact hpb), hk6⟩
                                  ·
                                    refine V.seq ?_
                                    refine V.region ?_
                                    refine L.rd (rd_move rfl) rfl ?_
                                    refine L.rd (rd_move rfl) rfl ?_
                                    first | refine L.partG rfl rfl (fun g205 => ?_) (fun g205 => ?_) | refine L.partGB rfl rfl (fun g205 => ?_) (fun g205 => ?_)
                                    ·
                                      refine L.yes rfl rfl ?_
                                      refine L.rd (rd_fieldAddr tok rfl rfl rfl rfl rfl rfl) rfl ?_
                                      refine L.yes rfl rfl ?_
                                      refine L.rd (rd_load1 tok rfl rfl rfl (hbb6.cell (i := 1) rfl)) rfl ?_
                                      refine L.yes rfl rfl ?_
                                      refine L.rd (rd_eql rfl rfl) rfl ?_
                                      refine L.rd (rd_pickT rfl rfl) rfl ?_
                                      refine L.nil ?_
                                      refine X.sq ?_
                                      first | refine V.cond rfl (fun h209 => ?_) (fun h209 => ?_) | refine V.condB rfl (fun h209 => ?_) (fun h209 => ?_)
                                      ·
                                        refine V.region ?_
                                        refine L.rd (rd_move rfl) rfl ?_
                                        refine L.rd (rd_assign rfl) rfl ?_
                                        refine L.nil ?_
                                        refine X.bk ?_
                                        exact X.ct ⟨_, (by repeat' (first | exact trivial | refine ⟨rfl, ?_⟩)), _, [], rfl, by simp, by rw [List.append_nil]; exact h6, (by rw [List.append_nil, hc6 h66]; unfold mulR; rw [if_neg (by rintro ⟨e1, e2⟩; first | contradiction | omega), if_neg (by rintro (⟨e1, e2⟩ | ⟨e1, e2⟩) <;> first | contradiction | omega), if_neg (by rintro ⟨e1, e2⟩; first | contradiction | omega), if_pos ⟨g205, h209⟩]; exact hpa), hk6⟩
                                      ·
                                        refine V.region ?_
                                        refine L.rd (rd_move rfl) rfl ?_
                                        refine L.rd (rd_move rfl) rfl ?_
                                        refine L.rd (rd_move rfl) rfl ?_
                                        refine L.rd (rd_build (out := [_, _, _, _, _]) tok rfl rfl rfl rfl rfl) rfl ?_
                                        refine L.ef (e_call rfl (nw_ok (6, 0, 0, (ja : Int), (jb : Int)) _ h6 (by omega)) rfl ?_)
                                        rintro _ w7 ⟨rfl, h7, hk7⟩
                                        refine L.rd (rd_assign rfl) rfl ?_
                                        refine L.nil ?_
                                        refine X.bk ?_
                                        exact X.ct ⟨_, (by repeat' (first | exact trivial | refine ⟨rfl, ?_⟩)), _, [(6, 0, 0, (ja : Int), (jb : Int))], rfl, by simp, h7, (by rw [hc6 h66]; unfold mulR; rw [if_neg (by rintro ⟨e1, e2⟩; first | contradiction | omega), if_neg (by rintro (⟨e1, e2⟩ | ⟨e1, e2⟩) <;> first | contradiction | omega), if_neg (by rintro ⟨e1, e2⟩; first | contradiction | omega), if_neg (by rintro ⟨e1, e2⟩; first | contradiction | omega)]; exact Pt.bin 6 hpa hpb), hk6.trans hk7⟩
                                    ·
                                      refine L.no rfl rfl rfl rfl ?_
                                      refine L.no rfl rfl rfl rfl ?_
                                      refine L.no rfl rfl rfl rfl ?_
                                      refine L.rd (rd_pickF rfl rfl) rfl ?_
                                      refine L.nil ?_
                                      refine X.sq ?_
                                      refine V.condF rfl ?_
                                      refine V.region ?_
                                      refine L.rd (rd_move rfl) rfl ?_
                                      refine L.rd (rd_move rfl) rfl ?_
                                      refine L.rd (rd_move rfl) rfl ?_
                                      refine L.rd (rd_build (out := [_, _, _, _, _]) tok rfl rfl rfl rfl rfl) rfl ?_
                                      refine L.ef (e_call rfl (nw_ok (6, 0, 0, (ja : Int), (jb : Int)) _ h6 (by omega)) rfl ?_)
                                      rintro _ w7 ⟨rfl, h7, hk7⟩
                                      refine L.rd (rd_assign rfl) rfl ?_
                                      refine L.nil ?_
                                      refine X.bk ?_
                                      exact X.ct ⟨_, (by repeat' (first | exact trivial | refine ⟨rfl, ?_⟩)), _, [(6, 0, 0, (ja : Int), (jb : Int))], rfl, by simp, h7, (by rw [hc6 h66]; unfold mulR; rw [if_neg (by rintro ⟨e1, e2⟩; first | contradiction | omega), if_neg (by rintro (⟨e1, e2⟩ | ⟨e1, e2⟩) <;> first | contradiction | omega), if_neg (by rintro ⟨e1, e2⟩; first | contradiction | omega), if_neg (by rintro ⟨e1, e2⟩; first | contradiction | omega)]; exact Pt.bin 6 hpa hpb), hk6.trans hk7⟩
                                ·
                                  refine L.no rfl rfl rfl rfl ?_
                                  refine L.no rfl rfl rfl rfl ?_
                                  refine L.no rfl rfl rfl rfl ?_
                                  refine L.rd (rd_pickF rfl rfl) rfl ?_
                                  refine L.nil ?_
                                  refine X.sq ?_
                                  refine V.condF rfl ?_
                                  refine V.seq ?_
                                  refine V.region ?_
                                  refine L.rd (rd_move rfl) rfl ?_
                                  refine L.rd (rd_move rfl) rfl ?_
                                  first | refine L.partG rfl rfl (fun g205 => ?_) (fun g205 => ?_) | refine L.partGB rfl rfl (fun g205 => ?_) (fun g205 => ?_)
                                  ·
                                    refine L.yes rfl rfl ?_
                                    refine L.rd (rd_fieldAddr tok rfl rfl rfl rfl rfl rfl) rfl ?_
                                    refine L.yes rfl rfl ?_
                                    refine L.rd (rd_load1 tok rfl rfl rfl (hbb6.cell (i := 1) rfl)) rfl ?_
                                    refine L.yes rfl rfl ?_
                                    refine L.rd (rd_eql rfl rfl) rfl ?_
                                    refine L.rd (rd_pickT rfl rfl) rfl ?_
                                    refine L.nil ?_
                                    refine X.sq ?_
                                    first | refine V.cond rfl (fun h209 => ?_) (fun h209 => ?_) | refine V.condB rfl (fun h209 => ?_) (fun h209 => ?_)
                                    ·
                                      refine V.region ?_
                                      refine L.rd (rd_move rfl) rfl ?_
                                      refine L.rd (rd_assign rfl) rfl ?_
                                      refine L.nil ?_
                                      refine X.bk ?_
                                      exact X.ct ⟨_, (by repeat' (first | exact trivial | refine ⟨rfl, ?_⟩)), _, [], rfl, by simp, by rw [List.append_nil]; exact h6, (by rw [List.append_nil, hc6 h66]; unfold mulR; rw [if_neg (by rintro ⟨e1, e2⟩; first | contradiction | omega), if_neg (by rintro (⟨e1, e2⟩ | ⟨e1, e2⟩) <;> first | contradiction | omega), if_neg (by rintro ⟨e1, e2⟩; first | contradiction | omega), if_pos ⟨g205, h209⟩]; exact hpa), hk6⟩
                                    ·
                                      refine V.region ?_
                                      refine L.rd (rd_move rfl) rfl ?_
                                      refine L.rd (rd_move rfl) rfl ?_
                                      refine L.rd (rd_move rfl) rfl ?_
                                      refine L.rd (rd_build (out := [_, _, _, _, _]) tok rfl rfl rfl rfl rfl) rfl ?_
                                      refine L.ef (e_call rfl (nw_ok (6, 0, 0, (ja : Int), (jb : Int)) _ h6 (by omega)) rfl ?_)
                                      rintro _ w7 ⟨rfl, h7, hk7⟩
                                      refine L.rd (rd_assign rfl) rfl ?_
                                      refine L.nil ?_
                                      refine X.bk ?_
                                      exact X.ct ⟨_, (by repeat' (first | exact trivial | refine ⟨rfl, ?_⟩)), _, [(6, 0, 0, (ja : Int), (jb : Int))], rfl, by simp, h7, (by rw [hc6 h66]; unfold mulR; rw [if_neg (by rintro ⟨e1, e2⟩; first | contradiction | omega), if_neg (by rintro (⟨e1, e2⟩ | ⟨e1, e2⟩) <;> first | contradiction | omega), if_neg (by rintro ⟨e1, e2⟩; first | contradiction | omega), if_neg (by rintro ⟨e1, e2⟩; first | contradiction | omega)]; exact Pt.bin 6 hpa hpb), hk6.trans hk7⟩
                                  ·
                                    refine L.no rfl rfl rfl rfl ?_
                                    refine L.no rfl rfl rfl rfl ?_
                                    refine L.no rfl rfl rfl rfl ?_
                                    refine L.rd (rd_pickF rfl rfl) rfl ?_
                                    refine L.nil ?_
                                    refine X.sq ?_
                                    refine V.condF rfl ?_
                                    refine V.region ?_
                                    refine L.rd (rd_move rfl) rfl ?_
                                    refine L.rd (rd_move rfl) rfl ?_
                                    refine L.rd (rd_move rfl) rfl ?_
                                    refine L.rd (rd_build (out := [_, _, _, _, _]) tok rfl rfl rfl rfl rfl) rfl ?_
                                    refine L.ef (e_call rfl (nw_ok (6, 0, 0, (ja : Int), (jb : Int)) _ h6 (by omega)) rfl ?_)
                                    rintro _ w7 ⟨rfl, h7, hk7⟩
                                    refine L.rd (rd_assign rfl) rfl ?_
                                    refine L.nil ?_
                                    refine X.bk ?_
                                    exact X.ct ⟨_, (by repeat' (first | exact trivial | refine ⟨rfl, ?_⟩)), _, [(6, 0, 0, (ja : Int), (jb : Int))], rfl, by simp, h7, (by rw [hc6 h66]; unfold mulR; rw [if_neg (by rintro ⟨e1, e2⟩; first | contradiction | omega), if_neg (by rintro (⟨e1, e2⟩ | ⟨e1, e2⟩) <;> first | contradiction | omega), if_neg (by rintro ⟨e1, e2⟩; first | contradiction | omega), if_neg (by rintro ⟨e1, e2⟩; first | contradiction | omega)]; exact Pt.bin 6 hpa hpb), hk6.trans hk7⟩
                          ·
                            refine L.no rfl rfl rfl rfl ?_
                            refine L.no rfl rfl rfl rfl ?_
                            refine L.no rfl rfl rfl rfl ?_
                            refine L.rd (rd_pickF rfl rfl) rfl ?_
                            refine L.rd (rd_move rfl) rfl ?_
                            refine L.yes rfl rfl ?_
                            refine L.rd (rd_move rfl) rfl ?_
                            refine L.yes rfl rfl ?_
                            refine L.rd (rd_move rfl) rfl ?_
                            first | refine L.partG rfl rfl (fun g189 => ?_) (fun g189 => ?_) | refine L.partGB rfl rfl (fun g189 => ?_) (fun g189 => ?_)
                            ·
                              refine L.yes rfl rfl ?_
                              refine L.rd (rd_fieldAddr tok rfl rfl rfl rfl rfl rfl) rfl ?_
                              refine L.yes rfl rfl ?_
                              refine L.rd (rd_load1 tok rfl rfl rfl (hbb6.cell (i := 1) rfl)) rfl ?_
                              refine L.yes rfl rfl ?_
                              refine L.rd (rd_eql rfl rfl) rfl ?_
                              refine L.yes rfl rfl ?_
                              refine L.rd (rd_pickT rfl rfl) rfl ?_
                              refine L.rd (rd_pickF rfl rfl) rfl ?_
                              refine L.nil ?_
                              refine X.sq ?_
                              first | refine V.cond rfl (fun h194 => ?_) (fun h194 => ?_) | refine V.condB rfl (fun h194 => ?_) (fun h194 => ?_)
                              ·
                                refine V.region ?_
                                refine L.rd (rd_move rfl) rfl ?_
                                refine L.ef (e_call rfl (cnum_ok (0) _ h6 (by omega)) rfl ?_)
                                rintro _ w7 ⟨i7, ex, rfl, hex, h7, hp7, hk7⟩
                                refine L.rd (rd_assign rfl) rfl ?_
                                refine L.nil ?_
                                refine X.bk ?_
                                exact X.ct ⟨_, (by repeat' (first | exact trivial | refine ⟨rfl, ?_⟩)), i7, ex, rfl, hex, h7, (by rw [hc6 h66]; unfold mulR; rw [if_neg (by rintro ⟨e1, e2⟩; first | contradiction | omega), if_pos (by first | exact .inl ⟨by assumption, by assumption⟩ | exact .inr ⟨by assumption, by assumption⟩)]; exact hp7), hk6.trans hk7⟩
                              ·
                                refine V.seq ?_
                                refine V.region ?_
                                refine L.rd (rd_move rfl) rfl ?_
                                refine L.rd (rd_move rfl) rfl ?_
                                first | refine L.partG rfl rfl (fun g198 => ?_) (fun g198 => ?_) | refine L.partGB rfl rfl (fun g198 => ?_) (fun g198 => ?_)
                                ·
                                  refine L.yes rfl rfl ?_
                                  refine L.rd (rd_fieldAddr tok rfl rfl rfl rfl rfl rfl) rfl ?_
                                  refine L.yes rfl rfl ?_
                                  refine L.rd (rd_load1 tok rfl rfl rfl (hba6.cell (i := 1) rfl)) rfl ?_
                                  refine L.yes rfl rfl ?_
                                  refine L.rd (rd_eql rfl rfl) rfl ?_
                                  refine L.rd (rd_pickT rfl rfl) rfl ?_
                                  refine L.nil ?_
                                  refine X.sq ?_
                                  first | refine V.cond rfl (fun h202 => ?_) (fun h202 => ?_) | refine V.condB rfl (fun h202 => ?_) (fun h202 => ?_)
                                  ·
                                    refine V.region ?_
                                    refine L.rd (rd_move rfl) rfl ?_
                                    refine L.rd (rd_assign rfl) rfl ?_
                                    refine L.nil ?_
                                    refine X.bk ?_
                                    exact X.ct ⟨_, (by repeat' (first | exact trivial | refine ⟨rfl, ?_⟩)), _, [], rfl, by simp, by rw [List.append_nil]; exact h6, (by rw [List.append_nil, hc6 h66]; unfold mulR; rw [if_neg (by rintro ⟨e1, e2⟩; first | contradiction | omega), if_neg (by rintro (⟨e1, e2⟩ | ⟨e1, e2⟩) <;> first | contradiction | omega), if_pos ⟨g198, h202⟩]; exact hpb), hk6⟩
                                  ·
                                    refine V.seq ?_
                                    refine V.region ?_
                                    refine L.rd (rd_move rfl) rfl ?_
                                    refine L.rd (rd_move rfl) rfl ?_
                                    first | refine L.partG rfl rfl (fun g205 => ?_) (fun g205 => ?_) | refine L.partGB rfl rfl (fun g205 => ?_) (fun g205 => ?_)
                                    ·
                                      refine L.yes rfl rfl ?_
                                      refine L.rd (rd_fieldAddr tok rfl rfl rfl rfl rfl rfl) rfl ?_
                                      refine L.yes rfl rfl ?_
                                      refine L.rd (rd_load1 tok rfl rfl rfl (hbb6.cell (i := 1) rfl)) rfl ?_
                                      refine L.yes rfl rfl ?_
                                      refine L.rd (rd_eql rfl rfl) rfl ?_
                                      refine L.rd (rd_pickT rfl rfl) rfl ?_
                                      refine L.nil ?_
                                      refine X.sq ?_
                                      first | refine V.cond rfl (fun h209 => ?_) (fun h209 => ?_) | refine V.condB rfl (fun h209 => ?_) (fun h209 => ?_)
                                      ·
                                        refine V.region ?_
                                        refine L.rd (rd_move rfl) rfl ?_
                                        refine L.rd (rd_assign rfl) rfl ?_
                                        refine L.nil ?_
                                        refine X.bk ?_
                                        exact X.ct ⟨_, (by repeat' (first | exact trivial | refine ⟨rfl, ?_⟩)), _, [], rfl, by simp, by rw [List.append_nil]; exact h6, (by rw [List.append_nil, hc6 h66]; unfold mulR; rw [if_neg (by rintro ⟨e1, e2⟩; first | contradiction | omega), if_neg (by rintro (⟨e1, e2⟩ | ⟨e1, e2⟩) <;> first | contradiction | omega), if_neg (by rintro ⟨e1, e2⟩; first | contradiction | omega), if_pos ⟨g205, h209⟩]; exact hpa), hk6⟩
                                      ·
                                        refine V.region ?_
                                        refine L.rd (rd_move rfl) rfl ?_
                                        refine L.rd (rd_move rfl) rfl ?_
                                        refine L.rd (rd_move rfl) rfl ?_
                                        refine L.rd (rd_build (out := [_, _, _, _, _]) tok rfl rfl rfl rfl rfl) rfl ?_
                                        refine L.ef (e_call rfl (nw_ok (6, 0, 0, (ja : Int), (jb : Int)) _ h6 (by omega)) rfl ?_)
                                        rintro _ w7 ⟨rfl, h7, hk7⟩
                                        refine L.rd (rd_assign rfl) rfl ?_
                                        refine L.nil ?_
                                        refine X.bk ?_
                                        exact X.ct ⟨_, (by repeat' (first | exact trivial | refine ⟨rfl, ?_⟩)), _, [(6, 0, 0, (ja : Int), (jb : Int))], rfl, by simp, h7, (by rw [hc6 h66]; unfold mulR; rw [if_neg (by rintro ⟨e1, e2⟩; first | contradiction | omega), if_neg (by rintro (⟨e1, e2⟩ | ⟨e1, e2⟩) <;> first | contradiction | omega), if_neg (by rintro ⟨e1, e2⟩; first | contradiction | omega), if_neg (by rintro ⟨e1, e2⟩; first | contradiction | omega)]; exact Pt.bin 6 hpa hpb), hk6.trans hk7⟩
                                    ·
                                      refine L.no rfl rfl rfl rfl ?_
                                      refine L.no rfl rfl rfl rfl ?_
                                      refine L.no rfl rfl rfl rfl ?_
                                      refine L.rd (rd_pickF rfl rfl) rfl ?_
                                      refine L.nil ?_
                                      refine X.sq ?_
                                      refine V.condF rfl ?_
                                      refine V.region ?_
                                      refine L.rd (rd_move rfl) rfl ?_
                                      refine L.rd (rd_move rfl) rfl ?_
                                      refine L.rd (rd_move rfl) rfl ?_
                                      refine L.rd (rd_build (out := [_, _, _, _, _]) tok rfl rfl rfl rfl rfl) rfl ?_
                                      refine L.ef (e_call rfl (nw_ok (6, 0, 0, (ja : Int), (jb : Int)) _ h6 (by omega)) rfl ?_)
                                      rintro _ w7 ⟨rfl, h7, hk7⟩
                                      refine L.rd (rd_assign rfl) rfl ?_
                                      refine L.nil ?_
                                      refine X.bk ?_
                                      exact X.ct ⟨_, (by repeat' (first | exact trivial | refine ⟨rfl, ?_⟩)), _, [(6, 0, 0, (ja : Int), (jb : Int))], rfl, by simp, h7, (by rw [hc6 h66]; unfold mulR; rw [if_neg (by rintro ⟨e1, e2⟩; first | contradiction | omega), if_neg (by rintro (⟨e1, e2⟩ | ⟨e1, e2⟩) <;> first | contradiction | omega), if_neg (by rintro ⟨e1, e2⟩; first | contradiction | omega), if_neg (by rintro ⟨e1, e2⟩; first | contradiction | omega)]; exact Pt.bin 6 hpa hpb), hk6.trans hk7⟩
                                ·
                                  refine L.no rfl rfl rfl rfl ?_
                                  refine L.no rfl rfl rfl rfl ?_
                                  refine L.no rfl rfl rfl rfl ?_
                                  refine L.rd (rd_pickF rfl rfl) rfl ?_
                                  refine L.nil ?_
                                  refine X.sq ?_
                                  refine V.condF rfl ?_
                                  refine V.seq ?_
                                  refine V.region ?_
                                  refine L.rd (rd_move rfl) rfl ?_
                                  refine L.rd (rd_move rfl) rfl ?_
                                  first | refine L.partG rfl rfl (fun g205 => ?_) (fun g205 => ?_) | refine L.partGB rfl rfl (fun g205 => ?_) (fun g205 => ?_)
                                  ·
                                    refine L.yes rfl rfl ?_
                                    refine L.rd (rd_fieldAddr tok rfl rfl rfl rfl rfl rfl) rfl ?_
                                    refine L.yes rfl rfl ?_
                                    refine L.rd (rd_load1 tok rfl rfl rfl (hbb6.cell (i := 1) rfl)) rfl ?_
                                    refine L.yes rfl rfl ?_
                                    refine L.rd (rd_eql rfl rfl) rfl ?_
                                    refine L.rd (rd_pickT rfl rfl) rfl ?_
                                    refine L.nil ?_
                                    refine X.sq ?_
                                    first | refine V.cond rfl (fun h209 => ?_) (fun h209 => ?_) | refine V.condB rfl (fun h209 => ?_) (fun h209 => ?_)
                                    ·
                                      refine V.region ?_
                                      refine L.rd (rd_move rfl) rfl ?_
                                      refine L.rd (rd_assign rfl) rfl ?_
                                      refine L.nil ?_
                                      refine X.bk ?_
                                      exact X.ct ⟨_, (by repeat' (first | exact trivial | refine ⟨rfl, ?_⟩)), _, [], rfl, by simp, by rw [List.append_nil]; exact h6, (by rw [List.append_nil, hc6 h66]; unfold mulR; rw [if_neg (by rintro ⟨e1, e2⟩; first | contradiction | omega), if_neg (by rintro (⟨e1, e2⟩ | ⟨e1, e2⟩) <;> first | contradiction | omega), if_neg (by rintro ⟨e1, e2⟩; first | contradiction | omega), if_pos ⟨g205, h209⟩]; exact hpa), hk6⟩
                                    ·
                                      refine V.region ?_
                                      refine L.rd (rd_move rfl) rfl ?_
                                      refine L.rd (rd_move rfl) rfl ?_
                                      refine L.rd (rd_move rfl) rfl ?_
                                      refine L.rd (rd_build (out := [_, _, _, _, _]) tok rfl rfl rfl rfl rfl) rfl ?_
                                      refine L.ef (e_call rfl (nw_ok (6, 0, 0, (ja : Int), (jb : Int)) _ h6 (by omega)) rfl ?_)
                                      rintro _ w7 ⟨rfl, h7, hk7⟩
                                      refine L.rd (rd_assign rfl) rfl ?_
                                      refine L.nil ?_
                                      refine X.bk ?_
                                      exact X.ct ⟨_, (by repeat' (first | exact trivial | refine ⟨rfl, ?_⟩)), _, [(6, 0, 0, (ja : Int), (jb : Int))], rfl, by simp, h7, (by rw [hc6 h66]; unfold mulR; rw [if_neg (by rintro ⟨e1, e2⟩; first | contradiction | omega), if_neg (by rintro (⟨e1, e2⟩ | ⟨e1, e2⟩) <;> first | contradiction | omega), if_neg (by rintro ⟨e1, e2⟩; first | contradiction | omega), if_neg (by rintro ⟨e1, e2⟩; first | contradiction | omega)]; exact Pt.bin 6 hpa hpb), hk6.trans hk7⟩
                                  ·
                                    refine L.no rfl rfl rfl rfl ?_
                                    refine L.no rfl rfl rfl rfl ?_
                                    refine L.no rfl rfl rfl rfl ?_
                                    refine L.rd (rd_pickF rfl rfl) rfl ?_
                                    refine L.nil ?_
                                    refine X.sq ?_
                                    refine V.condF rfl ?_
                                    refine V.region ?_
                                    refine L.rd (rd_move rfl) rfl ?_
                                    refine L.rd (rd_move rfl) rfl ?_
                                    refine L.rd (rd_move rfl) rfl ?_
                                    refine L.rd (rd_build (out := [_, _, _, _, _]) tok rfl rfl rfl rfl rfl) rfl ?_
                                    refine L.ef (e_call rfl (nw_ok (6, 0, 0, (ja : Int), (jb : Int)) _ h6 (by omega)) rfl ?_)
                                    rintro _ w7 ⟨rfl, h7, hk7⟩
                                    refine L.rd (rd_assign rfl) rfl ?_
                                    refine L.nil ?_
                                    refine X.bk ?_
                                    exact X.ct ⟨_, (by repeat' (first | exact trivial | refine ⟨rfl, ?_⟩)), _, [(6, 0, 0, (ja : Int), (jb : Int))], rfl, by simp, h7, (by rw [hc6 h66]; unfold mulR; rw [if_neg (by rintro ⟨e1, e2⟩; first | contradiction | omega), if_neg (by rintro (⟨e1, e2⟩ | ⟨e1, e2⟩) <;> first | contradiction | omega), if_neg (by rintro ⟨e1, e2⟩; first | contradiction | omega), if_neg (by rintro ⟨e1, e2⟩; first | contradiction | omega)]; exact Pt.bin 6 hpa hpb), hk6.trans hk7⟩
                            ·
                              refine L.no rfl rfl rfl rfl ?_
                              refine L.no rfl rfl rfl rfl ?_
                              refine L.no rfl rfl rfl rfl ?_
                              refine L.yes rfl rfl ?_
                              refine L.rd (rd_pickF rfl rfl) rfl ?_
                              refine L.rd (rd_pickF rfl rfl) rfl ?_
                              refine L.nil ?_
                              refine X.sq ?_
                              refine V.condF rfl ?_
                              refine V.seq ?_
                              refine V.region ?_
                              refine L.rd (rd_move rfl) rfl ?_
                              refine L.rd (rd_move rfl) rfl ?_
                              first | refine L.partG rfl rfl (fun g198 => ?_) (fun g198 => ?_) | refine L.partGB rfl rfl (fun g198 => ?_) (fun g198 => ?_)
                              ·
                                refine L.yes rfl rfl ?_
                                refine L.rd (rd_fieldAddr tok rfl rfl rfl rfl rfl rfl) rfl ?_
                                refine L.yes rfl rfl ?_
                                refine L.rd (rd_load1 tok rfl rfl rfl (hba6.cell (i := 1) rfl)) rfl ?_
                                refine L.yes rfl rfl ?_
                                refine L.rd (rd_eql rfl rfl) rfl ?_
                                refine L.rd (rd_pickT rfl rfl) rfl ?_
                                refine L.nil ?_
                                refine X.sq ?_
                                first | refine V.cond rfl (fun h202 => ?_) (fun h202 => ?_) | refine V.condB rfl (fun h202 => ?_) (fun h202 => ?_)
                                ·
                                  refine V.region ?_
                                  refine L.rd (rd_move rfl) rfl ?_
                                  refine L.rd (rd_assign rfl) rfl ?_
                                  refine L.nil ?_
                                  refine X.bk ?_
                                  exact X.ct ⟨_, (by repeat' (first | exact trivial | refine ⟨rfl, ?_⟩)), _, [], rfl, by simp, by rw [List.append_nil]; exact h6, (by rw [List.append_nil, hc6 h66]; unfold mulR; rw [if_neg (by rintro ⟨e1, e2⟩; first | contradiction | omega), if_neg (by rintro (⟨e1, e2⟩ | ⟨e1, e2⟩) <;> first | contradiction | omega), if_pos ⟨g198, h202⟩]; exact hpb), hk6⟩
                                ·
                                  refine V.seq ?_
                                  refine V.region ?_
                                  refine L.rd (rd_move rfl) rfl ?_
                                  refine L.rd (rd_move rfl) rfl ?_
                                  first | refine L.partG rfl rfl (fun g205 => ?_) (fun g205 => ?_) | refine L.partGB rfl rfl (fun g205 => ?_) (fun g205 => ?_)
                                  ·
                                    refine L.yes rfl rfl ?_
                                    refine L.rd (rd_fieldAddr tok rfl rfl rfl rfl rfl rfl) rfl ?_
                                    refine L.yes rfl rfl ?_
                                    refine L.rd (rd_load1 tok rfl rfl rfl (hbb6.cell (i := 1) rfl)) rfl ?_
                                    refine L.yes rfl rfl ?_
                                    refine L.rd (rd_eql rfl rfl) rfl ?_
                                    refine L.rd (rd_pickT rfl rfl) rfl ?_
                                    refine L.nil ?_
                                    refine X.sq ?_
                                    first | refine V.cond rfl (fun h209 => ?_) (fun h209 => ?_) | refine V.condB rfl (fun h209 => ?_) (fun h209 => ?_)
                                    ·
                                      refine V.region ?_
                                      refine L.rd (rd_move rfl) rfl ?_
                                      refine L.rd (rd_assign rfl) rfl ?_
                                      refine L.nil ?_
                                      refine X.bk ?_
                                      exact X.ct ⟨_, (by repeat' (first | exact trivial | refine ⟨rfl, ?_⟩)), _, [], rfl, by simp, by rw [List.append_nil]; exact h6, (by rw [List.append_nil, hc6 h66]; unfold mulR; rw [if_neg (by rintro ⟨e1, e2⟩; first | contradiction | omega), if_neg (by rintro (⟨e1, e2⟩ | ⟨e1, e2⟩) <;> first | contradiction | omega), if_neg (by rintro ⟨e1, e2⟩; first | contradiction | omega), if_pos ⟨g205, h209⟩]; exact hpa), hk6⟩
                                    ·
                                      refine V.region ?_
                                      refine L.rd (rd_move rfl) rfl ?_
                                      refine L.rd (rd_move rfl) rfl ?_
                                      refine L.rd (rd_move rfl) rfl ?_
                                      refine L.rd (rd_build (out := [_, _, _, _, _]) tok rfl rfl rfl rfl rfl) rfl ?_
                                      refine L.ef (e_call rfl (nw_ok (6, 0, 0, (ja : Int), (jb : Int)) _ h6 (by omega)) rfl ?_)
                                      rintro _ w7 ⟨rfl, h7, hk7⟩
                                      refine L.rd (rd_assign rfl) rfl ?_
                                      refine L.nil ?_
                                      refine X.bk ?_
                                      exact X.ct ⟨_, (by repeat' (first | exact trivial | refine ⟨rfl, ?_⟩)), _, [(6, 0, 0, (ja : Int), (jb : Int))], rfl, by simp, h7, (by rw [hc6 h66]; unfold mulR; rw [if_neg (by rintro ⟨e1, e2⟩; first | contradiction | omega), if_neg (by rintro (⟨e1, e2⟩ | ⟨e1, e2⟩) <;> first | contradiction | omega), if_neg (by rintro ⟨e1, e2⟩; first | contradiction | omega), if_neg (by rintro ⟨e1, e2⟩; first | contradiction | omega)]; exact Pt.bin 6 hpa hpb), hk6.trans hk7⟩
                                  ·
                                    refine L.no rfl rfl rfl rfl ?_
                                    refine L.no rfl rfl rfl rfl ?_
                                    refine L.no rfl rfl rfl rfl ?_
                                    refine L.rd (rd_pickF rfl rfl) rfl ?_
                                    refine L.nil ?_
                                    refine X.sq ?_
                                    refine V.condF rfl ?_
                                    refine V.region ?_
                                    refine L.rd (rd_move rfl) rfl ?_
                                    refine L.rd (rd_move rfl) rfl ?_
                                    refine L.rd (rd_move rfl) rfl ?_
                                    refine L.rd (rd_build (out := [_, _, _, _, _]) tok rfl rfl rfl rfl rfl) rfl ?_
                                    refine L.ef (e_call rfl (nw_ok (6, 0, 0, (ja : Int), (jb : Int)) _ h6 (by omega)) rfl ?_)
                                    rintro _ w7 ⟨rfl, h7, hk7⟩
                                    refine L.rd (rd_assign rfl) rfl ?_
                                    refine L.nil ?_
                                    refine X.bk ?_
                                    exact X.ct ⟨_, (by repeat' (first | exact trivial | refine ⟨rfl, ?_⟩)), _, [(6, 0, 0, (ja : Int), (jb : Int))], rfl, by simp, h7, (by rw [hc6 h66]; unfold mulR; rw [if_neg (by rintro ⟨e1, e2⟩; first | contradiction | omega), if_neg (by rintro (⟨e1, e2⟩ | ⟨e1, e2⟩) <;> first | contradiction | omega), if_neg (by rintro ⟨e1, e2⟩; first | contradiction | omega), if_neg (by rintro ⟨e1, e2⟩; first | contradiction | omega)]; exact Pt.bin 6 hpa hpb), hk6.trans hk7⟩
                              ·
                                refine L.no rfl rfl rfl rfl ?_
                                refine L.no rfl rfl rfl rfl ?_
                                refine L.no rfl rfl rfl rfl ?_
                                refine L.rd (rd_pickF rfl rfl) rfl ?_
                                refine L.nil ?_
                                refine X.sq ?_
                                refine V.condF rfl ?_
                                refine V.seq ?_
                                refine V.region ?_
                                refine L.rd (rd_move rfl) rfl ?_
                                refine L.rd (rd_move rfl) rfl ?_
                                first | refine L.partG rfl rfl (fun g205 => ?_) (fun g205 => ?_) | refine L.partGB rfl rfl (fun g205 => ?_) (fun g205 => ?_)
                                ·
                                  refine L.yes rfl rfl ?_
                                  refine L.rd (rd_fieldAddr tok rfl rfl rfl rfl rfl rfl) rfl ?_
                                  refine L.yes rfl rfl ?_
                                  refine L.rd (rd_load1 tok rfl rfl rfl (hbb6.cell (i := 1) rfl)) rfl ?_
                                  refine L.yes rfl rfl ?_
                                  refine L.rd (rd_eql rfl rfl) rfl ?_
                                  refine L.rd (rd_pickT rfl rfl) rfl ?_
                                  refine L.nil ?_
                                  refine X.sq ?_
                                  first | refine V.cond rfl (fun h209 => ?_) (fun h209 => ?_) | refine V.condB rfl (fun h209 => ?_) (fun h209 => ?_)
                                  ·
                                    refine V.region ?_
                                    refine L.rd (rd_move rfl) rfl ?_
                                    refine L.rd (rd_assign rfl) rfl ?_
                                    refine L.nil ?_
                                    refine X.bk ?_
                                    exact X.ct ⟨_, (by repeat' (first | exact trivial | refine ⟨rfl, ?_⟩)), _, [], rfl, by simp, by rw [List.append_nil]; exact h6, (by rw [List.append_nil, hc6 h66]; unfold mulR; rw [if_neg (by rintro ⟨e1, e2⟩; first | contradiction | omega), if_neg (by rintro (⟨e1, e2⟩ | ⟨e1, e2⟩) <;> first | contradiction | omega), if_neg (by rintro ⟨e1, e2⟩; first | contradiction | omega), if_pos ⟨g205, h209⟩]; exact hpa), hk6⟩
                                  ·
                                    refine V.region ?_
                                    refine L.rd (rd_move rfl) rfl ?_
                                    refine L.rd (rd_move rfl) rfl ?_
                                    refine L.rd (rd_move rfl) rfl ?_
                                    refine L.rd (rd_build (out := [_, _, _, _, _]) tok rfl rfl rfl rfl rfl) rfl ?_
                                    refine L.ef (e_call rfl (nw_ok (6, 0, 0, (ja : Int), (jb : Int)) _ h6 (by omega)) rfl ?_)
                                    rintro _ w7 ⟨rfl, h7, hk7⟩
                                    refine L.rd (rd_assign rfl) rfl ?_
                                    refine L.nil ?_
                                    refine X.bk ?_
                                    exact X.ct ⟨_, (by repeat' (first | exact trivial | refine ⟨rfl, ?_⟩)), _, [(6, 0, 0, (ja : Int), (jb : Int))], rfl, by simp, h7, (by rw [hc6 h66]; unfold mulR; rw [if_neg (by rintro ⟨e1, e2⟩; first | contradiction | omega), if_neg (by rintro (⟨e1, e2⟩ | ⟨e1, e2⟩) <;> first | contradiction | omega), if_neg (by rintro ⟨e1, e2⟩; first | contradiction | omega), if_neg (by rintro ⟨e1, e2⟩; first | contradiction | omega)]; exact Pt.bin 6 hpa hpb), hk6.trans hk7⟩
                                ·
                                  refine L.no rfl rfl rfl rfl ?_
                                  refine L.no rfl rfl rfl rfl ?_
                                  refine L.no rfl rfl rfl rfl ?_
                                  refine L.rd (rd_pickF rfl rfl) rfl ?_
                                  refine L.nil ?_
                                  refine X.sq ?_
                                  refine V.condF rfl ?_
                                  refine V.region ?_
                                  refine L.rd (rd_move rfl) rfl ?_
                                  refine L.rd (rd_move rfl) rfl ?_
                                  refine L.rd (rd_move rfl) rfl ?_
                                  refine L.rd (rd_build (out := [_, _, _, _, _]) tok rfl rfl rfl rfl rfl) rfl ?_
                                  refine L.ef (e_call rfl (nw_ok (6, 0, 0, (ja : Int), (jb : Int)) _ h6 (by omega)) rfl ?_)
                                  rintro _ w7 ⟨rfl, h7, hk7⟩
                                  refine L.rd (rd_assign rfl) rfl ?_
                                  refine L.nil ?_
                                  refine X.bk ?_
                                  exact X.ct ⟨_, (by repeat' (first | exact trivial | refine ⟨rfl, ?_⟩)), _, [(6, 0, 0, (ja : Int), (jb : Int))], rfl, by simp, h7, (by rw [hc6 h66]; unfold mulR; rw [if_neg (by rintro ⟨e1, e2⟩; first | contradiction | omega), if_neg (by rintro (⟨e1, e2⟩ | ⟨e1, e2⟩) <;> first | contradiction | omega), if_neg (by rintro ⟨e1, e2⟩; first | contradiction | omega), if_neg (by rintro ⟨e1, e2⟩; first | contradiction | omega)]; exact Pt.bin 6 hpa hpb), hk6.trans hk7⟩
                  ·
                    refine V.seq ?_
                    have hn456 : ¬ (k = 4 ∨ k = 5 ∨ k = 6) := by rw [h68] at hb68; exact of_decide_eq_false hb68.symm
                    refine V.region ?_
                    refine L.rd (rd_eql rfl rfl) rfl ?_
                    refine L.rd (rd_assign rfl) rfl ?_
                    refine L.nil ?_
                    refine X.sq ?_
                    first | refine V.cond rfl (fun h216 => ?_) (fun h216 => ?_) | refine V.condB rfl (fun h216 => ?_) (fun h216 => ?_)
                    ·
                      refine V.seq ?_
                      obtain ⟨a, j, rfl, rfl, hj, hSj, hwa, hv0, hv1⟩ := sok7 hok hws h216
                      obtain ⟨qa, hMa, hpa⟩ := hinv j a hj hSj
                      have hwA := (cn_wz a hwa).wt
                      have hc7 : cn (u1 7 v a) = powR (cn a) v := rfl
                      generalize cn a = A at *
                      obtain ⟨ja, lax, rax, rfl, hja, hkda⟩ := hpa.node
                      have hjal := (List.getElem?_eq_some_iff.1 hja).1
                      obtain ⟨ga, gc, hga, hpba, hca⟩ := hC4.get ndE_len hja
                      refine V.region ?_
                      refine L.rd (rd_move rfl) rfl ?_
                      refine L.rd (rd_fieldAddr tok rfl rfl rfl rfl rfl rfl) rfl ?_
                      refine L.rd (rd_load1 tok rfl rfl rfl (hb4.cell (i := 3) rfl)) rfl ?_
                      (refine L.rd (rd_indexSlice (sz := 1) tok rfl rfl rfl rfl rfl rfl rfl ?_) rfl ?_; omega)
                      refine L.rd (rd_load1 tok rfl rfl rfl (cell_at (i := ((j : Int)).toNat) hM4 (by rw [Int.toNat_natCast]; exact iC_get hMa) (by simp))) rfl ?_
                      refine L.rd (rd_assign rfl) rfl ?_
                      refine L.nil ?_
                      refine X.sq ?_
                      refine V.seq ?_
                      refine V.region ?_
                      refine L.rd (rd_move rfl) rfl ?_
                      refine L.rd (rd_nilCheck rfl) rfl ?_
                      refine L.rd (rd_fieldAddr tok rfl rfl rfl rfl rfl rfl) rfl ?_
                      refine L.rd (rd_load1 tok rfl rfl rfl (hpba.cell rfl)) rfl ?_
                      refine L.rd (rd_move rfl) rfl ?_
                      (refine L.rd (rd_indexSlice (sz := 5) tok rfl rfl rfl rfl rfl rfl rfl ?_) rfl ?_; omega)
                      refine L.rd (rd_loadN tok rfl rfl rfl hca rfl) rfl ?_
                      refine L.ef (e_alloc (cs := [_, _, _, _, _]) tok rfl rfl (by first | (simp only [size_addB, size_setB, size_drew]; rfl) | rfl) rfl ?_)
                      refine L.ef (e_store (vs := [_, _, _, _, _]) tok rfl rfl rfl rfl (by (repeat (first | assumption | (refine Bl.new' ?_ _ _; first | with_reducible rfl | (simp only [size_addB, size_setB, size_drew]; done)) | apply Bl.add | apply Bl.drew | (apply Bl.setNe; omega) | (refine Bl.set' ?_ _ _; (try simp only [size_addB, size_setB, size_drew]); omega)))) rfl (by simp [Value.oneCell']) (by simp) ?_)
                      refine L.nil ?_
                      refine X.sq ?_
                      refine V.seq ?_
                      generalize hw6 : setB _ _ _ _ = w6
                      have hba6 : Bl w6 w4.heap.size 132 [.int .i64 A.k, .int .i64 A.v, .int .i64 A.x, .int .i64 lax, .int .i64 rax] := by rw [← hw6]; refine Bl.set' ?_ _ _; rw [size_addB]; omega
                      have he6 : Ext w4.heap.size w4 w6 := by rw [← hw6]; exact ((Ext.refl _ _).addNew _ _).set (Nat.le_refl _) _ _
                      have h6 := hC4.ext he6
                      have hnd6 := he6.bl hb4.lt hb4
                      have hk6 : KP w1.heap.size (w2.heap.size + 1) w4 w6 := KP.ext he6 hC4.le _
                      refine V.region ?_
                      refine L.rd (rd_fieldAddr tok rfl rfl rfl rfl rfl rfl) rfl ?_
                      refine L.rd (rd_load1 tok rfl rfl rfl (hnd6.cell (i := 1) rfl)) rfl ?_
                      refine L.rd (rd_assign rfl) rfl ?_
                      refine L.nil ?_
                      refine X.sq ?_
                      refine V.seq ?_
                      refine V.region ?_
                      refine L.rd (rd_move rfl) rfl ?_
                      refine L.rd (rd_eql rfl rfl) rfl ?_
                      refine L.nil ?_
                      refine X.sq ?_
                      first | refine V.cond rfl (fun h233 => ?_) (fun h233 => ?_) | refine V.condB rfl (fun h233 => ?_) (fun h233 => ?_)
                      ·
                        refine V.region ?_
                        refine L.rd (rd_move rfl) rfl ?_
                        refine L.ef (e_call rfl (cnum_ok (1) _ h6 (by omega)) rfl ?_)
                        rintro _ w7 ⟨i7, ex, rfl, hex, h7, hp7, hk7⟩
                        refine L.rd (rd_assign rfl) rfl ?_
                        refine L.nil ?_
                        refine X.bk ?_
                        exact X.ct ⟨_, (by repeat' (first | exact trivial | refine ⟨rfl, ?_⟩)), i7, ex, rfl, hex, h7, (by rw [hc7]; unfold powR; rw [if_pos h233]; exact hp7), hk6.trans hk7⟩
                      ·
                        refine V.seq ?_
                        refine V.region ?_
                        refine L.rd (rd_move rfl) rfl ?_
                        refine L.rd (rd_eql rfl rfl) rfl ?_
                        refine L.nil ?_
                        refine X.sq ?_
                        first | refine V.cond rfl (fun h237 => ?_) (fun h237 => ?_) | refine V.condB rfl (fun h237 => ?_) (fun h237 => ?_)
                        ·
                          refine V.region ?_
                          refine L.rd (rd_move rfl) rfl ?_
                          refine L.rd (rd_assign rfl) rfl ?_
                          refine L.nil ?_
                          refine X.bk ?_
                          exact X.ct ⟨_, (by repeat' (first | exact trivial | refine ⟨rfl, ?_⟩)), _, [], rfl, by simp, by rw [List.append_nil]; exact h6, (by rw [List.append_nil, hc7]; unfold powR; rw [if_neg h233, if_pos h237]; exact hpa), hk6⟩
                        ·
                          refine V.seq ?_
                          refine V.region ?_
                          refine L.rd (rd_fieldAddr tok rfl rfl rfl rfl rfl rfl) rfl ?_
                          refine L.rd (rd_load1 tok rfl rfl rfl (hba6.cell rfl)) rfl ?_
                          refine L.rd (rd_eql rfl rfl) rfl ?_
                          refine L.nil ?_
                          refine X.sq ?_
                          first | refine V.cond rfl (fun h241 => ?_) (fun h241 => ?_) | refine V.condB rfl (fun h241 => ?_) (fun h241 => ?_)
                          ·
                            obtain ⟨nn, rfl⟩ : ∃ nn : Nat, v = nn := ⟨v.toNat, by omega⟩
                            refine V.region ?_
                            refine L.rd (rd_move rfl) rfl ?_
                            refine L.rd (rd_fieldAddr tok rfl rfl rfl rfl rfl rfl) rfl ?_
                            refine L.rd (rd_load1 tok rfl rfl rfl (hba6.cell (i := 1) rfl)) rfl ?_
                            refine L.rd (rd_move rfl) rfl ?_
                            refine L.ef (e_call rfl (powWrap_ok A.v nn (by omega) _) rfl ?_)
                            rintro _ _ ⟨rfl, rfl⟩
                            refine L.ef (e_call rfl (cnum_ok (pw A.v nn) _ h6 (by omega)) rfl ?_)
                            rintro _ w7 ⟨i7, ex, rfl, hex, h7, hp7, hk7⟩
                            refine L.rd (rd_assign rfl) rfl ?_
                            refine L.nil ?_
                            refine X.bk ?_
                            exact X.ct ⟨_, (by repeat' (first | exact trivial | refine ⟨rfl, ?_⟩)), i7, ex, rfl, hex, h7, (by rw [hc7]; unfold powR; rw [if_neg h233, if_neg h237, if_pos h241, Int.toNat_natCast]; exact hp7), hk6.trans hk7⟩
                          ·
                            refine V.seq ?_
                            refine V.region ?_
                            refine L.rd (rd_fieldAddr tok rfl rfl rfl rfl rfl rfl) rfl ?_
                            refine L.rd (rd_load1 tok rfl rfl rfl (hba6.cell rfl)) rfl ?_
                            refine L.rd (rd_eql rfl rfl) rfl ?_
                            refine L.rd (rd_move rfl) rfl ?_
                            first | refine L.partG rfl rfl (fun g251 => ?_) (fun g251 => ?_) | refine L.partGB rfl rfl (fun g251 => ?_) (fun g251 => ?_)
                            ·
                              obtain ⟨hk1, hk2, hk3, hk4⟩ := wt_kid hwA (.inr g251)
                              have hv := hk4 g251
                              have hpb : 0 ≤ A.v * v ∧ A.v * v ≤ 1000000000000 := ⟨Int.mul_nonneg hv.1 hv0, by
                                have := Int.mul_le_mul hv.2 hv1 hv0 (by omega : (0 : Int) ≤ 1000000)
                                omega⟩
                              refine L.yes rfl rfl ?_
                              refine L.rd (rd_fieldAddr tok rfl rfl rfl rfl rfl rfl) rfl ?_
                              refine L.yes rfl rfl ?_
                              refine L.rd (rd_load1 tok rfl rfl rfl (hba6.cell (i := 1) rfl)) rfl ?_
                              refine L.yes rfl rfl ?_
                              refine L.rd (rd_move rfl) rfl ?_
                              refine L.yes rfl rfl ?_
                              refine L.rd (rd_mulE (r := A.v * v) rfl rfl (wrap_i64_in (by omega))) rfl ?_
                              refine L.yes rfl rfl ?_
                              refine L.rd (rd_leq rfl rfl) rfl ?_
                              refine L.rd (rd_pickT rfl rfl) rfl ?_
                              refine L.nil ?_
                              refine X.sq ?_
                              first | refine V.cond rfl (fun h257 => ?_) (fun h257 => ?_) | refine V.condB rfl (fun h257 => ?_) (fun h257 => ?_)
                              ·
                                refine V.region ?_
                                refine L.rd (rd_move rfl) rfl ?_
                                refine L.rd (rd_fieldAddr tok rfl rfl rfl rfl rfl rfl) rfl ?_
                                refine L.rd (rd_load1 tok rfl rfl rfl (hba6.cell (i := 1) rfl)) rfl ?_
                                refine L.rd (rd_move rfl) rfl ?_
                                refine L.rd (rd_mulE (r := A.v * v) rfl rfl (wrap_i64_in (by omega))) rfl ?_
                                refine L.rd (rd_fieldAddr tok rfl rfl rfl rfl rfl rfl) rfl ?_
                                refine L.rd (rd_load1 tok rfl rfl rfl (hba6.cell (i := 3) rfl)) rfl ?_
                                refine L.rd (rd_build (out := [_, _, _, _, _]) tok rfl rfl rfl rfl rfl) rfl ?_
                                refine L.ef (e_call rfl (nw_ok (7, A.v * v, 0, lax, -1) _ h6 (by omega)) rfl ?_)
                                rintro _ w7 ⟨rfl, h7, hk7⟩
                                refine L.rd (rd_assign rfl) rfl ?_
                                refine L.nil ?_
                                refine X.bk ?_
                                exact X.ct ⟨_, (by repeat' (first | exact trivial | refine ⟨rfl, ?_⟩)), _, [(7, A.v * v, 0, lax, -1)], rfl, by simp, h7, (by rw [hc7]; unfold powR; rw [if_neg h233, if_neg h237, if_neg h241, if_pos ⟨g251, h257⟩]; exact Pt.un 7 (A.v * v) (-1) (hkda (by omega))), hk6.trans hk7⟩
                              ·
                                refine V.region ?_
                                refine L.rd (rd_move rfl) rfl ?_
                                refine L.rd (rd_move rfl) rfl ?_
                                refine L.rd (rd_move rfl) rfl ?_
                                refine L.rd (rd_build (out := [_, _, _, _, _]) tok rfl rfl rfl rfl rfl) rfl ?_
                                refine L.ef (e_call rfl (nw_ok (7, v, 0, (ja : Int), -1) _ h6 (by omega)) rfl ?_)
                                rintro _ w7 ⟨rfl, h7, hk7⟩
                                refine L.rd (rd_assign rfl) rfl ?_
                                refine L.nil ?_
                                refine X.bk ?_
                                exact X.ct ⟨_, (by repeat' (first | exact trivial | refine ⟨rfl, ?_⟩)), _, [(7, v, 0, (ja : Int), -1)], rfl, by simp, h7, (by rw [hc7]; unfold powR; rw [if_neg h233, if_neg h237, if_neg h241, if_neg (by rintro ⟨e1, e2⟩; first | contradiction | omega)]; exact Pt.un 7 v (-1) hpa), hk6.trans hk7⟩
                            ·
                              refine L.no rfl rfl rfl rfl ?_
                              refine L.no rfl rfl rfl rfl ?_
                              refine L.no rfl rfl rfl rfl ?_
                              refine L.no rfl rfl rfl rfl ?_
                              refine L.no rfl rfl rfl rfl ?_
                              refine L.rd (rd_pickF rfl rfl) rfl ?_
                              refine L.nil ?_
                              refine X.sq ?_
                              refine V.condF rfl ?_
                              refine V.region ?_
                              refine L.rd (rd_move rfl) rfl ?_
                              refine L.rd (rd_move rfl) rfl ?_
                              refine L.rd (rd_move rfl) rfl ?_
                              refine L.rd (rd_build (out := [_, _, _, _, _]) tok rfl rfl rfl rfl rfl) rfl ?_
                              refine L.ef (e_call rfl (nw_ok (7, v, 0, (ja : Int), -1) _ h6 (by omega)) rfl ?_)
                              rintro _ w7 ⟨rfl, h7, hk7⟩
                              refine L.rd (rd_assign rfl) rfl ?_
                              refine L.nil ?_
                              refine X.bk ?_
                              exact X.ct ⟨_, (by repeat' (first | exact trivial | refine ⟨rfl, ?_⟩)), _, [(7, v, 0, (ja : Int), -1)], rfl, by simp, h7, (by rw [hc7]; unfold powR; rw [if_neg h233, if_neg h237, if_neg h241, if_neg (by rintro ⟨e1, e2⟩; first | contradiction | omega)]; exact Pt.un 7 v (-1) hpa), hk6.trans hk7⟩
                    ·
                      omega
        ·
          rintro l w5 ⟨q, ex, rfl, hex, h5, hp5, hk5⟩
          have hM5 := hk5.bl hM4 (by omega) (by omega)
          refine X.sq ?_
          refine V.region ?_
          refine L.rd (rd_move rfl) rfl ?_
          refine L.rd (rd_move rfl) rfl ?_
          refine L.rd (rd_move rfl) rfl ?_
          (refine L.rd (rd_indexSlice (sz := 1) tok rfl rfl rfl rfl rfl rfl rfl ?_) rfl ?_; omega)
          refine L.ef (e_store (vs := [_]) tok rfl rfl rfl rfl hM5 rfl (by simp [Value.oneCell']) (by simp [iC]; omega) ?_)
          (simp only [Nat.zero_add, Nat.mul_one, Int.toNat_natCast])
          rw [iC_putI _ _ _ (by omega)]
          refine L.nil ?_
          refine X.bk ?_
          refine X.sq ?_
          refine V.region ?_
          refine L.rd (rd_move rfl) rfl ?_
          (refine L.rd (rd_add3 rfl rfl ?_) rfl ?_; omega)
          refine L.rd (rd_assign rfl) rfl ?_
          refine L.nil ?_
          refine X.lp ⟨_, _, by omega, (by repeat' (first | exact trivial | refine ⟨rfl, ?_⟩)), i + 1, pool ++ ex, M.set i q, rfl, rfl, by omega, h5.rg (Rg.set (lo := w2.heap.size) (hi := w2.heap.size + 1) ⟨Nat.le_refl _, by omega⟩ _ _) (by omega) (Nat.le_refl _), by rw [List.length_append]; omega, hM5.set _ _, by simp [hMl], (hKP.trans (KP.ext he4 (by omega) _)).trans ((hk5.less (by omega)).trans (KP.setHi _ _ (Nat.le_refl _) _ _)), fun j2 s2 hj2 hs2 => ?_⟩
          by_cases hji : j2 = i
          · subst hji
            rw [hs] at hs2
            simp only [Option.some.injEq] at hs2
            subst hs2
            exact ⟨q, List.getElem?_set_self (by omega), hp5⟩
          · obtain ⟨q2, h1, h2⟩ := hinv j2 s2 (by omega) hs2
            exact ⟨q2, by rw [List.getElem?_set_ne (by omega)]; exact h1, h2.app _ _⟩
      ·
        refine V.exit ?_
        refine X.sqExit ?_
        refine X.lpExit ?_
        refine X.bkHere ?_
        refine X.sq ?_
        refine V.seq ?_
        obtain rfl : i = ns.length := by omega
        obtain ⟨q0, hM0, hp0⟩ := hinv (tsz t - 1) t (by omega) hroot
        have hE0 := (Ext.refl _ wr).addNew 80 []
        have ho0 := own_empty (sz := 5) (Bl.new wr 80 []) (Nat.le_refl _)
        refine V.region ?_
        refine L.ef (e_make0 (e := 80) tok rfl rfl rfl rfl rfl rfl rfl (by first | (simp only [size_addB, size_setB, size_drew]; rfl) | rfl) rfl ?_)
        refine L.rd (rd_assign rfl) rfl ?_
        refine L.nil ?_
        refine X.sq ?_
        refine V.seq ?_
        generalize addB wr 80 [] = wB at hE0 ho0 ⊢
        have hEB := hE0.addNew 3 []
        have hst0 := own_empty (sz := 1) (Bl.new wB 3 []) hE0.size
        have hoB := own_ext ho0 ((Ext.refl _ wB).addNew 3 [])
        refine V.region ?_
        refine L.ef (e_make0 (e := 3) tok rfl rfl rfl rfl rfl rfl rfl (by first | (simp only [size_addB, size_setB, size_drew]; rfl) | rfl) rfl ?_)
        refine L.rd (rd_assign rfl) rfl ?_
        refine L.nil ?_
        refine X.sq ?_
        refine V.seq ?_
        generalize addB wB 3 [] = wC at hEB hst0 hoB ⊢
        have hMC := hEB.bl hM.lt hM
        have hix : ((ns.length : Int) - 1).toNat = tsz t - 1 := by omega
        have hsC := hEB.size
        refine V.region ?_
        refine L.rd (rd_move rfl) rfl ?_
        refine L.rd (rd_move rfl) rfl ?_
        refine L.rd (rd_move rfl) rfl ?_
        (refine L.rd (rd_sub3 rfl rfl ?_) rfl ?_; omega)
        (refine L.rd (rd_indexSlice (sz := 1) tok rfl rfl rfl rfl rfl rfl rfl ?_) rfl ?_; omega)
        refine L.rd (rd_load1 tok rfl rfl rfl (cell_at (i := ((ns.length : Int) - 1).toNat) hMC (by rw [hix]; exact iC_get hM0) (by simp))) rfl ?_
        refine L.ef (e_buildSlice1 (e := 3) (cs := [_]) tok rfl rfl rfl rfl rfl rfl rfl rfl rfl (by first | (simp only [size_addB, size_setB, size_drew]; rfl) | rfl) rfl ?_)
        refine L.ef (e_append (m := 1) tok rfl rfl rfl rfl rfl rfl rfl rfl rfl rfl (hst0.alloc _) (Bl.new _ _ _).cells rfl (by simp [Value.oneCell']) (by unfold maxLen; omega) (by simp only []; omega) (by rw [size_addB]; omega) ?_)
        rintro v6 w6 ho6 hg6
        have he6 := ((Ext.refl _ wC).addNew 3 [.int .i64 q0])
        have hst6' := own_apart (own_ext hoB he6) (hst0.alloc _) rfl hg6
        have hE6 : Ext wr.heap.size wr w6 := (hEB.addNew _ _).grown hg6 (by rw [size_addB]; omega) (fun q hq => (own_block_lt hst0 hq).1)
        refine L.rd (rd_assign rfl) rfl ?_
        refine L.nil ?_
        refine X.sq ?_
        refine V.seq ?_
        refine V.block ?_
        refine V.loop (fun m l w9 => ∃ (out : List Nd) (I : List Int) (Lq : List Tre) (ov sv : Value), l = [(1, .pointer (some ⟨w.heap.size, 0, none⟩)), (2, .pointer (some ⟨w.heap.size + 1, 0, none⟩)), (4, .int .i64 ns.length), (5, .pointer (some ⟨w1.heap.size, 0, none⟩)), (19, ov), (20, sv)] ∧ m = tsz (cn t) - out.length ∧ w9.ownsRow wr.heap.size 80 5 ov out.length (out.flatMap ndE) ∧ w9.ownsRow wr.heap.size 3 1 sv I.length (iC .i64 I) ∧ Stk pool Lq I ∧ (∀ s ∈ Lq, Wt s) ∧ out ++ prS Lq = prR (cn t) ∧ Ext wr.heap.size wr w9) ?_ ?_
        ·
          exact ⟨_, _, (by repeat' (first | exact trivial | refine ⟨rfl, ?_⟩)), [], [q0], [cn t], _, v6, rfl, rfl, hst6', ho6, ⟨hp0, trivial⟩, fun s hs => by simp only [List.mem_cons, List.not_mem_nil, or_false] at hs; subst hs; exact hwz.wt, by simp [prS], hE6⟩
        ·
          clear ho0 hst0 hoB hMC hst6' ho6 hg6 he6 hE6 hE0 hEB
          rintro m l w9 ⟨out, I, Lq, ov, sv, rfl, rfl, ho, hst, hS, hWL, hpR, hE9⟩
          obtain ⟨oa, oc, rfl⟩ := own_form ho
          obtain ⟨sa, sc, rfl⟩ := own_form hst
          have hC9 := hC.ext hE9
          have hlen : out.length + (prS Lq).length = tsz (cn t) := by rw [← prR_len, ← hpR, List.length_append]
          have hge := prS_ge Lq
          have hSn := hS.len
          have hs9 := hE9.size
          refine V.seq ?_
          refine V.seq ?_
          refine V.region ?_
          refine L.rd (rd_move rfl) rfl ?_
          refine L.rd (rd_lenSlice tok rfl rfl rfl) rfl ?_
          refine L.rd (rd_gtr rfl rfl) rfl ?_
          refine L.rd (rd_move rfl) rfl ?_
          first | refine L.partG rfl rfl (fun g289 => ?_) (fun g289 => ?_) | refine L.partGB rfl rfl (fun g289 => ?_) (fun g289 => ?_)
          ·
            refine L.yes rfl rfl ?_
            refine L.rd (rd_move rfl) rfl ?_
            refine L.yes rfl rfl ?_
            refine L.rd (rd_lenSlice tok rfl rfl rfl) rfl ?_
            refine L.yes rfl rfl ?_
            refine L.rd (rd_move rfl) rfl ?_
            refine L.yes rfl rfl ?_
            refine L.rd (rd_leq rfl rfl) rfl ?_
            refine L.rd (rd_pickT rfl rfl) rfl ?_
            refine L.nil ?_
            refine X.sq ?_
            first | refine V.cond rfl (fun h294 => ?_) (fun h294 => ?_) | refine V.condB rfl (fun h294 => ?_) (fun h294 => ?_)
            ·
              refine V.skip ?_
              refine X.sq ?_
              refine V.block ?_
              refine V.seq ?_
              obtain ⟨Lq', I', t', i', rfl, rfl, hS', hp'⟩ := hS.pop (by rintro rfl; simp at g289)
              obtain ⟨gs, cs, hvs, hcs, hgs, hcs2⟩ := own_some hst (by simp)
              simp only [Value.slice.injEq] at hvs
              obtain ⟨rfl, -, rfl⟩ := hvs
              have hli : (I' ++ [i']).length = I'.length + 1 := by simp
              have hst7 := own_shrink hst (m := I'.length) (ys := iC .i64 I') (by omega) (iC_cut _ _) (by simp [iC])
              rw [prS_snoc] at hlen hpR
              have hge' := prS_ge Lq'
              have hSn' := hS'.len
              rw [List.length_append, prR_len] at hlen
              obtain ⟨j, k, v, x, lx, rx, rfl, hj, hcase⟩ := hp'.cases (hWL _ (by simp))
              obtain ⟨g, c, hg, hpb, hcx⟩ := hC9.get ndE_len hj
              have hjl := (List.getElem?_eq_some_iff.1 hj).1
              have htp' := tsz_pos t'
              refine V.region ?_
              refine L.rd (rd_move rfl) rfl ?_
              refine L.rd (rd_move rfl) rfl ?_
              refine L.rd (rd_lenSlice tok rfl rfl rfl) rfl ?_
              (refine L.rd (rd_sub3 rfl rfl ?_) rfl ?_; omega)
              (refine L.rd (rd_indexSlice (sz := 1) tok rfl rfl rfl rfl rfl rfl rfl ?_) rfl ?_; omega)
              refine L.rd (rd_load1 tok rfl rfl rfl (cells_at (i := I'.length) hcs2 (iC_get (last_get _ _)) (by rw [hli]; omega))) rfl ?_
              refine L.rd (rd_assign rfl) rfl ?_
              refine L.nil ?_
              refine X.sq ?_
              refine V.seq ?_
              refine V.region ?_
              refine L.rd (rd_move rfl) rfl ?_
              refine L.rd (rd_move rfl) rfl ?_
              refine L.rd (rd_lenSlice tok rfl rfl rfl) rfl ?_
              refine L.rd (rd_subE (r := (I'.length : Int)) rfl rfl (by rw [wrap_i64_in (by omega)]; omega)) rfl ?_
              refine L.rd (rd_reslH (sz := 1) tok rfl rfl rfl rfl rfl rfl rfl (by omega)) rfl ?_
              refine L.rd (rd_assign rfl) rfl ?_
              refine L.nil ?_
              refine X.sq ?_
              refine V.seq ?_
              refine V.region ?_
              refine L.rd (rd_move rfl) rfl ?_
              refine L.rd (rd_nilCheck rfl) rfl ?_
              refine L.rd (rd_fieldAddr tok rfl rfl rfl rfl rfl rfl) rfl ?_
              refine L.rd (rd_load1 tok rfl rfl rfl (hpb.cell rfl)) rfl ?_
              refine L.rd (rd_move rfl) rfl ?_
              (refine L.rd (rd_indexSlice (sz := 5) tok rfl rfl rfl rfl rfl rfl rfl ?_) rfl ?_; omega)
              refine L.rd (rd_loadN tok rfl rfl rfl hcx rfl) rfl ?_
              refine L.ef (e_alloc (cs := [_, _, _, _, _]) tok rfl rfl (by first | (simp only [size_addB, size_setB, size_drew]; rfl) | rfl) rfl ?_)
              refine L.ef (e_store (vs := [_, _, _, _, _]) tok rfl rfl rfl rfl (by (repeat (first | assumption | (refine Bl.new' ?_ _ _; first | with_reducible rfl | (simp only [size_addB, size_setB, size_drew]; done)) | apply Bl.add | apply Bl.drew | (apply Bl.setNe; omega) | (refine Bl.set' ?_ _ _; (try simp only [size_addB, size_setB, size_drew]); omega)))) rfl (by simp [Value.oneCell']) (by simp) ?_)
              refine L.nil ?_
              refine X.sq ?_
              refine V.seq ?_
              generalize hwq : setB _ _ _ _ = wq
              have hbq : Bl wq w9.heap.size 132 [.int .i64 k, .int .i64 v, .int .i64 x, .int .i64 lx, .int .i64 rx] := by rw [← hwq]; refine Bl.set' ?_ _ _; rw [size_addB]; omega
              have heq : Ext w9.heap.size w9 wq := by rw [← hwq]; exact ((Ext.refl _ _).addNew _ _).set (Nat.le_refl _) _ _
              have hoq := own_ext ho heq
              have hsq := own_ext hst7 heq
              have hEq := hE9.next heq
              have hszq := heq.size
              refine V.region ?_
              refine L.rd (rd_move rfl) rfl ?_
              refine L.rd (rd_fieldAddr tok rfl rfl rfl rfl rfl rfl) rfl ?_
              refine L.rd (rd_load1 tok rfl rfl rfl (hbq.cell rfl)) rfl ?_
              refine L.rd (rd_fieldAddr tok rfl rfl rfl rfl rfl rfl) rfl ?_
              refine L.rd (rd_load1 tok rfl rfl rfl (hbq.cell (i := 1) rfl)) rfl ?_
              refine L.rd (rd_fieldAddr tok rfl rfl rfl rfl rfl rfl) rfl ?_
              refine L.rd (rd_load1 tok rfl rfl rfl (hbq.cell (i := 2) rfl)) rfl ?_
              refine L.rd (rd_build (out := [_, _, _, _, _]) tok rfl rfl rfl rfl rfl) rfl ?_
              refine L.ef (e_buildSlice1 (e := 80) (cs := [_, _, _, _, _]) tok rfl rfl rfl rfl rfl rfl rfl rfl rfl (by first | (simp only [size_addB, size_setB, size_drew]; rfl) | rfl) rfl ?_)
              refine L.ef (e_append (m := 1) tok rfl rfl rfl rfl rfl rfl rfl rfl rfl rfl (hoq.alloc _) (Bl.new _ _ _).cells rfl (by simp [Value.oneCell']) (by unfold maxLen; omega) (by simp only []; omega) (by rw [size_addB]; omega) ?_)
              rintro v10 w10 ho10 hg10
              have heN := ((Ext.refl _ wq).addNew 80 (ndE (k, v, x, 0, 0)))
              have hs10 : w10.ownsRow wr.heap.size 3 1 (.slice (some ⟨gs, 0, none⟩) I'.length sc) I'.length (iC .i64 I') := own_apart (own_ext hsq heN) (hoq.alloc _) rfl hg10
              have hE10 : Ext wr.heap.size wr w10 := (hEq.next heN).grown hg10 (by rw [size_addB]; omega) (fun q hq => (own_block_lt hoq hq).1)
              have hb10 : Bl w10 w9.heap.size 132 [.int .i64 k, .int .i64 v, .int .i64 x, .int .i64 lx, .int .i64 rx] := (heN.bl hbq.lt hbq).off_own (hoq.alloc _) rfl hg10
              have ho10' : w10.ownsRow wr.heap.size 80 5 v10 (out ++ [(k, v, x, 0, 0)]).length ((out ++ [(k, v, x, 0, 0)]).flatMap ndE) := by
                rw [List.length_append, List.flatMap_append]
                simpa [ndE] using ho10
              have hol : (out ++ [(k, v, x, 0, 0)] : List Nd).length = out.length + 1 := by simp
              have hs10s := hE10.size
              refine L.rd (rd_assign rfl) rfl ?_
              refine L.nil ?_
              refine X.sq ?_
              refine V.seq ?_
              refine V.region ?_
              refine L.rd (rd_fieldAddr tok rfl rfl rfl rfl rfl rfl) rfl ?_
              refine L.rd (rd_load1 tok rfl rfl rfl (hb10.cell rfl)) rfl ?_
              refine L.rd (rd_eql rfl rfl) rfl ?_
              refine L.rd (rd_move rfl) rfl ?_
              first | refine L.partG rfl rfl (fun g326 => ?_) (fun g326 => ?_) | refine L.partGB rfl rfl (fun g326 => ?_) (fun g326 => ?_)
              ·
                refine L.no rfl rfl rfl rfl ?_
                refine L.no rfl rfl rfl rfl ?_
                refine L.no rfl rfl rfl rfl ?_
                refine L.rd (rd_pickT rfl rfl) rfl ?_
                refine L.nil ?_
                refine X.sq ?_
                refine V.condT rfl ?_
                obtain ⟨a, hpra, hpa, hwa⟩ : ∃ a, prR t' = (k, v, x, 0, 0) :: prR a ∧ Pt pool a lx ∧ Wt a := by
                  rcases hcase with ⟨h1, _⟩ | ⟨_, h⟩ | ⟨h1, _⟩
                  · omega
                  · exact h
                  · omega
                refine V.region ?_
                refine L.rd (rd_move rfl) rfl ?_
                refine L.rd (rd_fieldAddr tok rfl rfl rfl rfl rfl rfl) rfl ?_
                refine L.rd (rd_load1 tok rfl rfl rfl (hb10.cell (i := 3) rfl)) rfl ?_
                refine L.ef (e_buildSlice1 (e := 3) (cs := [_]) tok rfl rfl rfl rfl rfl rfl rfl rfl rfl (by first | (simp only [size_addB, size_setB, size_drew]; rfl) | rfl) rfl ?_)
                refine L.ef (e_append (m := 1) tok rfl rfl rfl rfl rfl rfl rfl rfl rfl rfl (hs10.alloc _) (Bl.new _ _ _).cells rfl (by simp [Value.oneCell']) (by unfold maxLen; omega) (by simp only []; omega) (by rw [size_addB]; omega) ?_)
                rintro v11 w11 ho11 hg11
                have heM := ((Ext.refl _ w10).addNew 3 [.int .i64 lx])
                have hoo11 := own_apart (own_ext ho10' heM) (hs10.alloc _) rfl hg11
                have hE11 : Ext wr.heap.size wr w11 := (hE10.next heM).grown hg11 (by rw [size_addB]; omega) (fun q hq => (own_block_lt hs10 hq).1)
                refine L.rd (rd_assign rfl) rfl ?_
                refine L.nil ?_
                refine X.bk ?_
                refine X.lp ⟨_, _, by omega, (by repeat' (first | exact trivial | refine ⟨rfl, ?_⟩)), out ++ [(k, v, x, 0, 0)], I' ++ [lx], Lq' ++ [a], _, _, rfl, rfl, hoo11, ?_, hS'.snoc hpa, ?_, ?_, hE11⟩
                · rw [List.length_append, show iC .i64 (I' ++ [lx]) = iC .i64 I' ++ [.int .i64 lx] by simp [iC]]
                  exact ho11
                · intro s hs
                  rcases List.mem_append.1 hs with hs | hs
                  · exact hWL s (List.mem_append_left _ hs)
                  · simp only [List.mem_cons, List.not_mem_nil, or_false] at hs; subst hs; exact hwa
                · rw [prS_snoc, ← hpR, hpra]; simp
              ·
                refine L.yes rfl rfl ?_
                refine L.rd (rd_fieldAddr tok rfl rfl rfl rfl rfl rfl) rfl ?_
                refine L.yes rfl rfl ?_
                refine L.rd (rd_load1 tok rfl rfl rfl (hb10.cell rfl)) rfl ?_
                refine L.yes rfl rfl ?_
                refine L.rd (rd_eql rfl rfl) rfl ?_
                refine L.rd (rd_pickF rfl rfl) rfl ?_
                refine L.nil ?_
                refine X.sq ?_
                first | refine V.cond rfl (fun h330 => ?_) (fun h330 => ?_) | refine V.condB rfl (fun h330 => ?_) (fun h330 => ?_)
                ·
                  obtain ⟨a, hpra, hpa, hwa⟩ : ∃ a, prR t' = (k, v, x, 0, 0) :: prR a ∧ Pt pool a lx ∧ Wt a := by
                    rcases hcase with ⟨h1, _⟩ | ⟨_, h⟩ | ⟨h1, _⟩
                    · omega
                    · exact h
                    · omega
                  refine V.region ?_
                  refine L.rd (rd_move rfl) rfl ?_
                  refine L.rd (rd_fieldAddr tok rfl rfl rfl rfl rfl rfl) rfl ?_
                  refine L.rd (rd_load1 tok rfl rfl rfl (hb10.cell (i := 3) rfl)) rfl ?_
                  refine L.ef (e_buildSlice1 (e := 3) (cs := [_]) tok rfl rfl rfl rfl rfl rfl rfl rfl rfl (by first | (simp only [size_addB, size_setB, size_drew]; rfl) | rfl) rfl ?_)
                  refine L.ef (e_append (m := 1) tok rfl rfl rfl rfl rfl rfl rfl rfl rfl rfl (hs10.alloc _) (Bl.new _ _ _).cells rfl (by simp [Value.oneCell']) (by unfold maxLen; omega) (by simp only []; omega) (by rw [size_addB]; omega) ?_)
                  rintro v11 w11 ho11 hg11
                  have heM := ((Ext.refl _ w10).addNew 3 [.int .i64 lx])
                  have hoo11 := own_apart (own_ext ho10' heM) (hs10.alloc _) rfl hg11
                  have hE11 : Ext wr.heap.size wr w11 := (hE10.next heM).grown hg11 (by rw [size_addB]; omega) (fun q hq => (own_block_lt hs10 hq).1)
                  refine L.rd (rd_assign rfl) rfl ?_
                  refine L.nil ?_
                  refine X.bk ?_
                  refine X.lp ⟨_, _, by omega, (by repeat' (first | exact trivial | refine ⟨rfl, ?_⟩)), out ++ [(k, v, x, 0, 0)], I' ++ [lx], Lq' ++ [a], _, _, rfl, rfl, hoo11, ?_, hS'.snoc hpa, ?_, ?_, hE11⟩
                  · rw [List.length_append, show iC .i64 (I' ++ [lx]) = iC .i64 I' ++ [.int .i64 lx] by simp [iC]]
                    exact ho11
                  · intro s hs
                    rcases List.mem_append.1 hs with hs | hs
                    · exact hWL s (List.mem_append_left _ hs)
                    · simp only [List.mem_cons, List.not_mem_nil, or_false] at hs; subst hs; exact hwa
                  · rw [prS_snoc, ← hpR, hpra]; simp
                ·
                  refine V.seq ?_
                  refine V.region ?_
                  refine L.rd (rd_fieldAddr tok rfl rfl rfl rfl rfl rfl) rfl ?_
                  refine L.rd (rd_load1 tok rfl rfl rfl (hb10.cell rfl)) rfl ?_
                  refine L.rd (rd_eql rfl rfl) rfl ?_
                  refine L.rd (rd_move rfl) rfl ?_
                  first | refine L.partG rfl rfl (fun g339 => ?_) (fun g339 => ?_) | refine L.partGB rfl rfl (fun g339 => ?_) (fun g339 => ?_)
                  ·
                    refine L.no rfl rfl rfl rfl ?_
                    refine L.no rfl rfl rfl rfl ?_
                    refine L.no rfl rfl rfl rfl ?_
                    refine L.rd (rd_pickT rfl rfl) rfl ?_
                    refine L.rd (rd_move rfl) rfl ?_
                    refine L.no rfl rfl rfl rfl ?_
                    refine L.no rfl rfl rfl rfl ?_
                    refine L.no rfl rfl rfl rfl ?_
                    refine L.rd (rd_pickT rfl rfl) rfl ?_
                    refine L.nil ?_
                    refine X.sq ?_
                    refine V.condT rfl ?_
                    refine V.seq ?_
                    obtain ⟨a, b, hpra, hpa, hpb2, hwa, hwb⟩ : ∃ a b, prR t' = (k, v, x, 0, 0) :: (prR b ++ prR a) ∧ Pt pool a lx ∧ Pt pool b rx ∧ Wt a ∧ Wt b := by
                      rcases hcase with ⟨h1, _⟩ | ⟨h1, h⟩ | ⟨h1, h⟩
                      · omega
                      · omega
                      · exact h
                    have hpl2 := congrArg List.length hpra
                    rw [prR_len, List.length_cons, List.length_append, prR_len, prR_len] at hpl2
                    have htpa := tsz_pos a
                    have htpb := tsz_pos b
                    refine V.region ?_
                    refine L.rd (rd_move rfl) rfl ?_
                    refine L.rd (rd_fieldAddr tok rfl rfl rfl rfl rfl rfl) rfl ?_
                    refine L.rd (rd_load1 tok rfl rfl rfl (hb10.cell (i := 3) rfl)) rfl ?_
                    refine L.ef (e_buildSlice1 (e := 3) (cs := [_]) tok rfl rfl rfl rfl rfl rfl rfl rfl rfl (by first | (simp only [size_addB, size_setB, size_drew]; rfl) | rfl) rfl ?_)
                    refine L.ef (e_append (m := 1) tok rfl rfl rfl rfl rfl rfl rfl rfl rfl rfl (hs10.alloc _) (Bl.new _ _ _).cells rfl (by simp [Value.oneCell']) (by unfold maxLen; omega) (by simp only []; omega) (by rw [size_addB]; omega) ?_)
                    rintro v11 w11 ho11 hg11
                    have heM := ((Ext.refl _ w10).addNew 3 [.int .i64 lx])
                    have hoo11 := own_apart (own_ext ho10' heM) (hs10.alloc _) rfl hg11
                    have hE11 : Ext wr.heap.size wr w11 := (hE10.next heM).grown hg11 (by rw [size_addB]; omega) (fun q hq => (own_block_lt hs10 hq).1)
                    have hb11 : Bl w11 w9.heap.size 132 [.int .i64 k, .int .i64 v, .int .i64 x, .int .i64 lx, .int .i64 rx] := (heM.bl hb10.lt hb10).off_own (hs10.alloc _) rfl hg11
                    have hs11s := hE11.size
                    refine L.rd (rd_assign rfl) rfl ?_
                    refine L.nil ?_
                    refine X.sq ?_
                    refine V.region ?_
                    refine L.rd (rd_move rfl) rfl ?_
                    refine L.rd (rd_fieldAddr tok rfl rfl rfl rfl rfl rfl) rfl ?_
                    refine L.rd (rd_load1 tok rfl rfl rfl (hb11.cell (i := 4) rfl)) rfl ?_
                    refine L.ef (e_buildSlice1 (e := 3) (cs := [_]) tok rfl rfl rfl rfl rfl rfl rfl rfl rfl (by first | (simp only [size_addB, size_setB, size_drew]; rfl) | rfl) rfl ?_)
                    refine L.ef (e_append (m := 1) tok rfl rfl rfl rfl rfl rfl rfl rfl rfl rfl (ho11.alloc _) (Bl.new _ _ _).cells rfl (by simp [Value.oneCell']) (by unfold maxLen; omega) (by simp only []; omega) (by rw [size_addB]; omega) ?_)
                    rintro v12 w12 ho12 hg12
                    have heL := ((Ext.refl _ w11).addNew 3 [.int .i64 rx])
                    have hoo12 := own_apart (own_ext hoo11 heL) (ho11.alloc _) rfl hg12
                    have hE12 : Ext wr.heap.size wr w12 := (hE11.next heL).grown hg12 (by rw [size_addB]; omega) (fun q hq => (own_block_lt ho11 hq).1)
                    refine L.rd (rd_assign rfl) rfl ?_
                    refine L.nil ?_
                    refine X.bk ?_
                    refine X.lp ⟨_, _, by omega, (by repeat' (first | exact trivial | refine ⟨rfl, ?_⟩)), out ++ [(k, v, x, 0, 0)], I' ++ [lx] ++ [rx], Lq' ++ [a] ++ [b], _, _, rfl, rfl, hoo12, ?_, (hS'.snoc hpa).snoc hpb2, ?_, ?_, hE12⟩
                    · rw [List.length_append, List.length_append, show iC .i64 (I' ++ [lx] ++ [rx]) = iC .i64 I' ++ [.int .i64 lx] ++ [.int .i64 rx] by simp [iC]]
                      exact ho12
                    · intro s hs
                      rcases List.mem_append.1 hs with hs | hs
                      · rcases List.mem_append.1 hs with hs | hs
                        · exact hWL s (List.mem_append_left _ hs)
                        · simp only [List.mem_cons, List.not_mem_nil, or_false] at hs; subst hs; exact hwa
                      · simp only [List.mem_cons, List.not_mem_nil, or_false] at hs; subst hs; exact hwb
                    · rw [prS_snoc, prS_snoc, ← hpR, hpra]; simp
                  ·
                    refine L.yes rfl rfl ?_
                    refine L.rd (rd_fieldAddr tok rfl rfl rfl rfl rfl rfl) rfl ?_
                    refine L.yes rfl rfl ?_
                    refine L.rd (rd_load1 tok rfl rfl rfl (hb10.cell rfl)) rfl ?_
                    refine L.yes rfl rfl ?_
                    refine L.rd (rd_eql rfl rfl) rfl ?_
                    refine L.rd (rd_pickF rfl rfl) rfl ?_
                    refine L.rd (rd_move rfl) rfl ?_
                    first | refine L.partG rfl rfl (fun g344 => ?_) (fun g344 => ?_) | refine L.partGB rfl rfl (fun g344 => ?_) (fun g344 => ?_)
                    ·
                      refine L.no rfl rfl rfl rfl ?_
                      refine L.no rfl rfl rfl rfl ?_
                      refine L.no rfl rfl rfl rfl ?_
                      refine L.rd (rd_pickT rfl rfl) rfl ?_
                      refine L.nil ?_
                      refine X.sq ?_
                      refine V.condT rfl ?_
                      refine V.seq ?_
                      obtain ⟨a, b, hpra, hpa, hpb2, hwa, hwb⟩ : ∃ a b, prR t' = (k, v, x, 0, 0) :: (prR b ++ prR a) ∧ Pt pool a lx ∧ Pt pool b rx ∧ Wt a ∧ Wt b := by
                        rcases hcase with ⟨h1, _⟩ | ⟨h1, h⟩ | ⟨h1, h⟩
                        · omega
                        · omega
                        · exact h
                      have hpl2 := congrArg List.length hpra
                      rw [prR_len, List.length_cons, List.length_append, prR_len, prR_len] at hpl2
                      have htpa := tsz_pos a
                      have htpb := tsz_pos b
                      refine V.region ?_
                      refine L.rd (rd_move rfl) rfl ?_
                      refine L.rd (rd_fieldAddr tok rfl rfl rfl rfl rfl rfl) rfl ?_
                      refine L.rd (rd_load1 tok rfl rfl rfl (hb10.cell (i := 3) rfl)) rfl ?_
                      refine L.ef (e_buildSlice1 (e := 3) (cs := [_]) tok rfl rfl rfl rfl rfl rfl rfl rfl rfl (by first | (simp only [size_addB, size_setB, size_drew]; rfl) | rfl) rfl ?_)
                      refine L.ef (e_append (m := 1) tok rfl rfl rfl rfl rfl rfl rfl rfl rfl rfl (hs10.alloc _) (Bl.new _ _ _).cells rfl (by simp [Value.oneCell']) (by unfold maxLen; omega) (by simp only []; omega) (by rw [size_addB]; omega) ?_)
                      rintro v11 w11 ho11 hg11
                      have heM := ((Ext.refl _ w10).addNew 3 [.int .i64 lx])
                      have hoo11 := own_apart (own_ext ho10' heM) (hs10.alloc _) rfl hg11
                      have hE11 : Ext wr.heap.size wr w11 := (hE10.next heM).grown hg11 (by rw [size_addB]; omega) (fun q hq => (own_block_lt hs10 hq).1)
                      have hb11 : Bl w11 w9.heap.size 132 [.int .i64 k, .int .i64 v, .int .i64 x, .int .i64 lx, .int .i64 rx] := (heM.bl hb10.lt hb10).off_own (hs10.alloc _) rfl hg11
                      have hs11s := hE11.size
                      refine L.rd (rd_assign rfl) rfl ?_
                      refine L.nil ?_
                      refine X.sq ?_
                      refine V.region ?_
                      refine L.rd (rd_move rfl) rfl ?_
                      refine L.rd (rd_fieldAddr tok rfl rfl rfl rfl rfl rfl) rfl ?_
                      refine L.rd (rd_load1 tok rfl rfl rfl (hb11.cell (i := 4) rfl)) rfl ?_
                      refine L.ef (e_buildSlice1 (e := 3) (cs := [_]) tok rfl rfl rfl rfl rfl rfl rfl rfl rfl (by first | (simp only [size_addB, size_setB, size_drew]; rfl) | rfl) rfl ?_)
                      refine L.ef (e_append (m := 1) tok rfl rfl rfl rfl rfl rfl rfl rfl rfl rfl (ho11.alloc _) (Bl.new _ _ _).cells rfl (by simp [Value.oneCell']) (by unfold maxLen; omega) (by simp only []; omega) (by rw [size_addB]; omega) ?_)
                      rintro v12 w12 ho12 hg12
                      have heL := ((Ext.refl _ w11).addNew 3 [.int .i64 rx])
                      have hoo12 := own_apart (own_ext hoo11 heL) (ho11.alloc _) rfl hg12
                      have hE12 : Ext wr.heap.size wr w12 := (hE11.next heL).grown hg12 (by rw [size_addB]; omega) (fun q hq => (own_block_lt ho11 hq).1)
                      refine L.rd (rd_assign rfl) rfl ?_
                      refine L.nil ?_
                      refine X.bk ?_
                      refine X.lp ⟨_, _, by omega, (by repeat' (first | exact trivial | refine ⟨rfl, ?_⟩)), out ++ [(k, v, x, 0, 0)], I' ++ [lx] ++ [rx], Lq' ++ [a] ++ [b], _, _, rfl, rfl, hoo12, ?_, (hS'.snoc hpa).snoc hpb2, ?_, ?_, hE12⟩
                      · rw [List.length_append, List.length_append, show iC .i64 (I' ++ [lx] ++ [rx]) = iC .i64 I' ++ [.int .i64 lx] ++ [.int .i64 rx] by simp [iC]]
                        exact ho12
                      · intro s hs
                        rcases List.mem_append.1 hs with hs | hs
                        · rcases List.mem_append.1 hs with hs | hs
                          · exact hWL s (List.mem_append_left _ hs)
                          · simp only [List.mem_cons, List.not_mem_nil, or_false] at hs; subst hs; exact hwa
                        · simp only [List.mem_cons, List.not_mem_nil, or_false] at hs; subst hs; exact hwb
                      · rw [prS_snoc, prS_snoc, ← hpR, hpra]; simp
                    ·
                      refine L.yes rfl rfl ?_
                      refine L.rd (rd_fieldAddr tok rfl rfl rfl rfl rfl rfl) rfl ?_
                      refine L.yes rfl rfl ?_
                      refine L.rd (rd_load1 tok rfl rfl rfl (hb10.cell rfl)) rfl ?_
                      refine L.yes rfl rfl ?_
                      refine L.rd (rd_eql rfl rfl) rfl ?_
                      refine L.rd (rd_pickF rfl rfl) rfl ?_
                      refine L.nil ?_
                      refine X.sq ?_
                      first | refine V.cond rfl (fun h348 => ?_) (fun h348 => ?_) | refine V.condB rfl (fun h348 => ?_) (fun h348 => ?_)
                      ·
                        refine V.seq ?_
                        obtain ⟨a, b, hpra, hpa, hpb2, hwa, hwb⟩ : ∃ a b, prR t' = (k, v, x, 0, 0) :: (prR b ++ prR a) ∧ Pt pool a lx ∧ Pt pool b rx ∧ Wt a ∧ Wt b := by
                          rcases hcase with ⟨h1, _⟩ | ⟨h1, h⟩ | ⟨h1, h⟩
                          · omega
                          · omega
                          · exact h
                        have hpl2 := congrArg List.length hpra
                        rw [prR_len, List.length_cons, List.length_append, prR_len, prR_len] at hpl2
                        have htpa := tsz_pos a
                        have htpb := tsz_pos b
                        refine V.region ?_
                        refine L.rd (rd_move rfl) rfl ?_
                        refine L.rd (rd_fieldAddr tok rfl rfl rfl rfl rfl rfl) rfl ?_
                        refine L.rd (rd_load1 tok rfl rfl rfl (hb10.cell (i := 3) rfl)) rfl ?_
                        refine L.ef (e_buildSlice1 (e := 3) (cs := [_]) tok rfl rfl rfl rfl rfl rfl rfl rfl rfl (by first | (simp only [size_addB, size_setB, size_drew]; rfl) | rfl) rfl ?_)
                        refine L.ef (e_append (m := 1) tok rfl rfl rfl rfl rfl rfl rfl rfl rfl rfl (hs10.alloc _) (Bl.new _ _ _).cells rfl (by simp [Value.oneCell']) (by unfold maxLen; omega) (by simp only []; omega) (by rw [size_addB]; omega) ?_)
                        rintro v11 w11 ho11 hg11
                        have heM := ((Ext.refl _ w10).addNew 3 [.int .i64 lx])
                        have hoo11 := own_apart (own_ext ho10' heM) (hs10.alloc _) rfl hg11
                        have hE11 : Ext wr.heap.size wr w11 := (hE10.next heM).grown hg11 (by rw [size_addB]; omega) (fun q hq => (own_block_lt hs10 hq).1)
                        have hb11 : Bl w11 w9.heap.size 132 [.int .i64 k, .int .i64 v, .int .i64 x, .int .i64 lx, .int .i64 rx] := (heM.bl hb10.lt hb10).off_own (hs10.alloc _) rfl hg11
                        have hs11s := hE11.size
                        refine L.rd (rd_assign rfl) rfl ?_
                        refine L.nil ?_
                        refine X.sq ?_
                        refine V.region ?_
                        refine L.rd (rd_move rfl) rfl ?_
                        refine L.rd (rd_fieldAddr tok rfl rfl rfl rfl rfl rfl) rfl ?_
                        refine L.rd (rd_load1 tok rfl rfl rfl (hb11.cell (i := 4) rfl)) rfl ?_
                        refine L.ef (e_buildSlice1 (e := 3) (cs := [_]) tok rfl rfl rfl rfl rfl rfl rfl rfl rfl (by first | (simp only [size_addB, size_setB, size_drew]; rfl) | rfl) rfl ?_)
                        refine L.ef (e_append (m := 1) tok rfl rfl rfl rfl rfl rfl rfl rfl rfl rfl (ho11.alloc _) (Bl.new _ _ _).cells rfl (by simp [Value.oneCell']) (by unfold maxLen; omega) (by simp only []; omega) (by rw [size_addB]; omega) ?_)
                        rintro v12 w12 ho12 hg12
                        have heL := ((Ext.refl _ w11).addNew 3 [.int .i64 rx])
                        have hoo12 := own_apart (own_ext hoo11 heL) (ho11.alloc _) rfl hg12
                        have hE12 : Ext wr.heap.size wr w12 := (hE11.next heL).grown hg12 (by rw [size_addB]; omega) (fun q hq => (own_block_lt ho11 hq).1)
                        refine L.rd (rd_assign rfl) rfl ?_
                        refine L.nil ?_
                        refine X.bk ?_
                        refine X.lp ⟨_, _, by omega, (by repeat' (first | exact trivial | refine ⟨rfl, ?_⟩)), out ++ [(k, v, x, 0, 0)], I' ++ [lx] ++ [rx], Lq' ++ [a] ++ [b], _, _, rfl, rfl, hoo12, ?_, (hS'.snoc hpa).snoc hpb2, ?_, ?_, hE12⟩
                        · rw [List.length_append, List.length_append, show iC .i64 (I' ++ [lx] ++ [rx]) = iC .i64 I' ++ [.int .i64 lx] ++ [.int .i64 rx] by simp [iC]]
                          exact ho12
                        · intro s hs
                          rcases List.mem_append.1 hs with hs | hs
                          · rcases List.mem_append.1 hs with hs | hs
                            · exact hWL s (List.mem_append_left _ hs)
                            · simp only [List.mem_cons, List.not_mem_nil, or_false] at hs; subst hs; exact hwa
                          · simp only [List.mem_cons, List.not_mem_nil, or_false] at hs; subst hs; exact hwb
                        · rw [prS_snoc, prS_snoc, ← hpR, hpra]; simp
                      ·
                        refine V.skip ?_
                        refine X.bk ?_
                        have hpra : prR t' = [(k, v, x, 0, 0)] := by
                          rcases hcase with ⟨_, h⟩ | ⟨h1, _⟩ | ⟨h1, _⟩
                          · exact h
                          · omega
                          · omega
                        refine X.lp ⟨_, _, by omega, (by repeat' (first | exact trivial | refine ⟨rfl, ?_⟩)), out ++ [(k, v, x, 0, 0)], I', Lq', _, _, rfl, rfl, ho10', hs10, hS', ?_, ?_, hE10⟩
                        · intro s hs; exact hWL s (List.mem_append_left _ hs)
                        · rw [← hpR, hpra]; simp
            ·
              omega
          ·
            refine L.no rfl rfl rfl rfl ?_
            refine L.no rfl rfl rfl rfl ?_
            refine L.no rfl rfl rfl rfl ?_
            refine L.no rfl rfl rfl rfl ?_
            refine L.rd (rd_pickF rfl rfl) rfl ?_
            refine L.nil ?_
            refine X.sq ?_
            refine V.condF rfl ?_
            refine V.exit ?_
            refine X.sqExit ?_
            refine X.lpExit ?_
            refine X.bkHere ?_
            refine X.sq ?_
            refine V.seq ?_
            have hI0 : I = [] := List.eq_nil_of_length_eq_zero (by omega)
            subst hI0
            have hL0 : Lq = [] := List.eq_nil_of_length_eq_zero hSn
            subst hL0
            rw [prS_nil, List.append_nil] at hpR
            have htc := tsz_pos (cn t)
            have holn : out.length = tsz (cn t) := by rw [hpR, prR_len]
            obtain ⟨g, cap, sp, hv, hob, hBg, hgl, hbl, hsz, hle, hback⟩ := own_put ndE_len ho (k := 0) (by omega)
            simp only [Value.slice.injEq] at hv
            obtain ⟨rfl, -, rfl⟩ := hv
            have hflc := flat_len (cn t) 0
            have hr9 := hE9.bl hrr.lt hrr
            have hrltr := hrr.lt
            refine V.region ?_
            refine L.rd (rd_move rfl) rfl ?_
            refine L.ef (e_call rfl (revN_ok out g oc sp _ hbl (by omega)) rfl ?_)
            rintro _ w10 ⟨hb10, hR10⟩
            rw [hpR, prR_rev _ 0] at hb10
            refine L.nil ?_
            refine X.sq ?_
            refine V.seq ?_
            refine V.region ?_
            refine L.rd (rd_move rfl) rfl ?_
            refine L.ef (e_call rfl (layout_ok (cn t) hwz.wt (by omega) g oc out.length (by omega) sp _ hb10) rfl ?_)
            rintro _ w11 ⟨hb11, hR11⟩
            have hr11 := (hr9.rg' hR10 (.inl (by omega))).rg' hR11 (.inl (by omega))
            have hown := hback w11 (flat (cn t) 0) (by omega) hb11
            have hE11 : Ext w.heap.size w w11 := (((hEr.next hE9).nextR hR10 (by omega))).nextR hR11 (by omega)
            refine L.nil ?_
            refine X.sq ?_
            refine V.seq ?_
            refine V.region ?_
            refine L.rd (rd_move rfl) rfl ?_
            refine L.rd (rd_move rfl) rfl ?_
            refine L.rd (rd_lenSlice tok rfl rfl rfl) rfl ?_
            (refine L.rd (rd_sub3 rfl rfl ?_) rfl ?_; omega)
            refine L.rd (rd_build (out := [_, _]) tok rfl rfl rfl rfl rfl) rfl ?_
            refine L.ef (e_store (vs := [_, _]) tok rfl rfl rfl rfl hr11 rfl (by simp [Value.oneCell']) (by simp) ?_)
            refine L.rd (rd_assign rfl) rfl ?_
            refine L.nil ?_
            refine X.sq ?_
            refine V.ret ?_
            refine ret_c1 tok Yaam.results49 rfl rfl rfl rfl (Bl.cells (hr11.set _ _)) rfl ?_
            refine ⟨_, flat (cn t) 0, _, rfl, ?_, fun t2 ht2 => ?_, fun hn => (by cases hn), hE11.set (by omega) _ _⟩
            · rw [hflc, ← holn]
              refine own_low (own_same hown fun q hq => ?_) (by omega : w.heap.size ≤ wr.heap.size)
              have := (own_block_lt hown hq).1
              exact (Rg.set (w := w11) (lo := w.heap.size + 1) (hi := w.heap.size + 2) (by omega) 34 _).block q (own_block_lt hown hq).2 (by omega)
            · simp only [Option.some.injEq] at ht2
              subst ht2
              exact ⟨rfl, by omega⟩
end Go.Proofs.YbxaawGreat
