/-
  impl.DiffPoly, walked.
-/
import Derived.Test.YbxacwDiffP
import Derived.Test.YbxacwCanW3
set_option linter.unusedVariables false
set_option linter.unusedSimpArgs false
set_option maxRecDepth 10000
namespace Go.Proofs.Ybxacw
open Go.Mw

theorem idiffP_ok (va : Value) (Ls : List Lt) (v : Int) (w : World) {lo hi : Nat} (hT : Tl w lo hi va Ls) (hS : Sm (pol Ls)) : Ret Yacm.prog 23 [.agg #[va], .int .i64 v] w (RPost 110 117 (difP (pol Ls) v) w) := by
  obtain ⟨aa, ca, rfl, hfa⟩ := hT.form
  refine enter2 Yacm.func23 Yacm.ntmps23 (by kernel_rfl) rfl rfl ?_
  refine V.seq ?_
  refine V.region ?_
  refine L.ef (e_box (cs := [_]) rfl rfl (by first | (simp only [size_addB, size_setB, size_drew]; rfl) | rfl) rfl ?_)
  refine L.ef (e_alloc (cs := [_]) tok rfl rfl (by first | (simp only [size_addB, size_setB, size_drew]; rfl) | rfl) rfl ?_)
  refine L.rd (rd_assign rfl) rfl ?_
  refine L.nil ?_
  refine X.sq ?_
  refine V.seq ?_
  refine V.seq ?_
  have hp := (Bl.new w 46 [.slice aa Ls.length ca]).add 46 [.slice none 0 0]
  have hr0 := Bl.new' (w := addB w 46 [.slice aa Ls.length ca]) (b := w.heap.size + 1) (by rw [size_addB]) 46 [.slice none 0 0]
  have hE := ((Ext.refl _ w).addNew 46 [.slice aa Ls.length ca]).addNew 46 [.slice none 0 0]
  refine V.region ?_
  refine L.rd (rd_loadN tok rfl rfl rfl hp.cells rfl) rfl ?_
  refine L.ef (e_call rfl (ican_ok _ Ls _ (hT.ext hE) hS) rfl ?_)
  rintro _ w1 ⟨rfl, he1⟩
  replace hp := he1.bl hp.lt hp
  replace hr0 := he1.bl hr0.lt hr0
  replace hE := hE.next he1
  first | refine L.rd (rd_not rfl) rfl ?_ | refine L.rd (rd_notB rfl) rfl ?_
  refine L.rd (rd_move rfl) rfl ?_
  first | refine L.partG rfl rfl (fun g14 => ?_) (fun g14 => ?_) | refine L.partGB rfl rfl (fun g14 => ?_) (fun g14 => ?_)
  ·
    refine L.no rfl rfl rfl rfl ?_
    refine L.no rfl rfl rfl rfl ?_
    refine L.rd (rd_pickT rfl rfl) rfl ?_
    refine L.rd (rd_move rfl) rfl ?_
    refine L.no rfl rfl rfl rfl ?_
    refine L.no rfl rfl rfl rfl ?_
    refine L.rd (rd_pickT rfl rfl) rfl ?_
    refine L.nil ?_
    refine X.sq ?_
    refine V.condT rfl ?_
    refine V.seq ?_
    refine V.region ?_
    refine L.rd (rd_build (out := [_]) tok rfl rfl rfl rfl rfl) rfl ?_
    refine L.ef (e_store (vs := [_]) tok rfl rfl rfl rfl hr0 rfl (by simp [Value.oneCell']) (by simp) ?_)
    refine L.rd (rd_assign rfl) rfl ?_
    refine L.nil ?_
    refine X.sq ?_
    refine V.ret ?_
    refine X.sqRet ?_
    refine ret_c1 tok Yacm.results23 rfl rfl rfl rfl (Bl.cells (hr0.set _ _)) rfl ?_
    have hbad : difP (pol Ls) v = none := by
      unfold difP
      rw [if_neg]
      rintro ⟨h1, h2, h3⟩
      first
        | (have : canon (pol Ls) = false := by simpa using g14
           rw [h1] at this; cases this)
        | omega
    exact ⟨_, [], by rw [hbad]; rfl, OwnT.nil _ _ _ _ _, by rw [hbad]; rfl, hE.set (by omega) _ _⟩
  ·
    have hC : canon (pol Ls) = true := by simpa using g14
    have hL : Ls.length ≤ 4096 := by have := canon_len hC; rwa [pol_length] at this
    refine L.yes rfl rfl ?_
    refine L.rd (rd_move rfl) rfl ?_
    refine L.yes rfl rfl ?_
    refine L.rd (rd_lss rfl rfl) rfl ?_
    refine L.rd (rd_pickF rfl rfl) rfl ?_
    refine L.rd (rd_move rfl) rfl ?_
    first | refine L.partG rfl rfl (fun g18 => ?_) (fun g18 => ?_) | refine L.partGB rfl rfl (fun g18 => ?_) (fun g18 => ?_)
    ·
      refine L.no rfl rfl rfl rfl ?_
      refine L.no rfl rfl rfl rfl ?_
      refine L.rd (rd_pickT rfl rfl) rfl ?_
      refine L.nil ?_
      refine X.sq ?_
      refine V.condT rfl ?_
      refine V.seq ?_
      refine V.region ?_
      refine L.rd (rd_build (out := [_]) tok rfl rfl rfl rfl rfl) rfl ?_
      refine L.ef (e_store (vs := [_]) tok rfl rfl rfl rfl hr0 rfl (by simp [Value.oneCell']) (by simp) ?_)
      refine L.rd (rd_assign rfl) rfl ?_
      refine L.nil ?_
      refine X.sq ?_
      refine V.ret ?_
      refine X.sqRet ?_
      refine ret_c1 tok Yacm.results23 rfl rfl rfl rfl (Bl.cells (hr0.set _ _)) rfl ?_
      have hbad : difP (pol Ls) v = none := by
        unfold difP
        rw [if_neg]
        rintro ⟨h1, h2, h3⟩
        first
          | (have : canon (pol Ls) = false := by simpa using g14
             rw [h1] at this; cases this)
          | omega
      exact ⟨_, [], by rw [hbad]; rfl, OwnT.nil _ _ _ _ _, by rw [hbad]; rfl, hE.set (by omega) _ _⟩
    ·
      refine L.yes rfl rfl ?_
      refine L.rd (rd_move rfl) rfl ?_
      refine L.yes rfl rfl ?_
      refine L.rd (rd_gtr rfl rfl) rfl ?_
      refine L.rd (rd_pickF rfl rfl) rfl ?_
      refine L.nil ?_
      refine X.sq ?_
      first | refine V.cond rfl (fun h21 => ?_) (fun h21 => ?_) | refine V.condB rfl (fun h21 => ?_) (fun h21 => ?_)
      ·
        refine V.seq ?_
        refine V.region ?_
        refine L.rd (rd_build (out := [_]) tok rfl rfl rfl rfl rfl) rfl ?_
        refine L.ef (e_store (vs := [_]) tok rfl rfl rfl rfl hr0 rfl (by simp [Value.oneCell']) (by simp) ?_)
        refine L.rd (rd_assign rfl) rfl ?_
        refine L.nil ?_
        refine X.sq ?_
        refine V.ret ?_
        refine X.sqRet ?_
        refine ret_c1 tok Yacm.results23 rfl rfl rfl rfl (Bl.cells (hr0.set _ _)) rfl ?_
        have hbad : difP (pol Ls) v = none := by
          unfold difP
          rw [if_neg]
          rintro ⟨h1, h2, h3⟩
          first
            | (have : canon (pol Ls) = false := by simpa using g14
               rw [h1] at this; cases this)
            | omega
        exact ⟨_, [], by rw [hbad]; rfl, OwnT.nil _ _ _ _ _, by rw [hbad]; rfl, hE.set (by omega) _ _⟩
      ·
        refine V.skip ?_
        refine X.sq ?_
        refine V.seq ?_
        obtain ⟨vn, rfl⟩ : ∃ vn : Nat, v = vn := ⟨v.toNat, by omega⟩
        have hv26 : vn < 26 := by omega
        have hgood := dms_good hC hv26
        have hdif : difP (pol Ls) (vn : Int) = some (toP (nf (dms (pol Ls) vn))) := by
          unfold difP
          rw [if_pos ⟨hC, by omega, by omega⟩, Int.toNat_natCast]
        have hpl := hp.lt
        have hrl := hr0.lt
        have hw1 := hE.size
        refine V.region ?_
        refine L.ef (e_make0 (e := 114) tok rfl rfl rfl rfl rfl rfl rfl (by first | (simp only [size_addB, size_setB, size_drew]; rfl) | rfl) rfl ?_)
        refine L.rd (rd_assign rfl) rfl ?_
        refine L.nil ?_
        refine X.sq ?_
        refine V.seq ?_
        refine V.seq ?_
        refine V.region ?_
        refine L.rd (rd_assign rfl) rfl ?_
        refine L.nil ?_
        refine X.sq ?_
        refine V.block ?_
        refine V.loop (fun m l wr => ∃ (k : Nat) (mv : Value) (M : List MT), l = [(1, .int .i64 vn), (2, .pointer (some ⟨w.heap.size, 0, none⟩)), (4, .pointer (some ⟨w.heap.size + 1, 0, none⟩)), (6, mv), (7, .int .i64 k)] ∧ m = Ls.length - k ∧ k ≤ Ls.length ∧ Ext w1.heap.size w1 wr ∧ wr.ownsRow w1.heap.size 114 28 mv M.length (M.flatMap mnE) ∧ M = ((ms (pol Ls)).take k).filterMap (dM vn) ∧ M.length ≤ k) ?_ ?_
        ·
          exact ⟨_, _, (by repeat' (first | exact trivial | refine ⟨rfl, ?_⟩)), 0, _, [], rfl, rfl, by omega, (Ext.refl _ _).addNew _ _, own_empty (Bl.new _ _ _) (Nat.le_refl _), by simp, by simp⟩
        ·
          rintro m l wr ⟨k, mv, M, rfl, rfl, hk, hE1, hO, hM, hMk⟩
          have hpr := hE1.bl hp.lt hp
          have hEr := hE.next hE1
          have hwr := hE1.size
          refine V.seq ?_
          refine V.seq ?_
          refine V.region ?_
          refine L.rd (rd_move rfl) rfl ?_
          refine L.rd (rd_fieldAddr tok rfl rfl rfl rfl rfl rfl) rfl ?_
          refine L.rd (rd_load1 tok rfl rfl rfl (hpr.cell rfl)) rfl ?_
          refine L.rd (rd_lenSlice tok rfl rfl rfl) rfl ?_
          refine L.rd (rd_lss rfl rfl) rfl ?_
          refine L.nil ?_
          refine X.sq ?_
          first | refine V.cond rfl (fun h28 => ?_) (fun h28 => ?_) | refine V.condB rfl (fun h28 => ?_) (fun h28 => ?_)
          ·
            obtain ⟨b1, o1, rfl, -, -, hc1⟩ := hfa.resolve_left (by omega)
            obtain ⟨⟨c, fv, fs⟩, ht⟩ := nth_of_lt Ls k (by omega)
            have hcx := Tl.cells (hc1.le hEr.leC) ht
            have hCT := canon_nth hC (pol_get ht)
            have hsub := ((hT.ext hEr).sub _ (List.mem_of_getElem? ht)).rs
            have hsn := dms_snoc (v := vn) (pol_get ht)
            have hFg := Fg.of_ct hCT
            have hfvv := hCT.fv
            simp only at hcx hsub hsn hFg hfvv
            rw [← hM] at hsn
            generalize hvv : vec fs = u at hsn hfvv
            obtain ⟨x, hx, hx0, hx1⟩ := hfvv.rv.nth hv26
            have hgd : u.getD vn 0 = x := by rw [List.getD_eq_getElem?_getD, hx]; rfl
            have hul := hfvv.len
            refine V.skip ?_
            refine X.sq ?_
            refine V.seq ?_
            refine V.cut (fun l w' => ∃ (mv' : Value) (M' : List MT), l = [(1, .int .i64 vn), (2, .pointer (some ⟨w.heap.size, 0, none⟩)), (4, .pointer (some ⟨w.heap.size + 1, 0, none⟩)), (6, mv'), (7, .int .i64 k)] ∧ Ext w1.heap.size w1 w' ∧ w'.ownsRow w1.heap.size 114 28 mv' M'.length (M'.flatMap mnE) ∧ M' = ((ms (pol Ls)).take (k + 1)).filterMap (dM vn) ∧ M'.length ≤ k + 1) ?_ ?_
            ·
              refine V.block ?_
              refine V.seq ?_
              refine V.region ?_
              refine L.rd (rd_fieldAddr tok rfl rfl rfl rfl rfl rfl) rfl ?_
              refine L.rd (rd_load1 tok rfl rfl rfl (hpr.cell rfl)) rfl ?_
              refine L.rd (rd_move rfl) rfl ?_
              (refine L.rd (rd_indexSlice (sz := 2) tok rfl rfl rfl rfl rfl rfl rfl ?_) rfl ?_; omega)
              refine L.rd (rd_loadN tok rfl rfl rfl hcx rfl) rfl ?_
              refine L.ef (e_call rfl (monoOf_ok c fv fs _ hsub hFg) rfl ?_)
              rintro _ w3 ⟨rfl, -, he3⟩
              rw [hvv]
              refine L.ef (e_alloc (cs := mC 0 z26 0) tok rfl rfl (by first | (simp only [size_addB, size_setB, size_drew]; rfl) | rfl) rfl ?_)
              refine L.ef (e_store (vs := mnE (c, u)) tok rfl rfl rfl rfl (cs := mC 0 z26 0) (by (repeat (first | assumption | (refine Bl.new' ?_ _ _; first | with_reducible rfl | (simp only [size_addB, size_setB, size_drew]; done)) | apply Bl.add | apply Bl.drew | (apply Bl.setNe; omega) | (refine Bl.set' ?_ _ _; (try simp only [size_addB, size_setB, size_drew]); omega)))) (mnE_len _) (mnE_one _) (by rw [mnE_len, mC_len, z26_len]; decide) ?_)
              (rw [putAll _ _ (by rw [mnE_len, mC_len, z26_len])])
              refine L.nil ?_
              refine X.sq ?_
              refine V.seq ?_
              obtain ⟨w4, hw4⟩ : ∃ w4, w4 = setB (addB w3 114 (mC 0 z26 0)) w3.heap.size 114 (mnE (c, u)) := ⟨_, rfl⟩
              have hbm : Bl w4 w3.heap.size 114 (mC c u (isum u)) := by rw [hw4, ← mnE_eq hul]; exact Bl.set' (by rw [size_addB]; omega) _ _
              have he4 : Ext w3.heap.size w3 w4 := by rw [hw4]; exact ((Ext.refl _ _).addNew _ _).set (Nat.le_refl _) _ _
              rw [← hw4]
              have he34 := he3.next he4
              have hE4 := hE1.next he34
              have hO4 := own_ext hO he34
              have hs3 := he3.size
              have hs4 := he4.size
              have hml := hbm.lt
              refine V.region ?_
              refine L.rd (rd_move rfl) rfl ?_
              refine L.rd (rd_fieldAddr tok rfl rfl rfl rfl rfl rfl) rfl ?_
              (refine L.rd (rd_indexArr (n := 26) (sz := 1) tok rfl rfl rfl rfl rfl rfl rfl rfl ?_) rfl ?_; omega)
              refine L.rd (rd_load1 tok rfl rfl rfl (cell_at hbm (mC_get hx) (by simp))) rfl ?_
              refine L.rd (rd_assign rfl) rfl ?_
              refine L.nil ?_
              refine X.sq ?_
              refine V.seq ?_
              refine V.seq ?_
              refine V.region ?_
              refine L.rd (rd_move rfl) rfl ?_
              refine L.rd (rd_lss rfl rfl) rfl ?_
              refine L.nil ?_
              refine X.sq ?_
              first | refine V.cond rfl (fun h42 => ?_) (fun h42 => ?_) | refine V.condB rfl (fun h42 => ?_) (fun h42 => ?_)
              ·
                refine V.exit ?_
                refine X.sqExit ?_
                refine X.bkHere ?_
                have hd : dM vn (c, u) = none := by unfold dM; rw [if_pos (by simp only [hgd]; omega)]
                rw [hd] at hsn
                exact X.ct ⟨_, (by repeat' (first | exact trivial | refine ⟨rfl, ?_⟩)), mv, M, rfl, hE4, hO4, by rw [hsn]; simp, by omega⟩
              ·
                refine V.skip ?_
                refine X.sq ?_
                refine V.seq ?_
                refine V.region ?_
                refine L.rd (rd_fieldAddr tok rfl rfl rfl rfl rfl rfl) rfl ?_
                refine L.rd (rd_load1 tok rfl rfl rfl (cell_at (i := 0) hbm rfl rfl)) rfl ?_
                refine L.rd (rd_move rfl) rfl ?_
                refine L.rd (rd_mulE (r := w64 (c * x)) rfl rfl rfl) rfl ?_
                refine L.rd (rd_assign rfl) rfl ?_
                refine L.nil ?_
                refine X.sq ?_
                refine V.seq ?_
                refine V.seq ?_
                refine V.region ?_
                refine L.rd (rd_move rfl) rfl ?_
                refine L.rd (rd_eql rfl rfl) rfl ?_
                refine L.nil ?_
                refine X.sq ?_
                first | refine V.cond rfl (fun h48 => ?_) (fun h48 => ?_) | refine V.condB rfl (fun h48 => ?_) (fun h48 => ?_)
                ·
                  refine V.exit ?_
                  refine X.sqExit ?_
                  refine X.bkHere ?_
                  have hd : dM vn (c, u) = none := by unfold dM; rw [if_neg (by simp only [hgd]; omega), if_pos (by simp only [hgd]; exact h48)]
                  rw [hd] at hsn
                  exact X.ct ⟨_, (by repeat' (first | exact trivial | refine ⟨rfl, ?_⟩)), mv, M, rfl, hE4, hO4, by rw [hsn]; simp, by omega⟩
                ·
                  have hd : dM vn (c, u) = some (w64 (c * x), u.set vn (x - 1)) := by unfold dM; rw [if_neg (by simp only [hgd]; omega), if_neg (by simp only [hgd]; exact h48)]; simp only [hgd]
                  rw [hd] at hsn
                  have hsum : isum (u.set vn (x - 1)) = isum u - 1 := by rw [isum_set _ _ _ (by omega), hgd]; omega
                  have hsb := hfvv.bound
                  refine V.skip ?_
                  refine X.sq ?_
                  refine V.seq ?_
                  refine V.region ?_
                  refine L.rd (rd_move rfl) rfl ?_
                  refine L.rd (rd_fieldAddr tok rfl rfl rfl rfl rfl rfl) rfl ?_
                  refine L.ef (e_store (vs := [_]) tok rfl rfl rfl rfl hbm rfl (by simp [Value.oneCell']) (by simp [mC_len]) ?_)
                  (simp only [Nat.zero_add])
                  rw [mC_putC]
                  refine L.nil ?_
                  refine X.sq ?_
                  refine V.seq ?_
                  refine V.region ?_
                  refine L.rd (rd_move rfl) rfl ?_
                  refine L.rd (rd_move rfl) rfl ?_
                  (refine L.rd (rd_sub3 rfl rfl ?_) rfl ?_; omega)
                  refine L.rd (rd_fieldAddr tok rfl rfl rfl rfl rfl rfl) rfl ?_
                  (refine L.rd (rd_indexArr (n := 26) (sz := 1) tok rfl rfl rfl rfl rfl rfl rfl rfl ?_) rfl ?_; omega)
                  refine L.ef (e_store (vs := [_]) tok rfl rfl rfl rfl (cs := mC (w64 (c * x)) u (isum u)) (Bl.set' hml _ _) rfl (by simp [Value.oneCell']) (by simp only [mC_len, List.length_cons, List.length_nil]; simp; omega) ?_)
                  (simp only [Nat.zero_add, Nat.mul_one, Int.toNat_natCast])
                  rw [mC_putE _ _ _ _ _ (by omega)]
                  refine L.nil ?_
                  refine X.sq ?_
                  refine V.seq ?_
                  refine V.region ?_
                  refine L.rd (rd_fieldAddr tok rfl rfl rfl rfl rfl rfl) rfl ?_
                  refine L.rd (rd_load1 tok rfl rfl rfl (cell_at (i := 27) (cs := mC (w64 (c * x)) (u.set vn (x - 1)) (isum u)) (Bl.set' (by rw [size_setB]; exact hml) _ _) (mC_deg (by simpa using hul)) rfl)) rfl ?_
                  (refine L.rd (rd_sub3 rfl rfl ?_) rfl ?_; omega)
                  refine L.rd (rd_fieldAddr tok rfl rfl rfl rfl rfl rfl) rfl ?_
                  refine L.ef (e_store (vs := [_]) tok rfl rfl rfl rfl (cs := mC (w64 (c * x)) (u.set vn (x - 1)) (isum u)) (Bl.set' (by rw [size_setB]; exact hml) _ _) rfl (by simp [Value.oneCell']) (by simp only [mC_len, List.length_cons, List.length_nil, List.length_set]; omega) ?_)
                  (simp only [Nat.zero_add])
                  rw [mC_putD _ _ _ _ (by simpa using hul), ← hsum]
                  refine L.nil ?_
                  refine X.sq ?_
                  generalize hw5 : setB _ _ _ _ = w5
                  have hbm5 : Bl w5 w3.heap.size 114 (mnE (w64 (c * x), u.set vn (x - 1))) := by rw [mnE_eq (by simpa using hul), ← hw5]; refine Bl.set' ?_ _ _; (try simp only [size_setB]); exact hml
                  have he5 : Ext w3.heap.size w3 w5 := by rw [← hw5]; repeat (first | assumption | refine Ext.set ?_ (Nat.le_refl _) _ _)
                  have he35 := he3.next he5
                  have hE5 := hE1.next he35
                  have hO5 := own_ext hO he35
                  have hs5 := hE5.size
                  refine V.region ?_
                  refine L.rd (rd_move rfl) rfl ?_
                  refine L.rd (rd_loadN tok rfl rfl rfl hbm5.cells (mnE_len _).symm) rfl ?_
                  refine L.ef (e_buildSlice1 (e := 114) (cs := mnE (w64 (c * x), u.set vn (x - 1))) tok rfl rfl rfl rfl rfl rfl rfl rfl (by rw [mnE_len]; rfl) (by first | (simp only [size_addB, size_setB, size_drew]; rfl) | rfl) rfl ?_)
                  refine L.ef (e_append (m := 1) tok rfl rfl rfl rfl rfl rfl rfl rfl rfl rfl (hO5.alloc _) (Bl.new _ _ _).cells (mnE_len _) (mnE_one _) (by unfold maxLen; omega) (by simp only []; omega) (by rw [size_addB]; omega) ?_)
                  rintro v6 w6 ho6 hg6
                  refine L.rd (rd_assign rfl) rfl ?_
                  refine L.nil ?_
                  refine X.bk ?_
                  refine X.ct ⟨_, (by repeat' (first | exact trivial | refine ⟨rfl, ?_⟩)), v6, M ++ [(w64 (c * x), u.set vn (x - 1))], rfl, (hE5.addNew _ _).grown hg6 (by rw [size_addB]; omega) (fun q hq => (own_block_lt hO5 hq).1), by rw [List.flatMap_append, List.length_append]; simpa using ho6, by rw [hsn]; rfl, by rw [List.length_append]; simp; omega⟩
            ·
              rintro l w7 ⟨mv7, M7, rfl, hE7, hO7, hM7, hl7⟩
              refine X.sq ?_
              refine V.region ?_
              refine L.rd (rd_move rfl) rfl ?_
              (refine L.rd (rd_add3 rfl rfl ?_) rfl ?_; omega)
              refine L.rd (rd_assign rfl) rfl ?_
              refine L.nil ?_
              exact X.lp ⟨_, _, by omega, (by repeat' (first | exact trivial | refine ⟨rfl, ?_⟩)), k + 1, mv7, M7, rfl, rfl, by omega, hE7, hO7, hM7, hl7⟩
          ·
            refine V.exit ?_
            refine X.sqExit ?_
            refine X.lpExit ?_
            refine X.bkHere ?_
            refine X.sq ?_
            refine V.seq ?_
            have hM2 : M = dms (pol Ls) vn := by
              rw [hM, List.take_of_length_le (by rw [ms_len, pol_length]; omega)]; rfl
            subst hM2
            refine V.region ?_
            refine L.rd (rd_move rfl) rfl ?_
            refine L.ef (e_call rfl (finish_ok _ hgood.1 hgood.2.1 (by omega) _ _ _ hO hwr) rfl ?_)
            rintro _ w5 ⟨v5, L5, rfl, hO5, hq5, hg5⟩
            obtain ⟨a5, c5, rfl⟩ : ∃ a c, v5 = .slice a L5.length c := by
              rcases own_slc hO5.top with ⟨rfl, h0, _⟩ | ⟨g, cap, sp, _, hs⟩
              · rw [h0]; exact ⟨_, _, rfl⟩
              · exact ⟨_, _, hs.val⟩
            have hE5 : Ext w1.heap.size w1 w5 := hE1.grown hg5 hwr (fun q hq => (own_block_lt hO hq).1)
            have hr5 := hE5.bl hr0.lt hr0
            rw [hgood.2.2.2] at hq5 ⊢
            rw [if_pos rfl] at hq5
            refine L.rd (rd_ext0 rfl) rfl ?_
            refine L.rd (rd_ext1 rfl) rfl ?_
            refine L.ef (e_store (vs := [_]) tok rfl rfl rfl rfl hr5 rfl (by simp [Value.oneCell']) (by simp) ?_)
            refine L.rd (rd_assign rfl) rfl ?_
            refine L.nil ?_
            refine X.sq ?_
            refine V.ret ?_
            refine ret_c1 tok Yacm.results23 rfl rfl rfl rfl (Bl.cells (hr5.set _ _)) rfl ?_
            refine ⟨_, L5, by rw [hdif]; rfl, ?_, by rw [hdif]; exact hq5, (hE.next hE5).set (by omega) _ _⟩
            rw [size_setB]
            exact (hO5.rg (Rg.set (lo := w.heap.size + 1) (hi := w.heap.size + 2) (by omega) _ _) (by omega)).low (by omega)
end Go.Proofs.Ybxacw
