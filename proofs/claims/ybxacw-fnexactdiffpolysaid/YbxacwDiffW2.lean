/-
  spec.DiffPoly, walked.
-/
import Derived.Test.YbxacwDiffW
import Derived.Test.YbxacwCanW2
set_option linter.unusedVariables false
set_option linter.unusedSimpArgs false
set_option maxRecDepth 10000
namespace Go.Proofs.Ybxacw
open Go.Mw

theorem sdiffP_ok (va : Value) (Ls : List Lt) (v : Int) (w : World) {lo hi : Nat} (hT : Tl w lo hi va Ls) (hS : Sm (pol Ls)) : Ret Yacm.prog 18 [.agg #[va], .int .i64 v] w (RPost 110 117 (difP (pol Ls) v) w) := by
  obtain ⟨aa, ca, rfl, hfa⟩ := hT.form
  refine enter2 Yacm.func18 Yacm.ntmps18 (by kernel_rfl) rfl rfl ?_
  refine V.seq ?_
  refine V.region ?_
  refine L.ef (e_box (cs := [_]) rfl rfl (by first | (simp only [size_addB, size_setB, size_drew]; rfl) | rfl) rfl ?_)
  refine L.ef (e_alloc (cs := [_]) tok rfl rfl (by first | (simp only [size_addB, size_setB, size_drew]; rfl) | rfl) rfl ?_)
  refine L.rd (rd_assign rfl) rfl ?_
  refine L.nil ?_
  refine X.sq ?_
  refine V.seq ?_
  refine V.seq ?_
  have hp := (Bl.new w 46 [.slice aa Ls.length ca]).add 46 [.slice none 0 0]
  have hr0 := Bl.new' (w := addB w 46 [.slice aa Ls.length ca]) (b := w.heap.size + 1) (by rw [size_addB]) 46 [.slice none 0 0]
  have hE := ((Ext.refl _ w).addNew 46 [.slice aa Ls.length ca]).addNew 46 [.slice none 0 0]
  refine V.region ?_
  refine L.rd (rd_loadN tok rfl rfl rfl hp.cells rfl) rfl ?_
  refine L.ef (e_call rfl (scan_ok _ Ls _ (hT.ext hE) hS) rfl ?_)
  rintro _ w1 ⟨rfl, he1⟩
  replace hp := he1.bl hp.lt hp
  replace hr0 := he1.bl hr0.lt hr0
  replace hE := hE.next he1
  first | refine L.rd (rd_not rfl) rfl ?_ | refine L.rd (rd_notB rfl) rfl ?_
  refine L.rd (rd_move rfl) rfl ?_
  first | refine L.partG rfl rfl (fun g15 => ?_) (fun g15 => ?_) | refine L.partGB rfl rfl (fun g15 => ?_) (fun g15 => ?_)
  ·
    refine L.no rfl rfl rfl rfl ?_
    refine L.no rfl rfl rfl rfl ?_
    refine L.rd (rd_pickT rfl rfl) rfl ?_
    refine L.rd (rd_move rfl) rfl ?_
    refine L.no rfl rfl rfl rfl ?_
    refine L.no rfl rfl rfl rfl ?_
    refine L.rd (rd_pickT rfl rfl) rfl ?_
    refine L.nil ?_
    refine X.sq ?_
    refine V.condT rfl ?_
    refine V.seq ?_
    refine V.region ?_
    refine L.rd (rd_build (out := [_]) tok rfl rfl rfl rfl rfl) rfl ?_
    refine L.ef (e_store (vs := [_]) tok rfl rfl rfl rfl hr0 rfl (by simp [Value.oneCell']) (by simp) ?_)
    refine L.rd (rd_assign rfl) rfl ?_
    refine L.nil ?_
    refine X.sq ?_
    refine V.ret ?_
    refine X.sqRet ?_
    refine ret_c1 tok Yacm.results18 rfl rfl rfl rfl (Bl.cells (hr0.set _ _)) rfl ?_
    have hbad : difP (pol Ls) v = none := by
      unfold difP
      rw [if_neg]
      rintro ⟨h1, h2, h3⟩
      first
        | (have : canon (pol Ls) = false := by simpa using g15
           rw [h1] at this; cases this)
        | omega
    exact ⟨_, [], by rw [hbad]; rfl, OwnT.nil _ _ _ _ _, by rw [hbad]; rfl, hE.set (by omega) _ _⟩
  ·
    have hC : canon (pol Ls) = true := by simpa using g15
    have hL : Ls.length ≤ 4096 := by have := canon_len hC; rwa [pol_length] at this
    refine L.yes rfl rfl ?_
    refine L.rd (rd_move rfl) rfl ?_
    refine L.yes rfl rfl ?_
    refine L.rd (rd_lss rfl rfl) rfl ?_
    refine L.rd (rd_pickF rfl rfl) rfl ?_
    refine L.rd (rd_move rfl) rfl ?_
    first | refine L.partG rfl rfl (fun g19 => ?_) (fun g19 => ?_) | refine L.partGB rfl rfl (fun g19 => ?_) (fun g19 => ?_)
    ·
      refine L.no rfl rfl rfl rfl ?_
      refine L.no rfl rfl rfl rfl ?_
      refine L.rd (rd_pickT rfl rfl) rfl ?_
      refine L.nil ?_
      refine X.sq ?_
      refine V.condT rfl ?_
      refine V.seq ?_
      refine V.region ?_
      refine L.rd (rd_build (out := [_]) tok rfl rfl rfl rfl rfl) rfl ?_
      refine L.ef (e_store (vs := [_]) tok rfl rfl rfl rfl hr0 rfl (by simp [Value.oneCell']) (by simp) ?_)
      refine L.rd (rd_assign rfl) rfl ?_
      refine L.nil ?_
      refine X.sq ?_
      refine V.ret ?_
      refine X.sqRet ?_
      refine ret_c1 tok Yacm.results18 rfl rfl rfl rfl (Bl.cells (hr0.set _ _)) rfl ?_
      have hbad : difP (pol Ls) v = none := by
        unfold difP
        rw [if_neg]
        rintro ⟨h1, h2, h3⟩
        first
          | (have : canon (pol Ls) = false := by simpa using g15
             rw [h1] at this; cases this)
          | omega
      exact ⟨_, [], by rw [hbad]; rfl, OwnT.nil _ _ _ _ _, by rw [hbad]; rfl, hE.set (by omega) _ _⟩
    ·
      refine L.yes rfl rfl ?_
      refine L.rd (rd_move rfl) rfl ?_
      refine L.yes rfl rfl ?_
      refine L.rd (rd_geq rfl rfl) rfl ?_
      refine L.rd (rd_pickF rfl rfl) rfl ?_
      refine L.nil ?_
      refine X.sq ?_
      first | refine V.cond rfl (fun h22 => ?_) (fun h22 => ?_) | refine V.condB rfl (fun h22 => ?_) (fun h22 => ?_)
      ·
        refine V.seq ?_
        refine V.region ?_
        refine L.rd (rd_build (out := [_]) tok rfl rfl rfl rfl rfl) rfl ?_
        refine L.ef (e_store (vs := [_]) tok rfl rfl rfl rfl hr0 rfl (by simp [Value.oneCell']) (by simp) ?_)
        refine L.rd (rd_assign rfl) rfl ?_
        refine L.nil ?_
        refine X.sq ?_
        refine V.ret ?_
        refine X.sqRet ?_
        refine ret_c1 tok Yacm.results18 rfl rfl rfl rfl (Bl.cells (hr0.set _ _)) rfl ?_
        have hbad : difP (pol Ls) v = none := by
          unfold difP
          rw [if_neg]
          rintro ⟨h1, h2, h3⟩
          first
            | (have : canon (pol Ls) = false := by simpa using g15
               rw [h1] at this; cases this)
            | omega
        exact ⟨_, [], by rw [hbad]; rfl, OwnT.nil _ _ _ _ _, by rw [hbad]; rfl, hE.set (by omega) _ _⟩
      ·
        refine V.skip ?_
        refine X.sq ?_
        refine V.seq ?_
        obtain ⟨vn, rfl⟩ : ∃ vn : Nat, v = vn := ⟨v.toNat, by omega⟩
        have hv26 : vn < 26 := by omega
        have hgood := dms_good hC hv26
        have hdif : difP (pol Ls) (vn : Int) = some (toP (nf (dms (pol Ls) vn))) := by
          unfold difP
          rw [if_pos ⟨hC, by omega, by omega⟩, Int.toNat_natCast]
        have hpl := hp.lt
        have hrl := hr0.lt
        have hw1 := hE.size
        refine V.region ?_
        refine L.rd (rd_assign rfl) rfl ?_
        refine L.nil ?_
        refine X.sq ?_
        refine V.seq ?_
        refine V.seq ?_
        refine V.region ?_
        refine L.rd (rd_loadN tok rfl rfl rfl hp.cells rfl) rfl ?_
        refine L.ef (e_call rfl (polyToM_ok _ Ls _ (hT.ext hE) hC) rfl ?_)
        rintro v2 w2 ⟨hO2, he2⟩
        obtain ⟨ma, mc, rfl, hfm⟩ := (Rs.of_own hO2).form
        replace hE := hE.next he2
        replace hr0 := he2.bl hr0.lt hr0
        have hs2 := he2.size
        refine L.rd (rd_lenSlice tok rfl rfl rfl) rfl ?_
        refine L.rd (rd_move rfl) rfl ?_
        refine L.nil ?_
        refine X.sq ?_
        refine V.block ?_
        refine V.loop (fun m l wr => ∃ (k : Nat) (mv : Value) (M : List MT), l = [(1, .int .i64 vn), (4, .pointer (some ⟨w.heap.size + 1, 0, none⟩)), (6, mv), (25, .slice ma Ls.length mc), (26, .int .i64 Ls.length), (27, .int .i64 k)] ∧ m = Ls.length - k ∧ k ≤ Ls.length ∧ Ext w2.heap.size w2 wr ∧ wr.ownsRow w2.heap.size 102 27 mv M.length (M.flatMap mtE) ∧ M = ((ms (pol Ls)).take k).filterMap (dM vn) ∧ M.length ≤ k) ?_ ?_
        ·
          exact ⟨_, _, (by repeat' (first | exact trivial | refine ⟨rfl, ?_⟩)), 0, _, [], rfl, rfl, by omega, Ext.refl _ _, World.ownsRow_nil _ _ _ _, by simp, by simp⟩
        ·
          rintro m l wr ⟨k, mv, M, rfl, rfl, hk, hE1, hO, hM, hMk⟩
          have hwr := hE1.size
          refine V.seq ?_
          refine V.region ?_
          refine L.rd (rd_lss rfl rfl) rfl ?_
          refine L.nil ?_
          refine X.sq ?_
          refine V.seq ?_
          first | refine V.cond rfl (fun h28 => ?_) (fun h28 => ?_) | refine V.condB rfl (fun h28 => ?_) (fun h28 => ?_)
          ·
            obtain ⟨g, go, rfl, hcg⟩ := hfm.resolve_left (by omega)
            obtain ⟨⟨c, fv, fs⟩, ht⟩ := nth_of_lt Ls k (by omega)
            have hcx := (hcg.le hE1.leC).sub (k * 27) (mtE (c, vec fs)) (fun j v hv => fm_get mtE_len _ k _ (ms_get (pol_get ht)) j v hv)
            have hCT := canon_nth hC (pol_get ht)
            have hsn := dms_snoc (v := vn) (pol_get ht)
            have hfvv := hCT.fv
            simp only at hcx hsn hfvv
            rw [← hM] at hsn
            generalize hvv : vec fs = u at hsn hfvv hcx
            obtain ⟨x, hx, hx0, hx1⟩ := hfvv.rv.nth hv26
            have hgd : u.getD vn 0 = x := by rw [List.getD_eq_getElem?_getD, hx]; rfl
            have hul := hfvv.len
            have hmx := mtE_get (c := c) hul hx
            refine V.skip ?_
            refine X.sq ?_
            refine V.seq ?_
            refine V.cut (fun l w' => ∃ (mv' : Value) (M' : List MT), l = [(1, .int .i64 vn), (4, .pointer (some ⟨w.heap.size + 1, 0, none⟩)), (6, mv'), (25, .slice (some ⟨g, go, none⟩) Ls.length mc), (26, .int .i64 Ls.length), (27, .int .i64 k)] ∧ Ext w2.heap.size w2 w' ∧ w'.ownsRow w2.heap.size 102 27 mv' M'.length (M'.flatMap mtE) ∧ M' = ((ms (pol Ls)).take (k + 1)).filterMap (dM vn) ∧ M'.length ≤ k + 1) ?_ ?_
            ·
              refine V.block ?_
              refine V.seq ?_
              refine V.region ?_
              (refine L.rd (rd_indexSlice (sz := 27) tok rfl rfl rfl rfl rfl rfl rfl ?_) rfl ?_; omega)
              refine L.rd (rd_loadN tok rfl rfl rfl hcx (mtE_len _).symm) rfl ?_
              refine L.ef (e_alloc (cs := .int .i64 0 :: iC .i32 z26) tok rfl rfl (by first | (simp only [size_addB, size_setB, size_drew]; rfl) | rfl) rfl ?_)
              refine L.ef (e_store (vs := mtE (c, u)) tok rfl rfl rfl rfl (cs := .int .i64 0 :: iC .i32 z26) (by (repeat (first | assumption | (refine Bl.new' ?_ _ _; first | with_reducible rfl | (simp only [size_addB, size_setB, size_drew]; done)) | apply Bl.add | apply Bl.drew | (apply Bl.setNe; omega) | (refine Bl.set' ?_ _ _; (try simp only [size_addB, size_setB, size_drew]); omega)))) (mtE_len _) (mtE_one _) (by rw [mtE_len]; simp [iC, z26]) ?_)
              (rw [putAll _ _ (by rw [mtE_len]; simp [iC, z26])])
              refine L.nil ?_
              refine X.sq ?_
              refine V.seq ?_
              generalize hw4 : setB _ _ _ _ = w4
              have hbm : Bl w4 wr.heap.size 102 (mtE (c, u)) := by rw [← hw4]; refine Bl.set' ?_ _ _; rw [size_addB]; omega
              have he4 : Ext wr.heap.size wr w4 := by rw [← hw4]; exact ((Ext.refl _ _).addNew _ _).set (Nat.le_refl _) _ _
              have hE4 := hE1.next he4
              have hO4 := own_ext hO he4
              have hs4 := he4.size
              refine V.region ?_
              refine L.rd (rd_move rfl) rfl ?_
              refine L.rd (rd_fieldAddr tok rfl rfl rfl rfl rfl rfl) rfl ?_
              (refine L.rd (rd_indexArr (n := 26) (sz := 1) tok rfl rfl rfl rfl rfl rfl rfl rfl ?_) rfl ?_; omega)
              refine L.rd (rd_load1 tok rfl rfl rfl (cell_at hbm hmx (by simp))) rfl ?_
              refine L.rd (rd_assign rfl) rfl ?_
              refine L.nil ?_
              refine X.sq ?_
              refine V.seq ?_
              refine V.seq ?_
              refine V.region ?_
              refine L.rd (rd_move rfl) rfl ?_
              refine L.rd (rd_lss rfl rfl) rfl ?_
              refine L.nil ?_
              refine X.sq ?_
              first | refine V.cond rfl (fun h36 => ?_) (fun h36 => ?_) | refine V.condB rfl (fun h36 => ?_) (fun h36 => ?_)
              ·
                refine V.exit ?_
                refine X.sqExit ?_
                refine X.bkHere ?_
                have hd : dM vn (c, u) = none := by unfold dM; rw [if_pos (by simp only [hgd]; omega)]
                rw [hd] at hsn
                exact X.ct ⟨_, (by repeat' (first | exact trivial | refine ⟨rfl, ?_⟩)), mv, M, rfl, hE4, hO4, by rw [hsn]; simp, by omega⟩
              ·
                refine V.skip ?_
                refine X.sq ?_
                refine V.seq ?_
                refine V.region ?_
                refine L.rd (rd_fieldAddr tok rfl rfl rfl rfl rfl rfl) rfl ?_
                refine L.rd (rd_load1 tok rfl rfl rfl (cell_at (i := 0) hbm rfl rfl)) rfl ?_
                refine L.rd (rd_move rfl) rfl ?_
                refine L.rd (rd_convE (r := x) tok rfl rfl rfl rfl rfl (wrap_i64_in (by omega))) rfl ?_
                refine L.rd (rd_mulE (r := w64 (c * x)) rfl rfl rfl) rfl ?_
                refine L.rd (rd_assign rfl) rfl ?_
                refine L.nil ?_
                refine X.sq ?_
                refine V.seq ?_
                refine V.seq ?_
                refine V.region ?_
                refine L.rd (rd_move rfl) rfl ?_
                refine L.rd (rd_eql rfl rfl) rfl ?_
                refine L.nil ?_
                refine X.sq ?_
                first | refine V.cond rfl (fun h43 => ?_) (fun h43 => ?_) | refine V.condB rfl (fun h43 => ?_) (fun h43 => ?_)
                ·
                  refine V.exit ?_
                  refine X.sqExit ?_
                  refine X.bkHere ?_
                  have hd : dM vn (c, u) = none := by unfold dM; rw [if_neg (by simp only [hgd]; omega), if_pos (by simp only [hgd]; exact h43)]
                  rw [hd] at hsn
                  exact X.ct ⟨_, (by repeat' (first | exact trivial | refine ⟨rfl, ?_⟩)), mv, M, rfl, hE4, hO4, by rw [hsn]; simp, by omega⟩
                ·
                  have hd : dM vn (c, u) = some (w64 (c * x), u.set vn (x - 1)) := by unfold dM; rw [if_neg (by simp only [hgd]; omega), if_neg (by simp only [hgd]; exact h43)]; simp only [hgd]
                  rw [hd] at hsn
                  refine V.skip ?_
                  refine X.sq ?_
                  refine V.seq ?_
                  refine V.region ?_
                  refine L.rd (rd_loadN tok rfl rfl rfl hbm.cells (mtE_len _).symm) rfl ?_
                  refine L.ef (e_alloc (cs := .int .i64 0 :: iC .i32 z26) tok rfl rfl (by first | (simp only [size_addB, size_setB, size_drew]; rfl) | rfl) rfl ?_)
                  refine L.ef (e_store (vs := mtE (c, u)) tok rfl rfl rfl rfl (cs := .int .i64 0 :: iC .i32 z26) (by (repeat (first | assumption | (refine Bl.new' ?_ _ _; first | with_reducible rfl | (simp only [size_addB, size_setB, size_drew]; done)) | apply Bl.add | apply Bl.drew | (apply Bl.setNe; omega) | (refine Bl.set' ?_ _ _; (try simp only [size_addB, size_setB, size_drew]); omega)))) (mtE_len _) (mtE_one _) (by rw [mtE_len]; simp [iC, z26]) ?_)
                  (rw [putAll _ _ (by rw [mtE_len]; simp [iC, z26]), mtE_eq hul])
                  refine L.nil ?_
                  refine X.sq ?_
                  refine V.seq ?_
                  generalize hw5 : setB _ _ _ _ = w5
                  have hbu : Bl w5 w4.heap.size 102 (.int .i64 c :: iC .i32 u) := by rw [← hw5]; refine Bl.set' ?_ _ _; rw [size_addB]; omega
                  have he5 : Ext w4.heap.size w4 w5 := by rw [← hw5]; exact ((Ext.refl _ _).addNew _ _).set (Nat.le_refl _) _ _
                  have hul5 := hbu.lt
                  refine V.region ?_
                  refine L.rd (rd_move rfl) rfl ?_
                  refine L.rd (rd_fieldAddr tok rfl rfl rfl rfl rfl rfl) rfl ?_
                  refine L.ef (e_store (vs := [_]) tok rfl rfl rfl rfl hbu rfl (by simp [Value.oneCell']) (by simp) ?_)
                  (simp only [Nat.zero_add])
                  rw [cI_putC]
                  refine L.nil ?_
                  refine X.sq ?_
                  refine V.seq ?_
                  refine V.region ?_
                  refine L.rd (rd_move rfl) rfl ?_
                  refine L.rd (rd_move rfl) rfl ?_
                  refine L.rd (rd_subE (r := x - 1) rfl rfl (wrap_i32_in (by omega))) rfl ?_
                  refine L.rd (rd_fieldAddr tok rfl rfl rfl rfl rfl rfl) rfl ?_
                  (refine L.rd (rd_indexArr (n := 26) (sz := 1) tok rfl rfl rfl rfl rfl rfl rfl rfl ?_) rfl ?_; omega)
                  refine L.ef (e_store (vs := [_]) tok rfl rfl rfl rfl (cs := .int .i64 (w64 (c * x)) :: iC .i32 u) (Bl.set' hul5 _ _) rfl (by simp [Value.oneCell']) (by simp only [iC_len, List.length_cons, List.length_nil]; simp; omega) ?_)
                  (simp only [Nat.zero_add, Nat.mul_one, Int.toNat_natCast])
                  rw [cI_putE _ _ _ _ (by omega)]
                  refine L.nil ?_
                  refine X.sq ?_
                  generalize hw6 : setB _ _ _ _ = w6
                  have hb6 : Bl w6 w4.heap.size 102 (mtE (w64 (c * x), u.set vn (x - 1))) := by rw [mtE_eq (by simpa using hul), ← hw6]; refine Bl.set' ?_ _ _; (try simp only [size_setB]); exact hul5
                  have he6 : Ext w4.heap.size w4 w6 := by rw [← hw6]; repeat (first | assumption | refine Ext.set ?_ (Nat.le_refl _) _ _)
                  have he46 := he4.next he6
                  have hE6 := hE1.next he46
                  have hO6 := own_ext hO he46
                  have hs6 := hE6.size
                  refine V.region ?_
                  refine L.rd (rd_move rfl) rfl ?_
                  refine L.rd (rd_loadN tok rfl rfl rfl hb6.cells (mtE_len _).symm) rfl ?_
                  refine L.ef (e_buildSlice1 (e := 102) (cs := mtE (w64 (c * x), u.set vn (x - 1))) tok rfl rfl rfl rfl rfl rfl rfl rfl (by rw [mtE_len]; rfl) (by first | (simp only [size_addB, size_setB, size_drew]; rfl) | rfl) rfl ?_)
                  refine L.ef (e_append (m := 1) tok rfl rfl rfl rfl rfl rfl rfl rfl rfl rfl (hO6.alloc _) (Bl.new _ _ _).cells (mtE_len _) (mtE_one _) (by unfold maxLen; omega) (by simp only []; omega) (by rw [size_addB]; omega) ?_)
                  rintro v8 w8 ho8 hg8
                  refine L.rd (rd_assign rfl) rfl ?_
                  refine L.nil ?_
                  refine X.bk ?_
                  refine X.ct ⟨_, (by repeat' (first | exact trivial | refine ⟨rfl, ?_⟩)), v8, M ++ [(w64 (c * x), u.set vn (x - 1))], rfl, (hE6.addNew _ _).grown hg8 (by rw [size_addB]; omega) (fun q hq => (own_block_lt hO6 hq).1), by rw [List.flatMap_append, List.length_append]; simpa using ho8, by rw [hsn]; rfl, by rw [List.length_append]; simp; omega⟩
            ·
              rintro l w7 ⟨mv7, M7, rfl, hE7, hO7, hM7, hl7⟩
              refine X.sq ?_
              refine V.region ?_
              (refine L.rd (rd_add3 rfl rfl ?_) rfl ?_; omega)
              refine L.rd (rd_move rfl) rfl ?_
              refine L.nil ?_
              exact X.lp ⟨_, _, by omega, (by repeat' (first | exact trivial | refine ⟨rfl, ?_⟩)), k + 1, mv7, M7, rfl, rfl, by omega, hE7, hO7, hM7, hl7⟩
          ·
            refine V.exit ?_
            refine X.sqExit ?_
            refine X.lpExit ?_
            refine X.bkHere ?_
            refine X.sq ?_
            refine V.seq ?_
            have hM2 : M = dms (pol Ls) vn := by
              rw [hM, List.take_of_length_le (by rw [ms_len, pol_length]; omega)]; rfl
            subst hM2
            refine V.region ?_
            refine L.rd (rd_move rfl) rfl ?_
            refine L.ef (e_call rfl (mergeTerms_ok _ hgood.1 hgood.2.1 (by omega) _ _ (Sl.of_own hO)) rfl ?_)
            rintro v5 w5 ⟨hO5, he5⟩
            have hnl := nf_len (dms (pol Ls) vn)
            have hnv : Vl (nf (dms (pol Ls) vn)) := fun t ht => by
              obtain ⟨y, hy, he⟩ := nf_mem ht
              rw [← he]; exact hgood.1 y hy
            refine L.ef (e_call rfl (fromM_ok _ hnv (by omega) _ _ (Sl.of_own hO5)) rfl ?_)
            rintro _ w6 ⟨v6, rfl, L6, hO6, hq6, he6⟩
            obtain ⟨a6, c6, rfl⟩ : ∃ a c, v6 = .slice a L6.length c := by
              rcases own_slc hO6.top with ⟨rfl, h0, _⟩ | ⟨g, cap, sp, _, hs⟩
              · rw [h0]; exact ⟨_, _, rfl⟩
              · exact ⟨_, _, hs.val⟩
            have hE6 := (hE1.next he5).next he6
            have hr6 := hE6.bl hr0.lt hr0
            have hs5 := he5.size
            refine L.ef (e_store (vs := [_]) tok rfl rfl rfl rfl hr6 rfl (by simp [Value.oneCell']) (by simp) ?_)
            refine L.rd (rd_assign rfl) rfl ?_
            refine L.nil ?_
            refine X.sq ?_
            refine V.ret ?_
            refine ret_c1 tok Yacm.results18 rfl rfl rfl rfl (Bl.cells (hr6.set _ _)) rfl ?_
            refine ⟨_, L6, by rw [hdif]; rfl, ?_, by rw [hdif]; exact hq6, (hE.next hE6).set (by omega) _ _⟩
            rw [size_setB]
            exact (hO6.rg (Rg.set (lo := w.heap.size + 1) (hi := w.heap.size + 2) (by omega) _ _) (by omega)).low (by omega)
end Go.Proofs.Ybxacw
