/-
  spec.PrintPoly, walked.
-/
import Derived.Test.YbxacwPrintW
import Derived.Test.YbxacwMtW
set_option linter.unusedVariables false
set_option linter.unusedSimpArgs false
set_option maxRecDepth 10000
namespace Go.Mw
end Go.Mw
namespace Go.Proofs.Ybxacw
open Go.Mw

theorem sprint_ok (va : Value) (Ls : List Lt) (w : World) {lo hi : Nat} (hT : Tl w lo hi va Ls) (hS : Sm (pol Ls)) : Ret Yacm.prog 33 [.agg #[va]] w (PPost (pol Ls) w) := by
  obtain ⟨aa, ca, rfl, hfa⟩ := hT.form
  refine enter1 Yacm.func33 Yacm.ntmps33 (by kernel_rfl) rfl rfl ?_
  refine V.seq ?_
  refine V.region ?_
  refine L.ef (e_box (cs := [_]) rfl rfl (by first | (simp only [size_addB, size_setB, size_drew]; rfl) | rfl) rfl ?_)
  refine L.rd (rd_assign rfl) rfl ?_
  refine L.rd (rd_assign rfl) rfl ?_
  refine L.nil ?_
  refine X.sq ?_
  refine V.seq ?_
  refine V.seq ?_
  have hp := Bl.new w 46 [.slice aa Ls.length ca]
  have hE := (Ext.refl _ w).addNew 46 [.slice aa Ls.length ca]
  refine V.region ?_
  refine L.rd (rd_loadN tok rfl rfl rfl hp.cells rfl) rfl ?_
  refine L.ef (e_call rfl (scan_ok _ Ls _ (hT.ext hE) hS) rfl ?_)
  rintro _ w1 ⟨rfl, he1⟩
  replace hp := he1.bl hp.lt hp
  replace hE := hE.next he1
  first | refine L.rd (rd_not rfl) rfl ?_ | refine L.rd (rd_notB rfl) rfl ?_
  refine L.nil ?_
  refine X.sq ?_
  first | refine V.cond rfl (fun h11 => ?_) (fun h11 => ?_) | refine V.condB rfl (fun h11 => ?_) (fun h11 => ?_)
  ·
    have hC : canon (pol Ls) = false := by simpa using h11
    refine V.seq ?_
    refine V.region ?_
    refine L.rd (rd_assign rfl) rfl ?_
    refine L.rd (rd_assign rfl) rfl ?_
    refine L.nil ?_
    refine X.sq ?_
    refine V.ret ?_
    refine X.sqRet ?_
    refine ret_2 Yacm.results33 rfl rfl ?_
    exact PPost.bad hC hE
  ·
    have hC : canon (pol Ls) = true := by simpa using h11
    have hL : Ls.length ≤ 4096 := by have := canon_len hC; rwa [pol_length] at this
    refine V.skip ?_
    refine X.sq ?_
    refine V.seq ?_
    refine V.seq ?_
    refine V.region ?_
    refine L.rd (rd_fieldAddr tok rfl rfl rfl rfl rfl rfl) rfl ?_
    refine L.rd (rd_load1 tok rfl rfl rfl (hp.cell rfl)) rfl ?_
    refine L.rd (rd_lenSlice tok rfl rfl rfl) rfl ?_
    refine L.rd (rd_eql rfl rfl) rfl ?_
    refine L.nil ?_
    refine X.sq ?_
    first | refine V.cond rfl (fun h15 => ?_) (fun h15 => ?_) | refine V.condB rfl (fun h15 => ?_) (fun h15 => ?_)
    ·
      refine V.seq ?_
      refine V.region ?_
      refine L.rd (rd_assign rfl) rfl ?_
      refine L.rd (rd_assign rfl) rfl ?_
      refine L.nil ?_
      refine X.sq ?_
      refine V.ret ?_
      refine X.sqRet ?_
      refine ret_2 Yacm.results33 rfl rfl ?_
      have hnil : Ls = [] := List.eq_nil_of_length_eq_zero (by omega)
      subst hnil
      exact PPost.good hC hE rfl
    ·
      refine V.skip ?_
      refine X.sq ?_
      refine V.seq ?_
      refine V.region ?_
      refine L.rd (rd_assign rfl) rfl ?_
      refine L.nil ?_
      refine X.sq ?_
      refine V.seq ?_
      refine V.seq ?_
      refine V.region ?_
      refine L.rd (rd_loadN tok rfl rfl rfl hp.cells rfl) rfl ?_
      refine L.ef (e_call rfl (polyToM_ok _ Ls _ (hT.ext hE) hC) rfl ?_)
      rintro v2 w2 ⟨hO, he2⟩
      obtain ⟨g, cap, sp, hgB, hsl⟩ := (own_slc hO).resolve_left (fun h => by omega)
      obtain ⟨rfl, hbg, -, -, -, -⟩ := hsl
      replace hE := hE.next he2
      refine L.rd (rd_lenSlice tok rfl rfl rfl) rfl ?_
      refine L.rd (rd_move rfl) rfl ?_
      refine L.nil ?_
      refine X.sq ?_
      refine V.block ?_
      refine V.loop (fun m l wr => ∃ (k : Nat) (bv : Value) (acc : List Nat), l = [(4, bv), (17, .slice (some ⟨g, 0, none⟩) Ls.length cap), (18, .int .i64 Ls.length), (19, .int .i64 k)] ∧ m = Ls.length - k ∧ k ≤ Ls.length ∧ Bf 5 w wr bv acc ∧ Bl wr g 102 ((ms (pol Ls)).flatMap mtE ++ sp) ∧ acc.length ≤ k * 800 ∧ prQ (pol Ls) false = acc ++ prQ ((pol Ls).drop k) (decide (k ≠ 0))) ?_ ?_
      ·
        exact ⟨_, _, (by repeat' (first | exact trivial | refine ⟨rfl, ?_⟩)), 0, _, [], rfl, rfl, by omega, ⟨World.ownsRow_nil _ _ _ _, hE⟩, hbg, by simp, by simp⟩
      ·
        clear hE hp hbg
        rintro m l wr ⟨k, bv, acc, rfl, rfl, hk, hB, hbg, hal, hpr⟩
        have hE := hB.ext
        refine V.seq ?_
        refine V.region ?_
        refine L.rd (rd_lss rfl rfl) rfl ?_
        refine L.nil ?_
        refine X.sq ?_
        refine V.seq ?_
        first | refine V.cond rfl (fun h20 => ?_) (fun h20 => ?_) | refine V.condB rfl (fun h20 => ?_) (fun h20 => ?_)
        ·
          obtain ⟨⟨c, fv, fs⟩, ht⟩ := nth_of_lt Ls k (by omega)
          have hcx := row_cells mtE_len hbg (ms_get (pol_get ht))
          have hCT := canon_nth hC (pol_get ht)
          have hwr := hE.size
          have hgl := hbg.lt
          have hfvv := hCT.fv
          have hvl := hfvv.len
          have hsp := hCT.sp
          have hd0 := hCT.deg0
          rw [prQ_step (pol_get ht)] at hpr
          simp only at hcx hpr hfvv hvl hsp hd0
          generalize hvv : vec fs = v at hcx hfvv hvl hsp hd0
          refine V.skip ?_
          refine X.sq ?_
          refine V.seq ?_
          refine V.cut (fun l w' => ∃ (bv' : Value) (acc' : List Nat), l = [(4, bv'), (17, .slice (some ⟨g, 0, none⟩) Ls.length cap), (18, .int .i64 Ls.length), (19, .int .i64 k)] ∧ Bf 5 w w' bv' acc' ∧ Bl w' g 102 ((ms (pol Ls)).flatMap mtE ++ sp) ∧ acc'.length ≤ acc.length + 800 ∧ acc' = acc ++ (plus k ++ prT (c, fs))) ?_ ?_
          ·
            refine V.block ?_
            refine V.seq ?_
            refine V.region ?_
            refine L.rd (rd_move rfl) rfl ?_
            (refine L.rd (rd_indexSlice (sz := 27) tok rfl rfl rfl rfl rfl rfl rfl ?_) rfl ?_; omega)
            refine L.rd (rd_loadN tok rfl rfl rfl hcx (mtE_len _).symm) rfl ?_
            refine L.ef (e_alloc (cs := .int .i64 0 :: iC .i32 z26) tok rfl rfl (by first | (simp only [size_addB, size_setB, size_drew]; rfl) | rfl) rfl ?_)
            refine L.rd (rd_assign rfl) rfl ?_
            refine L.ef (e_store (vs := mtE (c, v)) tok rfl rfl rfl rfl (cs := .int .i64 0 :: iC .i32 z26) (by (repeat (first | assumption | (refine Bl.new' ?_ _ _; first | with_reducible rfl | (simp only [size_addB, size_setB, size_drew]; done)) | apply Bl.add | apply Bl.drew | (apply Bl.setNe; omega) | (refine Bl.set' ?_ _ _; (try simp only [size_addB, size_setB, size_drew]); omega)))) (mtE_len _) (mtE_one _) (by rw [mtE_len]; simp [iC, z26]) ?_)
            (rw [putAll _ _ (by rw [mtE_len]; simp [iC, z26])])
            refine L.nil ?_
            refine X.sq ?_
            refine V.seq ?_
            refine V.seq ?_
            have hbt : Bl (setB (addB wr 102 (.int .i64 0 :: iC .i32 z26)) wr.heap.size 102 (mtE (c, v))) wr.heap.size 102 (mtE (c, v)) := Bl.set' (by rw [size_addB]; omega) _ _
            have hB1 := (hB.add 102 (.int .i64 0 :: iC .i32 z26)).set (Bl.new _ _ _) rfl hwr 102 (mtE (c, v))
            have hbg1 := (hbg.add 102 (.int .i64 0 :: iC .i32 z26)).setNe (b' := wr.heap.size) (by omega) 102 (mtE (c, v))
            refine V.region ?_
            refine L.rd (rd_move rfl) rfl ?_
            refine L.rd (rd_gtr rfl rfl) rfl ?_
            refine L.nil ?_
            refine X.sq ?_
            refine V.cut (fun l w' => ∃ (bv' : Value) (acc2 : List Nat), l = [(4, bv'), (6, .pointer (some ⟨wr.heap.size, 0, none⟩)), (17, .slice (some ⟨g, 0, none⟩) Ls.length cap), (18, .int .i64 Ls.length), (19, .int .i64 k)] ∧ Bf 5 w w' bv' acc2 ∧ Bl w' wr.heap.size 102 (mtE (c, v)) ∧ Bl w' g 102 ((ms (pol Ls)).flatMap mtE ++ sp) ∧ acc2 = acc ++ plus k) ?_ ?_
            ·
              first | refine V.cond rfl (fun h25 => ?_) (fun h25 => ?_) | refine V.condB rfl (fun h25 => ?_) (fun h25 => ?_)
              ·
                refine V.region ?_
                refine L.rd (rd_move rfl) rfl ?_
                refine L.ef (e_buildSlice1 (e := 5) (cs := [_]) tok rfl rfl rfl rfl rfl rfl rfl rfl rfl (by first | (simp only [size_addB, size_setB, size_drew]; rfl) | rfl) rfl ?_)
                refine L.ef (e_appB (c := 43) tok rfl rfl rfl rfl rfl rfl rfl rfl rfl (by first | rfl | (simp only [size_addB, size_setB, size_drew])) rfl hB1 (by omega) ?_)
                rintro v2 w2 hB2 hkp2
                refine L.rd (rd_assign rfl) rfl ?_
                refine L.nil ?_
                exact X.ct ⟨_, (by repeat' (first | exact trivial | refine ⟨rfl, ?_⟩)), _, _, rfl, hB2, hkp2 _ _ _ hbt rfl, hkp2 _ _ _ hbg1 rfl, by unfold plus; rw [if_neg (by omega)]⟩
              ·
                refine V.skip ?_
                exact X.ct ⟨_, (by repeat' (first | exact trivial | refine ⟨rfl, ?_⟩)), _, acc, rfl, hB1, hbt, hbg1, by unfold plus; rw [if_pos (by omega)]; simp⟩
            ·
              clear hbt hB1 hbg1 hbg
              rintro l w2 ⟨bv2, acc2, rfl, hB2, hbt, hbg, ha2⟩
              have hl2 : acc2.length ≤ acc.length + 1 := by rw [ha2, List.length_append]; have := plus_len k; omega
              refine X.sq ?_
              refine V.seq ?_
              refine V.seq ?_
              refine V.region ?_
              refine L.rd (rd_fieldAddr tok rfl rfl rfl rfl rfl rfl) rfl ?_
              refine L.rd (rd_loadN tok rfl rfl rfl (mt_cells hbt.cells hvl) (hfvv.rv.c26 _)) rfl ?_
              refine L.ef (e_call rfl (degOf_ok v hfvv.rv _) rfl ?_)
              rintro _ w3 ⟨rfl, he3⟩
              replace hbt := he3.bl hbt.lt hbt
              replace hbg := he3.bl hbg.lt hbg
              replace hB2 := hB2.next he3
              refine L.rd (rd_eql rfl rfl) rfl ?_
              refine L.nil ?_
              refine X.sq ?_
              first | refine V.cond rfl (fun h32 => ?_) (fun h32 => ?_) | refine V.condB rfl (fun h32 => ?_) (fun h32 => ?_)
              ·
                have hnil : fs = [] := hd0.1 h32
                rw [hnil]
                refine V.seq ?_
                refine V.region ?_
                refine L.rd (rd_move rfl) rfl ?_
                refine L.rd (rd_fieldAddr tok rfl rfl rfl rfl rfl rfl) rfl ?_
                refine L.rd (rd_load1 tok rfl rfl rfl (hbt.cell rfl)) rfl ?_
                refine L.ef (e_call rfl (UDec_ok c _) rfl ?_)
                rintro _ w4 ⟨rfl, he4⟩
                replace hbg := he4.bl hbg.lt hbg
                refine L.ef (e_appS tok rfl rfl rfl rfl rfl rfl rfl rfl rfl rfl rfl rfl (hB2.next he4) (by rw [mkS_size]; have := udec_len c; omega) ?_)
                rintro v4 w5 hB4 hkp4
                rw [bl_mkS _ (udec_lt c)] at hB4
                refine L.rd (rd_assign rfl) rfl ?_
                refine L.nil ?_
                refine X.sq ?_
                refine V.exit ?_
                refine X.sqExit ?_
                refine X.bkHere ?_
                exact X.ct ⟨_, (by repeat' (first | exact trivial | refine ⟨rfl, ?_⟩)), _, _, rfl, hB4, hkp4 _ _ _ hbg rfl, by rw [List.length_append]; have := udec_len c; omega, by rw [ha2, prT_none, List.append_assoc]⟩
              ·
                have hnn : fs ≠ [] := fun e => h32 (hd0.2 e)
                refine V.skip ?_
                refine X.sq ?_
                refine V.seq ?_
                refine V.region ?_
                refine L.rd (rd_assign rfl) rfl ?_
                refine L.nil ?_
                refine X.sq ?_
                refine V.seq ?_
                refine V.seq ?_
                refine V.region ?_
                refine L.rd (rd_fieldAddr tok rfl rfl rfl rfl rfl rfl) rfl ?_
                refine L.rd (rd_load1 tok rfl rfl rfl (hbt.cell rfl)) rfl ?_
                refine L.rd (rd_neq rfl rfl) rfl ?_
                refine L.nil ?_
                refine X.sq ?_
                refine V.cut (fun l w' => ∃ (bv' : Value) (acc3 : List Nat) (b : Bool), l = [(4, bv'), (6, .pointer (some ⟨wr.heap.size, 0, none⟩)), (7, .bool b), (17, .slice (some ⟨g, 0, none⟩) Ls.length cap), (18, .int .i64 Ls.length), (19, .int .i64 k)] ∧ Bf 5 w w' bv' acc3 ∧ Bl w' wr.heap.size 102 (mtE (c, v)) ∧ Bl w' g 102 ((ms (pol Ls)).flatMap mtE ++ sp) ∧ acc3.length ≤ acc2.length + 20 ∧ acc2 ++ prT (c, fs) = acc3 ++ pf fs b) ?_ ?_
                ·
                  first | refine V.cond rfl (fun h40 => ?_) (fun h40 => ?_) | refine V.condB rfl (fun h40 => ?_) (fun h40 => ?_)
                  ·
                    refine V.seq ?_
                    refine V.region ?_
                    refine L.rd (rd_move rfl) rfl ?_
                    refine L.rd (rd_fieldAddr tok rfl rfl rfl rfl rfl rfl) rfl ?_
                    refine L.rd (rd_load1 tok rfl rfl rfl (hbt.cell rfl)) rfl ?_
                    refine L.ef (e_call rfl (UDec_ok c _) rfl ?_)
                    rintro _ w4 ⟨rfl, he4⟩
                    replace hbt := he4.bl hbt.lt hbt
                    replace hbg := he4.bl hbg.lt hbg
                    refine L.ef (e_appS tok rfl rfl rfl rfl rfl rfl rfl rfl rfl rfl rfl rfl (hB2.next he4) (by rw [mkS_size]; have := udec_len c; omega) ?_)
                    rintro v4 w5 hB4 hkp4
                    rw [bl_mkS _ (udec_lt c)] at hB4
                    replace hbt := hkp4 _ _ _ hbt rfl
                    replace hbg := hkp4 _ _ _ hbg rfl
                    refine L.rd (rd_assign rfl) rfl ?_
                    refine L.nil ?_
                    refine X.sq ?_
                    refine V.region ?_
                    refine L.rd (rd_assign rfl) rfl ?_
                    refine L.nil ?_
                    exact X.ct ⟨_, (by repeat' (first | exact trivial | refine ⟨rfl, ?_⟩)), _, _, false, rfl, hB4, hbt, hbg, by rw [List.length_append]; have := udec_len c; omega, by unfold prT; rw [if_neg hnn, if_neg h40, List.append_assoc]⟩
                  ·
                    refine V.skip ?_
                    exact X.ct ⟨_, (by repeat' (first | exact trivial | refine ⟨rfl, ?_⟩)), _, acc2, true, rfl, hB2, hbt, hbg, by omega, by unfold prT; rw [if_neg hnn, if_pos (Decidable.not_not.1 h40)]⟩
                ·
                  clear hbt hbg
                  rintro l w3 ⟨bv3, acc3, b3, rfl, hB3, hbt, hbg, hl3, hp3⟩
                  refine X.sq ?_
                  refine V.seq ?_
                  refine V.region ?_
                  refine L.rd (rd_assign rfl) rfl ?_
                  refine L.nil ?_
                  refine X.sq ?_
                  refine V.block ?_
                  refine V.loop (fun m l w' => ∃ (i : Nat) (bv' : Value) (acc' : List Nat) (b : Bool), l = [(4, bv'), (6, .pointer (some ⟨wr.heap.size, 0, none⟩)), (7, .bool b), (8, .int .i64 i), (17, .slice (some ⟨g, 0, none⟩) Ls.length cap), (18, .int .i64 Ls.length), (19, .int .i64 k)] ∧ m = 26 - i ∧ i ≤ 26 ∧ Bf 5 w w' bv' acc' ∧ Bl w' wr.heap.size 102 (mtE (c, v)) ∧ Bl w' g 102 ((ms (pol Ls)).flatMap mtE ++ sp) ∧ acc'.length ≤ acc3.length + i * 23 ∧ acc2 ++ prT (c, fs) = acc' ++ pf (spF (v.drop i) i) b) ?_ ?_
                  ·
                    exact ⟨_, _, (by repeat' (first | exact trivial | refine ⟨rfl, ?_⟩)), 0, _, acc3, b3, rfl, rfl, by omega, hB3, hbt, hbg, by omega, by rw [List.drop_zero, hsp]; exact hp3⟩
                  ·
                    clear hbt hbg
                    rintro m l w6 ⟨i, bv6, acc6, b6, rfl, rfl, hi6, hB6, hbt, hbg, hl6, hp6⟩
                    refine V.seq ?_
                    refine V.seq ?_
                    refine V.region ?_
                    refine L.rd (rd_move rfl) rfl ?_
                    refine L.rd (rd_lss rfl rfl) rfl ?_
                    refine L.nil ?_
                    refine X.sq ?_
                    first | refine V.cond rfl (fun h47 => ?_) (fun h47 => ?_) | refine V.condB rfl (fun h47 => ?_) (fun h47 => ?_)
                    ·
                      obtain ⟨x, hx, hx0, hx1⟩ := hfvv.rv.nth (k := i) (by omega)
                      have hmx := mtE_get (c := c) hvl hx
                      rw [spF_step hx] at hp6
                      refine V.skip ?_
                      refine X.sq ?_
                      refine V.seq ?_
                      refine V.cut (fun l w' => ∃ (bv' : Value) (acc' : List Nat) (b : Bool), l = [(4, bv'), (6, .pointer (some ⟨wr.heap.size, 0, none⟩)), (7, .bool b), (8, .int .i64 i), (17, .slice (some ⟨g, 0, none⟩) Ls.length cap), (18, .int .i64 Ls.length), (19, .int .i64 k)] ∧ Bf 5 w w' bv' acc' ∧ Bl w' wr.heap.size 102 (mtE (c, v)) ∧ Bl w' g 102 ((ms (pol Ls)).flatMap mtE ++ sp) ∧ acc'.length ≤ acc6.length + 23 ∧ acc2 ++ prT (c, fs) = acc' ++ pf (spF (v.drop (i + 1)) (i + 1)) b) ?_ ?_
                      ·
                        refine V.block ?_
                        refine V.seq ?_
                        refine V.seq ?_
                        refine V.region ?_
                        refine L.rd (rd_move rfl) rfl ?_
                        refine L.rd (rd_fieldAddr tok rfl rfl rfl rfl rfl rfl) rfl ?_
                        (refine L.rd (rd_indexArr (n := 26) (sz := 1) tok rfl rfl rfl rfl rfl rfl rfl rfl ?_) rfl ?_; omega)
                        refine L.rd (rd_load1 tok rfl rfl rfl (cell_at hbt hmx (by simp))) rfl ?_
                        refine L.rd (rd_eql rfl rfl) rfl ?_
                        refine L.nil ?_
                        refine X.sq ?_
                        first | refine V.cond rfl (fun h54 => ?_) (fun h54 => ?_) | refine V.condB rfl (fun h54 => ?_) (fun h54 => ?_)
                        ·
                          refine V.exit ?_
                          refine X.sqExit ?_
                          refine X.bkHere ?_
                          rw [if_pos h54] at hp6
                          exact X.ct ⟨_, (by repeat' (first | exact trivial | refine ⟨rfl, ?_⟩)), _, acc6, b6, rfl, hB6, hbt, hbg, by omega, hp6⟩
                        ·
                          rw [if_neg h54, pf] at hp6
                          refine V.skip ?_
                          refine X.sq ?_
                          refine V.seq ?_
                          refine V.seq ?_
                          refine V.region ?_
                          refine L.rd (rd_move rfl) rfl ?_
                          first | refine L.rd (rd_not rfl) rfl ?_ | refine L.rd (rd_notB rfl) rfl ?_
                          refine L.nil ?_
                          refine X.sq ?_
                          refine V.cut (fun l w' => ∃ (bv' : Value) (acc' : List Nat), l = [(4, bv'), (6, .pointer (some ⟨wr.heap.size, 0, none⟩)), (8, .int .i64 i), (17, .slice (some ⟨g, 0, none⟩) Ls.length cap), (18, .int .i64 Ls.length), (19, .int .i64 k)] ∧ Bf 5 w w' bv' acc' ∧ Bl w' wr.heap.size 102 (mtE (c, v)) ∧ Bl w' g 102 ((ms (pol Ls)).flatMap mtE ++ sp) ∧ acc' = acc6 ++ (if b6 = true then [] else [42])) ?_ ?_
                          ·
                            first | refine V.cond rfl (fun h56 => ?_) (fun h56 => ?_) | refine V.condB rfl (fun h56 => ?_) (fun h56 => ?_)
                            ·
                              refine V.region ?_
                              refine L.rd (rd_move rfl) rfl ?_
                              refine L.ef (e_buildSlice1 (e := 5) (cs := [_]) tok rfl rfl rfl rfl rfl rfl rfl rfl rfl (by first | (simp only [size_addB, size_setB, size_drew]; rfl) | rfl) rfl ?_)
                              refine L.ef (e_appB (c := 42) tok rfl rfl rfl rfl rfl rfl rfl rfl rfl (by first | rfl | (simp only [size_addB, size_setB, size_drew])) rfl hB6 (by omega) ?_)
                              rintro v8 w8 hB8 hkp8
                              refine L.rd (rd_assign rfl) rfl ?_
                              refine L.nil ?_
                              exact X.ct ⟨_, (by repeat' (first | exact trivial | refine ⟨rfl, ?_⟩)), _, _, rfl, hB8, hkp8 _ _ _ hbt rfl, hkp8 _ _ _ hbg rfl, by rw [if_neg (by simpa using h56)]⟩
                            ·
                              refine V.skip ?_
                              exact X.ct ⟨_, (by repeat' (first | exact trivial | refine ⟨rfl, ?_⟩)), _, acc6, rfl, hB6, hbt, hbg, by rw [if_pos (by simpa using h56)]; simp⟩
                          ·
                            clear hbt hbg
                            rintro l w8 ⟨bv8, acc8, rfl, hB8, hbt, hbg, ha8⟩
                            have hl8 : acc8.length ≤ acc6.length + 1 := by rw [ha8, List.length_append]; split <;> simp
                            refine X.sq ?_
                            refine V.seq ?_
                            refine V.region ?_
                            refine L.rd (rd_assign rfl) rfl ?_
                            refine L.nil ?_
                            refine X.sq ?_
                            refine V.seq ?_
                            refine V.region ?_
                            refine L.rd (rd_move rfl) rfl ?_
                            refine L.rd (rd_move rfl) rfl ?_
                            (refine L.rd (rd_add3 rfl rfl ?_) rfl ?_; omega)
                            refine L.rd (rd_convE (r := ((97 + i : Nat) : Int)) tok rfl rfl rfl rfl rfl (by rw [wrap_u8_in (by omega)]; omega)) rfl ?_
                            refine L.ef (e_buildSlice1 (e := 5) (cs := [_]) tok rfl rfl rfl rfl rfl rfl rfl rfl rfl (by first | (simp only [size_addB, size_setB, size_drew]; rfl) | rfl) rfl ?_)
                            refine L.ef (e_appB (c := 97 + i) tok rfl rfl rfl rfl rfl rfl rfl rfl rfl (by first | rfl | (simp only [size_addB, size_setB, size_drew])) rfl hB8 (by omega) ?_)
                            rintro v9 w9 hB9 hkp9
                            replace hbt := hkp9 _ _ _ hbt rfl
                            replace hbg := hkp9 _ _ _ hbg rfl
                            refine L.rd (rd_assign rfl) rfl ?_
                            refine L.nil ?_
                            refine X.sq ?_
                            refine V.seq ?_
                            refine V.region ?_
                            refine L.rd (rd_move rfl) rfl ?_
                            refine L.rd (rd_fieldAddr tok rfl rfl rfl rfl rfl rfl) rfl ?_
                            (refine L.rd (rd_indexArr (n := 26) (sz := 1) tok rfl rfl rfl rfl rfl rfl rfl rfl ?_) rfl ?_; omega)
                            refine L.rd (rd_load1 tok rfl rfl rfl (cell_at hbt hmx (by simp))) rfl ?_
                            refine L.rd (rd_neq rfl rfl) rfl ?_
                            refine L.nil ?_
                            refine X.sq ?_
                            first | refine V.cond rfl (fun h70 => ?_) (fun h70 => ?_) | refine V.condB rfl (fun h70 => ?_) (fun h70 => ?_)
                            ·
                              refine V.seq ?_
                              refine V.region ?_
                              refine L.rd (rd_move rfl) rfl ?_
                              refine L.ef (e_buildSlice1 (e := 5) (cs := [_]) tok rfl rfl rfl rfl rfl rfl rfl rfl rfl (by first | (simp only [size_addB, size_setB, size_drew]; rfl) | rfl) rfl ?_)
                              refine L.ef (e_appB (c := 94) tok rfl rfl rfl rfl rfl rfl rfl rfl rfl (by first | rfl | (simp only [size_addB, size_setB, size_drew])) rfl hB9 (by simp only [List.length_append, List.length_cons, List.length_nil]; omega) ?_)
                              rintro v10 w10 hB10 hkp10
                              replace hbt := hkp10 _ _ _ hbt rfl
                              replace hbg := hkp10 _ _ _ hbg rfl
                              refine L.rd (rd_assign rfl) rfl ?_
                              refine L.nil ?_
                              refine X.sq ?_
                              refine V.region ?_
                              refine L.rd (rd_move rfl) rfl ?_
                              refine L.rd (rd_move rfl) rfl ?_
                              refine L.rd (rd_fieldAddr tok rfl rfl rfl rfl rfl rfl) rfl ?_
                              (refine L.rd (rd_indexArr (n := 26) (sz := 1) tok rfl rfl rfl rfl rfl rfl rfl rfl ?_) rfl ?_; omega)
                              refine L.rd (rd_load1 tok rfl rfl rfl (cell_at hbt hmx (by simp))) rfl ?_
                              refine L.rd (rd_convE (r := x) tok rfl rfl rfl rfl rfl (wrap_i64_in (by omega))) rfl ?_
                              refine L.ef (e_call rfl (UDec_ok x _) rfl ?_)
                              rintro _ w11 ⟨rfl, he11⟩
                              replace hbt := he11.bl hbt.lt hbt
                              replace hbg := he11.bl hbg.lt hbg
                              refine L.ef (e_appS tok rfl rfl rfl rfl rfl rfl rfl rfl rfl rfl rfl rfl (hB10.next he11) (by simp only [List.length_append, List.length_cons, List.length_nil, mkS_size]; have := udec_len x; omega) ?_)
                              rintro v12 w12 hB12 hkp12
                              rw [bl_mkS _ (udec_lt x)] at hB12
                              replace hbt := hkp12 _ _ _ hbt rfl
                              replace hbg := hkp12 _ _ _ hbg rfl
                              refine L.rd (rd_assign rfl) rfl ?_
                              refine L.nil ?_
                              refine X.bk ?_
                              refine X.ct ⟨_, (by repeat' (first | exact trivial | refine ⟨rfl, ?_⟩)), _, _, false, rfl, hB12, hbt, hbg, ?_, ?_⟩
                              · simp only [List.length_append, List.length_cons, List.length_nil]; have := udec_len x; omega
                              · rw [hp6, ha8]; simp [fac, h70]
                            ·
                              refine V.skip ?_
                              refine X.bk ?_
                              refine X.ct ⟨_, (by repeat' (first | exact trivial | refine ⟨rfl, ?_⟩)), _, _, false, rfl, hB9, hbt, hbg, ?_, ?_⟩
                              · simp only [List.length_append, List.length_cons, List.length_nil]; omega
                              · rw [hp6, ha8]; simp [fac, Decidable.not_not.1 h70]
                      ·
                        clear hbt hbg
                        rintro l w12 ⟨bv12, acc12, b12, rfl, hB12, hbt, hbg, hl12, ha12⟩
                        refine X.sq ?_
                        refine V.region ?_
                        refine L.rd (rd_move rfl) rfl ?_
                        (refine L.rd (rd_add3 rfl rfl ?_) rfl ?_; omega)
                        refine L.rd (rd_assign rfl) rfl ?_
                        refine L.nil ?_
                        exact X.lp ⟨_, _, by omega, (by repeat' (first | exact trivial | refine ⟨rfl, ?_⟩)), i + 1, _, acc12, b12, rfl, rfl, by omega, hB12, hbt, hbg, by omega, ha12⟩
                    ·
                      refine V.exit ?_
                      refine X.sqExit ?_
                      refine X.lpExit ?_
                      refine X.bkHere ?_
                      refine X.bk ?_
                      rw [drop_end (by omega)] at hp6
                      refine X.ct ⟨_, (by repeat' (first | exact trivial | refine ⟨rfl, ?_⟩)), _, acc6, rfl, hB6, hbg, by omega, ?_⟩
                      simp only [spF, pf, List.append_nil] at hp6
                      rw [← hp6, ha2]; simp only [List.append_assoc]
          ·
            clear hbg
            rintro l w5 ⟨bv5, acc5, rfl, hB5, hbg, hl5, he5⟩
            refine X.sq ?_
            refine V.region ?_
            (refine L.rd (rd_add3 rfl rfl ?_) rfl ?_; omega)
            refine L.rd (rd_move rfl) rfl ?_
            refine L.nil ?_
            refine X.lp ⟨_, _, by omega, (by repeat' (first | exact trivial | refine ⟨rfl, ?_⟩)), k + 1, bv5, acc5, rfl, rfl, by omega, hB5, hbg, by omega, ?_⟩
            rw [hpr, he5]; simp only [List.append_assoc]
        ·
          refine V.exit ?_
          refine X.sqExit ?_
          refine X.lpExit ?_
          refine X.bkHere ?_
          refine X.sq ?_
          refine V.seq ?_
          refine V.region ?_
          refine L.rd (rd_move rfl) rfl ?_
          refine L.rd (rd_bytesBf tok rfl rfl rfl rfl rfl rfl rfl rfl rfl hB) rfl ?_
          refine L.rd (rd_assign rfl) rfl ?_
          refine L.rd (rd_assign rfl) rfl ?_
          refine L.nil ?_
          refine X.sq ?_
          refine V.ret ?_
          refine ret_2 Yacm.results33 rfl rfl ?_
          refine PPost.good hC hB.ext ?_
          rw [drop_end (by rw [pol_length]; omega)] at hpr
          simp only [prQ, List.append_nil] at hpr
          rw [← hpr]
          unfold printP
          rw [if_neg]
          intro e
          have := congrArg List.length e
          rw [pol_length, List.length_nil] at this
          omega
end Go.Proofs.Ybxacw
