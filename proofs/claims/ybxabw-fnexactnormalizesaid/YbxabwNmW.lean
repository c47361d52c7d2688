/-
  impl.Normalize, walked.
-/
import Derived.Test.YbxabwBdW
import Derived.Test.YbxabwTermW
set_option linter.unusedVariables false
set_option linter.unusedSimpArgs false
set_option maxRecDepth 10000
namespace Go.Proofs.Ybxabw
open Go.Mw

theorem inorm_ok (va : Value) (Ls : List Lt) (w : World) {lo hi : Nat} (hT : Tl w lo hi va Ls) (hCq : Cq (pol Ls)) : Ret Yabm.prog 54 [va] w (RPost 133 135 (normP (pol Ls)) w) := by
  obtain ⟨aa, ca, rfl, hfa⟩ := hT.form
  refine enter1 Yabm.func54 Yabm.ntmps54 (by kernel_rfl) rfl rfl ?_
  refine V.seq ?_
  refine V.region ?_
  refine L.ef (e_alloc (cs := [_]) tok rfl rfl (by first | (simp only [size_addB, size_setB, size_drew]; rfl) | rfl) rfl ?_)
  refine L.rd (rd_assign rfl) rfl ?_
  refine L.nil ?_
  refine X.sq ?_
  refine V.seq ?_
  refine V.seq ?_
  have hr0 := Bl.new w 70 [.slice none 0 0]
  have hE0 := (Ext.refl _ w).addNew 70 [.slice none 0 0]
  refine V.region ?_
  refine L.rd (rd_move rfl) rfl ?_
  refine L.rd (rd_lenSlice tok rfl rfl rfl) rfl ?_
  refine L.rd (rd_gtr rfl rfl) rfl ?_
  refine L.nil ?_
  refine X.sq ?_
  first | refine V.cond rfl (fun h12 => ?_) (fun h12 => ?_) | refine V.condB rfl (fun h12 => ?_) (fun h12 => ?_)
  ·
    refine V.seq ?_
    refine V.region ?_
    refine L.rd (rd_build (out := [_]) tok rfl rfl rfl rfl rfl) rfl ?_
    refine L.ef (e_store (vs := [_]) tok rfl rfl rfl rfl hr0 rfl (by simp [Value.oneCell']) (by simp) ?_)
    refine L.rd (rd_assign rfl) rfl ?_
    refine L.nil ?_
    refine X.sq ?_
    refine V.ret ?_
    refine X.sqRet ?_
    refine ret_c1 tok Yabm.results54 rfl rfl rfl rfl (Bl.cells (hr0.set _ _)) rfl ?_
    have hbad : normP (pol Ls) = none := normP_bad (inOk_long (by rw [pol_length]; omega))
    exact ⟨_, [], by rw [hbad]; rfl, OwnT.nil _ _ _ _ _, by rw [hbad]; rfl, hE0.set (by omega) _ _⟩
  ·
    refine V.skip ?_
    refine X.sq ?_
    refine V.seq ?_
    refine V.seq ?_
    refine V.region ?_
    refine L.rd (rd_assign rfl) rfl ?_
    refine L.nil ?_
    refine X.sq ?_
    refine V.block ?_
    refine V.loop (fun m l wr => ∃ (k : Nat), l = [(0, .slice aa Ls.length ca), (2, .pointer (some ⟨w.heap.size, 0, none⟩)), (4, .int .i64 k)] ∧ m = Ls.length - k ∧ k ≤ Ls.length ∧ Ext w.heap.size w wr ∧ Bl wr w.heap.size 70 [.slice none 0 0] ∧ ((pol Ls).take k).all tgB = true) ?_ ?_
    ·
      exact ⟨_, _, (by repeat' (first | exact trivial | refine ⟨rfl, ?_⟩)), 0, rfl, rfl, by omega, hE0, hr0, by simp⟩
    ·
      clear hr0 hE0
      rintro m l wr ⟨k, rfl, rfl, hk, hE, hr, hall⟩
      refine V.seq ?_
      refine V.seq ?_
      refine V.region ?_
      refine L.rd (rd_move rfl) rfl ?_
      refine L.rd (rd_move rfl) rfl ?_
      refine L.rd (rd_lenSlice tok rfl rfl rfl) rfl ?_
      refine L.rd (rd_lss rfl rfl) rfl ?_
      refine L.nil ?_
      refine X.sq ?_
      first | refine V.cond rfl (fun h17 => ?_) (fun h17 => ?_) | refine V.condB rfl (fun h17 => ?_) (fun h17 => ?_)
      ·
        obtain ⟨b1, o1, rfl, -, -, hc1⟩ := hfa.resolve_left (by omega)
        obtain ⟨⟨c, fv, fs⟩, ht⟩ := nth_of_lt Ls k (by omega)
        have hcx := Tl.cells (hc1.le hE.leC) ht
        obtain ⟨fa, fc, hfv, hff⟩ := hT.nth ht
        have hpt := pol_get ht
        simp only at hfv hff hcx hpt
        subst hfv
        refine V.skip ?_
        refine X.sq ?_
        refine V.seq ?_
        refine V.block ?_
        refine V.seq ?_
        refine V.region ?_
        refine L.rd (rd_move rfl) rfl ?_
        refine L.rd (rd_move rfl) rfl ?_
        (refine L.rd (rd_indexSlice (sz := 2) tok rfl rfl rfl rfl rfl rfl rfl ?_) rfl ?_; omega)
        refine L.rd (rd_fieldAddr tok rfl rfl rfl rfl rfl rfl) rfl ?_
        refine L.rd (rd_load1 tok rfl rfl rfl (hcx.at_ 1 _ rfl)) rfl ?_
        refine L.rd (rd_assign rfl) rfl ?_
        refine L.nil ?_
        refine X.sq ?_
        refine V.seq ?_
        refine V.seq ?_
        refine V.region ?_
        refine L.rd (rd_move rfl) rfl ?_
        refine L.rd (rd_lenSlice tok rfl rfl rfl) rfl ?_
        refine L.rd (rd_gtr rfl rfl) rfl ?_
        refine L.nil ?_
        refine X.sq ?_
        first | refine V.cond rfl (fun h27 => ?_) (fun h27 => ?_) | refine V.condB rfl (fun h27 => ?_) (fun h27 => ?_)
        ·
          refine V.seq ?_
          refine V.region ?_
          refine L.rd (rd_build (out := [_]) tok rfl rfl rfl rfl rfl) rfl ?_
          refine L.ef (e_store (vs := [_]) tok rfl rfl rfl rfl hr rfl (by simp [Value.oneCell']) (by simp) ?_)
          refine L.rd (rd_assign rfl) rfl ?_
          refine L.nil ?_
          refine X.sq ?_
          refine V.ret ?_
          refine X.sqRet ?_
          refine X.bkRet ?_
          refine X.sqRet ?_
          refine X.lpRet ?_
          refine X.bkRet ?_
          refine X.sqRet ?_
          refine ret_c1 tok Yabm.results54 rfl rfl rfl rfl (Bl.cells (hr.set _ _)) rfl ?_
          have hbad : normP (pol Ls) = none := normP_bad (inOk_bad hpt (tgB_long (by omega)))
          exact ⟨_, [], by rw [hbad]; rfl, OwnT.nil _ _ _ _ _, by rw [hbad]; rfl, hE.set (by omega) _ _⟩
        ·
          refine V.skip ?_
          refine X.sq ?_
          refine V.seq ?_
          refine V.region ?_
          refine L.rd (rd_assign rfl) rfl ?_
          refine L.nil ?_
          refine X.sq ?_
          refine V.block ?_
          refine V.loop (fun m l w3 => ∃ (j : Nat), l = [(0, .slice (some ⟨b1, o1, none⟩) Ls.length ca), (2, .pointer (some ⟨w.heap.size, 0, none⟩)), (4, .int .i64 k), (5, .slice fa fs.length fc), (6, .int .i64 j)] ∧ m = fs.length - j ∧ j ≤ fs.length ∧ Ext w.heap.size w w3 ∧ Bl w3 w.heap.size 70 [.slice none 0 0] ∧ (fs.take j).all fgB = true) ?_ ?_
          ·
            exact ⟨_, _, (by repeat' (first | exact trivial | refine ⟨rfl, ?_⟩)), 0, rfl, rfl, by omega, hE, hr, by simp⟩
          ·
            clear hr hcx
            rintro m l w3 ⟨j, rfl, rfl, hj, hE3, hr, hall3⟩
            have hrl := hr.lt
            refine V.seq ?_
            refine V.seq ?_
            refine V.region ?_
            refine L.rd (rd_move rfl) rfl ?_
            refine L.rd (rd_move rfl) rfl ?_
            refine L.rd (rd_lenSlice tok rfl rfl rfl) rfl ?_
            refine L.rd (rd_lss rfl rfl) rfl ?_
            refine L.nil ?_
            refine X.sq ?_
            first | refine V.cond rfl (fun h32 => ?_) (fun h32 => ?_) | refine V.condB rfl (fun h32 => ?_) (fun h32 => ?_)
            ·
              obtain ⟨b2, o2, rfl, -, -, hc2⟩ := hff.resolve_left (by omega)
              obtain ⟨⟨a, p⟩, hf⟩ := nth_of_lt fs j (by omega)
              have hcf := (hc2.le hE3.leC).sub (j * 2) _ (pr_get fs j _ hf)
              refine V.skip ?_
              refine X.sq ?_
              refine V.seq ?_
              refine V.block ?_
              refine V.seq ?_
              refine V.region ?_
              refine L.rd (rd_move rfl) rfl ?_
              refine L.rd (rd_move rfl) rfl ?_
              (refine L.rd (rd_indexSlice (sz := 2) tok rfl rfl rfl rfl rfl rfl rfl ?_) rfl ?_; omega)
              refine L.rd (rd_loadN tok rfl rfl rfl hcf rfl) rfl ?_
              refine L.ef (e_alloc (cs := [_, _]) tok rfl rfl (by first | (simp only [size_addB, size_setB, size_drew]; rfl) | rfl) rfl ?_)
              refine L.ef (e_store (vs := [_, _]) tok rfl rfl rfl rfl (by (repeat (first | assumption | (refine Bl.new' ?_ _ _; first | with_reducible rfl | (simp only [size_addB, size_setB, size_drew]; done)) | apply Bl.add | apply Bl.drew | (apply Bl.setNe; omega) | (refine Bl.set' ?_ _ _; (try simp only [size_addB, size_setB, size_drew]); omega)))) rfl (by simp [Value.oneCell']) (by simp) ?_)
              refine L.nil ?_
              refine X.sq ?_
              refine V.seq ?_
              generalize hw4 : setB _ _ _ _ = w4
              have hb4 : Bl w4 w3.heap.size 135 [.int .i64 a, .int .i64 p] := by rw [← hw4]; refine Bl.set' ?_ _ _; rw [size_addB]; omega
              have hE4 : Ext w3.heap.size w3 w4 := by rw [← hw4]; exact ((Ext.refl _ _).addNew _ _).set (Nat.le_refl _) _ _
              have hr4 := hE4.bl hr.lt hr
              replace hE4 := hE3.next hE4
              refine V.region ?_
              refine L.rd (rd_fieldAddr tok rfl rfl rfl rfl rfl rfl) rfl ?_
              refine L.rd (rd_load1 tok rfl rfl rfl (by first | assumption | exact Bl.cell (by (repeat (first | assumption | (refine Bl.new' ?_ _ _; first | with_reducible rfl | (simp only [size_addB, size_setB, size_drew]; done)) | apply Bl.add | apply Bl.drew | (apply Bl.setNe; omega) | (refine Bl.set' ?_ _ _; (try simp only [size_addB, size_setB, size_drew]); omega)))) rfl)) rfl ?_
              refine L.rd (rd_lss rfl rfl) rfl ?_
              refine L.rd (rd_move rfl) rfl ?_
              first | refine L.partG rfl rfl (fun g42 => ?_) (fun g42 => ?_) | refine L.partGB rfl rfl (fun g42 => ?_) (fun g42 => ?_)
              ·
                refine L.no rfl rfl rfl rfl ?_
                refine L.no rfl rfl rfl rfl ?_
                refine L.no rfl rfl rfl rfl ?_
                refine L.rd (rd_pickT rfl rfl) rfl ?_
                refine L.rd (rd_move rfl) rfl ?_
                refine L.no rfl rfl rfl rfl ?_
                refine L.no rfl rfl rfl rfl ?_
                refine L.no rfl rfl rfl rfl ?_
                refine L.rd (rd_pickT rfl rfl) rfl ?_
                refine L.rd (rd_move rfl) rfl ?_
                refine L.no rfl rfl rfl rfl ?_
                refine L.no rfl rfl rfl rfl ?_
                refine L.no rfl rfl rfl rfl ?_
                refine L.rd (rd_pickT rfl rfl) rfl ?_
                refine L.nil ?_
                refine X.sq ?_
                refine V.condT rfl ?_
                refine V.seq ?_
                refine V.region ?_
                refine L.rd (rd_build (out := [_]) tok rfl rfl rfl rfl rfl) rfl ?_
                refine L.ef (e_store (vs := [_]) tok rfl rfl rfl rfl hr4 rfl (by simp [Value.oneCell']) (by simp) ?_)
                refine L.rd (rd_assign rfl) rfl ?_
                refine L.nil ?_
                refine X.sq ?_
                refine V.ret ?_
                refine X.bkRet ?_
                refine X.sqRet ?_
                refine X.lpRet ?_
                refine X.bkRet ?_
                refine X.bkRet ?_
                refine X.sqRet ?_
                refine X.lpRet ?_
                refine X.bkRet ?_
                refine X.sqRet ?_
                refine ret_c1 tok Yabm.results54 rfl rfl rfl rfl (Bl.cells (hr4.set _ _)) rfl ?_
                have hbad : normP (pol Ls) = none := normP_bad (inOk_bad hpt (tgB_bad hf (by rintro ⟨h1, h2, h3, h4⟩; omega)))
                exact ⟨_, [], by rw [hbad]; rfl, OwnT.nil _ _ _ _ _, by rw [hbad]; rfl, hE4.set (by omega) _ _⟩
              ·
                refine L.yes rfl rfl ?_
                refine L.rd (rd_fieldAddr tok rfl rfl rfl rfl rfl rfl) rfl ?_
                refine L.yes rfl rfl ?_
                refine L.rd (rd_load1 tok rfl rfl rfl (by first | assumption | exact Bl.cell (by (repeat (first | assumption | (refine Bl.new' ?_ _ _; first | with_reducible rfl | (simp only [size_addB, size_setB, size_drew]; done)) | apply Bl.add | apply Bl.drew | (apply Bl.setNe; omega) | (refine Bl.set' ?_ _ _; (try simp only [size_addB, size_setB, size_drew]); omega)))) rfl)) rfl ?_
                refine L.yes rfl rfl ?_
                refine L.rd (rd_gtr rfl rfl) rfl ?_
                refine L.rd (rd_pickF rfl rfl) rfl ?_
                refine L.rd (rd_move rfl) rfl ?_
                first | refine L.partG rfl rfl (fun g47 => ?_) (fun g47 => ?_) | refine L.partGB rfl rfl (fun g47 => ?_) (fun g47 => ?_)
                ·
                  refine L.no rfl rfl rfl rfl ?_
                  refine L.no rfl rfl rfl rfl ?_
                  refine L.no rfl rfl rfl rfl ?_
                  refine L.rd (rd_pickT rfl rfl) rfl ?_
                  refine L.rd (rd_move rfl) rfl ?_
                  refine L.no rfl rfl rfl rfl ?_
                  refine L.no rfl rfl rfl rfl ?_
                  refine L.no rfl rfl rfl rfl ?_
                  refine L.rd (rd_pickT rfl rfl) rfl ?_
                  refine L.nil ?_
                  refine X.sq ?_
                  refine V.condT rfl ?_
                  refine V.seq ?_
                  refine V.region ?_
                  refine L.rd (rd_build (out := [_]) tok rfl rfl rfl rfl rfl) rfl ?_
                  refine L.ef (e_store (vs := [_]) tok rfl rfl rfl rfl hr4 rfl (by simp [Value.oneCell']) (by simp) ?_)
                  refine L.rd (rd_assign rfl) rfl ?_
                  refine L.nil ?_
                  refine X.sq ?_
                  refine V.ret ?_
                  refine X.bkRet ?_
                  refine X.sqRet ?_
                  refine X.lpRet ?_
                  refine X.bkRet ?_
                  refine X.bkRet ?_
                  refine X.sqRet ?_
                  refine X.lpRet ?_
                  refine X.bkRet ?_
                  refine X.sqRet ?_
                  refine ret_c1 tok Yabm.results54 rfl rfl rfl rfl (Bl.cells (hr4.set _ _)) rfl ?_
                  have hbad : normP (pol Ls) = none := normP_bad (inOk_bad hpt (tgB_bad hf (by rintro ⟨h1, h2, h3, h4⟩; omega)))
                  exact ⟨_, [], by rw [hbad]; rfl, OwnT.nil _ _ _ _ _, by rw [hbad]; rfl, hE4.set (by omega) _ _⟩
                ·
                  refine L.yes rfl rfl ?_
                  refine L.rd (rd_fieldAddr tok rfl rfl rfl rfl rfl rfl) rfl ?_
                  refine L.yes rfl rfl ?_
                  refine L.rd (rd_load1 tok rfl rfl rfl (by first | assumption | exact Bl.cell (by (repeat (first | assumption | (refine Bl.new' ?_ _ _; first | with_reducible rfl | (simp only [size_addB, size_setB, size_drew]; done)) | apply Bl.add | apply Bl.drew | (apply Bl.setNe; omega) | (refine Bl.set' ?_ _ _; (try simp only [size_addB, size_setB, size_drew]); omega)))) rfl)) rfl ?_
                  refine L.yes rfl rfl ?_
                  refine L.rd (rd_lss rfl rfl) rfl ?_
                  refine L.rd (rd_pickF rfl rfl) rfl ?_
                  refine L.rd (rd_move rfl) rfl ?_
                  first | refine L.partG rfl rfl (fun g52 => ?_) (fun g52 => ?_) | refine L.partGB rfl rfl (fun g52 => ?_) (fun g52 => ?_)
                  ·
                    refine L.no rfl rfl rfl rfl ?_
                    refine L.no rfl rfl rfl rfl ?_
                    refine L.no rfl rfl rfl rfl ?_
                    refine L.rd (rd_pickT rfl rfl) rfl ?_
                    refine L.nil ?_
                    refine X.sq ?_
                    refine V.condT rfl ?_
                    refine V.seq ?_
                    refine V.region ?_
                    refine L.rd (rd_build (out := [_]) tok rfl rfl rfl rfl rfl) rfl ?_
                    refine L.ef (e_store (vs := [_]) tok rfl rfl rfl rfl hr4 rfl (by simp [Value.oneCell']) (by simp) ?_)
                    refine L.rd (rd_assign rfl) rfl ?_
                    refine L.nil ?_
                    refine X.sq ?_
                    refine V.ret ?_
                    refine X.bkRet ?_
                    refine X.sqRet ?_
                    refine X.lpRet ?_
                    refine X.bkRet ?_
                    refine X.bkRet ?_
                    refine X.sqRet ?_
                    refine X.lpRet ?_
                    refine X.bkRet ?_
                    refine X.sqRet ?_
                    refine ret_c1 tok Yabm.results54 rfl rfl rfl rfl (Bl.cells (hr4.set _ _)) rfl ?_
                    have hbad : normP (pol Ls) = none := normP_bad (inOk_bad hpt (tgB_bad hf (by rintro ⟨h1, h2, h3, h4⟩; omega)))
                    exact ⟨_, [], by rw [hbad]; rfl, OwnT.nil _ _ _ _ _, by rw [hbad]; rfl, hE4.set (by omega) _ _⟩
                  ·
                    refine L.yes rfl rfl ?_
                    refine L.rd (rd_fieldAddr tok rfl rfl rfl rfl rfl rfl) rfl ?_
                    refine L.yes rfl rfl ?_
                    refine L.rd (rd_load1 tok rfl rfl rfl (by first | assumption | exact Bl.cell (by (repeat (first | assumption | (refine Bl.new' ?_ _ _; first | with_reducible rfl | (simp only [size_addB, size_setB, size_drew]; done)) | apply Bl.add | apply Bl.drew | (apply Bl.setNe; omega) | (refine Bl.set' ?_ _ _; (try simp only [size_addB, size_setB, size_drew]); omega)))) rfl)) rfl ?_
                    refine L.yes rfl rfl ?_
                    refine L.rd (rd_gtr rfl rfl) rfl ?_
                    refine L.rd (rd_pickF rfl rfl) rfl ?_
                    refine L.nil ?_
                    refine X.sq ?_
                    first | refine V.cond rfl (fun h56 => ?_) (fun h56 => ?_) | refine V.condB rfl (fun h56 => ?_) (fun h56 => ?_)
                    ·
                      refine V.seq ?_
                      refine V.region ?_
                      refine L.rd (rd_build (out := [_]) tok rfl rfl rfl rfl rfl) rfl ?_
                      refine L.ef (e_store (vs := [_]) tok rfl rfl rfl rfl hr4 rfl (by simp [Value.oneCell']) (by simp) ?_)
                      refine L.rd (rd_assign rfl) rfl ?_
                      refine L.nil ?_
                      refine X.sq ?_
                      refine V.ret ?_
                      refine X.bkRet ?_
                      refine X.sqRet ?_
                      refine X.lpRet ?_
                      refine X.bkRet ?_
                      refine X.bkRet ?_
                      refine X.sqRet ?_
                      refine X.lpRet ?_
                      refine X.bkRet ?_
                      refine X.sqRet ?_
                      refine ret_c1 tok Yabm.results54 rfl rfl rfl rfl (Bl.cells (hr4.set _ _)) rfl ?_
                      have hbad : normP (pol Ls) = none := normP_bad (inOk_bad hpt (tgB_bad hf (by rintro ⟨h1, h2, h3, h4⟩; omega)))
                      exact ⟨_, [], by rw [hbad]; rfl, OwnT.nil _ _ _ _ _, by rw [hbad]; rfl, hE4.set (by omega) _ _⟩
                    ·
                      refine V.skip ?_
                      refine X.bk ?_
                      refine X.sq ?_
                      refine V.region ?_
                      refine L.rd (rd_move rfl) rfl ?_
                      (refine L.rd (rd_add3 rfl rfl ?_) rfl ?_; omega)
                      refine L.rd (rd_assign rfl) rfl ?_
                      refine L.nil ?_
                      exact X.lp ⟨_, _, by omega, (by repeat' (first | exact trivial | refine ⟨rfl, ?_⟩)), j + 1, rfl, rfl, by omega, hE4, hr4, all_snoc hf hall3 (fgB_ok (by omega))⟩
            ·
              refine V.exit ?_
              refine X.sqExit ?_
              refine X.lpExit ?_
              refine X.bkHere ?_
              refine X.bk ?_
              refine X.sq ?_
              refine V.region ?_
              refine L.rd (rd_move rfl) rfl ?_
              (refine L.rd (rd_add3 rfl rfl ?_) rfl ?_; omega)
              refine L.rd (rd_assign rfl) rfl ?_
              refine L.nil ?_
              exact X.lp ⟨_, _, by omega, (by repeat' (first | exact trivial | refine ⟨rfl, ?_⟩)), k + 1, rfl, rfl, by omega, hE3, hr, all_snoc hpt hall (tgB_ok (by omega) (by rwa [List.take_of_length_le (by omega)] at hall3))⟩
      ·
        refine V.exit ?_
        refine X.sqExit ?_
        refine X.lpExit ?_
        refine X.bkHere ?_
        refine X.sq ?_
        refine V.seq ?_
        have hLl := hT.form
        have hok : inOk (pol Ls) = true := inOk_ok (by rw [pol_length]; omega) (by rwa [List.take_of_length_le (by rw [pol_length]; omega)] at hall)
        have hVm := ms_vl hok
        have hCm := ms_cr hCq
        have hml := nzf_len (ms (pol Ls))
        rw [ms_len, pol_length] at hml
        have hnP : normP (pol Ls) = if nfOk (nf (ms (pol Ls))) = true then some (toP (nf (ms (pol Ls)))) else none := by unfold normP; rw [if_pos hok]
        have hrl := hr.lt
        have hwr := hE.size
        clear hall
        refine V.region ?_
        refine L.rd (rd_move rfl) rfl ?_
        refine L.rd (rd_lenSlice tok rfl rfl rfl) rfl ?_
        refine L.ef (e_make (e := 141) (zs := mC 0 z26 0) (m := 0) (c := Ls.length) tok rfl rfl rfl rfl rfl rfl rfl rfl (by first | (simp only [size_addB, size_setB, size_drew]; rfl) | rfl) rfl (by omega) (by simp only []; omega) (by omega) ?_)
        refine L.rd (rd_assign rfl) rfl ?_
        refine L.nil ?_
        refine X.sq ?_
        refine V.seq ?_
        refine V.seq ?_
        refine V.region ?_
        refine L.rd (rd_assign rfl) rfl ?_
        refine L.nil ?_
        refine X.sq ?_
        refine V.block ?_
        refine V.loop (fun m l w3 => ∃ (i : Nat) (mv : Value) (M : List MT), l = [(0, .slice aa Ls.length ca), (2, .pointer (some ⟨w.heap.size, 0, none⟩)), (8, mv), (9, .int .i64 i)] ∧ m = Ls.length - i ∧ i ≤ Ls.length ∧ Ext wr.heap.size wr w3 ∧ w3.ownsRow wr.heap.size 141 28 mv M.length (M.flatMap mnE) ∧ M = nzf ((ms (pol Ls)).take i) ∧ M.length ≤ i) ?_ ?_
        ·
          exact ⟨_, _, (by repeat' (first | exact trivial | refine ⟨rfl, ?_⟩)), 0, _, [], rfl, rfl, by omega, (Ext.refl _ _).addNew _ _, own_made (sz := 28) (c := Ls.length) (Bl.new _ _ _) (by rw [List.length_flatten]; simp [mC_len, z26_len]) (Nat.le_refl _) (by unfold maxLen; omega), by simp [nzf], by simp⟩
        ·
          rintro m l w3 ⟨i, mv, M, rfl, rfl, hi, hE3, hO, hM, hMi⟩
          have hw3 := hE3.size
          have hEr := hE.next hE3
          refine V.seq ?_
          refine V.seq ?_
          refine V.region ?_
          refine L.rd (rd_move rfl) rfl ?_
          refine L.rd (rd_move rfl) rfl ?_
          refine L.rd (rd_lenSlice tok rfl rfl rfl) rfl ?_
          refine L.rd (rd_lss rfl rfl) rfl ?_
          refine L.nil ?_
          refine X.sq ?_
          first | refine V.cond rfl (fun h64 => ?_) (fun h64 => ?_) | refine V.condB rfl (fun h64 => ?_) (fun h64 => ?_)
          ·
            obtain ⟨b1, o1, rfl, -, -, hc1⟩ := hfa.resolve_left (by omega)
            obtain ⟨⟨c, fv, fs⟩, ht⟩ := nth_of_lt Ls i (by omega)
            have hcx := Tl.cells (hc1.le hEr.leC) ht
            have hsub := ((hT.ext hEr).sub _ (List.mem_of_getElem? ht)).rs
            have hsn := nzf_snoc (ms_get (pol_get ht))
            have hFg := inOk_fg hok _ (List.mem_of_getElem? (pol_get ht))
            simp only at hcx hsub hsn hFg
            rw [← hM] at hsn
            refine V.skip ?_
            refine X.sq ?_
            refine V.seq ?_
            refine V.block ?_
            refine V.seq ?_
            refine V.region ?_
            refine L.rd (rd_move rfl) rfl ?_
            refine L.rd (rd_move rfl) rfl ?_
            (refine L.rd (rd_indexSlice (sz := 2) tok rfl rfl rfl rfl rfl rfl rfl ?_) rfl ?_; omega)
            refine L.rd (rd_fieldAddr tok rfl rfl rfl rfl rfl rfl) rfl ?_
            refine L.rd (rd_load1 tok rfl rfl rfl (hcx.at_ 0 _ rfl)) rfl ?_
            refine L.rd (rd_neq rfl rfl) rfl ?_
            refine L.nil ?_
            refine X.sq ?_
            first | refine V.cond rfl (fun h72 => ?_) (fun h72 => ?_) | refine V.condB rfl (fun h72 => ?_) (fun h72 => ?_)
            ·
              refine V.region ?_
              refine L.rd (rd_move rfl) rfl ?_
              refine L.rd (rd_move rfl) rfl ?_
              refine L.rd (rd_move rfl) rfl ?_
              (refine L.rd (rd_indexSlice (sz := 2) tok rfl rfl rfl rfl rfl rfl rfl ?_) rfl ?_; omega)
              refine L.rd (rd_loadN tok rfl rfl rfl hcx rfl) rfl ?_
              refine L.ef (e_call rfl (monoOf_ok c fv fs _ hsub hFg) rfl ?_)
              rintro _ w5 ⟨rfl, hrv, he5⟩
              have hE5 := hE3.next he5
              have hO5 := own_ext hO he5
              have hs5 := he5.size
              refine L.ef (e_buildSlice1 (e := 141) (cs := mnE (c, vec fs)) tok rfl rfl rfl rfl rfl rfl rfl rfl (by rw [mnE_len]; rfl) (by first | (simp only [size_addB, size_setB, size_drew]; rfl) | rfl) rfl ?_)
              refine L.ef (e_append (m := 1) tok rfl rfl rfl rfl rfl rfl rfl rfl rfl rfl (hO5.alloc _) (Bl.new _ _ _).cells (mnE_len _) (mnE_one _) (by unfold maxLen; omega) (by simp only []; omega) (by rw [size_addB]; omega) ?_)
              rintro v6 w6 ho6 hg6
              have hE6 := (hE5.addNew 141 (mnE (c, vec fs))).grown hg6 (by rw [size_addB]; omega) (fun q hq => (own_block_lt hO5 hq).1)
              refine L.rd (rd_assign rfl) rfl ?_
              refine L.nil ?_
              refine X.bk ?_
              refine X.sq ?_
              refine V.region ?_
              refine L.rd (rd_move rfl) rfl ?_
              (refine L.rd (rd_add3 rfl rfl ?_) rfl ?_; omega)
              refine L.rd (rd_assign rfl) rfl ?_
              refine L.nil ?_
              first
                | (rw [if_neg h72] at hsn
                   exact X.lp ⟨_, _, by omega, (by repeat' (first | exact trivial | refine ⟨rfl, ?_⟩)), i + 1, v6, M ++ [(c, vec fs)], rfl, rfl, by omega, hE6, by rw [List.flatMap_append, List.length_append]; simpa using ho6, hsn.symm, by rw [List.length_append]; simp; omega⟩)
                | (rw [if_pos (Decidable.not_not.1 h72), List.append_nil] at hsn
                   exact X.lp ⟨_, _, by omega, (by repeat' (first | exact trivial | refine ⟨rfl, ?_⟩)), i + 1, _, M, rfl, rfl, by omega, hE3, hO, hsn.symm, by omega⟩)
            ·
              refine V.skip ?_
              refine X.bk ?_
              refine X.sq ?_
              refine V.region ?_
              refine L.rd (rd_move rfl) rfl ?_
              (refine L.rd (rd_add3 rfl rfl ?_) rfl ?_; omega)
              refine L.rd (rd_assign rfl) rfl ?_
              refine L.nil ?_
              first
                | (rw [if_neg h72] at hsn
                   exact X.lp ⟨_, _, by omega, (by repeat' (first | exact trivial | refine ⟨rfl, ?_⟩)), i + 1, v6, M ++ [(c, vec fs)], rfl, rfl, by omega, hE6, by rw [List.flatMap_append, List.length_append]; simpa using ho6, hsn.symm, by rw [List.length_append]; simp; omega⟩)
                | (rw [if_pos (Decidable.not_not.1 h72), List.append_nil] at hsn
                   exact X.lp ⟨_, _, by omega, (by repeat' (first | exact trivial | refine ⟨rfl, ?_⟩)), i + 1, _, M, rfl, rfl, by omega, hE3, hO, hsn.symm, by omega⟩)
          ·
            refine V.exit ?_
            refine X.sqExit ?_
            refine X.lpExit ?_
            refine X.bkHere ?_
            refine X.sq ?_
            refine V.seq ?_
            have hM2 : M = nzf (ms (pol Ls)) := by
              rw [hM, List.take_of_length_le (by rw [ms_len, pol_length]; omega)]
            subst hM2
            refine V.region ?_
            refine L.rd (rd_move rfl) rfl ?_
            refine L.ef (e_call rfl (finish_ok _ (nzf_vl hVm) (nzf_cr hCm) (by omega) _ _ _ hO hw3) rfl ?_)
            rintro _ w5 ⟨v5, L5, rfl, hO5, hq5, hg5⟩
            obtain ⟨a5, c5, rfl⟩ := own_form hO5.top
            have hE5 : Ext wr.heap.size wr w5 := hE3.grown hg5 hw3 (fun q hq => (own_block_lt hO hq).1)
            have hr5 := hE5.bl hr.lt hr
            rw [nf_nzf hVm] at hq5 ⊢
            refine L.rd (rd_ext0 rfl) rfl ?_
            refine L.rd (rd_ext1 rfl) rfl ?_
            refine L.ef (e_store (vs := [_]) tok rfl rfl rfl rfl hr5 rfl (by simp [Value.oneCell']) (by simp) ?_)
            refine L.rd (rd_assign rfl) rfl ?_
            refine L.nil ?_
            refine X.sq ?_
            refine V.ret ?_
            refine ret_c1 tok Yabm.results54 rfl rfl rfl rfl (Bl.cells (hr5.set _ _)) rfl ?_
            refine ⟨_, L5, by rw [hnP]; cases nfOk (nf (ms (pol Ls))) <;> rfl, ?_, by rw [hnP, hq5]; cases nfOk (nf (ms (pol Ls))) <;> rfl, (hE.next hE5).set (by omega) _ _⟩
            rw [size_setB]
            exact (hO5.rg (Rg.set (lo := w.heap.size) (hi := w.heap.size + 1) (by omega) _ _) (by omega)).low (by omega)
end Go.Proofs.Ybxabw
