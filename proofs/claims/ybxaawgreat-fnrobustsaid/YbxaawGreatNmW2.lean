/-
  spec.Normalize, walked.
-/
import Derived.Test.YbxaawGreatNmW
import Derived.Test.YbxaawGreatFromW
set_option linter.unusedVariables false
set_option linter.unusedSimpArgs false
set_option maxRecDepth 10000
namespace Go.Proofs.YbxaawGreat
open Go.Mw

theorem snorm_ok (va : Value) (Ls : List Lt) (w : World) {lo hi : Nat} (hT : Tl w lo hi va Ls) (hCq : Cq (pol Ls)) : Ret Yaam.prog 20 [va] w (RPost 91 93 (normP (pol Ls)) w) := by
  obtain ⟨aa, ca, rfl, hfa⟩ := hT.form
  refine enter1 Yaam.func20 Yaam.ntmps20 (by kernel_rfl) rfl rfl ?_
  refine V.seq ?_
  refine V.region ?_
  refine L.ef (e_alloc (cs := [_]) tok rfl rfl (by first | (simp only [size_addB, size_setB, size_drew]; rfl) | rfl) rfl ?_)
  refine L.rd (rd_assign rfl) rfl ?_
  refine L.nil ?_
  refine X.sq ?_
  refine V.seq ?_
  refine V.seq ?_
  have hr0 := Bl.new w 44 [.slice none 0 0]
  have hE0 := (Ext.refl _ w).addNew 44 [.slice none 0 0]
  refine V.region ?_
  refine L.rd (rd_move rfl) rfl ?_
  refine L.rd (rd_lenSlice tok rfl rfl rfl) rfl ?_
  refine L.rd (rd_gtr rfl rfl) rfl ?_
  refine L.nil ?_
  refine X.sq ?_
  first | refine V.cond rfl (fun h13 => ?_) (fun h13 => ?_) | refine V.condB rfl (fun h13 => ?_) (fun h13 => ?_)
  ·
    refine V.seq ?_
    refine V.region ?_
    refine L.rd (rd_build (out := [_]) tok rfl rfl rfl rfl rfl) rfl ?_
    refine L.ef (e_store (vs := [_]) tok rfl rfl rfl rfl hr0 rfl (by simp [Value.oneCell']) (by simp) ?_)
    refine L.rd (rd_assign rfl) rfl ?_
    refine L.nil ?_
    refine X.sq ?_
    refine V.ret ?_
    refine X.sqRet ?_
    refine ret_c1 tok Yaam.results20 rfl rfl rfl rfl (Bl.cells (hr0.set _ _)) rfl ?_
    have hbad : normP (pol Ls) = none := normP_bad (inOk_long (by rw [pol_length]; omega))
    exact ⟨_, [], by rw [hbad]; rfl, OwnT.nil _ _ _ _ _, by rw [hbad]; rfl, hE0.set (by omega) _ _⟩
  ·
    refine V.skip ?_
    refine X.sq ?_
    refine V.seq ?_
    refine V.region ?_
    refine L.rd (rd_move rfl) rfl ?_
    refine L.rd (rd_lenSlice tok rfl rfl rfl) rfl ?_
    refine L.ef (e_make (e := 103) (zs := .int .i64 0 :: iC .i32 z26) (m := 0) (c := Ls.length) tok rfl rfl rfl rfl rfl rfl rfl rfl (by first | (simp only [size_addB, size_setB, size_drew]; rfl) | rfl) rfl (by omega) (by simp only []; omega) (by omega) ?_)
    refine L.rd (rd_assign rfl) rfl ?_
    refine L.nil ?_
    refine X.sq ?_
    refine V.seq ?_
    refine V.seq ?_
    refine V.region ?_
    refine L.rd (rd_move rfl) rfl ?_
    refine L.rd (rd_lenSlice tok rfl rfl rfl) rfl ?_
    refine L.rd (rd_move rfl) rfl ?_
    refine L.nil ?_
    refine X.sq ?_
    refine V.block ?_
    refine V.loop (fun m l wr => ∃ (k : Nat) (mv : Value), l = [(2, .pointer (some ⟨w.heap.size, 0, none⟩)), (4, mv), (18, .slice aa Ls.length ca), (19, .int .i64 Ls.length), (20, .int .i64 k)] ∧ m = Ls.length - k ∧ k ≤ Ls.length ∧ Ext w.heap.size w wr ∧ Bl wr w.heap.size 44 [.slice none 0 0] ∧ wr.ownsRow (w.heap.size + 1) 103 27 mv k (((ms (pol Ls)).take k).flatMap mtE) ∧ ((pol Ls).take k).all tgB = true) ?_ ?_
    ·
      exact ⟨_, _, (by repeat' (first | exact trivial | refine ⟨rfl, ?_⟩)), 0, _, rfl, rfl, by omega, hE0.addNew _ _, hr0.add _ _, own_made (sz := 27) (c := Ls.length) (Bl.new' (by rw [size_addB]) _ _) (by rw [List.length_flatten]; simp [iC, z26]) (Nat.le_refl _) (by unfold maxLen; omega), by simp⟩
    ·
      clear hr0 hE0
      rintro m l wr ⟨k, mv, rfl, rfl, hk, hE, hr, hO, hall⟩
      have hrl := hr.lt
      have hwr := hE.size
      refine V.seq ?_
      refine V.region ?_
      refine L.rd (rd_lss rfl rfl) rfl ?_
      refine L.nil ?_
      refine X.sq ?_
      refine V.seq ?_
      first | refine V.cond rfl (fun h21 => ?_) (fun h21 => ?_) | refine V.condB rfl (fun h21 => ?_) (fun h21 => ?_)
      ·
        obtain ⟨b1, o1, rfl, -, -, hc1⟩ := hfa.resolve_left (by omega)
        obtain ⟨⟨c, fv, fs⟩, ht⟩ := nth_of_lt Ls k (by omega)
        have hcx := Tl.cells (hc1.le hE.leC) ht
        obtain ⟨fa, fc, hfv, hff⟩ := hT.nth ht
        have hpt := pol_get ht
        have hmt := ms_get hpt
        simp only at hfv hff hcx hpt hmt
        subst hfv
        refine V.skip ?_
        refine X.sq ?_
        refine V.seq ?_
        refine V.block ?_
        refine V.seq ?_
        refine V.region ?_
        (refine L.rd (rd_indexSlice (sz := 2) tok rfl rfl rfl rfl rfl rfl rfl ?_) rfl ?_; omega)
        refine L.rd (rd_loadN tok rfl rfl rfl hcx rfl) rfl ?_
        refine L.ef (e_alloc (cs := [_, _]) tok rfl rfl (by first | (simp only [size_addB, size_setB, size_drew]; rfl) | rfl) rfl ?_)
        refine L.ef (e_store (vs := [_, _]) tok rfl rfl rfl rfl (by (repeat (first | assumption | (refine Bl.new' ?_ _ _; first | with_reducible rfl | (simp only [size_addB, size_setB, size_drew]; done)) | apply Bl.add | apply Bl.drew | (apply Bl.setNe; omega) | (refine Bl.set' ?_ _ _; (try simp only [size_addB, size_setB, size_drew]); omega)))) rfl (by simp [Value.oneCell']) (by simp) ?_)
        refine L.nil ?_
        refine X.sq ?_
        refine V.seq ?_
        refine V.seq ?_
        generalize hwt : setB _ _ _ _ = wt
        have hbt : Bl wt wr.heap.size 91 [.int .i64 c, .slice fa fs.length fc] := by rw [← hwt]; refine Bl.set' ?_ _ _; rw [size_addB]; omega
        have het : Ext wr.heap.size wr wt := by rw [← hwt]; exact ((Ext.refl _ _).addNew _ _).set (Nat.le_refl _) _ _
        replace hr := het.bl hr.lt hr
        replace hO := own_ext hO het
        have hst := het.size
        have hne : ∀ q, mv.ownBlock = some q → q < wt.heap.size := fun q hq => (own_block_lt hO hq).2
        have hbtl := hbt.lt
        replace hE := hE.next het
        refine V.region ?_
        refine L.rd (rd_fieldAddr tok rfl rfl rfl rfl rfl rfl) rfl ?_
        refine L.rd (rd_load1 tok rfl rfl rfl (hbt.cell (i := 1) rfl)) rfl ?_
        refine L.rd (rd_lenSlice tok rfl rfl rfl) rfl ?_
        refine L.rd (rd_gtr rfl rfl) rfl ?_
        refine L.nil ?_
        refine X.sq ?_
        first | refine V.cond rfl (fun h27 => ?_) (fun h27 => ?_) | refine V.condB rfl (fun h27 => ?_) (fun h27 => ?_)
        ·
          refine V.seq ?_
          refine V.region ?_
          refine L.rd (rd_build (out := [_]) tok rfl rfl rfl rfl rfl) rfl ?_
          refine L.ef (e_store (vs := [_]) tok rfl rfl rfl rfl hr rfl (by simp [Value.oneCell']) (by simp) ?_)
          refine L.rd (rd_assign rfl) rfl ?_
          refine L.nil ?_
          refine X.sq ?_
          refine V.ret ?_
          refine X.sqRet ?_
          refine X.bkRet ?_
          refine X.sqRet ?_
          refine X.lpRet ?_
          refine X.bkRet ?_
          refine X.sqRet ?_
          refine ret_c1 tok Yaam.results20 rfl rfl rfl rfl (Bl.cells (hr.set _ _)) rfl ?_
          have hbad : normP (pol Ls) = none := normP_bad (inOk_bad hpt (tgB_long (by omega)))
          exact ⟨_, [], by rw [hbad]; rfl, OwnT.nil _ _ _ _ _, by rw [hbad]; rfl, hE.set (by omega) _ _⟩
        ·
          refine V.skip ?_
          refine X.sq ?_
          refine V.seq ?_
          refine V.region ?_
          refine L.ef (e_alloc (cs := .int .i64 0 :: iC .i32 z26) tok rfl rfl (by first | (simp only [size_addB, size_setB, size_drew]; rfl) | rfl) rfl ?_)
          refine L.nil ?_
          refine X.sq ?_
          refine V.seq ?_
          refine V.region ?_
          refine L.rd (rd_fieldAddr tok rfl rfl rfl rfl rfl rfl) rfl ?_
          refine L.rd (rd_load1 tok rfl rfl rfl ((hbt.add _ _).cell rfl)) rfl ?_
          refine L.rd (rd_fieldAddr tok rfl rfl rfl rfl rfl rfl) rfl ?_
          refine L.ef (e_store (vs := [_]) tok rfl rfl rfl rfl (cs := .int .i64 0 :: iC .i32 z26) (by (repeat (first | assumption | (refine Bl.new' ?_ _ _; first | with_reducible rfl | (simp only [size_addB, size_setB, size_drew]; done)) | apply Bl.add | apply Bl.drew | (apply Bl.setNe; omega) | (refine Bl.set' ?_ _ _; (try simp only [size_addB, size_setB, size_drew]); omega)))) rfl (by simp [Value.oneCell']) (by simp) ?_)
          (simp only [Nat.zero_add])
          rw [cI_putC]
          refine L.nil ?_
          refine X.sq ?_
          refine V.seq ?_
          refine V.seq ?_
          generalize hwm : setB _ _ _ _ = wm
          have hbm : Bl wm wt.heap.size 103 (.int .i64 c :: iC .i32 z26) := by rw [← hwm]; refine Bl.set' ?_ _ _; rw [size_addB]; omega
          have hem : Ext wt.heap.size wt wm := by rw [← hwm]; exact ((Ext.refl _ _).addNew _ _).set (Nat.le_refl _) _ _
          replace hr := hem.bl hr.lt hr
          replace hO := own_ext hO hem
          replace hbt := hem.bl hbt.lt hbt
          replace hE := hE.next hem
          have hsm := hbm.lt
          refine V.region ?_
          refine L.rd (rd_fieldAddr tok rfl rfl rfl rfl rfl rfl) rfl ?_
          refine L.rd (rd_load1 tok rfl rfl rfl (hbt.cell (i := 1) rfl)) rfl ?_
          refine L.rd (rd_lenSlice tok rfl rfl rfl) rfl ?_
          refine L.rd (rd_move rfl) rfl ?_
          refine L.nil ?_
          refine X.sq ?_
          refine V.block ?_
          refine V.loop (fun m l w3 => ∃ (j : Nat) (u : List Int), l = [(2, .pointer (some ⟨w.heap.size, 0, none⟩)), (4, mv), (7, .pointer (some ⟨wt.heap.size, 0, none⟩)), (18, .slice (some ⟨b1, o1, none⟩) Ls.length ca), (19, .int .i64 Ls.length), (20, .int .i64 k), (33, .slice fa fs.length fc), (34, .int .i64 fs.length), (35, .int .i64 j)] ∧ m = fs.length - j ∧ j ≤ fs.length ∧ Ext w.heap.size w w3 ∧ Bl w3 w.heap.size 44 [.slice none 0 0] ∧ w3.ownsRow (w.heap.size + 1) 103 27 mv k (((ms (pol Ls)).take k).flatMap mtE) ∧ Bl w3 wt.heap.size 103 (.int .i64 c :: iC .i32 u) ∧ Va fs j u ∧ (fs.take j).all fgB = true) ?_ ?_
          ·
            exact ⟨_, _, (by repeat' (first | exact trivial | refine ⟨rfl, ?_⟩)), 0, z26, rfl, rfl, by omega, hE, hr, hO, hbm, Va.start fs, by simp⟩
          ·
            clear hr hcx hO hbm hbt
            rintro m l w3 ⟨j, u, rfl, rfl, hj, hE3, hr, hO, hbm, hva, hall3⟩
            have hrl := hr.lt
            have hul := hva.len
            have hml := hbm.lt
            refine V.seq ?_
            refine V.region ?_
            refine L.rd (rd_lss rfl rfl) rfl ?_
            refine L.nil ?_
            refine X.sq ?_
            refine V.seq ?_
            first | refine V.cond rfl (fun h36 => ?_) (fun h36 => ?_) | refine V.condB rfl (fun h36 => ?_) (fun h36 => ?_)
            ·
              obtain ⟨b2, o2, rfl, -, -, hc2⟩ := hff.resolve_left (by omega)
              obtain ⟨⟨a, p⟩, hf⟩ := nth_of_lt fs j (by omega)
              have hcf := (hc2.le hE3.leC).sub (j * 2) _ (pr_get fs j _ hf)
              refine V.skip ?_
              refine X.sq ?_
              refine V.seq ?_
              refine V.block ?_
              refine V.seq ?_
              refine V.region ?_
              (refine L.rd (rd_indexSlice (sz := 2) tok rfl rfl rfl rfl rfl rfl rfl ?_) rfl ?_; omega)
              refine L.rd (rd_loadN tok rfl rfl rfl hcf rfl) rfl ?_
              refine L.ef (e_alloc (cs := [_, _]) tok rfl rfl (by first | (simp only [size_addB, size_setB, size_drew]; rfl) | rfl) rfl ?_)
              refine L.ef (e_store (vs := [_, _]) tok rfl rfl rfl rfl (by (repeat (first | assumption | (refine Bl.new' ?_ _ _; first | with_reducible rfl | (simp only [size_addB, size_setB, size_drew]; done)) | apply Bl.add | apply Bl.drew | (apply Bl.setNe; omega) | (refine Bl.set' ?_ _ _; (try simp only [size_addB, size_setB, size_drew]); omega)))) rfl (by simp [Value.oneCell']) (by simp) ?_)
              refine L.nil ?_
              refine X.sq ?_
              refine V.seq ?_
              refine V.seq ?_
              generalize hw4 : setB _ _ _ _ = w4
              have hb4 : Bl w4 w3.heap.size 93 [.int .i64 a, .int .i64 p] := by rw [← hw4]; refine Bl.set' ?_ _ _; rw [size_addB]; omega
              have he4 : Ext w3.heap.size w3 w4 := by rw [← hw4]; exact ((Ext.refl _ _).addNew _ _).set (Nat.le_refl _) _ _
              have hr4 := he4.bl hr.lt hr
              have hO4 := own_ext hO he4
              have hbm4 := he4.bl hbm.lt hbm
              have hE4 := hE3.next he4
              refine V.region ?_
              refine L.rd (rd_fieldAddr tok rfl rfl rfl rfl rfl rfl) rfl ?_
              refine L.rd (rd_load1 tok rfl rfl rfl (by first | assumption | exact Bl.cell (by (repeat (first | assumption | (refine Bl.new' ?_ _ _; first | with_reducible rfl | (simp only [size_addB, size_setB, size_drew]; done)) | apply Bl.add | apply Bl.drew | (apply Bl.setNe; omega) | (refine Bl.set' ?_ _ _; (try simp only [size_addB, size_setB, size_drew]); omega)))) rfl)) rfl ?_
              refine L.rd (rd_lss rfl rfl) rfl ?_
              refine L.rd (rd_move rfl) rfl ?_
              first | refine L.partG rfl rfl (fun g42 => ?_) (fun g42 => ?_) | refine L.partGB rfl rfl (fun g42 => ?_) (fun g42 => ?_)
              ·
                refine L.no rfl rfl rfl rfl ?_
                refine L.no rfl rfl rfl rfl ?_
                refine L.no rfl rfl rfl rfl ?_
                refine L.rd (rd_pickT rfl rfl) rfl ?_
                refine L.rd (rd_move rfl) rfl ?_
                refine L.no rfl rfl rfl rfl ?_
                refine L.no rfl rfl rfl rfl ?_
                refine L.no rfl rfl rfl rfl ?_
                refine L.rd (rd_pickT rfl rfl) rfl ?_
                refine L.rd (rd_move rfl) rfl ?_
                refine L.no rfl rfl rfl rfl ?_
                refine L.no rfl rfl rfl rfl ?_
                refine L.no rfl rfl rfl rfl ?_
                refine L.rd (rd_pickT rfl rfl) rfl ?_
                refine L.nil ?_
                refine X.sq ?_
                refine V.condT rfl ?_
                refine V.seq ?_
                refine V.region ?_
                refine L.rd (rd_build (out := [_]) tok rfl rfl rfl rfl rfl) rfl ?_
                refine L.ef (e_store (vs := [_]) tok rfl rfl rfl rfl hr4 rfl (by simp [Value.oneCell']) (by simp) ?_)
                refine L.rd (rd_assign rfl) rfl ?_
                refine L.nil ?_
                refine X.sq ?_
                refine V.ret ?_
                refine X.sqRet ?_
                refine X.bkRet ?_
                refine X.sqRet ?_
                refine X.lpRet ?_
                refine X.bkRet ?_
                refine X.sqRet ?_
                refine X.bkRet ?_
                refine X.sqRet ?_
                refine X.lpRet ?_
                refine X.bkRet ?_
                refine X.sqRet ?_
                refine ret_c1 tok Yaam.results20 rfl rfl rfl rfl (Bl.cells (hr4.set _ _)) rfl ?_
                have hbad : normP (pol Ls) = none := normP_bad (inOk_bad hpt (tgB_bad hf (by rintro ⟨h1, h2, h3, h4⟩; omega)))
                exact ⟨_, [], by rw [hbad]; rfl, OwnT.nil _ _ _ _ _, by rw [hbad]; rfl, hE4.set (by omega) _ _⟩
              ·
                refine L.yes rfl rfl ?_
                refine L.rd (rd_fieldAddr tok rfl rfl rfl rfl rfl rfl) rfl ?_
                refine L.yes rfl rfl ?_
                refine L.rd (rd_load1 tok rfl rfl rfl (by first | assumption | exact Bl.cell (by (repeat (first | assumption | (refine Bl.new' ?_ _ _; first | with_reducible rfl | (simp only [size_addB, size_setB, size_drew]; done)) | apply Bl.add | apply Bl.drew | (apply Bl.setNe; omega) | (refine Bl.set' ?_ _ _; (try simp only [size_addB, size_setB, size_drew]); omega)))) rfl)) rfl ?_
                refine L.yes rfl rfl ?_
                refine L.rd (rd_geq rfl rfl) rfl ?_
                refine L.rd (rd_pickF rfl rfl) rfl ?_
                refine L.rd (rd_move rfl) rfl ?_
                first | refine L.partG rfl rfl (fun g47 => ?_) (fun g47 => ?_) | refine L.partGB rfl rfl (fun g47 => ?_) (fun g47 => ?_)
                ·
                  refine L.no rfl rfl rfl rfl ?_
                  refine L.no rfl rfl rfl rfl ?_
                  refine L.no rfl rfl rfl rfl ?_
                  refine L.rd (rd_pickT rfl rfl) rfl ?_
                  refine L.rd (rd_move rfl) rfl ?_
                  refine L.no rfl rfl rfl rfl ?_
                  refine L.no rfl rfl rfl rfl ?_
                  refine L.no rfl rfl rfl rfl ?_
                  refine L.rd (rd_pickT rfl rfl) rfl ?_
                  refine L.nil ?_
                  refine X.sq ?_
                  refine V.condT rfl ?_
                  refine V.seq ?_
                  refine V.region ?_
                  refine L.rd (rd_build (out := [_]) tok rfl rfl rfl rfl rfl) rfl ?_
                  refine L.ef (e_store (vs := [_]) tok rfl rfl rfl rfl hr4 rfl (by simp [Value.oneCell']) (by simp) ?_)
                  refine L.rd (rd_assign rfl) rfl ?_
                  refine L.nil ?_
                  refine X.sq ?_
                  refine V.ret ?_
                  refine X.sqRet ?_
                  refine X.bkRet ?_
                  refine X.sqRet ?_
                  refine X.lpRet ?_
                  refine X.bkRet ?_
                  refine X.sqRet ?_
                  refine X.bkRet ?_
                  refine X.sqRet ?_
                  refine X.lpRet ?_
                  refine X.bkRet ?_
                  refine X.sqRet ?_
                  refine ret_c1 tok Yaam.results20 rfl rfl rfl rfl (Bl.cells (hr4.set _ _)) rfl ?_
                  have hbad : normP (pol Ls) = none := normP_bad (inOk_bad hpt (tgB_bad hf (by rintro ⟨h1, h2, h3, h4⟩; omega)))
                  exact ⟨_, [], by rw [hbad]; rfl, OwnT.nil _ _ _ _ _, by rw [hbad]; rfl, hE4.set (by omega) _ _⟩
                ·
                  refine L.yes rfl rfl ?_
                  refine L.rd (rd_fieldAddr tok rfl rfl rfl rfl rfl rfl) rfl ?_
                  refine L.yes rfl rfl ?_
                  refine L.rd (rd_load1 tok rfl rfl rfl (by first | assumption | exact Bl.cell (by (repeat (first | assumption | (refine Bl.new' ?_ _ _; first | with_reducible rfl | (simp only [size_addB, size_setB, size_drew]; done)) | apply Bl.add | apply Bl.drew | (apply Bl.setNe; omega) | (refine Bl.set' ?_ _ _; (try simp only [size_addB, size_setB, size_drew]); omega)))) rfl)) rfl ?_
                  refine L.yes rfl rfl ?_
                  refine L.rd (rd_lss rfl rfl) rfl ?_
                  refine L.rd (rd_pickF rfl rfl) rfl ?_
                  refine L.rd (rd_move rfl) rfl ?_
                  first | refine L.partG rfl rfl (fun g52 => ?_) (fun g52 => ?_) | refine L.partGB rfl rfl (fun g52 => ?_) (fun g52 => ?_)
                  ·
                    refine L.no rfl rfl rfl rfl ?_
                    refine L.no rfl rfl rfl rfl ?_
                    refine L.no rfl rfl rfl rfl ?_
                    refine L.rd (rd_pickT rfl rfl) rfl ?_
                    refine L.nil ?_
                    refine X.sq ?_
                    refine V.condT rfl ?_
                    refine V.seq ?_
                    refine V.region ?_
                    refine L.rd (rd_build (out := [_]) tok rfl rfl rfl rfl rfl) rfl ?_
                    refine L.ef (e_store (vs := [_]) tok rfl rfl rfl rfl hr4 rfl (by simp [Value.oneCell']) (by simp) ?_)
                    refine L.rd (rd_assign rfl) rfl ?_
                    refine L.nil ?_
                    refine X.sq ?_
                    refine V.ret ?_
                    refine X.sqRet ?_
                    refine X.bkRet ?_
                    refine X.sqRet ?_
                    refine X.lpRet ?_
                    refine X.bkRet ?_
                    refine X.sqRet ?_
                    refine X.bkRet ?_
                    refine X.sqRet ?_
                    refine X.lpRet ?_
                    refine X.bkRet ?_
                    refine X.sqRet ?_
                    refine ret_c1 tok Yaam.results20 rfl rfl rfl rfl (Bl.cells (hr4.set _ _)) rfl ?_
                    have hbad : normP (pol Ls) = none := normP_bad (inOk_bad hpt (tgB_bad hf (by rintro ⟨h1, h2, h3, h4⟩; omega)))
                    exact ⟨_, [], by rw [hbad]; rfl, OwnT.nil _ _ _ _ _, by rw [hbad]; rfl, hE4.set (by omega) _ _⟩
                  ·
                    refine L.yes rfl rfl ?_
                    refine L.rd (rd_fieldAddr tok rfl rfl rfl rfl rfl rfl) rfl ?_
                    refine L.yes rfl rfl ?_
                    refine L.rd (rd_load1 tok rfl rfl rfl (by first | assumption | exact Bl.cell (by (repeat (first | assumption | (refine Bl.new' ?_ _ _; first | with_reducible rfl | (simp only [size_addB, size_setB, size_drew]; done)) | apply Bl.add | apply Bl.drew | (apply Bl.setNe; omega) | (refine Bl.set' ?_ _ _; (try simp only [size_addB, size_setB, size_drew]); omega)))) rfl)) rfl ?_
                    refine L.yes rfl rfl ?_
                    refine L.rd (rd_gtr rfl rfl) rfl ?_
                    refine L.rd (rd_pickF rfl rfl) rfl ?_
                    refine L.nil ?_
                    refine X.sq ?_
                    first | refine V.cond rfl (fun h56 => ?_) (fun h56 => ?_) | refine V.condB rfl (fun h56 => ?_) (fun h56 => ?_)
                    ·
                      refine V.seq ?_
                      refine V.region ?_
                      refine L.rd (rd_build (out := [_]) tok rfl rfl rfl rfl rfl) rfl ?_
                      refine L.ef (e_store (vs := [_]) tok rfl rfl rfl rfl hr4 rfl (by simp [Value.oneCell']) (by simp) ?_)
                      refine L.rd (rd_assign rfl) rfl ?_
                      refine L.nil ?_
                      refine X.sq ?_
                      refine V.ret ?_
                      refine X.sqRet ?_
                      refine X.bkRet ?_
                      refine X.sqRet ?_
                      refine X.lpRet ?_
                      refine X.bkRet ?_
                      refine X.sqRet ?_
                      refine X.bkRet ?_
                      refine X.sqRet ?_
                      refine X.lpRet ?_
                      refine X.bkRet ?_
                      refine X.sqRet ?_
                      refine ret_c1 tok Yaam.results20 rfl rfl rfl rfl (Bl.cells (hr4.set _ _)) rfl ?_
                      have hbad : normP (pol Ls) = none := normP_bad (inOk_bad hpt (tgB_bad hf (by rintro ⟨h1, h2, h3, h4⟩; omega)))
                      exact ⟨_, [], by rw [hbad]; rfl, OwnT.nil _ _ _ _ _, by rw [hbad]; rfl, hE4.set (by omega) _ _⟩
                    ·
                      refine V.skip ?_
                      refine X.sq ?_
                      have hrng : 0 ≤ a ∧ a < 26 ∧ 0 ≤ p ∧ p ≤ 1000000 := by omega
                      have hnx := hva.next hf hrng
                      simp only at hnx
                      obtain ⟨e, he⟩ := nth_of_lt u a.toNat (by omega)
                      have her := hva.rng e (List.mem_of_getElem? he)
                      have hadd : addAt u a.toNat p = u.set a.toNat (e + p) := by unfold addAt; rw [List.getD_eq_getElem?_getD, he]; rfl
                      have hml4 := hbm4.lt
                      refine V.draw [11] mixed ?_
                      refine D.take 0 [true, false, false, false, false, false, false, false, false, false, false, false] (.bk (.sq (.lp (.bk (.sq (.bk (.sq (.lp (.bk (.sq .bd)))))))))) rfl (rd_fieldAddr tok rfl rfl rfl rfl rfl rfl) rfl (by kernel_rfl) rfl (LeC.drew _) ?_
                      refine D.take 1 [true, true, false, false, false, false, false, false, false, false, false, false] (.bk (.sq (.lp (.bk (.sq (.bk (.sq (.lp (.bk (.sq .bd)))))))))) rfl (rd_load1 tok rfl rfl rfl (hb4.cell rfl)) rfl (by kernel_rfl) rfl (LeC.drew _) ?_
                      refine D.take 2 [true, true, true, false, false, false, false, false, false, false, false, false] (.bk (.sq (.lp (.bk (.sq (.bk (.sq (.lp (.bk (.sq .bd)))))))))) rfl (rd_fieldAddr tok rfl rfl rfl rfl rfl rfl) rfl (by kernel_rfl) rfl (LeC.drew _) ?_
                      (refine D.take 3 [true, true, true, true, false, false, false, false, false, false, false, false] (.bk (.sq (.lp (.bk (.sq (.bk (.sq (.lp (.bk (.sq .bd)))))))))) rfl (rd_indexArr (n := 26) (sz := 1) tok rfl rfl rfl rfl rfl rfl rfl rfl ?_) rfl (by kernel_rfl) rfl (LeC.drew _) ?_; omega)
                      refine D.take 4 [true, true, true, true, true, false, false, false, false, false, false, false] (.bk (.sq (.lp (.bk (.sq (.bk (.sq (.lp (.bk (.sq .bd)))))))))) rfl (rd_load1 tok rfl rfl rfl (cell_at (i := 1 + a.toNat) hbm4 (by rw [Nat.add_comm, List.getElem?_cons_succ]; exact iC_get he) (by simp))) rfl (by kernel_rfl) rfl (LeC.drew _) ?_
                      refine D.take 5 [true, true, true, true, true, true, false, false, false, false, false, false] (.bk (.sq (.lp (.bk (.sq (.bk (.sq (.lp (.bk (.sq .bd)))))))))) rfl (rd_fieldAddr tok rfl rfl rfl rfl rfl rfl) rfl (by kernel_rfl) rfl (LeC.drew _) ?_
                      refine D.take 6 [true, true, true, true, true, true, true, false, false, false, false, false] (.bk (.sq (.lp (.bk (.sq (.bk (.sq (.lp (.bk (.sq .bd)))))))))) rfl (rd_load1 tok rfl rfl rfl (hb4.cell (i := 1) rfl)) rfl (by kernel_rfl) rfl (LeC.drew _) ?_
                      refine D.take 7 [true, true, true, true, true, true, true, true, false, false, false, false] (.bk (.sq (.lp (.bk (.sq (.bk (.sq (.lp (.bk (.sq .bd)))))))))) rfl (rd_convE (r := p) tok rfl rfl rfl rfl rfl (wrap_i32_in (by omega))) rfl (by kernel_rfl) rfl (LeC.drew _) ?_
                      refine D.take 8 [true, true, true, true, true, true, true, true, true, false, false, false] (.bk (.sq (.lp (.bk (.sq (.bk (.sq (.lp (.bk (.sq .bd)))))))))) rfl (rd_addE (r := e + p) rfl rfl (wrap_i32_in (by omega))) rfl (by kernel_rfl) rfl (LeC.drew _) ?_
                      refine D.take 9 [true, true, true, true, true, true, true, true, true, true, false, false] (.bk (.sq (.lp (.bk (.sq (.bk (.sq (.lp (.bk (.sq .bd)))))))))) rfl (rd_fieldAddr tok rfl rfl rfl rfl rfl rfl) rfl (by kernel_rfl) rfl (LeC.drew _) ?_
                      (refine D.take 10 [true, true, true, true, true, true, true, true, true, true, true, false] (.bk (.sq (.lp (.bk (.sq (.bk (.sq (.lp (.bk (.sq .bd)))))))))) rfl (rd_indexArr (n := 26) (sz := 1) tok rfl rfl rfl rfl rfl rfl rfl rfl ?_) rfl (by kernel_rfl) rfl (LeC.drew _) ?_; omega)
                      refine D.one 11 [true, true, true, true, true, true, true, true, true, true, true, true] rfl (by kernel_rfl) rfl (e_store (vs := [_]) tok rfl rfl rfl rfl hbm4.drew rfl (by simp [Value.oneCell']) (by simp only [iC_len, List.length_cons, List.length_nil]; simp; omega) ⟨fun h => (by cases h), ?_⟩)
                      (simp only [Nat.zero_add, Nat.mul_one, Int.toNat_natCast])
                      rw [cI_putE _ _ _ _ (by omega), ← hadd]
                      refine D.done (by kernel_rfl) ?_
                      refine X.bk ?_
                      refine X.sq ?_
                      refine V.region ?_
                      (refine L.rd (rd_add3 rfl rfl ?_) rfl ?_; omega)
                      refine L.rd (rd_move rfl) rfl ?_
                      refine L.nil ?_
                      refine X.lp ⟨_, _, by omega, (by repeat' (first | exact trivial | refine ⟨rfl, ?_⟩)), j + 1, addAt u a.toNat p, rfl, rfl, by omega, hE4.drew.set (by omega) _ _, hr4.drew.setNe (by omega) _ _, ?_, Bl.set' (by rw [size_drew]; exact hml4) _ _, hnx, all_snoc hf hall3 (fgB_ok (by omega))⟩
                      exact own_same hO4 fun q hq => Ext.block ((Ext.refl _ _).drew.set (Nat.le_refl _) _ _) q (hne q hq)
            ·
              refine V.exit ?_
              refine X.sqExit ?_
              refine X.lpExit ?_
              refine X.bkHere ?_
              refine X.sq ?_
              have hvd := hva.done (by omega)
              rw [← hvd, ← mtE_eq (by rw [hvd]; exact hul)] at hbm
              refine V.region ?_
              refine L.rd (rd_move rfl) rfl ?_
              refine L.rd (rd_loadN tok rfl rfl rfl hbm.cells (mtE_len _).symm) rfl ?_
              refine L.ef (e_buildSlice1 (e := 103) (cs := mtE (c, vec fs)) tok rfl rfl rfl rfl rfl rfl rfl rfl (by rw [mtE_len]; rfl) (by first | (simp only [size_addB, size_setB, size_drew]; rfl) | rfl) rfl ?_)
              refine L.ef (e_append (m := 1) tok rfl rfl rfl rfl rfl rfl rfl rfl rfl rfl (hO.alloc _) (Bl.new _ _ _).cells (mtE_len _) (mtE_one _) (by unfold maxLen; omega) (by simp only []; omega) (by rw [size_addB]; omega) ?_)
              rintro v6 w6 ho6 hg6
              have hE6 := (hE3.addNew 103 (mtE (c, vec fs))).grown hg6 (by rw [size_addB]; omega) (fun q hq => by have := (own_block_lt hO hq).1; omega)
              have hr6 := (hr.add 103 (mtE (c, vec fs))).off_own (hO.alloc _) rfl hg6
              refine L.rd (rd_assign rfl) rfl ?_
              refine L.nil ?_
              refine X.bk ?_
              refine X.sq ?_
              refine V.region ?_
              (refine L.rd (rd_add3 rfl rfl ?_) rfl ?_; omega)
              refine L.rd (rd_move rfl) rfl ?_
              refine L.nil ?_
              refine X.lp ⟨_, _, by omega, (by repeat' (first | exact trivial | refine ⟨rfl, ?_⟩)), k + 1, v6, rfl, rfl, by omega, hE6, hr6, ?_, all_snoc hpt hall (tgB_ok (by omega) (by rwa [List.take_of_length_le (by omega)] at hall3))⟩
              rw [take_snoc hmt, List.flatMap_append]
              simpa using ho6
      ·
        refine V.exit ?_
        refine X.sqExit ?_
        refine X.lpExit ?_
        refine X.bkHere ?_
        refine X.sq ?_
        refine V.seq ?_
        have hok : inOk (pol Ls) = true := inOk_ok (by rw [pol_length]; omega) (by rwa [List.take_of_length_le (by rw [pol_length]; omega)] at hall)
        have hVm := ms_vl hok
        have hCm := ms_cr hCq
        have hml : (ms (pol Ls)).length = Ls.length := by rw [ms_len, pol_length]
        have hnP : normP (pol Ls) = if nfOk (nf (ms (pol Ls))) = true then some (toP (nf (ms (pol Ls)))) else none := by unfold normP; rw [if_pos hok]
        rw [List.take_of_length_le (by omega)] at hO
        have hkk : k = (ms (pol Ls)).length := by omega
        rw [hkk] at hO
        have hnl := nf_len (ms (pol Ls))
        refine V.region ?_
        refine L.rd (rd_move rfl) rfl ?_
        refine L.ef (e_call rfl (mergeTerms_ok _ hVm hCm (by omega) _ _ (Sl.of_own hO)) rfl ?_)
        rintro v2 w2 ⟨hO2, he2⟩
        replace hr := he2.bl hr.lt hr
        replace hE := hE.next he2
        have hs2 := he2.size
        refine L.rd (rd_assign rfl) rfl ?_
        refine L.nil ?_
        refine X.sq ?_
        refine V.seq ?_
        refine V.seq ?_
        refine V.region ?_
        refine L.rd (rd_move rfl) rfl ?_
        refine L.ef (e_call rfl (boundsOK_ok _ (nf_vl hVm) _ _ (Sl.of_own hO2)) rfl ?_)
        rintro _ w3 ⟨rfl, he3⟩
        replace hr := he3.bl hr.lt hr
        replace hE := hE.next he3
        replace hO2 := own_ext hO2 he3
        have hs3 := he3.size
        first | refine L.rd (rd_not rfl) rfl ?_ | refine L.rd (rd_notB rfl) rfl ?_
        refine L.nil ?_
        refine X.sq ?_
        first | refine V.cond rfl (fun h79 => ?_) (fun h79 => ?_) | refine V.condB rfl (fun h79 => ?_) (fun h79 => ?_)
        ·
          refine V.seq ?_
          refine V.region ?_
          refine L.rd (rd_build (out := [_]) tok rfl rfl rfl rfl rfl) rfl ?_
          refine L.ef (e_store (vs := [_]) tok rfl rfl rfl rfl hr rfl (by simp [Value.oneCell']) (by simp) ?_)
          refine L.rd (rd_assign rfl) rfl ?_
          refine L.nil ?_
          refine X.sq ?_
          refine V.ret ?_
          refine X.sqRet ?_
          refine ret_c1 tok Yaam.results20 rfl rfl rfl rfl (Bl.cells (hr.set _ _)) rfl ?_
          have hbad : normP (pol Ls) = none := by rw [hnP, if_neg (by simpa using h79)]
          exact ⟨_, [], by rw [hbad]; rfl, OwnT.nil _ _ _ _ _, by rw [hbad]; rfl, hE.set (by omega) _ _⟩
        ·
          refine V.skip ?_
          refine X.sq ?_
          refine V.seq ?_
          refine V.region ?_
          refine L.rd (rd_move rfl) rfl ?_
          refine L.ef (e_call rfl (fromM_ok _ (nf_vl hVm) (by omega) _ _ (Sl.of_own hO2)) rfl ?_)
          rintro _ w6 ⟨v6, rfl, L6, hO6, hq6, he6⟩
          obtain ⟨a6, c6, rfl⟩ := own_form hO6.top
          replace hr := he6.bl hr.lt hr
          replace hE := hE.next he6
          refine L.ef (e_store (vs := [_]) tok rfl rfl rfl rfl hr rfl (by simp [Value.oneCell']) (by simp) ?_)
          refine L.rd (rd_assign rfl) rfl ?_
          refine L.nil ?_
          refine X.sq ?_
          refine V.ret ?_
          refine ret_c1 tok Yaam.results20 rfl rfl rfl rfl (Bl.cells (hr.set _ _)) rfl ?_
          have hgood : normP (pol Ls) = some (toP (nf (ms (pol Ls)))) := by rw [hnP, if_pos (by simpa using h79)]
          refine ⟨_, L6, by rw [hgood]; rfl, ?_, by rw [hgood]; exact hq6, hE.set (by omega) _ _⟩
          rw [size_setB]
          exact (hO6.rg (Rg.set (lo := w.heap.size) (hi := w.heap.size + 1) (by omega) _ _) (by omega)).low (by omega)
end Go.Proofs.YbxaawGreat
