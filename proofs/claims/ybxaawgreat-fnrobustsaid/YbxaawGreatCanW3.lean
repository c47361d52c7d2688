/-
  impl.IsCanonical, walked.
-/
import Derived.Test.YbxaawGreatCanW2
set_option linter.unusedVariables false
set_option linter.unusedSimpArgs false
set_option maxRecDepth 10000
namespace Go.Proofs.YbxaawGreat
open Go.Mw
theorem cmpV_neg {a b : List Int} (h : ¬ 0 ≤ cmpV a b) : before a b = true := by
  unfold cmpV at h
  cases e : before a b with
  | true => rfl
  | false => rw [e] at h; exfalso; apply h; simp only [Bool.false_eq_true, if_false]; split <;> decide
theorem cmpV_nneg {a b : List Int} (h : 0 ≤ cmpV a b) : before a b = false := by
  unfold cmpV at h
  cases e : before a b with
  | false => rfl
  | true => rw [e] at h; simp at h

theorem ican_ok (va : Value) (Ls : List Lt) (w : World) {lo hi : Nat} (hT : Tl w lo hi va Ls) (hS : Sm (pol Ls)) : Ret Yaam.prog 64 [.agg #[va]] w fun r w' => r = .bool (canon (pol Ls)) ∧ Ext w.heap.size w w' := by
  obtain ⟨aa, ca, rfl, hfa⟩ := hT.form
  have hSl := hS.top
  refine enter1 Yaam.func64 Yaam.ntmps64 (by kernel_rfl) rfl rfl ?_
  refine V.seq ?_
  refine V.region ?_
  refine L.ef (e_box (cs := [_]) rfl rfl (by first | (simp only [size_addB, size_setB, size_drew]; rfl) | rfl) rfl ?_)
  refine L.rd (rd_assign rfl) rfl ?_
  refine L.nil ?_
  refine X.sq ?_
  refine V.seq ?_
  refine V.seq ?_
  refine V.region ?_
  refine L.rd (rd_fieldAddr tok rfl rfl rfl rfl rfl rfl) rfl ?_
  refine L.rd (rd_load1 tok rfl rfl rfl (by first | assumption | exact Bl.cell (by (repeat (first | assumption | (refine Bl.new' ?_ _ _; first | with_reducible rfl | (simp only [size_addB, size_setB, size_drew]; done)) | apply Bl.add | apply Bl.drew | (apply Bl.setNe; omega) | (refine Bl.set' ?_ _ _; (try simp only [size_addB, size_setB, size_drew]); omega)))) rfl)) rfl ?_
  refine L.rd (rd_lenSlice tok rfl rfl rfl) rfl ?_
  refine L.rd (rd_gtr rfl rfl) rfl ?_
  refine L.nil ?_
  refine X.sq ?_
  first | refine V.cond rfl (fun h12 => ?_) (fun h12 => ?_) | refine V.condB rfl (fun h12 => ?_) (fun h12 => ?_)
  ·
    refine V.seq ?_
    refine V.region ?_
    refine L.rd (rd_assign rfl) rfl ?_
    refine L.nil ?_
    refine X.sq ?_
    refine V.ret ?_
    refine X.sqRet ?_
    refine ret_1 Yaam.results64 rfl ?_
    refine ⟨by rw [canon_long (by rw [pol_length]; omega)], (Ext.refl _ _).addNew _ _⟩
  ·
    refine V.skip ?_
    refine X.sq ?_
    refine V.seq ?_
    refine V.region ?_
    refine L.ef (e_alloc (cs := mC 0 z26 (isum z26)) tok rfl rfl (by first | (simp only [size_addB, size_setB, size_drew]; rfl) | rfl) rfl ?_)
    refine L.nil ?_
    refine X.sq ?_
    refine V.seq ?_
    refine V.seq ?_
    refine V.region ?_
    refine L.rd (rd_assign rfl) rfl ?_
    refine L.nil ?_
    refine X.sq ?_
    refine V.block ?_
    refine V.loop (fun m l wr => ∃ (k : Nat) (pv : List Int), l = [(1, .pointer (some ⟨w.heap.size, 0, none⟩)), (3, .pointer (some ⟨w.heap.size + 1, 0, none⟩)), (4, .int .i64 k)] ∧ m = Ls.length - k ∧ k ≤ Ls.length ∧ Ext w.heap.size w wr ∧ Bl wr w.heap.size 44 [.slice aa Ls.length ca] ∧ Bl wr (w.heap.size + 1) 97 (mC 0 pv (isum pv)) ∧ Cl (pol Ls) k pv) ?_ ?_
    ·
      exact ⟨_, _, (by repeat' (first | exact trivial | refine ⟨rfl, ?_⟩)), 0, z26, rfl, rfl, by omega, ((Ext.refl _ _).addNew _ _).addNew _ _, (Bl.new _ _ _).add _ _, Bl.new' (by simp only [size_addB]) _ _, Cl.start (by rw [pol_length]; omega)⟩
    ·
      rintro m l wr ⟨k, pv, rfl, rfl, hk, hE, hp, hbp, hcl⟩
      refine V.seq ?_
      refine V.seq ?_
      refine V.region ?_
      refine L.rd (rd_move rfl) rfl ?_
      refine L.rd (rd_fieldAddr tok rfl rfl rfl rfl rfl rfl) rfl ?_
      refine L.rd (rd_load1 tok rfl rfl rfl (by first | assumption | exact Bl.cell (by (repeat (first | assumption | (refine Bl.new' ?_ _ _; first | with_reducible rfl | (simp only [size_addB, size_setB, size_drew]; done)) | apply Bl.add | apply Bl.drew | (apply Bl.setNe; omega) | (refine Bl.set' ?_ _ _; (try simp only [size_addB, size_setB, size_drew]); omega)))) rfl)) rfl ?_
      refine L.rd (rd_lenSlice tok rfl rfl rfl) rfl ?_
      refine L.rd (rd_lss rfl rfl) rfl ?_
      refine L.nil ?_
      refine X.sq ?_
      first | refine V.cond rfl (fun h17 => ?_) (fun h17 => ?_) | refine V.condB rfl (fun h17 => ?_) (fun h17 => ?_)
      ·
        obtain ⟨b1, o1, rfl, -, -, hc1⟩ := hfa.resolve_left (by omega)
        obtain ⟨⟨c, fv, fs⟩, ht⟩ := nth_of_lt Ls k (by omega)
        have hcx := Tl.cells (hc1.le hE.leC) ht
        have hSf := hS.nth ht
        have hwr := hE.size
        have hbl := hbp.lt
        obtain ⟨fa, fc, hfv, hff⟩ := (hT.ext hE).nth ht
        simp only at hfv hff hcx hSf
        subst hfv
        refine V.skip ?_
        refine X.sq ?_
        refine V.seq ?_
        refine V.block ?_
        refine V.seq ?_
        refine V.region ?_
        refine L.rd (rd_fieldAddr tok rfl rfl rfl rfl rfl rfl) rfl ?_
        refine L.rd (rd_load1 tok rfl rfl rfl (by first | assumption | exact Bl.cell (by (repeat (first | assumption | (refine Bl.new' ?_ _ _; first | with_reducible rfl | (simp only [size_addB, size_setB, size_drew]; done)) | apply Bl.add | apply Bl.drew | (apply Bl.setNe; omega) | (refine Bl.set' ?_ _ _; (try simp only [size_addB, size_setB, size_drew]); omega)))) rfl)) rfl ?_
        refine L.rd (rd_move rfl) rfl ?_
        (refine L.rd (rd_indexSlice (sz := 2) tok rfl rfl rfl rfl rfl rfl rfl ?_) rfl ?_; omega)
        refine L.rd (rd_loadN tok rfl rfl rfl hcx rfl) rfl ?_
        refine L.ef (e_alloc (cs := [_, _]) tok rfl rfl (by first | (simp only [size_addB, size_setB, size_drew]; rfl) | rfl) rfl ?_)
        refine L.ef (e_store (vs := [_, _]) tok rfl rfl rfl rfl (by (repeat (first | assumption | (refine Bl.new' ?_ _ _; first | with_reducible rfl | (simp only [size_addB, size_setB, size_drew]; done)) | apply Bl.add | apply Bl.drew | (apply Bl.setNe; omega) | (refine Bl.set' ?_ _ _; (try simp only [size_addB, size_setB, size_drew]); omega)))) rfl (by simp [Value.oneCell']) (by simp) ?_)
        refine L.nil ?_
        refine X.sq ?_
        refine V.seq ?_
        refine V.seq ?_
        refine V.region ?_
        refine L.rd (rd_fieldAddr tok rfl rfl rfl rfl rfl rfl) rfl ?_
        refine L.rd (rd_load1 tok rfl rfl rfl (by first | assumption | exact Bl.cell (by (repeat (first | assumption | (refine Bl.new' ?_ _ _; first | with_reducible rfl | (simp only [size_addB, size_setB, size_drew]; done)) | apply Bl.add | apply Bl.drew | (apply Bl.setNe; omega) | (refine Bl.set' ?_ _ _; (try simp only [size_addB, size_setB, size_drew]); omega)))) rfl)) rfl ?_
        refine L.rd (rd_eql rfl rfl) rfl ?_
        refine L.nil ?_
        refine X.sq ?_
        first | refine V.cond rfl (fun h27 => ?_) (fun h27 => ?_) | refine V.condB rfl (fun h27 => ?_) (fun h27 => ?_)
        ·
          refine V.seq ?_
          refine V.region ?_
          refine L.rd (rd_assign rfl) rfl ?_
          refine L.nil ?_
          refine X.sq ?_
          refine V.ret ?_
          refine X.sqRet ?_
          refine X.bkRet ?_
          refine X.sqRet ?_
          refine X.lpRet ?_
          refine X.bkRet ?_
          refine X.sqRet ?_
          refine ret_1 Yaam.results64 rfl ?_
          exact ⟨by rw [hcl.bad0 (pol_get ht) h27], (by have hsz_ := hE.size; repeat (first | assumption | refine Ext.drew ?_ | refine Ext.addNew ?_ _ _ | (refine Ext.set ?_ ?_ _ _; rotate_left; (try simp only [size_addB, size_setB, size_drew]); omega)))⟩
        ·
          refine V.skip ?_
          refine X.sq ?_
          refine V.seq ?_
          refine V.region ?_
          refine L.ef (e_alloc (cs := mC 0 z26 (isum z26)) tok rfl rfl (by first | (simp only [size_addB, size_setB, size_drew]; rfl) | rfl) rfl ?_)
          refine L.nil ?_
          refine X.sq ?_
          refine V.seq ?_
          refine V.seq ?_
          refine V.region ?_
          refine L.rd (rd_assign rfl) rfl ?_
          refine L.nil ?_
          refine X.sq ?_
          refine V.block ?_
          refine V.loop (fun m l w2 => ∃ (j : Nat) (last : Int) (v : List Int), l = [(1, .pointer (some ⟨w.heap.size, 0, none⟩)), (3, .pointer (some ⟨w.heap.size + 1, 0, none⟩)), (4, .int .i64 k), (5, .pointer (some ⟨wr.heap.size, 0, none⟩)), (6, .pointer (some ⟨wr.heap.size + 1, 0, none⟩)), (7, .int .i64 j)] ∧ m = fs.length - j ∧ j ≤ fs.length ∧ Ext wr.heap.size wr w2 ∧ Bl w2 wr.heap.size 91 [.int .i64 c, .slice fa fs.length fc] ∧ Bl w2 (wr.heap.size + 1) 97 (mC 0 v (isum v)) ∧ Fl fs j last v ∧ (j = 0 ∧ last = -1 ∨ 0 < j ∧ ∃ p, fs[j - 1]? = some (last, p))) ?_ ?_
          ·
            refine ⟨_, _, (by repeat' (first | exact trivial | refine ⟨rfl, ?_⟩)), 0, -1, z26, rfl, rfl, by omega, ?_, ?_, Bl.new' (by simp only [size_addB, size_setB]) _ _, Fl.start fs, .inl ⟨rfl, rfl⟩⟩
            · exact (((Ext.refl _ wr).addNew _ _).set (Nat.le_refl _) _ _).addNew _ _
            · exact (Bl.set' (by rw [size_addB]; omega) _ _).add _ _
          ·
            rintro m l w2 ⟨j, last, v, rfl, rfl, hj, hE2, hbt, hbm, hfl, hlast⟩
            have hla := hfl.fv.last
            have hvl := hfl.fv.len
            have hml := hbm.lt
            have hbp2 := hE2.bl hbl hbp
            have hp2 := hE2.bl hp.lt hp
            have hE3 := hE.next hE2
            have hbd := hfl.fv.bound
            refine V.seq ?_
            refine V.seq ?_
            refine V.region ?_
            refine L.rd (rd_move rfl) rfl ?_
            refine L.rd (rd_fieldAddr tok rfl rfl rfl rfl rfl rfl) rfl ?_
            refine L.rd (rd_load1 tok rfl rfl rfl (by first | assumption | exact Bl.cell (by (repeat (first | assumption | (refine Bl.new' ?_ _ _; first | with_reducible rfl | (simp only [size_addB, size_setB, size_drew]; done)) | apply Bl.add | apply Bl.drew | (apply Bl.setNe; omega) | (refine Bl.set' ?_ _ _; (try simp only [size_addB, size_setB, size_drew]); omega)))) rfl)) rfl ?_
            refine L.rd (rd_lenSlice tok rfl rfl rfl) rfl ?_
            refine L.rd (rd_lss rfl rfl) rfl ?_
            refine L.nil ?_
            refine X.sq ?_
            first | refine V.cond rfl (fun h32 => ?_) (fun h32 => ?_) | refine V.condB rfl (fun h32 => ?_) (fun h32 => ?_)
            ·
              obtain ⟨b2, o2, rfl, -, -, hc2⟩ := hff.resolve_left (by omega)
              obtain ⟨⟨fva, fpo⟩, hf⟩ := nth_of_lt fs j (by omega)
              have hcf := (hc2.le hE2.leC).sub (j * 2) _ (pr_get fs j _ hf)
              refine V.skip ?_
              refine X.sq ?_
              refine V.seq ?_
              refine V.block ?_
              refine V.seq ?_
              refine V.region ?_
              refine L.rd (rd_fieldAddr tok rfl rfl rfl rfl rfl rfl) rfl ?_
              refine L.rd (rd_load1 tok rfl rfl rfl (by first | assumption | exact Bl.cell (by (repeat (first | assumption | (refine Bl.new' ?_ _ _; first | with_reducible rfl | (simp only [size_addB, size_setB, size_drew]; done)) | apply Bl.add | apply Bl.drew | (apply Bl.setNe; omega) | (refine Bl.set' ?_ _ _; (try simp only [size_addB, size_setB, size_drew]); omega)))) rfl)) rfl ?_
              refine L.rd (rd_move rfl) rfl ?_
              (refine L.rd (rd_indexSlice (sz := 2) tok rfl rfl rfl rfl rfl rfl rfl ?_) rfl ?_; omega)
              refine L.rd (rd_loadN tok rfl rfl rfl hcf rfl) rfl ?_
              refine L.ef (e_alloc (cs := [_, _]) tok rfl rfl (by first | (simp only [size_addB, size_setB, size_drew]; rfl) | rfl) rfl ?_)
              refine L.ef (e_store (vs := [_, _]) tok rfl rfl rfl rfl (by (repeat (first | assumption | (refine Bl.new' ?_ _ _; first | with_reducible rfl | (simp only [size_addB, size_setB, size_drew]; done)) | apply Bl.add | apply Bl.drew | (apply Bl.setNe; omega) | (refine Bl.set' ?_ _ _; (try simp only [size_addB, size_setB, size_drew]); omega)))) rfl (by simp [Value.oneCell']) (by simp) ?_)
              refine L.nil ?_
              refine X.sq ?_
              refine V.seq ?_
              refine V.seq ?_
              refine V.region ?_
              refine L.rd (rd_fieldAddr tok rfl rfl rfl rfl rfl rfl) rfl ?_
              refine L.rd (rd_load1 tok rfl rfl rfl (by first | assumption | exact Bl.cell (by (repeat (first | assumption | (refine Bl.new' ?_ _ _; first | with_reducible rfl | (simp only [size_addB, size_setB, size_drew]; done)) | apply Bl.add | apply Bl.drew | (apply Bl.setNe; omega) | (refine Bl.set' ?_ _ _; (try simp only [size_addB, size_setB, size_drew]); omega)))) rfl)) rfl ?_
              refine L.rd (rd_lss rfl rfl) rfl ?_
              refine L.rd (rd_move rfl) rfl ?_
              first | refine L.partG rfl rfl (fun g43 => ?_) (fun g43 => ?_) | refine L.partGB rfl rfl (fun g43 => ?_) (fun g43 => ?_)
              ·
                refine L.no rfl rfl rfl rfl ?_
                refine L.no rfl rfl rfl rfl ?_
                refine L.no rfl rfl rfl rfl ?_
                refine L.rd (rd_pickT rfl rfl) rfl ?_
                refine L.rd (rd_move rfl) rfl ?_
                refine L.no rfl rfl rfl rfl ?_
                refine L.no rfl rfl rfl rfl ?_
                refine L.no rfl rfl rfl rfl ?_
                refine L.rd (rd_pickT rfl rfl) rfl ?_
                refine L.rd (rd_move rfl) rfl ?_
                refine L.no rfl rfl rfl rfl ?_
                refine L.no rfl rfl rfl rfl ?_
                refine L.no rfl rfl rfl rfl ?_
                refine L.rd (rd_pickT rfl rfl) rfl ?_
                refine L.nil ?_
                refine X.sq ?_
                refine V.condT rfl ?_
                refine V.seq ?_
                refine V.region ?_
                refine L.rd (rd_assign rfl) rfl ?_
                refine L.nil ?_
                refine X.sq ?_
                refine V.ret ?_
                refine X.sqRet ?_
                refine X.bkRet ?_
                refine X.sqRet ?_
                refine X.lpRet ?_
                refine X.bkRet ?_
                refine X.sqRet ?_
                refine X.bkRet ?_
                refine X.sqRet ?_
                refine X.lpRet ?_
                refine X.bkRet ?_
                refine X.sqRet ?_
                refine ret_1 Yaam.results64 rfl ?_
                exact ⟨by rw [hcl.bad1 (pol_get ht) (hfl.bad hf (by simp only []; omega))], (by have hsz_ := hE3.size; repeat (first | assumption | refine Ext.drew ?_ | refine Ext.addNew ?_ _ _ | (refine Ext.set ?_ ?_ _ _; rotate_left; (try simp only [size_addB, size_setB, size_drew]); omega)))⟩
              ·
                refine L.yes rfl rfl ?_
                refine L.rd (rd_fieldAddr tok rfl rfl rfl rfl rfl rfl) rfl ?_
                refine L.yes rfl rfl ?_
                refine L.rd (rd_load1 tok rfl rfl rfl (by first | assumption | exact Bl.cell (by (repeat (first | assumption | (refine Bl.new' ?_ _ _; first | with_reducible rfl | (simp only [size_addB, size_setB, size_drew]; done)) | apply Bl.add | apply Bl.drew | (apply Bl.setNe; omega) | (refine Bl.set' ?_ _ _; (try simp only [size_addB, size_setB, size_drew]); omega)))) rfl)) rfl ?_
                refine L.yes rfl rfl ?_
                refine L.rd (rd_gtr rfl rfl) rfl ?_
                refine L.rd (rd_pickF rfl rfl) rfl ?_
                refine L.rd (rd_move rfl) rfl ?_
                first | refine L.partG rfl rfl (fun g48 => ?_) (fun g48 => ?_) | refine L.partGB rfl rfl (fun g48 => ?_) (fun g48 => ?_)
                ·
                  refine L.no rfl rfl rfl rfl ?_
                  refine L.no rfl rfl rfl rfl ?_
                  refine L.no rfl rfl rfl rfl ?_
                  refine L.rd (rd_pickT rfl rfl) rfl ?_
                  refine L.rd (rd_move rfl) rfl ?_
                  refine L.no rfl rfl rfl rfl ?_
                  refine L.no rfl rfl rfl rfl ?_
                  refine L.no rfl rfl rfl rfl ?_
                  refine L.rd (rd_pickT rfl rfl) rfl ?_
                  refine L.nil ?_
                  refine X.sq ?_
                  refine V.condT rfl ?_
                  refine V.seq ?_
                  refine V.region ?_
                  refine L.rd (rd_assign rfl) rfl ?_
                  refine L.nil ?_
                  refine X.sq ?_
                  refine V.ret ?_
                  refine X.sqRet ?_
                  refine X.bkRet ?_
                  refine X.sqRet ?_
                  refine X.lpRet ?_
                  refine X.bkRet ?_
                  refine X.sqRet ?_
                  refine X.bkRet ?_
                  refine X.sqRet ?_
                  refine X.lpRet ?_
                  refine X.bkRet ?_
                  refine X.sqRet ?_
                  refine ret_1 Yaam.results64 rfl ?_
                  exact ⟨by rw [hcl.bad1 (pol_get ht) (hfl.bad hf (by simp only []; omega))], (by have hsz_ := hE3.size; repeat (first | assumption | refine Ext.drew ?_ | refine Ext.addNew ?_ _ _ | (refine Ext.set ?_ ?_ _ _; rotate_left; (try simp only [size_addB, size_setB, size_drew]); omega)))⟩
                ·
                  refine L.yes rfl rfl ?_
                  refine L.rd (rd_fieldAddr tok rfl rfl rfl rfl rfl rfl) rfl ?_
                  refine L.yes rfl rfl ?_
                  refine L.rd (rd_load1 tok rfl rfl rfl (by first | assumption | exact Bl.cell (by (repeat (first | assumption | (refine Bl.new' ?_ _ _; first | with_reducible rfl | (simp only [size_addB, size_setB, size_drew]; done)) | apply Bl.add | apply Bl.drew | (apply Bl.setNe; omega) | (refine Bl.set' ?_ _ _; (try simp only [size_addB, size_setB, size_drew]); omega)))) rfl)) rfl ?_
                  refine L.yes rfl rfl ?_
                  refine L.rd (rd_lss rfl rfl) rfl ?_
                  refine L.rd (rd_pickF rfl rfl) rfl ?_
                  refine L.rd (rd_move rfl) rfl ?_
                  first | refine L.partG rfl rfl (fun g53 => ?_) (fun g53 => ?_) | refine L.partGB rfl rfl (fun g53 => ?_) (fun g53 => ?_)
                  ·
                    refine L.no rfl rfl rfl rfl ?_
                    refine L.no rfl rfl rfl rfl ?_
                    refine L.no rfl rfl rfl rfl ?_
                    refine L.rd (rd_pickT rfl rfl) rfl ?_
                    refine L.nil ?_
                    refine X.sq ?_
                    refine V.condT rfl ?_
                    refine V.seq ?_
                    refine V.region ?_
                    refine L.rd (rd_assign rfl) rfl ?_
                    refine L.nil ?_
                    refine X.sq ?_
                    refine V.ret ?_
                    refine X.sqRet ?_
                    refine X.bkRet ?_
                    refine X.sqRet ?_
                    refine X.lpRet ?_
                    refine X.bkRet ?_
                    refine X.sqRet ?_
                    refine X.bkRet ?_
                    refine X.sqRet ?_
                    refine X.lpRet ?_
                    refine X.bkRet ?_
                    refine X.sqRet ?_
                    refine ret_1 Yaam.results64 rfl ?_
                    exact ⟨by rw [hcl.bad1 (pol_get ht) (hfl.bad hf (by simp only []; omega))], (by have hsz_ := hE3.size; repeat (first | assumption | refine Ext.drew ?_ | refine Ext.addNew ?_ _ _ | (refine Ext.set ?_ ?_ _ _; rotate_left; (try simp only [size_addB, size_setB, size_drew]); omega)))⟩
                  ·
                    refine L.yes rfl rfl ?_
                    refine L.rd (rd_fieldAddr tok rfl rfl rfl rfl rfl rfl) rfl ?_
                    refine L.yes rfl rfl ?_
                    refine L.rd (rd_load1 tok rfl rfl rfl (by first | assumption | exact Bl.cell (by (repeat (first | assumption | (refine Bl.new' ?_ _ _; first | with_reducible rfl | (simp only [size_addB, size_setB, size_drew]; done)) | apply Bl.add | apply Bl.drew | (apply Bl.setNe; omega) | (refine Bl.set' ?_ _ _; (try simp only [size_addB, size_setB, size_drew]); omega)))) rfl)) rfl ?_
                    refine L.yes rfl rfl ?_
                    refine L.rd (rd_gtr rfl rfl) rfl ?_
                    refine L.rd (rd_pickF rfl rfl) rfl ?_
                    refine L.nil ?_
                    refine X.sq ?_
                    first | refine V.cond rfl (fun h57 => ?_) (fun h57 => ?_) | refine V.condB rfl (fun h57 => ?_) (fun h57 => ?_)
                    ·
                      refine V.seq ?_
                      refine V.region ?_
                      refine L.rd (rd_assign rfl) rfl ?_
                      refine L.nil ?_
                      refine X.sq ?_
                      refine V.ret ?_
                      refine X.sqRet ?_
                      refine X.bkRet ?_
                      refine X.sqRet ?_
                      refine X.lpRet ?_
                      refine X.bkRet ?_
                      refine X.sqRet ?_
                      refine X.bkRet ?_
                      refine X.sqRet ?_
                      refine X.lpRet ?_
                      refine X.bkRet ?_
                      refine X.sqRet ?_
                      refine ret_1 Yaam.results64 rfl ?_
                      exact ⟨by rw [hcl.bad1 (pol_get ht) (hfl.bad hf (by simp only []; omega))], (by have hsz_ := hE3.size; repeat (first | assumption | refine Ext.drew ?_ | refine Ext.addNew ?_ _ _ | (refine Ext.set ?_ ?_ _ _; rotate_left; (try simp only [size_addB, size_setB, size_drew]); omega)))⟩
                    ·
                      refine V.skip ?_
                      refine X.sq ?_
                      refine V.seq ?_
                      refine V.seq ?_
                      refine V.draw [] mixed ?_
                      refine D.take 0 [true, false, false, false, false, false, false, false, false, false, false, false, false, false] (.sq (.sq (.bk (.sq (.lp (.bk (.sq (.bk (.sq (.lp (.bk (.sq .bd)))))))))))) rfl (rd_move rfl) rfl (by kernel_rfl) rfl (LeC.drew _) ?_
                      refine D.take 1 [true, true, false, false, false, false, false, false, false, false, false, false, false, false] (.sq (.sq (.bk (.sq (.lp (.bk (.sq (.bk (.sq (.lp (.bk (.sq .bd)))))))))))) rfl (rd_gtr rfl rfl) rfl (by kernel_rfl) rfl (LeC.drew _) ?_
                      refine D.take 2 [true, true, true, false, false, false, false, false, false, false, false, false, false, false] (.sq (.sq (.bk (.sq (.lp (.bk (.sq (.bk (.sq (.lp (.bk (.sq .bd)))))))))))) rfl (rd_move rfl) rfl (by kernel_rfl) rfl (LeC.drew _) ?_
                      first | refine D.part 60 rfl (fun g60 => ?_) (fun g60 => ?_) | refine D.partB 60 rfl (fun g60 => ?_) (fun g60 => ?_)
                      ·
                        obtain ⟨p, hlp⟩ : ∃ p, fs[j - 1]? = some (last, p) := (hlast.resolve_left (by omega)).2
                        have hcp := (((hc2.le hE2.leC)).sub ((j - 1) * 2) _ (pr_get fs (j - 1) _ hlp)).le (w' := setB (addB w2 93 [Value.int .i64 0, .int .i64 0]) w2.heap.size 93 (putAt [Value.int .i64 0, .int .i64 0] 0 [Value.int .i64 fva, .int .i64 fpo])) (Ext.leC (((Ext.refl _ _).addNew _ _).set (Nat.le_refl _) _ _))
                        refine D.takeYes 3 [true, true, true, true, false, false, false, false, false, false, false, false, false, false] (.sq (.sq (.bk (.sq (.lp (.bk (.sq (.bk (.sq (.lp (.bk (.sq .bd)))))))))))) rfl rfl rfl (rd_fieldAddr tok rfl rfl rfl rfl rfl rfl) rfl (by kernel_rfl) rfl (LeC.drew _) ?_
                        refine D.takeYes 4 [true, true, true, true, true, false, false, false, false, false, false, false, false, false] (.sq (.sq (.bk (.sq (.lp (.bk (.sq (.bk (.sq (.lp (.bk (.sq .bd)))))))))))) rfl rfl rfl (rd_load1 tok rfl rfl rfl (by first | assumption | exact Bl.cell (by (repeat (first | assumption | (refine Bl.new' ?_ _ _; first | with_reducible rfl | (simp only [size_addB, size_setB, size_drew]; done)) | apply Bl.add | apply Bl.drew | (apply Bl.setNe; omega) | (refine Bl.set' ?_ _ _; (try simp only [size_addB, size_setB, size_drew]); omega)))) rfl)) rfl (by kernel_rfl) rfl (LeC.drew _) ?_
                        refine D.takeYes 5 [true, true, true, true, true, true, false, false, false, false, false, false, false, false] (.sq (.sq (.bk (.sq (.lp (.bk (.sq (.bk (.sq (.lp (.bk (.sq .bd)))))))))))) rfl rfl rfl (rd_move rfl) rfl (by kernel_rfl) rfl (LeC.drew _) ?_
                        (refine D.takeYes 6 [true, true, true, true, true, true, true, false, false, false, false, false, false, false] (.sq (.sq (.bk (.sq (.lp (.bk (.sq (.bk (.sq (.lp (.bk (.sq .bd)))))))))))) rfl rfl rfl (rd_sub3 rfl rfl ?_) rfl (by kernel_rfl) rfl (LeC.drew _) ?_; omega)
                        (refine D.takeYes 7 [true, true, true, true, true, true, true, true, false, false, false, false, false, false] (.sq (.sq (.bk (.sq (.lp (.bk (.sq (.bk (.sq (.lp (.bk (.sq .bd)))))))))))) rfl rfl rfl (rd_indexSlice (sz := 2) tok rfl rfl rfl rfl rfl rfl rfl ?_) rfl (by kernel_rfl) rfl (LeC.drew _) ?_; omega)
                        refine D.takeYes 8 [true, true, true, true, true, true, true, true, true, false, false, false, false, false] (.sq (.sq (.bk (.sq (.lp (.bk (.sq (.bk (.sq (.lp (.bk (.sq .bd)))))))))))) rfl rfl rfl (rd_fieldAddr tok rfl rfl rfl rfl rfl rfl) rfl (by kernel_rfl) rfl (LeC.drew _) ?_
                        refine D.takeYes 9 [true, true, true, true, true, true, true, true, true, true, false, false, false, false] (.sq (.sq (.bk (.sq (.lp (.bk (.sq (.bk (.sq (.lp (.bk (.sq .bd)))))))))))) rfl rfl rfl (rd_load1 tok rfl rfl rfl (cells_at hcp (i := 0) rfl (by omega))) rfl (by kernel_rfl) rfl (LeC.drew _) ?_
                        refine D.takeYes 10 [true, true, true, true, true, true, true, true, true, true, true, false, false, false] (.sq (.sq (.bk (.sq (.lp (.bk (.sq (.bk (.sq (.lp (.bk (.sq .bd)))))))))))) rfl rfl rfl (rd_fieldAddr tok rfl rfl rfl rfl rfl rfl) rfl (by kernel_rfl) rfl (LeC.drew _) ?_
                        refine D.takeYes 11 [true, true, true, true, true, true, true, true, true, true, true, true, false, false] (.sq (.sq (.bk (.sq (.lp (.bk (.sq (.bk (.sq (.lp (.bk (.sq .bd)))))))))))) rfl rfl rfl (rd_load1 tok rfl rfl rfl (by first | assumption | exact Bl.cell (by (repeat (first | assumption | (refine Bl.new' ?_ _ _; first | with_reducible rfl | (simp only [size_addB, size_setB, size_drew]; done)) | apply Bl.add | apply Bl.drew | (apply Bl.setNe; omega) | (refine Bl.set' ?_ _ _; (try simp only [size_addB, size_setB, size_drew]); omega)))) rfl)) rfl (by kernel_rfl) rfl (LeC.drew _) ?_
                        refine D.takeYes 12 [true, true, true, true, true, true, true, true, true, true, true, true, true, false] (.sq (.sq (.bk (.sq (.lp (.bk (.sq (.bk (.sq (.lp (.bk (.sq .bd)))))))))))) rfl rfl rfl (rd_geq rfl rfl) rfl (by kernel_rfl) rfl (LeC.drew _) ?_
                        refine D.take 13 [true, true, true, true, true, true, true, true, true, true, true, true, true, true] (.sq (.sq (.bk (.sq (.lp (.bk (.sq (.bk (.sq (.lp (.bk (.sq .bd)))))))))))) rfl (rd_pickT rfl rfl) rfl (by kernel_rfl) rfl (LeC.drew _) ?_
                        refine D.done (by kernel_rfl) ?_
                        refine X.sq ?_
                        first | refine V.cond rfl (fun h71 => ?_) (fun h71 => ?_) | refine V.condB rfl (fun h71 => ?_) (fun h71 => ?_)
                        ·
                          refine V.seq ?_
                          refine V.region ?_
                          refine L.rd (rd_assign rfl) rfl ?_
                          refine L.nil ?_
                          refine X.sq ?_
                          refine V.ret ?_
                          refine X.sqRet ?_
                          refine X.bkRet ?_
                          refine X.sqRet ?_
                          refine X.lpRet ?_
                          refine X.bkRet ?_
                          refine X.sqRet ?_
                          refine X.bkRet ?_
                          refine X.sqRet ?_
                          refine X.lpRet ?_
                          refine X.bkRet ?_
                          refine X.sqRet ?_
                          refine ret_1 Yaam.results64 rfl ?_
                          exact ⟨by rw [hcl.bad1 (pol_get ht) (hfl.bad hf (by simp only []; omega))], (by have hsz_ := hE3.size; repeat (first | assumption | refine Ext.drew ?_ | refine Ext.addNew ?_ _ _ | (refine Ext.set ?_ ?_ _ _; rotate_left; (try simp only [size_addB, size_setB, size_drew]); omega)))⟩
                        ·
                          refine V.skip ?_
                          refine X.sq ?_
                          refine V.seq ?_
                          refine V.region ?_
                          refine L.rd (rd_fieldAddr tok rfl rfl rfl rfl rfl rfl) rfl ?_
                          refine L.rd (rd_load1 tok rfl rfl rfl (by first | assumption | exact Bl.cell (by (repeat (first | assumption | (refine Bl.new' ?_ _ _; first | with_reducible rfl | (simp only [size_addB, size_setB, size_drew]; done)) | apply Bl.add | apply Bl.drew | (apply Bl.setNe; omega) | (refine Bl.set' ?_ _ _; (try simp only [size_addB, size_setB, size_drew]); omega)))) rfl)) rfl ?_
                          refine L.rd (rd_fieldAddr tok rfl rfl rfl rfl rfl rfl) rfl ?_
                          refine L.rd (rd_load1 tok rfl rfl rfl (by first | assumption | exact Bl.cell (by (repeat (first | assumption | (refine Bl.new' ?_ _ _; first | with_reducible rfl | (simp only [size_addB, size_setB, size_drew]; done)) | apply Bl.add | apply Bl.drew | (apply Bl.setNe; omega) | (refine Bl.set' ?_ _ _; (try simp only [size_addB, size_setB, size_drew]); omega)))) rfl)) rfl ?_
                          refine L.rd (rd_fieldAddr tok rfl rfl rfl rfl rfl rfl) rfl ?_
                          (refine L.rd (rd_indexArr (n := 26) (sz := 1) tok rfl rfl rfl rfl rfl rfl rfl rfl ?_) rfl ?_; omega)
                          refine L.ef (e_store (vs := [_]) tok rfl rfl rfl rfl (cs := mC 0 v (isum v)) (by (repeat (first | assumption | (refine Bl.new' ?_ _ _; first | with_reducible rfl | (simp only [size_addB, size_setB, size_drew]; done)) | apply Bl.add | apply Bl.drew | (apply Bl.setNe; omega) | (refine Bl.set' ?_ _ _; (try simp only [size_addB, size_setB, size_drew]); omega)))) rfl (by simp [Value.oneCell']) (by simp only [mC_len, List.length_cons, List.length_nil]; omega) ?_)
                          (simp only [Nat.zero_add, Nat.mul_one])
                          rw [mC_putE 0 v (isum v) fva.toNat fpo (by omega)]
                          refine L.nil ?_
                          refine X.sq ?_
                          refine V.region ?_
                          refine L.rd (rd_fieldAddr tok rfl rfl rfl rfl rfl rfl) rfl ?_
                          refine L.rd (rd_load1 tok rfl rfl rfl (cell_at (i := 27) (cs := mC 0 (v.set fva.toNat fpo) (isum v)) (by (repeat (first | assumption | (refine Bl.new' ?_ _ _; first | with_reducible rfl | (simp only [size_addB, size_setB, size_drew]; done)) | apply Bl.add | apply Bl.drew | (apply Bl.setNe; omega) | (refine Bl.set' ?_ _ _; (try simp only [size_addB, size_setB, size_drew]); omega)))) (mC_deg (by simpa using hvl)) rfl)) rfl ?_
                          refine L.rd (rd_fieldAddr tok rfl rfl rfl rfl rfl rfl) rfl ?_
                          refine L.rd (rd_load1 tok rfl rfl rfl (by first | assumption | exact Bl.cell (by (repeat (first | assumption | (refine Bl.new' ?_ _ _; first | with_reducible rfl | (simp only [size_addB, size_setB, size_drew]; done)) | apply Bl.add | apply Bl.drew | (apply Bl.setNe; omega) | (refine Bl.set' ?_ _ _; (try simp only [size_addB, size_setB, size_drew]); omega)))) rfl)) rfl ?_
                          (refine L.rd (rd_add3 rfl rfl ?_) rfl ?_; omega)
                          refine L.rd (rd_fieldAddr tok rfl rfl rfl rfl rfl rfl) rfl ?_
                          refine L.ef (e_store (vs := [_]) tok rfl rfl rfl rfl (cs := mC 0 (v.set fva.toNat fpo) (isum v)) (by (repeat (first | assumption | (refine Bl.new' ?_ _ _; first | with_reducible rfl | (simp only [size_addB, size_setB, size_drew]; done)) | apply Bl.add | apply Bl.drew | (apply Bl.setNe; omega) | (refine Bl.set' ?_ _ _; (try simp only [size_addB, size_setB, size_drew]); omega)))) rfl (by simp [Value.oneCell']) (by simp only [mC_len, List.length_cons, List.length_nil, List.length_set]; omega) ?_)
                          (simp only [Nat.zero_add])
                          rw [mC_putD 0 (v.set fva.toNat fpo) (isum v) (isum v + fpo) (by simpa using hvl)]
                          refine L.nil ?_
                          refine X.bk ?_
                          refine X.sq ?_
                          refine V.region ?_
                          refine L.rd (rd_move rfl) rfl ?_
                          (refine L.rd (rd_add3 rfl rfl ?_) rfl ?_; omega)
                          refine L.rd (rd_assign rfl) rfl ?_
                          refine L.nil ?_
                          have hlast2 : last < fva := by omega
                          refine X.lp ⟨_, _, by omega, (by repeat' (first | exact trivial | refine ⟨rfl, ?_⟩)), j + 1, fva, v.set fva.toNat fpo, rfl, rfl, by omega, ?_, ?_, ?_, hfl.next hf (by simp only []; omega), .inr ⟨by omega, fpo, by simpa using hf⟩⟩
                          · have := hE2.size
                            repeat (first | assumption | refine Ext.drew ?_ | refine Ext.addNew ?_ _ _ | (refine Ext.set ?_ ?_ _ _; rotate_left; (try simp only [size_addB, size_setB, size_drew]); omega))
                          · exact (by (repeat (first | assumption | (refine Bl.new' ?_ _ _; first | with_reducible rfl | (simp only [size_addB, size_setB, size_drew]; done)) | apply Bl.add | apply Bl.drew | (apply Bl.setNe; omega) | (refine Bl.set' ?_ _ _; (try simp only [size_addB, size_setB, size_drew]); omega))))
                          · rw [hfl.fv.sum hlast2 (by omega)]
                            exact Bl.set' (by simp only [size_addB, size_setB, size_drew]; omega) _ _
                      ·
                        refine D.takeNo 3 [true, true, true, true, false, false, false, false, false, false, false, false, false, false] (.sq (.sq (.bk (.sq (.lp (.bk (.sq (.bk (.sq (.lp (.bk (.sq .bd)))))))))))) rfl rfl rfl rfl rfl (by kernel_rfl) rfl (LeC.drew _) ?_
                        refine D.takeNo 4 [true, true, true, true, true, false, false, false, false, false, false, false, false, false] (.sq (.sq (.bk (.sq (.lp (.bk (.sq (.bk (.sq (.lp (.bk (.sq .bd)))))))))))) rfl rfl rfl rfl rfl (by kernel_rfl) rfl (LeC.drew _) ?_
                        refine D.takeNo 5 [true, true, true, true, true, true, false, false, false, false, false, false, false, false] (.sq (.sq (.bk (.sq (.lp (.bk (.sq (.bk (.sq (.lp (.bk (.sq .bd)))))))))))) rfl rfl rfl rfl rfl (by kernel_rfl) rfl (LeC.drew _) ?_
                        refine D.takeNo 6 [true, true, true, true, true, true, true, false, false, false, false, false, false, false] (.sq (.sq (.bk (.sq (.lp (.bk (.sq (.bk (.sq (.lp (.bk (.sq .bd)))))))))))) rfl rfl rfl rfl rfl (by kernel_rfl) rfl (LeC.drew _) ?_
                        refine D.takeNo 7 [true, true, true, true, true, true, true, true, false, false, false, false, false, false] (.sq (.sq (.bk (.sq (.lp (.bk (.sq (.bk (.sq (.lp (.bk (.sq .bd)))))))))))) rfl rfl rfl rfl rfl (by kernel_rfl) rfl (LeC.drew _) ?_
                        refine D.takeNo 8 [true, true, true, true, true, true, true, true, true, false, false, false, false, false] (.sq (.sq (.bk (.sq (.lp (.bk (.sq (.bk (.sq (.lp (.bk (.sq .bd)))))))))))) rfl rfl rfl rfl rfl (by kernel_rfl) rfl (LeC.drew _) ?_
                        refine D.takeNo 9 [true, true, true, true, true, true, true, true, true, true, false, false, false, false] (.sq (.sq (.bk (.sq (.lp (.bk (.sq (.bk (.sq (.lp (.bk (.sq .bd)))))))))))) rfl rfl rfl rfl rfl (by kernel_rfl) rfl (LeC.drew _) ?_
                        refine D.takeNo 10 [true, true, true, true, true, true, true, true, true, true, true, false, false, false] (.sq (.sq (.bk (.sq (.lp (.bk (.sq (.bk (.sq (.lp (.bk (.sq .bd)))))))))))) rfl rfl rfl rfl rfl (by kernel_rfl) rfl (LeC.drew _) ?_
                        refine D.takeNo 11 [true, true, true, true, true, true, true, true, true, true, true, true, false, false] (.sq (.sq (.bk (.sq (.lp (.bk (.sq (.bk (.sq (.lp (.bk (.sq .bd)))))))))))) rfl rfl rfl rfl rfl (by kernel_rfl) rfl (LeC.drew _) ?_
                        refine D.takeNo 12 [true, true, true, true, true, true, true, true, true, true, true, true, true, false] (.sq (.sq (.bk (.sq (.lp (.bk (.sq (.bk (.sq (.lp (.bk (.sq .bd)))))))))))) rfl rfl rfl rfl rfl (by kernel_rfl) rfl (LeC.drew _) ?_
                        refine D.take 13 [true, true, true, true, true, true, true, true, true, true, true, true, true, true] (.sq (.sq (.bk (.sq (.lp (.bk (.sq (.bk (.sq (.lp (.bk (.sq .bd)))))))))))) rfl (rd_pickF rfl rfl) rfl (by kernel_rfl) rfl (LeC.drew _) ?_
                        refine D.done (by kernel_rfl) ?_
                        refine X.sq ?_
                        refine V.condF rfl ?_
                        refine V.skip ?_
                        refine X.sq ?_
                        refine V.seq ?_
                        refine V.region ?_
                        refine L.rd (rd_fieldAddr tok rfl rfl rfl rfl rfl rfl) rfl ?_
                        refine L.rd (rd_load1 tok rfl rfl rfl (by first | assumption | exact Bl.cell (by (repeat (first | assumption | (refine Bl.new' ?_ _ _; first | with_reducible rfl | (simp only [size_addB, size_setB, size_drew]; done)) | apply Bl.add | apply Bl.drew | (apply Bl.setNe; omega) | (refine Bl.set' ?_ _ _; (try simp only [size_addB, size_setB, size_drew]); omega)))) rfl)) rfl ?_
                        refine L.rd (rd_fieldAddr tok rfl rfl rfl rfl rfl rfl) rfl ?_
                        refine L.rd (rd_load1 tok rfl rfl rfl (by first | assumption | exact Bl.cell (by (repeat (first | assumption | (refine Bl.new' ?_ _ _; first | with_reducible rfl | (simp only [size_addB, size_setB, size_drew]; done)) | apply Bl.add | apply Bl.drew | (apply Bl.setNe; omega) | (refine Bl.set' ?_ _ _; (try simp only [size_addB, size_setB, size_drew]); omega)))) rfl)) rfl ?_
                        refine L.rd (rd_fieldAddr tok rfl rfl rfl rfl rfl rfl) rfl ?_
                        (refine L.rd (rd_indexArr (n := 26) (sz := 1) tok rfl rfl rfl rfl rfl rfl rfl rfl ?_) rfl ?_; omega)
                        refine L.ef (e_store (vs := [_]) tok rfl rfl rfl rfl (cs := mC 0 v (isum v)) (by (repeat (first | assumption | (refine Bl.new' ?_ _ _; first | with_reducible rfl | (simp only [size_addB, size_setB, size_drew]; done)) | apply Bl.add | apply Bl.drew | (apply Bl.setNe; omega) | (refine Bl.set' ?_ _ _; (try simp only [size_addB, size_setB, size_drew]); omega)))) rfl (by simp [Value.oneCell']) (by simp only [mC_len, List.length_cons, List.length_nil]; omega) ?_)
                        (simp only [Nat.zero_add, Nat.mul_one])
                        rw [mC_putE 0 v (isum v) fva.toNat fpo (by omega)]
                        refine L.nil ?_
                        refine X.sq ?_
                        refine V.region ?_
                        refine L.rd (rd_fieldAddr tok rfl rfl rfl rfl rfl rfl) rfl ?_
                        refine L.rd (rd_load1 tok rfl rfl rfl (cell_at (i := 27) (cs := mC 0 (v.set fva.toNat fpo) (isum v)) (by (repeat (first | assumption | (refine Bl.new' ?_ _ _; first | with_reducible rfl | (simp only [size_addB, size_setB, size_drew]; done)) | apply Bl.add | apply Bl.drew | (apply Bl.setNe; omega) | (refine Bl.set' ?_ _ _; (try simp only [size_addB, size_setB, size_drew]); omega)))) (mC_deg (by simpa using hvl)) rfl)) rfl ?_
                        refine L.rd (rd_fieldAddr tok rfl rfl rfl rfl rfl rfl) rfl ?_
                        refine L.rd (rd_load1 tok rfl rfl rfl (by first | assumption | exact Bl.cell (by (repeat (first | assumption | (refine Bl.new' ?_ _ _; first | with_reducible rfl | (simp only [size_addB, size_setB, size_drew]; done)) | apply Bl.add | apply Bl.drew | (apply Bl.setNe; omega) | (refine Bl.set' ?_ _ _; (try simp only [size_addB, size_setB, size_drew]); omega)))) rfl)) rfl ?_
                        (refine L.rd (rd_add3 rfl rfl ?_) rfl ?_; omega)
                        refine L.rd (rd_fieldAddr tok rfl rfl rfl rfl rfl rfl) rfl ?_
                        refine L.ef (e_store (vs := [_]) tok rfl rfl rfl rfl (cs := mC 0 (v.set fva.toNat fpo) (isum v)) (by (repeat (first | assumption | (refine Bl.new' ?_ _ _; first | with_reducible rfl | (simp only [size_addB, size_setB, size_drew]; done)) | apply Bl.add | apply Bl.drew | (apply Bl.setNe; omega) | (refine Bl.set' ?_ _ _; (try simp only [size_addB, size_setB, size_drew]); omega)))) rfl (by simp [Value.oneCell']) (by simp only [mC_len, List.length_cons, List.length_nil, List.length_set]; omega) ?_)
                        (simp only [Nat.zero_add])
                        rw [mC_putD 0 (v.set fva.toNat fpo) (isum v) (isum v + fpo) (by simpa using hvl)]
                        refine L.nil ?_
                        refine X.bk ?_
                        refine X.sq ?_
                        refine V.region ?_
                        refine L.rd (rd_move rfl) rfl ?_
                        (refine L.rd (rd_add3 rfl rfl ?_) rfl ?_; omega)
                        refine L.rd (rd_assign rfl) rfl ?_
                        refine L.nil ?_
                        have hlast2 : last < fva := by omega
                        refine X.lp ⟨_, _, by omega, (by repeat' (first | exact trivial | refine ⟨rfl, ?_⟩)), j + 1, fva, v.set fva.toNat fpo, rfl, rfl, by omega, ?_, ?_, ?_, hfl.next hf (by simp only []; omega), .inr ⟨by omega, fpo, by simpa using hf⟩⟩
                        · have := hE2.size
                          repeat (first | assumption | refine Ext.drew ?_ | refine Ext.addNew ?_ _ _ | (refine Ext.set ?_ ?_ _ _; rotate_left; (try simp only [size_addB, size_setB, size_drew]); omega))
                        · exact (by (repeat (first | assumption | (refine Bl.new' ?_ _ _; first | with_reducible rfl | (simp only [size_addB, size_setB, size_drew]; done)) | apply Bl.add | apply Bl.drew | (apply Bl.setNe; omega) | (refine Bl.set' ?_ _ _; (try simp only [size_addB, size_setB, size_drew]); omega))))
                        · rw [hfl.fv.sum hlast2 (by omega)]
                          exact Bl.set' (by simp only [size_addB, size_setB, size_drew]; omega) _ _
            ·
              refine V.exit ?_
              refine X.sqExit ?_
              refine X.lpExit ?_
              refine X.bkHere ?_
              refine X.sq ?_
              refine V.seq ?_
              refine V.seq ?_
              obtain ⟨hok, hvec⟩ := hfl.done (by omega)
              refine V.region ?_
              refine L.rd (rd_fieldAddr tok rfl rfl rfl rfl rfl rfl) rfl ?_
              refine L.rd (rd_load1 tok rfl rfl rfl (cell_at (i := 27) hbm (mC_deg hvl) rfl)) rfl ?_
              refine L.rd (rd_gtr rfl rfl) rfl ?_
              refine L.nil ?_
              refine X.sq ?_
              first | refine V.cond rfl (fun h86 => ?_) (fun h86 => ?_) | refine V.condB rfl (fun h86 => ?_) (fun h86 => ?_)
              ·
                refine V.seq ?_
                refine V.region ?_
                refine L.rd (rd_assign rfl) rfl ?_
                refine L.nil ?_
                refine X.sq ?_
                refine V.ret ?_
                refine X.sqRet ?_
                refine X.bkRet ?_
                refine X.sqRet ?_
                refine X.lpRet ?_
                refine X.bkRet ?_
                refine X.sqRet ?_
                refine ret_1 Yaam.results64 rfl ?_
                exact ⟨by rw [hcl.bad2 (pol_get ht) (by simp only [hvec]; omega)], hE3⟩
              ·
                refine V.skip ?_
                refine X.sq ?_
                refine V.seq ?_
                refine V.seq ?_
                refine V.region ?_
                refine L.rd (rd_move rfl) rfl ?_
                refine L.rd (rd_gtr rfl rfl) rfl ?_
                refine L.rd (rd_move rfl) rfl ?_
                first | refine L.partG rfl rfl (fun g89 => ?_) (fun g89 => ?_) | refine L.partGB rfl rfl (fun g89 => ?_) (fun g89 => ?_)
                ·
                  refine L.yes rfl rfl ?_
                  refine L.ef (e_call rfl (cmpMono_ok _ _ _ _ 0 0 pv v _ ⟨hbp2.cells, hcl.prv.rv⟩ ⟨hbm.cells, hfl.fv.rv⟩) rfl ?_)
                  rintro _ w4 ⟨rfl, he4⟩
                  replace hbm := he4.bl hbm.lt hbm
                  replace hbp2 := he4.bl hbp2.lt hbp2
                  replace hp2 := he4.bl hp2.lt hp2
                  replace hE3 := hE3.next he4
                  refine L.yes rfl rfl ?_
                  refine L.rd (rd_geq rfl rfl) rfl ?_
                  refine L.rd (rd_pickT rfl rfl) rfl ?_
                  refine L.nil ?_
                  refine X.sq ?_
                  first | refine V.cond rfl (fun h92 => ?_) (fun h92 => ?_) | refine V.condB rfl (fun h92 => ?_) (fun h92 => ?_)
                  ·
                    refine V.seq ?_
                    refine V.region ?_
                    refine L.rd (rd_assign rfl) rfl ?_
                    refine L.nil ?_
                    refine X.sq ?_
                    refine V.ret ?_
                    refine X.sqRet ?_
                    refine X.bkRet ?_
                    refine X.sqRet ?_
                    refine X.lpRet ?_
                    refine X.bkRet ?_
                    refine X.sqRet ?_
                    refine ret_1 Yaam.results64 rfl ?_
                    exact ⟨by rw [hcl.bad3 (pol_get ht) (by omega) (by simp only [hvec]; exact cmpV_nneg h92)], hE3⟩
                  ·
                    refine V.skip ?_
                    refine X.sq ?_
                    refine V.region ?_
                    refine L.rd (rd_loadN tok rfl rfl rfl hbm.cells (hfl.fv.rv.c28 _ _)) rfl ?_
                    refine L.ef (e_store (vs := mC 0 v (isum v)) tok rfl rfl rfl rfl hbp2 (hfl.fv.rv.c28 _ _).symm (mC_one _ _ _) (by rw [mC_len, mC_len, hvl, hcl.prv.len]; decide) ?_)
                    refine L.nil ?_
                    refine X.bk ?_
                    refine X.sq ?_
                    refine V.region ?_
                    refine L.rd (rd_move rfl) rfl ?_
                    (refine L.rd (rd_add3 rfl rfl ?_) rfl ?_; omega)
                    refine L.rd (rd_assign rfl) rfl ?_
                    refine L.nil ?_
                    refine X.lp ⟨_, _, by omega, (by repeat' (first | exact trivial | refine ⟨rfl, ?_⟩)), k + 1, v, rfl, rfl, by omega, hE3.set (by omega) _ _, hp2.setNe (by omega) _ _, ?_, ?_⟩
                    · rw [putAll _ _ (by rw [mC_len, mC_len, hvl, hcl.prv.len])]
                      exact Bl.set' hbp2.lt _ _
                    · rw [← hvec]
                      exact hcl.next (pol_get ht) h27 hok (by simp only [hvec]; omega) (by first | (intro h0; simp only [hvec]; exact cmpV_neg h92) | (intro h0; omega)) (by simp only [hvec]; exact hfl.fv.any)
                ·
                  refine L.no rfl rfl rfl rfl ?_
                  refine L.no rfl rfl rfl rfl ?_
                  refine L.rd (rd_pickF rfl rfl) rfl ?_
                  refine L.nil ?_
                  refine X.sq ?_
                  refine V.condF rfl ?_
                  refine V.skip ?_
                  refine X.sq ?_
                  refine V.region ?_
                  refine L.rd (rd_loadN tok rfl rfl rfl hbm.cells (hfl.fv.rv.c28 _ _)) rfl ?_
                  refine L.ef (e_store (vs := mC 0 v (isum v)) tok rfl rfl rfl rfl hbp2 (hfl.fv.rv.c28 _ _).symm (mC_one _ _ _) (by rw [mC_len, mC_len, hvl, hcl.prv.len]; decide) ?_)
                  refine L.nil ?_
                  refine X.bk ?_
                  refine X.sq ?_
                  refine V.region ?_
                  refine L.rd (rd_move rfl) rfl ?_
                  (refine L.rd (rd_add3 rfl rfl ?_) rfl ?_; omega)
                  refine L.rd (rd_assign rfl) rfl ?_
                  refine L.nil ?_
                  refine X.lp ⟨_, _, by omega, (by repeat' (first | exact trivial | refine ⟨rfl, ?_⟩)), k + 1, v, rfl, rfl, by omega, hE3.set (by omega) _ _, hp2.setNe (by omega) _ _, ?_, ?_⟩
                  · rw [putAll _ _ (by rw [mC_len, mC_len, hvl, hcl.prv.len])]
                    exact Bl.set' hbp2.lt _ _
                  · rw [← hvec]
                    exact hcl.next (pol_get ht) h27 hok (by simp only [hvec]; omega) (by first | (intro h0; simp only [hvec]; exact cmpV_neg h92) | (intro h0; omega)) (by simp only [hvec]; exact hfl.fv.any)
      ·
        refine V.exit ?_
        refine X.sqExit ?_
        refine X.lpExit ?_
        refine X.bkHere ?_
        refine X.sq ?_
        refine V.seq ?_
        refine V.region ?_
        refine L.rd (rd_assign rfl) rfl ?_
        refine L.nil ?_
        refine X.sq ?_
        refine V.ret ?_
        refine ret_1 Yaam.results64 rfl ?_
        exact ⟨by rw [hcl.done (by rw [pol_length]; omega)], hE⟩
end Go.Proofs.YbxaawGreat
