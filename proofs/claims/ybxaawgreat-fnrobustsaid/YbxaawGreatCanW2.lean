/-
  IsCanonical, walked: the model and the program.
-/
import Derived.Test.YbxaawGreatCanW
set_option linter.unusedVariables false
set_option linter.unusedSimpArgs false
set_option maxRecDepth 10000
namespace Go.Mw
theorem iC_one (k : IntKind) (v : List Int) : ∀ u ∈ iC k v, u.oneCell' = true := by
  intro u hu
  simp only [iC, List.mem_map] at hu
  obtain ⟨x, _, rfl⟩ := hu
  rfl
theorem mC_one (c : Int) (v : List Int) (d : Int) : ∀ u ∈ mC c v d, u.oneCell' = true := by
  intro u hu
  simp only [mC, List.mem_cons, List.mem_append, List.not_mem_nil, or_false] at hu
  rcases hu with rfl | h | rfl
  · rfl
  · exact iC_one _ _ u h
  · rfl
/-- small enough -/
structure Sm (q : List PT) : Prop where
  len : q.length ≤ 4294967296
  sub : ∀ t ∈ q, t.2.length ≤ 4294967296
theorem Sm.nth {L : List Lt} (h : Sm (pol L)) {k : Nat} {t : Lt} (ht : L[k]? = some t) : t.2.2.length ≤ 4294967296 := h.sub (t.1, t.2.2) (List.mem_of_getElem? (pol_get ht))
theorem Sm.top {L : List Lt} (h : Sm (pol L)) : L.length ≤ 4294967296 := by have := h.len; rwa [pol_length] at this
end Go.Mw
namespace Go.Proofs.YbxaawGreat
open Go.Mw

theorem scan_ok (va : Value) (Ls : List Lt) (w : World) {lo hi : Nat} (hT : Tl w lo hi va Ls) (hS : Sm (pol Ls)) : Ret Yaam.prog 63 [.agg #[va]] w fun r w' => r = .bool (canon (pol Ls)) ∧ Ext w.heap.size w w' := by
  obtain ⟨aa, ca, rfl, hfa⟩ := hT.form
  have hSl := hS.top
  refine enter1 Yaam.func63 Yaam.ntmps63 (by kernel_rfl) rfl rfl ?_
  refine V.seq ?_
  refine V.region ?_
  refine L.ef (e_box (cs := [_]) rfl rfl (by first | (simp only [size_addB, size_setB, size_drew]; rfl) | rfl) rfl ?_)
  refine L.rd (rd_assign rfl) rfl ?_
  refine L.nil ?_
  refine X.sq ?_
  refine V.seq ?_
  refine V.seq ?_
  refine V.region ?_
  refine L.rd (rd_fieldAddr tok rfl rfl rfl rfl rfl rfl) rfl ?_
  refine L.rd (rd_load1 tok rfl rfl rfl (by first | assumption | exact Bl.cell (by (repeat (first | assumption | (refine Bl.new' ?_ _ _; first | with_reducible rfl | (simp only [size_addB, size_setB, size_drew]; done)) | apply Bl.add | apply Bl.drew | (apply Bl.setNe; omega) | (refine Bl.set' ?_ _ _; (try simp only [size_addB, size_setB, size_drew]); omega)))) rfl)) rfl ?_
  refine L.rd (rd_lenSlice tok rfl rfl rfl) rfl ?_
  refine L.rd (rd_gtr rfl rfl) rfl ?_
  refine L.nil ?_
  refine X.sq ?_
  first | refine V.cond rfl (fun h13 => ?_) (fun h13 => ?_) | refine V.condB rfl (fun h13 => ?_) (fun h13 => ?_)
  ·
    refine V.seq ?_
    refine V.region ?_
    refine L.rd (rd_assign rfl) rfl ?_
    refine L.nil ?_
    refine X.sq ?_
    refine V.ret ?_
    refine X.sqRet ?_
    refine ret_1 Yaam.results63 rfl ?_
    refine ⟨by rw [canon_long (by rw [pol_length]; omega)], (Ext.refl _ _).addNew _ _⟩
  ·
    refine V.skip ?_
    refine X.sq ?_
    refine V.seq ?_
    refine V.region ?_
    refine L.ef (e_alloc (cs := iC .i32 z26) tok rfl rfl (by first | (simp only [size_addB, size_setB, size_drew]; rfl) | rfl) rfl ?_)
    refine L.nil ?_
    refine X.sq ?_
    refine V.seq ?_
    refine V.seq ?_
    refine V.region ?_
    refine L.rd (rd_fieldAddr tok rfl rfl rfl rfl rfl rfl) rfl ?_
    refine L.rd (rd_load1 tok rfl rfl rfl (by first | assumption | exact Bl.cell (by (repeat (first | assumption | (refine Bl.new' ?_ _ _; first | with_reducible rfl | (simp only [size_addB, size_setB, size_drew]; done)) | apply Bl.add | apply Bl.drew | (apply Bl.setNe; omega) | (refine Bl.set' ?_ _ _; (try simp only [size_addB, size_setB, size_drew]); omega)))) rfl)) rfl ?_
    refine L.rd (rd_lenSlice tok rfl rfl rfl) rfl ?_
    refine L.rd (rd_move rfl) rfl ?_
    refine L.nil ?_
    refine X.sq ?_
    refine V.block ?_
    refine V.loop (fun m l wr => ∃ (k : Nat) (pv : List Int) (bp : Nat), l = [(3, .pointer (some ⟨bp, 0, none⟩)), (15, .slice aa Ls.length ca), (16, .int .i64 Ls.length), (17, .int .i64 k)] ∧ m = Ls.length - k ∧ k ≤ Ls.length ∧ Ext w.heap.size w wr ∧ Bl wr bp 101 (iC .i32 pv) ∧ w.heap.size ≤ bp ∧ Cl (pol Ls) k pv) ?_ ?_
    ·
      exact ⟨_, _, (by repeat' (first | exact trivial | refine ⟨rfl, ?_⟩)), 0, z26, _, rfl, rfl, by omega, ((Ext.refl _ _).addNew _ _).addNew _ _, Bl.new' (by simp only [size_addB]) _ _, by omega, Cl.start (by rw [pol_length]; omega)⟩
    ·
      rintro m l wr ⟨k, pv, bp, rfl, rfl, hk, hE, hbp, hbp0, hcl⟩
      refine V.seq ?_
      refine V.region ?_
      refine L.rd (rd_lss rfl rfl) rfl ?_
      refine L.nil ?_
      refine X.sq ?_
      refine V.seq ?_
      first | refine V.cond rfl (fun h18 => ?_) (fun h18 => ?_) | refine V.condB rfl (fun h18 => ?_) (fun h18 => ?_)
      ·
        obtain ⟨b1, o1, rfl, -, -, hc1⟩ := hfa.resolve_left (by omega)
        obtain ⟨⟨c, fv, fs⟩, ht⟩ := nth_of_lt Ls k (by omega)
        have hcx := Tl.cells (hc1.le hE.leC) ht
        have hSf := hS.nth ht
        have hwr := hE.size
        have hbl := hbp.lt
        obtain ⟨fa, fc, hfv, hff⟩ := (hT.ext hE).nth ht
        simp only at hfv hff hcx hSf
        subst hfv
        refine V.skip ?_
        refine X.sq ?_
        refine V.seq ?_
        refine V.block ?_
        refine V.seq ?_
        refine V.region ?_
        refine L.rd (rd_move rfl) rfl ?_
        (refine L.rd (rd_indexSlice (sz := 2) tok rfl rfl rfl rfl rfl rfl rfl ?_) rfl ?_; omega)
        refine L.rd (rd_loadN tok rfl rfl rfl hcx rfl) rfl ?_
        refine L.ef (e_alloc (cs := [_, _]) tok rfl rfl (by first | (simp only [size_addB, size_setB, size_drew]; rfl) | rfl) rfl ?_)
        refine L.rd (rd_assign rfl) rfl ?_
        refine L.ef (e_store (vs := [_, _]) tok rfl rfl rfl rfl (by (repeat (first | assumption | (refine Bl.new' ?_ _ _; first | with_reducible rfl | (simp only [size_addB, size_setB, size_drew]; done)) | apply Bl.add | apply Bl.drew | (apply Bl.setNe; omega) | (refine Bl.set' ?_ _ _; (try simp only [size_addB, size_setB, size_drew]); omega)))) rfl (by simp [Value.oneCell']) (by simp) ?_)
        refine L.nil ?_
        refine X.sq ?_
        refine V.seq ?_
        refine V.seq ?_
        refine V.region ?_
        refine L.rd (rd_fieldAddr tok rfl rfl rfl rfl rfl rfl) rfl ?_
        refine L.rd (rd_load1 tok rfl rfl rfl (by first | assumption | exact Bl.cell (by (repeat (first | assumption | (refine Bl.new' ?_ _ _; first | with_reducible rfl | (simp only [size_addB, size_setB, size_drew]; done)) | apply Bl.add | apply Bl.drew | (apply Bl.setNe; omega) | (refine Bl.set' ?_ _ _; (try simp only [size_addB, size_setB, size_drew]); omega)))) rfl)) rfl ?_
        refine L.rd (rd_eql rfl rfl) rfl ?_
        refine L.nil ?_
        refine X.sq ?_
        first | refine V.cond rfl (fun h24 => ?_) (fun h24 => ?_) | refine V.condB rfl (fun h24 => ?_) (fun h24 => ?_)
        ·
          refine V.seq ?_
          refine V.region ?_
          refine L.rd (rd_assign rfl) rfl ?_
          refine L.nil ?_
          refine X.sq ?_
          refine V.ret ?_
          refine X.sqRet ?_
          refine X.bkRet ?_
          refine X.sqRet ?_
          refine X.lpRet ?_
          refine X.bkRet ?_
          refine X.sqRet ?_
          refine ret_1 Yaam.results63 rfl ?_
          exact ⟨by rw [hcl.bad0 (pol_get ht) h24], (by have hsz_ := hE.size; repeat (first | assumption | refine Ext.drew ?_ | refine Ext.addNew ?_ _ _ | (refine Ext.set ?_ ?_ _ _; rotate_left; (try simp only [size_addB, size_setB, size_drew]); omega)))⟩
        ·
          refine V.skip ?_
          refine X.sq ?_
          refine V.seq ?_
          refine V.region ?_
          refine L.ef (e_alloc (cs := iC .i32 z26) tok rfl rfl (by first | (simp only [size_addB, size_setB, size_drew]; rfl) | rfl) rfl ?_)
          refine L.nil ?_
          refine X.sq ?_
          refine V.seq ?_
          refine V.region ?_
          refine L.rd (rd_assign rfl) rfl ?_
          refine L.nil ?_
          refine X.sq ?_
          refine V.seq ?_
          refine V.seq ?_
          refine V.region ?_
          refine L.rd (rd_fieldAddr tok rfl rfl rfl rfl rfl rfl) rfl ?_
          refine L.rd (rd_load1 tok rfl rfl rfl (by first | assumption | exact Bl.cell (by (repeat (first | assumption | (refine Bl.new' ?_ _ _; first | with_reducible rfl | (simp only [size_addB, size_setB, size_drew]; done)) | apply Bl.add | apply Bl.drew | (apply Bl.setNe; omega) | (refine Bl.set' ?_ _ _; (try simp only [size_addB, size_setB, size_drew]); omega)))) rfl)) rfl ?_
          refine L.rd (rd_lenSlice tok rfl rfl rfl) rfl ?_
          refine L.rd (rd_move rfl) rfl ?_
          refine L.nil ?_
          refine X.sq ?_
          refine V.block ?_
          refine V.loop (fun m l w2 => ∃ (j : Nat) (last : Int) (v : List Int), l = [(3, .pointer (some ⟨bp, 0, none⟩)), (4, .int .i64 k), (6, .pointer (some ⟨wr.heap.size + 1, 0, none⟩)), (7, .int .i64 last), (15, .slice (some ⟨b1, o1, none⟩) Ls.length ca), (16, .int .i64 Ls.length), (17, .int .i64 k), (26, .slice fa fs.length fc), (27, .int .i64 fs.length), (28, .int .i64 j)] ∧ m = fs.length - j ∧ j ≤ fs.length ∧ Ext wr.heap.size wr w2 ∧ Bl w2 (wr.heap.size + 1) 101 (iC .i32 v) ∧ Fl fs j last v) ?_ ?_
          ·
            refine ⟨_, _, (by repeat' (first | exact trivial | refine ⟨rfl, ?_⟩)), 0, -1, z26, rfl, rfl, by omega, ?_, Bl.new' (by simp only [size_addB, size_setB]) _ _, Fl.start fs⟩
            exact (((Ext.refl _ wr).addNew _ _).set (Nat.le_refl _) _ _).addNew _ _
          ·
            rintro m l w2 ⟨j, last, v, rfl, rfl, hj, hE2, hbm, hfl⟩
            have hla := hfl.fv.last
            have hvl := hfl.fv.len
            have hml := hbm.lt
            have hbp2 := hE2.bl hbl hbp
            have hE3 := hE.next hE2
            refine V.seq ?_
            refine V.region ?_
            refine L.rd (rd_lss rfl rfl) rfl ?_
            refine L.nil ?_
            refine X.sq ?_
            refine V.seq ?_
            first | refine V.cond rfl (fun h29 => ?_) (fun h29 => ?_) | refine V.condB rfl (fun h29 => ?_) (fun h29 => ?_)
            ·
              obtain ⟨b2, o2, rfl, -, -, hc2⟩ := hff.resolve_left (by omega)
              obtain ⟨⟨fva, fpo⟩, hf⟩ := nth_of_lt fs j (by omega)
              have hcf := (hc2.le hE2.leC).sub (j * 2) _ (pr_get fs j _ hf)
              refine V.skip ?_
              refine X.sq ?_
              refine V.seq ?_
              refine V.block ?_
              refine V.seq ?_
              refine V.region ?_
              (refine L.rd (rd_indexSlice (sz := 2) tok rfl rfl rfl rfl rfl rfl rfl ?_) rfl ?_; omega)
              refine L.rd (rd_loadN tok rfl rfl rfl hcf rfl) rfl ?_
              refine L.ef (e_alloc (cs := [_, _]) tok rfl rfl (by first | (simp only [size_addB, size_setB, size_drew]; rfl) | rfl) rfl ?_)
              refine L.ef (e_store (vs := [_, _]) tok rfl rfl rfl rfl (by (repeat (first | assumption | (refine Bl.new' ?_ _ _; first | with_reducible rfl | (simp only [size_addB, size_setB, size_drew]; done)) | apply Bl.add | apply Bl.drew | (apply Bl.setNe; omega) | (refine Bl.set' ?_ _ _; (try simp only [size_addB, size_setB, size_drew]); omega)))) rfl (by simp [Value.oneCell']) (by simp) ?_)
              refine L.nil ?_
              refine X.sq ?_
              refine V.seq ?_
              refine V.seq ?_
              refine V.region ?_
              refine L.rd (rd_fieldAddr tok rfl rfl rfl rfl rfl rfl) rfl ?_
              refine L.rd (rd_load1 tok rfl rfl rfl (by first | assumption | exact Bl.cell (by (repeat (first | assumption | (refine Bl.new' ?_ _ _; first | with_reducible rfl | (simp only [size_addB, size_setB, size_drew]; done)) | apply Bl.add | apply Bl.drew | (apply Bl.setNe; omega) | (refine Bl.set' ?_ _ _; (try simp only [size_addB, size_setB, size_drew]); omega)))) rfl)) rfl ?_
              refine L.rd (rd_move rfl) rfl ?_
              refine L.rd (rd_leq rfl rfl) rfl ?_
              refine L.rd (rd_move rfl) rfl ?_
              first | refine L.partG rfl rfl (fun g36 => ?_) (fun g36 => ?_) | refine L.partGB rfl rfl (fun g36 => ?_) (fun g36 => ?_)
              ·
                refine L.no rfl rfl rfl rfl ?_
                refine L.no rfl rfl rfl rfl ?_
                refine L.no rfl rfl rfl rfl ?_
                refine L.rd (rd_pickT rfl rfl) rfl ?_
                refine L.rd (rd_move rfl) rfl ?_
                refine L.no rfl rfl rfl rfl ?_
                refine L.no rfl rfl rfl rfl ?_
                refine L.no rfl rfl rfl rfl ?_
                refine L.rd (rd_pickT rfl rfl) rfl ?_
                refine L.rd (rd_move rfl) rfl ?_
                refine L.no rfl rfl rfl rfl ?_
                refine L.no rfl rfl rfl rfl ?_
                refine L.no rfl rfl rfl rfl ?_
                refine L.rd (rd_pickT rfl rfl) rfl ?_
                refine L.nil ?_
                refine X.sq ?_
                refine V.condT rfl ?_
                refine V.seq ?_
                refine V.region ?_
                refine L.rd (rd_assign rfl) rfl ?_
                refine L.nil ?_
                refine X.sq ?_
                refine V.ret ?_
                refine X.sqRet ?_
                refine X.bkRet ?_
                refine X.sqRet ?_
                refine X.lpRet ?_
                refine X.bkRet ?_
                refine X.sqRet ?_
                refine X.bkRet ?_
                refine X.sqRet ?_
                refine X.lpRet ?_
                refine X.bkRet ?_
                refine X.sqRet ?_
                refine ret_1 Yaam.results63 rfl ?_
                exact ⟨by rw [hcl.bad1 (pol_get ht) (hfl.bad hf (by simp only []; omega))], (by have hsz_ := hE3.size; repeat (first | assumption | refine Ext.drew ?_ | refine Ext.addNew ?_ _ _ | (refine Ext.set ?_ ?_ _ _; rotate_left; (try simp only [size_addB, size_setB, size_drew]); omega)))⟩
              ·
                refine L.yes rfl rfl ?_
                refine L.rd (rd_fieldAddr tok rfl rfl rfl rfl rfl rfl) rfl ?_
                refine L.yes rfl rfl ?_
                refine L.rd (rd_load1 tok rfl rfl rfl (by first | assumption | exact Bl.cell (by (repeat (first | assumption | (refine Bl.new' ?_ _ _; first | with_reducible rfl | (simp only [size_addB, size_setB, size_drew]; done)) | apply Bl.add | apply Bl.drew | (apply Bl.setNe; omega) | (refine Bl.set' ?_ _ _; (try simp only [size_addB, size_setB, size_drew]); omega)))) rfl)) rfl ?_
                refine L.yes rfl rfl ?_
                refine L.rd (rd_geq rfl rfl) rfl ?_
                refine L.rd (rd_pickF rfl rfl) rfl ?_
                refine L.rd (rd_move rfl) rfl ?_
                first | refine L.partG rfl rfl (fun g41 => ?_) (fun g41 => ?_) | refine L.partGB rfl rfl (fun g41 => ?_) (fun g41 => ?_)
                ·
                  refine L.no rfl rfl rfl rfl ?_
                  refine L.no rfl rfl rfl rfl ?_
                  refine L.no rfl rfl rfl rfl ?_
                  refine L.rd (rd_pickT rfl rfl) rfl ?_
                  refine L.rd (rd_move rfl) rfl ?_
                  refine L.no rfl rfl rfl rfl ?_
                  refine L.no rfl rfl rfl rfl ?_
                  refine L.no rfl rfl rfl rfl ?_
                  refine L.rd (rd_pickT rfl rfl) rfl ?_
                  refine L.nil ?_
                  refine X.sq ?_
                  refine V.condT rfl ?_
                  refine V.seq ?_
                  refine V.region ?_
                  refine L.rd (rd_assign rfl) rfl ?_
                  refine L.nil ?_
                  refine X.sq ?_
                  refine V.ret ?_
                  refine X.sqRet ?_
                  refine X.bkRet ?_
                  refine X.sqRet ?_
                  refine X.lpRet ?_
                  refine X.bkRet ?_
                  refine X.sqRet ?_
                  refine X.bkRet ?_
                  refine X.sqRet ?_
                  refine X.lpRet ?_
                  refine X.bkRet ?_
                  refine X.sqRet ?_
                  refine ret_1 Yaam.results63 rfl ?_
                  exact ⟨by rw [hcl.bad1 (pol_get ht) (hfl.bad hf (by simp only []; omega))], (by have hsz_ := hE3.size; repeat (first | assumption | refine Ext.drew ?_ | refine Ext.addNew ?_ _ _ | (refine Ext.set ?_ ?_ _ _; rotate_left; (try simp only [size_addB, size_setB, size_drew]); omega)))⟩
                ·
                  refine L.yes rfl rfl ?_
                  refine L.rd (rd_fieldAddr tok rfl rfl rfl rfl rfl rfl) rfl ?_
                  refine L.yes rfl rfl ?_
                  refine L.rd (rd_load1 tok rfl rfl rfl (by first | assumption | exact Bl.cell (by (repeat (first | assumption | (refine Bl.new' ?_ _ _; first | with_reducible rfl | (simp only [size_addB, size_setB, size_drew]; done)) | apply Bl.add | apply Bl.drew | (apply Bl.setNe; omega) | (refine Bl.set' ?_ _ _; (try simp only [size_addB, size_setB, size_drew]); omega)))) rfl)) rfl ?_
                  refine L.yes rfl rfl ?_
                  refine L.rd (rd_lss rfl rfl) rfl ?_
                  refine L.rd (rd_pickF rfl rfl) rfl ?_
                  refine L.rd (rd_move rfl) rfl ?_
                  first | refine L.partG rfl rfl (fun g46 => ?_) (fun g46 => ?_) | refine L.partGB rfl rfl (fun g46 => ?_) (fun g46 => ?_)
                  ·
                    refine L.no rfl rfl rfl rfl ?_
                    refine L.no rfl rfl rfl rfl ?_
                    refine L.no rfl rfl rfl rfl ?_
                    refine L.rd (rd_pickT rfl rfl) rfl ?_
                    refine L.nil ?_
                    refine X.sq ?_
                    refine V.condT rfl ?_
                    refine V.seq ?_
                    refine V.region ?_
                    refine L.rd (rd_assign rfl) rfl ?_
                    refine L.nil ?_
                    refine X.sq ?_
                    refine V.ret ?_
                    refine X.sqRet ?_
                    refine X.bkRet ?_
                    refine X.sqRet ?_
                    refine X.lpRet ?_
                    refine X.bkRet ?_
                    refine X.sqRet ?_
                    refine X.bkRet ?_
                    refine X.sqRet ?_
                    refine X.lpRet ?_
                    refine X.bkRet ?_
                    refine X.sqRet ?_
                    refine ret_1 Yaam.results63 rfl ?_
                    exact ⟨by rw [hcl.bad1 (pol_get ht) (hfl.bad hf (by simp only []; omega))], (by have hsz_ := hE3.size; repeat (first | assumption | refine Ext.drew ?_ | refine Ext.addNew ?_ _ _ | (refine Ext.set ?_ ?_ _ _; rotate_left; (try simp only [size_addB, size_setB, size_drew]); omega)))⟩
                  ·
                    refine L.yes rfl rfl ?_
                    refine L.rd (rd_fieldAddr tok rfl rfl rfl rfl rfl rfl) rfl ?_
                    refine L.yes rfl rfl ?_
                    refine L.rd (rd_load1 tok rfl rfl rfl (by first | assumption | exact Bl.cell (by (repeat (first | assumption | (refine Bl.new' ?_ _ _; first | with_reducible rfl | (simp only [size_addB, size_setB, size_drew]; done)) | apply Bl.add | apply Bl.drew | (apply Bl.setNe; omega) | (refine Bl.set' ?_ _ _; (try simp only [size_addB, size_setB, size_drew]); omega)))) rfl)) rfl ?_
                    refine L.yes rfl rfl ?_
                    refine L.rd (rd_gtr rfl rfl) rfl ?_
                    refine L.rd (rd_pickF rfl rfl) rfl ?_
                    refine L.nil ?_
                    refine X.sq ?_
                    first | refine V.cond rfl (fun h50 => ?_) (fun h50 => ?_) | refine V.condB rfl (fun h50 => ?_) (fun h50 => ?_)
                    ·
                      refine V.seq ?_
                      refine V.region ?_
                      refine L.rd (rd_assign rfl) rfl ?_
                      refine L.nil ?_
                      refine X.sq ?_
                      refine V.ret ?_
                      refine X.sqRet ?_
                      refine X.bkRet ?_
                      refine X.sqRet ?_
                      refine X.lpRet ?_
                      refine X.bkRet ?_
                      refine X.sqRet ?_
                      refine X.bkRet ?_
                      refine X.sqRet ?_
                      refine X.lpRet ?_
                      refine X.bkRet ?_
                      refine X.sqRet ?_
                      refine ret_1 Yaam.results63 rfl ?_
                      exact ⟨by rw [hcl.bad1 (pol_get ht) (hfl.bad hf (by simp only []; omega))], (by have hsz_ := hE3.size; repeat (first | assumption | refine Ext.drew ?_ | refine Ext.addNew ?_ _ _ | (refine Ext.set ?_ ?_ _ _; rotate_left; (try simp only [size_addB, size_setB, size_drew]); omega)))⟩
                    ·
                      refine V.skip ?_
                      refine X.sq ?_
                      refine V.seq ?_
                      refine V.region ?_
                      refine L.rd (rd_fieldAddr tok rfl rfl rfl rfl rfl rfl) rfl ?_
                      refine L.rd (rd_load1 tok rfl rfl rfl (by first | assumption | exact Bl.cell (by (repeat (first | assumption | (refine Bl.new' ?_ _ _; first | with_reducible rfl | (simp only [size_addB, size_setB, size_drew]; done)) | apply Bl.add | apply Bl.drew | (apply Bl.setNe; omega) | (refine Bl.set' ?_ _ _; (try simp only [size_addB, size_setB, size_drew]); omega)))) rfl)) rfl ?_
                      refine L.rd (rd_fieldAddr tok rfl rfl rfl rfl rfl rfl) rfl ?_
                      refine L.rd (rd_load1 tok rfl rfl rfl (by first | assumption | exact Bl.cell (by (repeat (first | assumption | (refine Bl.new' ?_ _ _; first | with_reducible rfl | (simp only [size_addB, size_setB, size_drew]; done)) | apply Bl.add | apply Bl.drew | (apply Bl.setNe; omega) | (refine Bl.set' ?_ _ _; (try simp only [size_addB, size_setB, size_drew]); omega)))) rfl)) rfl ?_
                      refine L.rd (rd_convE (r := fpo) tok rfl rfl rfl rfl rfl (wrap_i32_in (by omega))) rfl ?_
                      (refine L.rd (rd_indexArr (n := 26) (sz := 1) tok rfl rfl rfl rfl rfl rfl rfl rfl ?_) rfl ?_; omega)
                      refine L.ef (e_store (vs := [_]) tok rfl rfl rfl rfl (by (repeat (first | assumption | (refine Bl.new' ?_ _ _; first | with_reducible rfl | (simp only [size_addB, size_setB, size_drew]; done)) | apply Bl.add | apply Bl.drew | (apply Bl.setNe; omega) | (refine Bl.set' ?_ _ _; (try simp only [size_addB, size_setB, size_drew]); omega)))) rfl (by simp [Value.oneCell']) (by simp only [iC_len, List.length_cons, List.length_nil]; omega) ?_)
                      refine L.nil ?_
                      refine X.sq ?_
                      refine V.region ?_
                      refine L.rd (rd_fieldAddr tok rfl rfl rfl rfl rfl rfl) rfl ?_
                      refine L.rd (rd_load1 tok rfl rfl rfl (by first | assumption | exact Bl.cell (by (repeat (first | assumption | (refine Bl.new' ?_ _ _; first | with_reducible rfl | (simp only [size_addB, size_setB, size_drew]; done)) | apply Bl.add | apply Bl.drew | (apply Bl.setNe; omega) | (refine Bl.set' ?_ _ _; (try simp only [size_addB, size_setB, size_drew]); omega)))) rfl)) rfl ?_
                      refine L.rd (rd_assign rfl) rfl ?_
                      refine L.nil ?_
                      refine X.bk ?_
                      refine X.sq ?_
                      refine V.region ?_
                      (refine L.rd (rd_add3 rfl rfl ?_) rfl ?_; omega)
                      refine L.rd (rd_move rfl) rfl ?_
                      refine L.nil ?_
                      refine X.lp ⟨_, _, by omega, (by repeat' (first | exact trivial | refine ⟨rfl, ?_⟩)), j + 1, fva, v.set fva.toNat fpo, rfl, rfl, by omega, ?_, ?_, hfl.next hf (by simp only []; omega)⟩
                      · exact (((hE2.addNew _ _).set (by have := hE2.size; omega) _ _).set (by omega) _ _)
                      · have h1 := iC_put .i32 v fva.toNat fpo (by omega)
                        simp only [Nat.zero_add, Nat.mul_one]
                        rw [h1]
                        exact Bl.set' (by simp only [size_addB, size_setB]; omega) _ _
            ·
              refine V.exit ?_
              refine X.sqExit ?_
              refine X.lpExit ?_
              refine X.bkHere ?_
              refine X.sq ?_
              refine V.seq ?_
              refine V.seq ?_
              obtain ⟨hok, hvec⟩ := hfl.done (by omega)
              refine V.region ?_
              refine L.rd (rd_loadN tok rfl rfl rfl hbm.cells (hfl.fv.rv.c26 _)) rfl ?_
              refine L.ef (e_call rfl (degOf_ok v hfl.fv.rv _) rfl ?_)
              rintro _ w3 ⟨rfl, he3⟩
              replace hbm := he3.bl hbm.lt hbm
              replace hbp2 := he3.bl hbp2.lt hbp2
              replace hE3 := hE3.next he3
              refine L.rd (rd_gtr rfl rfl) rfl ?_
              refine L.nil ?_
              refine X.sq ?_
              first | refine V.cond rfl (fun h62 => ?_) (fun h62 => ?_) | refine V.condB rfl (fun h62 => ?_) (fun h62 => ?_)
              ·
                refine V.seq ?_
                refine V.region ?_
                refine L.rd (rd_assign rfl) rfl ?_
                refine L.nil ?_
                refine X.sq ?_
                refine V.ret ?_
                refine X.sqRet ?_
                refine X.bkRet ?_
                refine X.sqRet ?_
                refine X.lpRet ?_
                refine X.bkRet ?_
                refine X.sqRet ?_
                refine ret_1 Yaam.results63 rfl ?_
                exact ⟨by rw [hcl.bad2 (pol_get ht) (by simp only [hvec]; omega)], hE3⟩
              ·
                refine V.skip ?_
                refine X.sq ?_
                refine V.seq ?_
                refine V.seq ?_
                refine V.region ?_
                refine L.rd (rd_move rfl) rfl ?_
                refine L.rd (rd_gtr rfl rfl) rfl ?_
                refine L.rd (rd_move rfl) rfl ?_
                first | refine L.partG rfl rfl (fun g65 => ?_) (fun g65 => ?_) | refine L.partGB rfl rfl (fun g65 => ?_) (fun g65 => ?_)
                ·
                  refine L.yes rfl rfl ?_
                  refine L.rd (rd_loadN tok rfl rfl rfl hbp2.cells (hcl.prv.rv.c26 _)) rfl ?_
                  refine L.yes rfl rfl ?_
                  refine L.rd (rd_loadN tok rfl rfl rfl hbm.cells (hfl.fv.rv.c26 _)) rfl ?_
                  refine L.yes rfl rfl ?_
                  refine L.ef (e_call rfl (monoBefore_ok pv v hcl.prv.rv hfl.fv.rv _) rfl ?_)
                  rintro _ w4 ⟨rfl, he4⟩
                  replace hbm := he4.bl hbm.lt hbm
                  replace hbp2 := he4.bl hbp2.lt hbp2
                  replace hE3 := hE3.next he4
                  refine L.yes rfl rfl ?_
                  first | refine L.rd (rd_not rfl) rfl ?_ | refine L.rd (rd_notB rfl) rfl ?_
                  refine L.rd (rd_pickT rfl rfl) rfl ?_
                  refine L.nil ?_
                  refine X.sq ?_
                  first | refine V.cond rfl (fun h70 => ?_) (fun h70 => ?_) | refine V.condB rfl (fun h70 => ?_) (fun h70 => ?_)
                  ·
                    refine V.seq ?_
                    refine V.region ?_
                    refine L.rd (rd_assign rfl) rfl ?_
                    refine L.nil ?_
                    refine X.sq ?_
                    refine V.ret ?_
                    refine X.sqRet ?_
                    refine X.bkRet ?_
                    refine X.sqRet ?_
                    refine X.lpRet ?_
                    refine X.bkRet ?_
                    refine X.sqRet ?_
                    refine ret_1 Yaam.results63 rfl ?_
                    exact ⟨by rw [hcl.bad3 (pol_get ht) (by omega) (by simp only [hvec]; simpa using h70)], hE3⟩
                  ·
                    refine V.skip ?_
                    refine X.sq ?_
                    refine V.region ?_
                    refine L.rd (rd_loadN tok rfl rfl rfl hbm.cells (hfl.fv.rv.c26 _)) rfl ?_
                    refine L.ef (e_store (vs := iC .i32 v) tok rfl rfl rfl rfl hbp2 (hfl.fv.rv.c26 _).symm (iC_one _ _) (by rw [iC_len, iC_len, hvl, hcl.prv.len]; decide) ?_)
                    refine L.nil ?_
                    refine X.bk ?_
                    refine X.sq ?_
                    refine V.region ?_
                    (refine L.rd (rd_add3 rfl rfl ?_) rfl ?_; omega)
                    refine L.rd (rd_move rfl) rfl ?_
                    refine L.nil ?_
                    refine X.lp ⟨_, _, by omega, (by repeat' (first | exact trivial | refine ⟨rfl, ?_⟩)), k + 1, v, bp, rfl, rfl, by omega, hE3.set hbp0 _ _, ?_, hbp0, ?_⟩
                    · rw [putAll _ _ (by rw [iC_len, iC_len, hvl, hcl.prv.len])]
                      exact Bl.set' hbp2.lt _ _
                    · rw [← hvec]
                      exact hcl.next (pol_get ht) h24 hok (by simp only [hvec]; omega) (by first | (intro h0; simp only [hvec]; simpa using h70) | (intro h0; omega)) (by simp only [hvec]; exact hfl.fv.any)
                ·
                  refine L.no rfl rfl rfl rfl ?_
                  refine L.no rfl rfl rfl rfl ?_
                  refine L.no rfl rfl rfl rfl ?_
                  refine L.no rfl rfl rfl rfl ?_
                  refine L.rd (rd_pickF rfl rfl) rfl ?_
                  refine L.nil ?_
                  refine X.sq ?_
                  refine V.condF rfl ?_
                  refine V.skip ?_
                  refine X.sq ?_
                  refine V.region ?_
                  refine L.rd (rd_loadN tok rfl rfl rfl hbm.cells (hfl.fv.rv.c26 _)) rfl ?_
                  refine L.ef (e_store (vs := iC .i32 v) tok rfl rfl rfl rfl hbp2 (hfl.fv.rv.c26 _).symm (iC_one _ _) (by rw [iC_len, iC_len, hvl, hcl.prv.len]; decide) ?_)
                  refine L.nil ?_
                  refine X.bk ?_
                  refine X.sq ?_
                  refine V.region ?_
                  (refine L.rd (rd_add3 rfl rfl ?_) rfl ?_; omega)
                  refine L.rd (rd_move rfl) rfl ?_
                  refine L.nil ?_
                  refine X.lp ⟨_, _, by omega, (by repeat' (first | exact trivial | refine ⟨rfl, ?_⟩)), k + 1, v, bp, rfl, rfl, by omega, hE3.set hbp0 _ _, ?_, hbp0, ?_⟩
                  · rw [putAll _ _ (by rw [iC_len, iC_len, hvl, hcl.prv.len])]
                    exact Bl.set' hbp2.lt _ _
                  · rw [← hvec]
                    exact hcl.next (pol_get ht) h24 hok (by simp only [hvec]; omega) (by first | (intro h0; simp only [hvec]; simpa using h70) | (intro h0; omega)) (by simp only [hvec]; exact hfl.fv.any)
      ·
        refine V.exit ?_
        refine X.sqExit ?_
        refine X.lpExit ?_
        refine X.bkHere ?_
        refine X.sq ?_
        refine V.seq ?_
        refine V.region ?_
        refine L.rd (rd_assign rfl) rfl ?_
        refine L.nil ?_
        refine X.sq ?_
        refine V.ret ?_
        refine ret_1 Yaam.results63 rfl ?_
        exact ⟨by rw [hcl.done (by rw [pol_length]; omega)], hE⟩
end Go.Proofs.YbxaawGreat
