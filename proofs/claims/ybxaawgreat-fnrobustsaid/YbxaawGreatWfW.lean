/-
  impl.WellFormed and spec.WellFormed at the nodes of a tree, walked.
-/
import Derived.Test.YbxaawGreatWfP
import Derived.Test.YbxaawGreatTermW
set_option linter.unusedVariables false
set_option linter.unusedSimpArgs false
set_option maxRecDepth 10000
namespace Go.Proofs.YbxaawGreat
open Go.Mw

theorem iwf_ok (t : Tre) (hw : Wt t) (hz : tsz t ≤ 500000) (nv : Value) (w : World) (hN : Rs w 5 nv (flat t 0).length ((flat t 0).flatMap ndE)) : Ret Yaam.prog 45 [.agg #[nv, .int .i64 ((tsz t : Int) - 1)]] w fun r w' => r = .bool true ∧ Ext w.heap.size w w' := by
  obtain ⟨na, nc, rfl, hfn⟩ := hN.form
  have hfl := flat_len t 0
  have htp := tsz_pos t
  have hgd := gd_tree hw
  have hsl := szs_len t
  have hsm := szs_mem t
  generalize hns : flat t 0 = ns at *
  generalize hSS : szs t = S at *
  refine enter1 Yaam.func45 Yaam.ntmps45 (by kernel_rfl) rfl rfl ?_
  refine V.seq ?_
  refine V.region ?_
  refine L.ef (e_box (cs := [_, _]) rfl rfl (by first | (simp only [size_addB, size_setB, size_drew]; rfl) | rfl) rfl ?_)
  refine L.rd (rd_assign rfl) rfl ?_
  refine L.nil ?_
  refine X.sq ?_
  refine V.seq ?_
  have hp := Bl.new w 34 [.slice na ns.length nc, .int .i64 ((tsz t : Int) - 1)]
  have hE := (Ext.refl _ w).addNew 34 [.slice na ns.length nc, .int .i64 ((tsz t : Int) - 1)]
  generalize addB w 34 [.slice na ns.length nc, .int .i64 ((tsz t : Int) - 1)] = w0 at hp hE ⊢
  refine V.region ?_
  refine L.rd (rd_fieldAddr tok rfl rfl rfl rfl rfl rfl) rfl ?_
  refine L.rd (rd_load1 tok rfl rfl rfl (hp.cell rfl)) rfl ?_
  refine L.rd (rd_lenSlice tok rfl rfl rfl) rfl ?_
  refine L.rd (rd_assign rfl) rfl ?_
  refine L.nil ?_
  refine X.sq ?_
  refine V.seq ?_
  refine V.seq ?_
  refine V.region ?_
  refine L.rd (rd_move rfl) rfl ?_
  refine L.rd (rd_lss rfl rfl) rfl ?_
  refine L.rd (rd_move rfl) rfl ?_
  first | refine L.partG rfl rfl (fun g13 => ?_) (fun g13 => ?_) | refine L.partGB rfl rfl (fun g13 => ?_) (fun g13 => ?_)
  ·
    refine L.no rfl rfl rfl rfl ?_
    refine L.no rfl rfl rfl rfl ?_
    refine L.rd (rd_pickT rfl rfl) rfl ?_
    refine L.rd (rd_move rfl) rfl ?_
    refine L.no rfl rfl rfl rfl ?_
    refine L.no rfl rfl rfl rfl ?_
    refine L.no rfl rfl rfl rfl ?_
    refine L.no rfl rfl rfl rfl ?_
    refine L.no rfl rfl rfl rfl ?_
    refine L.rd (rd_pickT rfl rfl) rfl ?_
    refine L.nil ?_
    refine X.sq ?_
    refine V.condT rfl ?_
    refine V.seq ?_
    refine V.region ?_
    refine L.rd (rd_assign rfl) rfl ?_
    refine L.nil ?_
    refine X.sq ?_
    refine V.ret ?_
    refine X.sqRet ?_
    refine ret_1 Yaam.results45 rfl ?_
    exfalso; omega
  ·
    refine L.yes rfl rfl ?_
    refine L.rd (rd_move rfl) rfl ?_
    refine L.yes rfl rfl ?_
    refine L.rd (rd_gtr rfl rfl) rfl ?_
    refine L.rd (rd_pickF rfl rfl) rfl ?_
    refine L.rd (rd_move rfl) rfl ?_
    first | refine L.partG rfl rfl (fun g17 => ?_) (fun g17 => ?_) | refine L.partGB rfl rfl (fun g17 => ?_) (fun g17 => ?_)
    ·
      refine L.no rfl rfl rfl rfl ?_
      refine L.no rfl rfl rfl rfl ?_
      refine L.no rfl rfl rfl rfl ?_
      refine L.no rfl rfl rfl rfl ?_
      refine L.no rfl rfl rfl rfl ?_
      refine L.rd (rd_pickT rfl rfl) rfl ?_
      refine L.nil ?_
      refine X.sq ?_
      refine V.condT rfl ?_
      refine V.seq ?_
      refine V.region ?_
      refine L.rd (rd_assign rfl) rfl ?_
      refine L.nil ?_
      refine X.sq ?_
      refine V.ret ?_
      refine X.sqRet ?_
      refine ret_1 Yaam.results45 rfl ?_
      exfalso; omega
    ·
      refine L.yes rfl rfl ?_
      refine L.rd (rd_fieldAddr tok rfl rfl rfl rfl rfl rfl) rfl ?_
      refine L.yes rfl rfl ?_
      refine L.rd (rd_load1 tok rfl rfl rfl (hp.cell (i := 1) rfl)) rfl ?_
      refine L.yes rfl rfl ?_
      refine L.rd (rd_move rfl) rfl ?_
      refine L.yes rfl rfl ?_
      (refine L.rd (rd_sub3 rfl rfl ?_) rfl ?_; omega)
      refine L.yes rfl rfl ?_
      refine L.rd (rd_neq rfl rfl) rfl ?_
      refine L.rd (rd_pickF rfl rfl) rfl ?_
      refine L.nil ?_
      refine X.sq ?_
      first | refine V.cond rfl (fun h23 => ?_) (fun h23 => ?_) | refine V.condB rfl (fun h23 => ?_) (fun h23 => ?_)
      ·
        refine V.seq ?_
        refine V.region ?_
        refine L.rd (rd_assign rfl) rfl ?_
        refine L.nil ?_
        refine X.sq ?_
        refine V.ret ?_
        refine X.sqRet ?_
        refine ret_1 Yaam.results45 rfl ?_
        exfalso; omega
      ·
        refine V.skip ?_
        refine X.sq ?_
        refine V.seq ?_
        refine V.region ?_
        refine L.rd (rd_move rfl) rfl ?_
        refine L.ef (e_make (e := 3) (zs := [_]) (m := ns.length) (c := ns.length) tok rfl rfl rfl rfl rfl rfl rfl rfl (by first | (simp only [size_addB, size_setB, size_drew]; rfl) | rfl) rfl (by omega) (by simp only []; omega) (by omega) ?_)
        refine L.rd (rd_assign rfl) rfl ?_
        refine L.nil ?_
        refine X.sq ?_
        refine V.seq ?_
        refine V.seq ?_
        refine V.region ?_
        refine L.rd (rd_assign rfl) rfl ?_
        refine L.nil ?_
        refine X.sq ?_
        refine V.block ?_
        refine V.loop (fun m l w2 => ∃ (i : Nat) (G : List Int), l = [(1, .pointer (some ⟨w.heap.size, 0, none⟩)), (3, .int .i64 ns.length), (4, .slice (some ⟨w0.heap.size, 0, none⟩) ns.length ns.length), (5, .int .i64 i)] ∧ m = ns.length - i ∧ i ≤ ns.length ∧ Ext w0.heap.size w0 w2 ∧ Bl w2 w0.heap.size 3 (iC .i64 G) ∧ G.length = ns.length ∧ G.take i = S.take i) ?_ ?_
        ·
          exact ⟨_, _, (by repeat' (first | exact trivial | refine ⟨rfl, ?_⟩)), 0, List.replicate ns.length 0, rfl, rfl, by omega, (Ext.refl _ _).addNew _ _, by have := Bl.new w0 3 ((List.replicate ns.length [Value.int .i64 0]).flatten); rw [flat_rep1] at this; simpa [iC] using this, by simp, by simp⟩
        ·
          rintro m l w2 ⟨i, G, rfl, rfl, hi, hE2, hG, hGl, htk⟩
          have hp2 := hE2.bl hp.lt hp
          have hEr := hE.next hE2
          have hGlt := hG.lt
          have hs2 := hE2.size
          refine V.seq ?_
          refine V.seq ?_
          refine V.region ?_
          refine L.rd (rd_move rfl) rfl ?_
          refine L.rd (rd_move rfl) rfl ?_
          refine L.rd (rd_lss rfl rfl) rfl ?_
          refine L.nil ?_
          refine X.sq ?_
          first | refine V.cond rfl (fun h28 => ?_) (fun h28 => ?_) | refine V.condB rfl (fun h28 => ?_) (fun h28 => ?_)
          ·
            obtain ⟨b1, o1, rfl, hc1⟩ := hfn.resolve_left (by omega)
            obtain ⟨⟨k, v, x, lf_, rt⟩, ht⟩ := nth_of_lt ns i (by omega)
            have hcx := (hc1.le hEr.leC).sub (i * 5) (ndE (k, v, x, lf_, rt)) (fun j u hu => fm_get ndE_len ns i _ ht j u hu)
            have hok := hgd.ok i _ ht
            have hA : (k = 1 ∧ x = 0 ∧ lf_ = -1 ∧ rt = -1) ∨ (k = 2 ∧ v = 0 ∧ 0 ≤ x ∧ x ≤ 25 ∧ lf_ = -1 ∧ rt = -1) ∨ (1 ≤ i ∧ x = 0 ∧ ((k = 3 ∧ v = 0) ∨ (k = 7 ∧ 0 ≤ v ∧ v ≤ 1000000)) ∧ lf_ = (i : Int) - 1 ∧ rt = -1) ∨ (1 ≤ i ∧ v = 0 ∧ x = 0 ∧ (k = 4 ∨ k = 5 ∨ k = 6) ∧ rt = (i : Int) - 1) := by
              rcases hok with ⟨h1, h2, h3, h4, h5⟩ | ⟨h1, h2, h3, h4, h5, h6, h7⟩ | ⟨a, h0, h1, h2, h3, h4, h5, h6⟩ | ⟨a, b, j, h0, h1, h2, h3, h4, h5, h6, h7, h8, h9, h10⟩
              · exact .inl ⟨h1, h2, h3, h4⟩
              · exact .inr (.inl ⟨h1, h2, h3, h4, h5, h6⟩)
              · exact .inr (.inr (.inl ⟨h0, h2, h3, h4, h5⟩))
              · exact .inr (.inr (.inr ⟨h0, h5, h6, h7, h9⟩))
            refine V.skip ?_
            refine X.sq ?_
            refine V.seq ?_
            refine V.block ?_
            refine V.seq ?_
            refine V.region ?_
            refine L.rd (rd_fieldAddr tok rfl rfl rfl rfl rfl rfl) rfl ?_
            refine L.rd (rd_load1 tok rfl rfl rfl (hp2.cell rfl)) rfl ?_
            refine L.rd (rd_move rfl) rfl ?_
            (refine L.rd (rd_indexSlice (sz := 5) tok rfl rfl rfl rfl rfl rfl rfl ?_) rfl ?_; omega)
            refine L.rd (rd_loadN tok rfl rfl rfl hcx rfl) rfl ?_
            refine L.ef (e_alloc (cs := [_, _, _, _, _]) tok rfl rfl (by first | (simp only [size_addB, size_setB, size_drew]; rfl) | rfl) rfl ?_)
            refine L.ef (e_store (vs := [_, _, _, _, _]) tok rfl rfl rfl rfl (by (repeat (first | assumption | (refine Bl.new' ?_ _ _; first | with_reducible rfl | (simp only [size_addB, size_setB, size_drew]; done)) | apply Bl.add | apply Bl.drew | (apply Bl.setNe; omega) | (refine Bl.set' ?_ _ _; (try simp only [size_addB, size_setB, size_drew]); omega)))) rfl (by simp [Value.oneCell']) (by simp) ?_)
            refine L.nil ?_
            refine X.sq ?_
            refine V.seq ?_
            refine V.seq ?_
            generalize hw3 : setB _ _ _ _ = w3
            have hb3 : Bl w3 w2.heap.size 80 [.int .i64 k, .int .i64 v, .int .i64 x, .int .i64 lf_, .int .i64 rt] := by rw [← hw3]; refine Bl.set' ?_ _ _; rw [size_addB]; omega
            have he3 : Ext w2.heap.size w2 w3 := by rw [← hw3]; exact ((Ext.refl _ _).addNew _ _).set (Nat.le_refl _) _ _
            have hG3 := he3.bl hG.lt hG
            have hE3 := hE2.next he3
            refine V.region ?_
            refine L.rd (rd_fieldAddr tok rfl rfl rfl rfl rfl rfl) rfl ?_
            refine L.rd (rd_load1 tok rfl rfl rfl (hb3.cell rfl)) rfl ?_
            refine L.rd (rd_lss rfl rfl) rfl ?_
            refine L.rd (rd_move rfl) rfl ?_
            first | refine L.partG rfl rfl (fun g39 => ?_) (fun g39 => ?_) | refine L.partGB rfl rfl (fun g39 => ?_) (fun g39 => ?_)
            ·
              refine L.no rfl rfl rfl rfl ?_
              refine L.no rfl rfl rfl rfl ?_
              refine L.no rfl rfl rfl rfl ?_
              refine L.rd (rd_pickT rfl rfl) rfl ?_
              refine L.nil ?_
              refine X.sq ?_
              refine V.condT rfl ?_
              refine V.seq ?_
              refine V.region ?_
              refine L.rd (rd_assign rfl) rfl ?_
              refine L.nil ?_
              refine X.sq ?_
              refine V.ret ?_
              refine X.sqRet ?_
              refine X.bkRet ?_
              refine X.sqRet ?_
              refine X.lpRet ?_
              refine X.bkRet ?_
              refine X.sqRet ?_
              refine ret_1 Yaam.results45 rfl ?_
              exfalso; omega
            ·
              refine L.yes rfl rfl ?_
              refine L.rd (rd_fieldAddr tok rfl rfl rfl rfl rfl rfl) rfl ?_
              refine L.yes rfl rfl ?_
              refine L.rd (rd_load1 tok rfl rfl rfl (hb3.cell rfl)) rfl ?_
              refine L.yes rfl rfl ?_
              refine L.rd (rd_gtr rfl rfl) rfl ?_
              refine L.rd (rd_pickF rfl rfl) rfl ?_
              refine L.nil ?_
              refine X.sq ?_
              first | refine V.cond rfl (fun h43 => ?_) (fun h43 => ?_) | refine V.condB rfl (fun h43 => ?_) (fun h43 => ?_)
              ·
                refine V.seq ?_
                refine V.region ?_
                refine L.rd (rd_assign rfl) rfl ?_
                refine L.nil ?_
                refine X.sq ?_
                refine V.ret ?_
                refine X.sqRet ?_
                refine X.bkRet ?_
                refine X.sqRet ?_
                refine X.lpRet ?_
                refine X.bkRet ?_
                refine X.sqRet ?_
                refine ret_1 Yaam.results45 rfl ?_
                exfalso; omega
              ·
                refine V.skip ?_
                refine X.sq ?_
                refine V.seq ?_
                refine V.seq ?_
                refine V.cut (fun l w' => l = [(1, .pointer (some ⟨w.heap.size, 0, none⟩)), (3, .int .i64 ns.length), (4, .slice (some ⟨w0.heap.size, 0, none⟩) ns.length ns.length), (5, .int .i64 i), (6, .pointer (some ⟨w2.heap.size, 0, none⟩)), (56, .bool false)] ∧ w3 = w') ?_ ?_
                ·
                  refine V.region ?_
                  refine L.rd (rd_fieldAddr tok rfl rfl rfl rfl rfl rfl) rfl ?_
                  refine L.rd (rd_load1 tok rfl rfl rfl (hb3.cell rfl)) rfl ?_
                  refine L.rd (rd_neq rfl rfl) rfl ?_
                  refine L.rd (rd_move rfl) rfl ?_
                  first | refine L.partG rfl rfl (fun g47 => ?_) (fun g47 => ?_) | refine L.partGB rfl rfl (fun g47 => ?_) (fun g47 => ?_)
                  ·
                    refine L.yes rfl rfl ?_
                    refine L.rd (rd_fieldAddr tok rfl rfl rfl rfl rfl rfl) rfl ?_
                    refine L.yes rfl rfl ?_
                    refine L.rd (rd_load1 tok rfl rfl rfl (hb3.cell rfl)) rfl ?_
                    refine L.yes rfl rfl ?_
                    refine L.rd (rd_neq rfl rfl) rfl ?_
                    refine L.rd (rd_pickT rfl rfl) rfl ?_
                    refine L.rd (rd_move rfl) rfl ?_
                    first | refine L.partG rfl rfl (fun g52 => ?_) (fun g52 => ?_) | refine L.partGB rfl rfl (fun g52 => ?_) (fun g52 => ?_)
                    ·
                      refine L.yes rfl rfl ?_
                      refine L.rd (rd_fieldAddr tok rfl rfl rfl rfl rfl rfl) rfl ?_
                      refine L.yes rfl rfl ?_
                      refine L.rd (rd_load1 tok rfl rfl rfl (hb3.cell (i := 1) rfl)) rfl ?_
                      refine L.yes rfl rfl ?_
                      refine L.rd (rd_neq rfl rfl) rfl ?_
                      refine L.rd (rd_pickT rfl rfl) rfl ?_
                      refine L.nil ?_
                      exact X.ct ⟨_, (by repeat' (first | exact trivial | refine ⟨rfl, ?_⟩ | refine ⟨congrArg (fun b => some (Value.bool b)) (decide_eq_false (by omega)), ?_⟩)), rfl, rfl⟩
                    ·
                      refine L.no rfl rfl rfl rfl ?_
                      refine L.no rfl rfl rfl rfl ?_
                      refine L.no rfl rfl rfl rfl ?_
                      refine L.rd (rd_pickF rfl rfl) rfl ?_
                      refine L.nil ?_
                      exact X.ct ⟨_, (by repeat' (first | exact trivial | refine ⟨rfl, ?_⟩ | refine ⟨congrArg (fun b => some (Value.bool b)) (decide_eq_false (by omega)), ?_⟩)), rfl, rfl⟩
                  ·
                    refine L.no rfl rfl rfl rfl ?_
                    refine L.no rfl rfl rfl rfl ?_
                    refine L.no rfl rfl rfl rfl ?_
                    refine L.rd (rd_pickF rfl rfl) rfl ?_
                    refine L.rd (rd_move rfl) rfl ?_
                    refine L.no rfl rfl rfl rfl ?_
                    refine L.no rfl rfl rfl rfl ?_
                    refine L.no rfl rfl rfl rfl ?_
                    refine L.rd (rd_pickF rfl rfl) rfl ?_
                    refine L.nil ?_
                    exact X.ct ⟨_, (by repeat' (first | exact trivial | refine ⟨rfl, ?_⟩ | refine ⟨congrArg (fun b => some (Value.bool b)) (decide_eq_false (by omega)), ?_⟩)), rfl, rfl⟩
                ·
                  rintro l w' ⟨rfl, rfl⟩
                  refine X.sq ?_
                  first | refine V.cond rfl (fun h56 => ?_) (fun h56 => ?_) | refine V.condB rfl (fun h56 => ?_) (fun h56 => ?_)
                  ·
                    cases h56
                  ·
                    refine V.skip ?_
                    refine X.sq ?_
                    refine V.seq ?_
                    refine V.seq ?_
                    refine V.cut (fun l w' => l = [(1, .pointer (some ⟨w.heap.size, 0, none⟩)), (3, .int .i64 ns.length), (4, .slice (some ⟨w0.heap.size, 0, none⟩) ns.length ns.length), (5, .int .i64 i), (6, .pointer (some ⟨w2.heap.size, 0, none⟩)), (64, .bool false)] ∧ w3 = w') ?_ ?_
                    ·
                      refine V.region ?_
                      refine L.rd (rd_fieldAddr tok rfl rfl rfl rfl rfl rfl) rfl ?_
                      refine L.rd (rd_load1 tok rfl rfl rfl (hb3.cell rfl)) rfl ?_
                      refine L.rd (rd_neq rfl rfl) rfl ?_
                      refine L.rd (rd_move rfl) rfl ?_
                      first | refine L.partG rfl rfl (fun g60 => ?_) (fun g60 => ?_) | refine L.partGB rfl rfl (fun g60 => ?_) (fun g60 => ?_)
                      ·
                        refine L.yes rfl rfl ?_
                        refine L.rd (rd_fieldAddr tok rfl rfl rfl rfl rfl rfl) rfl ?_
                        refine L.yes rfl rfl ?_
                        refine L.rd (rd_load1 tok rfl rfl rfl (hb3.cell (i := 2) rfl)) rfl ?_
                        refine L.yes rfl rfl ?_
                        refine L.rd (rd_neq rfl rfl) rfl ?_
                        refine L.rd (rd_pickT rfl rfl) rfl ?_
                        refine L.nil ?_
                        exact X.ct ⟨_, (by repeat' (first | exact trivial | refine ⟨rfl, ?_⟩ | refine ⟨congrArg (fun b => some (Value.bool b)) (decide_eq_false (by omega)), ?_⟩)), rfl, rfl⟩
                      ·
                        refine L.no rfl rfl rfl rfl ?_
                        refine L.no rfl rfl rfl rfl ?_
                        refine L.no rfl rfl rfl rfl ?_
                        refine L.rd (rd_pickF rfl rfl) rfl ?_
                        refine L.nil ?_
                        exact X.ct ⟨_, (by repeat' (first | exact trivial | refine ⟨rfl, ?_⟩ | refine ⟨congrArg (fun b => some (Value.bool b)) (decide_eq_false (by omega)), ?_⟩)), rfl, rfl⟩
                    ·
                      rintro l w' ⟨rfl, rfl⟩
                      refine X.sq ?_
                      first | refine V.cond rfl (fun h64 => ?_) (fun h64 => ?_) | refine V.condB rfl (fun h64 => ?_) (fun h64 => ?_)
                      ·
                        cases h64
                      ·
                        refine V.skip ?_
                        refine X.sq ?_
                        refine V.seq ?_
                        refine V.region ?_
                        refine L.rd (rd_fieldAddr tok rfl rfl rfl rfl rfl rfl) rfl ?_
                        refine L.rd (rd_load1 tok rfl rfl rfl (hb3.cell rfl)) rfl ?_
                        refine L.nil ?_
                        refine X.sq ?_
                        refine V.cut (fun l w' => ∃ (s : Int), l = [(1, .pointer (some ⟨w.heap.size, 0, none⟩)), (3, .int .i64 ns.length), (4, .slice (some ⟨w0.heap.size, 0, none⟩) ns.length ns.length), (5, .int .i64 i)] ∧ S[i]? = some s ∧ Ext w0.heap.size w0 w' ∧ Bl w' w0.heap.size 3 (iC .i64 (G.set i s))) ?_ ?_
                        ·
                          refine V.block ?_
                          refine V.seq ?_
                          refine V.seq ?_
                          refine V.region ?_
                          refine L.rd (rd_eql rfl rfl) rfl ?_
                          refine L.rd (rd_assign rfl) rfl ?_
                          refine L.nil ?_
                          refine X.sq ?_
                          first | refine V.cond rfl (fun h106 => ?_) (fun h106 => ?_) | refine V.condB rfl (fun h106 => ?_) (fun h106 => ?_)
                          ·
                            refine V.skip ?_
                            refine X.sq ?_
                            first | refine V.cond rfl (fun h106_ => ?_) (fun h106_ => ?_) | refine V.condB rfl (fun h106_ => ?_) (fun h106_ => ?_)
                            ·
                              refine V.seq ?_
                              refine V.seq ?_
                              refine V.region ?_
                              refine L.rd (rd_fieldAddr tok rfl rfl rfl rfl rfl rfl) rfl ?_
                              refine L.rd (rd_load1 tok rfl rfl rfl (hb3.cell rfl)) rfl ?_
                              refine L.rd (rd_eql rfl rfl) rfl ?_
                              refine L.rd (rd_move rfl) rfl ?_
                              first | refine L.partG rfl rfl (fun g112 => ?_) (fun g112 => ?_) | refine L.partGB rfl rfl (fun g112 => ?_) (fun g112 => ?_)
                              ·
                                refine L.yes rfl rfl ?_
                                refine L.rd (rd_fieldAddr tok rfl rfl rfl rfl rfl rfl) rfl ?_
                                refine L.yes rfl rfl ?_
                                refine L.rd (rd_load1 tok rfl rfl rfl (hb3.cell (i := 2) rfl)) rfl ?_
                                refine L.yes rfl rfl ?_
                                refine L.rd (rd_lss rfl rfl) rfl ?_
                                refine L.yes rfl rfl ?_
                                refine L.rd (rd_move rfl) rfl ?_
                                first | refine L.partG rfl rfl (fun g116 => ?_) (fun g116 => ?_) | refine L.partGB rfl rfl (fun g116 => ?_) (fun g116 => ?_)
                                ·
                                  refine L.no rfl rfl rfl rfl ?_
                                  refine L.no rfl rfl rfl rfl ?_
                                  refine L.no rfl rfl rfl rfl ?_
                                  refine L.yes rfl rfl ?_
                                  refine L.rd (rd_pickT rfl rfl) rfl ?_
                                  refine L.rd (rd_pickT rfl rfl) rfl ?_
                                  refine L.nil ?_
                                  refine X.sq ?_
                                  refine V.condT rfl ?_
                                  refine V.seq ?_
                                  refine V.region ?_
                                  refine L.rd (rd_assign rfl) rfl ?_
                                  refine L.nil ?_
                                  refine X.sq ?_
                                  refine V.ret ?_
                                  refine X.sqRet ?_
                                  refine X.bkRet ?_
                                  refine X.ctRet ?_
                                  refine X.bkRet ?_
                                  refine X.sqRet ?_
                                  refine X.lpRet ?_
                                  refine X.bkRet ?_
                                  refine X.sqRet ?_
                                  refine ret_1 Yaam.results45 rfl ?_
                                  exfalso; omega
                                ·
                                  refine L.yes rfl rfl ?_
                                  refine L.rd (rd_fieldAddr tok rfl rfl rfl rfl rfl rfl) rfl ?_
                                  refine L.yes rfl rfl ?_
                                  refine L.rd (rd_load1 tok rfl rfl rfl (hb3.cell (i := 2) rfl)) rfl ?_
                                  refine L.yes rfl rfl ?_
                                  refine L.rd (rd_gtr rfl rfl) rfl ?_
                                  refine L.yes rfl rfl ?_
                                  refine L.rd (rd_pickF rfl rfl) rfl ?_
                                  refine L.rd (rd_pickT rfl rfl) rfl ?_
                                  refine L.nil ?_
                                  refine X.sq ?_
                                  first | refine V.cond rfl (fun h121 => ?_) (fun h121 => ?_) | refine V.condB rfl (fun h121 => ?_) (fun h121 => ?_)
                                  ·
                                    refine V.seq ?_
                                    refine V.region ?_
                                    refine L.rd (rd_assign rfl) rfl ?_
                                    refine L.nil ?_
                                    refine X.sq ?_
                                    refine V.ret ?_
                                    refine X.sqRet ?_
                                    refine X.bkRet ?_
                                    refine X.ctRet ?_
                                    refine X.bkRet ?_
                                    refine X.sqRet ?_
                                    refine X.lpRet ?_
                                    refine X.bkRet ?_
                                    refine X.sqRet ?_
                                    refine ret_1 Yaam.results45 rfl ?_
                                    exfalso; omega
                                  ·
                                    refine V.skip ?_
                                    refine X.sq ?_
                                    refine V.seq ?_
                                    refine V.seq ?_
                                    refine V.region ?_
                                    refine L.rd (rd_fieldAddr tok rfl rfl rfl rfl rfl rfl) rfl ?_
                                    refine L.rd (rd_load1 tok rfl rfl rfl (hb3.cell (i := 3) rfl)) rfl ?_
                                    refine L.rd (rd_neq rfl rfl) rfl ?_
                                    refine L.rd (rd_move rfl) rfl ?_
                                    first | refine L.partG rfl rfl (fun g125 => ?_) (fun g125 => ?_) | refine L.partGB rfl rfl (fun g125 => ?_) (fun g125 => ?_)
                                    ·
                                      refine L.no rfl rfl rfl rfl ?_
                                      refine L.no rfl rfl rfl rfl ?_
                                      refine L.no rfl rfl rfl rfl ?_
                                      refine L.rd (rd_pickT rfl rfl) rfl ?_
                                      refine L.nil ?_
                                      refine X.sq ?_
                                      refine V.condT rfl ?_
                                      refine V.seq ?_
                                      refine V.region ?_
                                      refine L.rd (rd_assign rfl) rfl ?_
                                      refine L.nil ?_
                                      refine X.sq ?_
                                      refine V.ret ?_
                                      refine X.sqRet ?_
                                      refine X.bkRet ?_
                                      refine X.ctRet ?_
                                      refine X.bkRet ?_
                                      refine X.sqRet ?_
                                      refine X.lpRet ?_
                                      refine X.bkRet ?_
                                      refine X.sqRet ?_
                                      refine ret_1 Yaam.results45 rfl ?_
                                      exfalso; omega
                                    ·
                                      refine L.yes rfl rfl ?_
                                      refine L.rd (rd_fieldAddr tok rfl rfl rfl rfl rfl rfl) rfl ?_
                                      refine L.yes rfl rfl ?_
                                      refine L.rd (rd_load1 tok rfl rfl rfl (hb3.cell (i := 4) rfl)) rfl ?_
                                      refine L.yes rfl rfl ?_
                                      refine L.rd (rd_neq rfl rfl) rfl ?_
                                      refine L.rd (rd_pickF rfl rfl) rfl ?_
                                      refine L.nil ?_
                                      refine X.sq ?_
                                      first | refine V.cond rfl (fun h129 => ?_) (fun h129 => ?_) | refine V.condB rfl (fun h129 => ?_) (fun h129 => ?_)
                                      ·
                                        refine V.seq ?_
                                        refine V.region ?_
                                        refine L.rd (rd_assign rfl) rfl ?_
                                        refine L.nil ?_
                                        refine X.sq ?_
                                        refine V.ret ?_
                                        refine X.sqRet ?_
                                        refine X.bkRet ?_
                                        refine X.ctRet ?_
                                        refine X.bkRet ?_
                                        refine X.sqRet ?_
                                        refine X.lpRet ?_
                                        refine X.bkRet ?_
                                        refine X.sqRet ?_
                                        refine ret_1 Yaam.results45 rfl ?_
                                        exfalso; omega
                                      ·
                                        refine V.skip ?_
                                        refine X.sq ?_
                                        refine V.region ?_
                                        refine L.rd (rd_move rfl) rfl ?_
                                        refine L.rd (rd_move rfl) rfl ?_
                                        (refine L.rd (rd_indexSlice (sz := 1) tok rfl rfl rfl rfl rfl rfl rfl ?_) rfl ?_; omega)
                                        refine L.ef (e_store (vs := [_]) tok rfl rfl rfl rfl hG3 rfl (by simp [Value.oneCell']) (by simp [iC]; omega) ?_)
                                        (simp only [Nat.zero_add, Nat.mul_one, Int.toNat_natCast])
                                        rw [iC_putI _ _ _ (by omega)]
                                        refine L.nil ?_
                                        refine X.bk ?_
                                        have hs : S[i]? = some 1 := by
                                          rcases hok with ⟨h1, h2, h3, h4, h5⟩ | ⟨h1, h2, h3, h4, h5, h6, h7⟩ | ⟨a, h0, h1, h2, h3, h4, h5, h6⟩ | ⟨a, b, j, h0, h1, h2, h3, h4, h5, h6, h7, h8, h9, h10⟩
                                          · exact h5
                                          · exact h7
                                          · simp only [] at h3; omega
                                          · simp only [] at h7; omega
                                        exact X.ct ⟨_, (by repeat' (first | exact trivial | refine ⟨rfl, ?_⟩)), 1, rfl, hs, hE3.set (Nat.le_refl _) _ _, hG3.set _ _⟩
                              ·
                                refine L.no rfl rfl rfl rfl ?_
                                refine L.no rfl rfl rfl rfl ?_
                                refine L.no rfl rfl rfl rfl ?_
                                refine L.no rfl rfl rfl rfl ?_
                                refine L.noU rfl rfl rfl ?_
                                refine L.noU rfl rfl rfl ?_
                                refine L.noU rfl rfl rfl ?_
                                refine L.no rfl rfl rfl rfl ?_
                                refine L.rd (rd_pickF rfl rfl) rfl ?_
                                refine L.nil ?_
                                refine X.sq ?_
                                refine V.condF rfl ?_
                                refine V.skip ?_
                                refine X.sq ?_
                                refine V.seq ?_
                                refine V.seq ?_
                                refine V.region ?_
                                refine L.rd (rd_fieldAddr tok rfl rfl rfl rfl rfl rfl) rfl ?_
                                refine L.rd (rd_load1 tok rfl rfl rfl (hb3.cell (i := 3) rfl)) rfl ?_
                                refine L.rd (rd_neq rfl rfl) rfl ?_
                                refine L.rd (rd_move rfl) rfl ?_
                                first | refine L.partG rfl rfl (fun g125 => ?_) (fun g125 => ?_) | refine L.partGB rfl rfl (fun g125 => ?_) (fun g125 => ?_)
                                ·
                                  refine L.no rfl rfl rfl rfl ?_
                                  refine L.no rfl rfl rfl rfl ?_
                                  refine L.no rfl rfl rfl rfl ?_
                                  refine L.rd (rd_pickT rfl rfl) rfl ?_
                                  refine L.nil ?_
                                  refine X.sq ?_
                                  refine V.condT rfl ?_
                                  refine V.seq ?_
                                  refine V.region ?_
                                  refine L.rd (rd_assign rfl) rfl ?_
                                  refine L.nil ?_
                                  refine X.sq ?_
                                  refine V.ret ?_
                                  refine X.sqRet ?_
                                  refine X.bkRet ?_
                                  refine X.ctRet ?_
                                  refine X.bkRet ?_
                                  refine X.sqRet ?_
                                  refine X.lpRet ?_
                                  refine X.bkRet ?_
                                  refine X.sqRet ?_
                                  refine ret_1 Yaam.results45 rfl ?_
                                  exfalso; omega
                                ·
                                  refine L.yes rfl rfl ?_
                                  refine L.rd (rd_fieldAddr tok rfl rfl rfl rfl rfl rfl) rfl ?_
                                  refine L.yes rfl rfl ?_
                                  refine L.rd (rd_load1 tok rfl rfl rfl (hb3.cell (i := 4) rfl)) rfl ?_
                                  refine L.yes rfl rfl ?_
                                  refine L.rd (rd_neq rfl rfl) rfl ?_
                                  refine L.rd (rd_pickF rfl rfl) rfl ?_
                                  refine L.nil ?_
                                  refine X.sq ?_
                                  first | refine V.cond rfl (fun h129 => ?_) (fun h129 => ?_) | refine V.condB rfl (fun h129 => ?_) (fun h129 => ?_)
                                  ·
                                    refine V.seq ?_
                                    refine V.region ?_
                                    refine L.rd (rd_assign rfl) rfl ?_
                                    refine L.nil ?_
                                    refine X.sq ?_
                                    refine V.ret ?_
                                    refine X.sqRet ?_
                                    refine X.bkRet ?_
                                    refine X.ctRet ?_
                                    refine X.bkRet ?_
                                    refine X.sqRet ?_
                                    refine X.lpRet ?_
                                    refine X.bkRet ?_
                                    refine X.sqRet ?_
                                    refine ret_1 Yaam.results45 rfl ?_
                                    exfalso; omega
                                  ·
                                    refine V.skip ?_
                                    refine X.sq ?_
                                    refine V.region ?_
                                    refine L.rd (rd_move rfl) rfl ?_
                                    refine L.rd (rd_move rfl) rfl ?_
                                    (refine L.rd (rd_indexSlice (sz := 1) tok rfl rfl rfl rfl rfl rfl rfl ?_) rfl ?_; omega)
                                    refine L.ef (e_store (vs := [_]) tok rfl rfl rfl rfl hG3 rfl (by simp [Value.oneCell']) (by simp [iC]; omega) ?_)
                                    (simp only [Nat.zero_add, Nat.mul_one, Int.toNat_natCast])
                                    rw [iC_putI _ _ _ (by omega)]
                                    refine L.nil ?_
                                    refine X.bk ?_
                                    have hs : S[i]? = some 1 := by
                                      rcases hok with ⟨h1, h2, h3, h4, h5⟩ | ⟨h1, h2, h3, h4, h5, h6, h7⟩ | ⟨a, h0, h1, h2, h3, h4, h5, h6⟩ | ⟨a, b, j, h0, h1, h2, h3, h4, h5, h6, h7, h8, h9, h10⟩
                                      · exact h5
                                      · exact h7
                                      · simp only [] at h3; omega
                                      · simp only [] at h7; omega
                                    exact X.ct ⟨_, (by repeat' (first | exact trivial | refine ⟨rfl, ?_⟩)), 1, rfl, hs, hE3.set (Nat.le_refl _) _ _, hG3.set _ _⟩
                            ·
                              exact absurd h106 h106_
                          ·
                            refine V.region ?_
                            refine L.rd (rd_eql rfl rfl) rfl ?_
                            refine L.rd (rd_assign rfl) rfl ?_
                            refine L.nil ?_
                            refine X.sq ?_
                            first | refine V.cond rfl (fun h106 => ?_) (fun h106 => ?_) | refine V.condB rfl (fun h106 => ?_) (fun h106 => ?_)
                            ·
                              refine V.seq ?_
                              refine V.seq ?_
                              refine V.region ?_
                              refine L.rd (rd_fieldAddr tok rfl rfl rfl rfl rfl rfl) rfl ?_
                              refine L.rd (rd_load1 tok rfl rfl rfl (hb3.cell rfl)) rfl ?_
                              refine L.rd (rd_eql rfl rfl) rfl ?_
                              refine L.rd (rd_move rfl) rfl ?_
                              first | refine L.partG rfl rfl (fun g112 => ?_) (fun g112 => ?_) | refine L.partGB rfl rfl (fun g112 => ?_) (fun g112 => ?_)
                              ·
                                refine L.yes rfl rfl ?_
                                refine L.rd (rd_fieldAddr tok rfl rfl rfl rfl rfl rfl) rfl ?_
                                refine L.yes rfl rfl ?_
                                refine L.rd (rd_load1 tok rfl rfl rfl (hb3.cell (i := 2) rfl)) rfl ?_
                                refine L.yes rfl rfl ?_
                                refine L.rd (rd_lss rfl rfl) rfl ?_
                                refine L.yes rfl rfl ?_
                                refine L.rd (rd_move rfl) rfl ?_
                                first | refine L.partG rfl rfl (fun g116 => ?_) (fun g116 => ?_) | refine L.partGB rfl rfl (fun g116 => ?_) (fun g116 => ?_)
                                ·
                                  refine L.no rfl rfl rfl rfl ?_
                                  refine L.no rfl rfl rfl rfl ?_
                                  refine L.no rfl rfl rfl rfl ?_
                                  refine L.yes rfl rfl ?_
                                  refine L.rd (rd_pickT rfl rfl) rfl ?_
                                  refine L.rd (rd_pickT rfl rfl) rfl ?_
                                  refine L.nil ?_
                                  refine X.sq ?_
                                  refine V.condT rfl ?_
                                  refine V.seq ?_
                                  refine V.region ?_
                                  refine L.rd (rd_assign rfl) rfl ?_
                                  refine L.nil ?_
                                  refine X.sq ?_
                                  refine V.ret ?_
                                  refine X.sqRet ?_
                                  refine X.bkRet ?_
                                  refine X.ctRet ?_
                                  refine X.bkRet ?_
                                  refine X.sqRet ?_
                                  refine X.lpRet ?_
                                  refine X.bkRet ?_
                                  refine X.sqRet ?_
                                  refine ret_1 Yaam.results45 rfl ?_
                                  exfalso; omega
                                ·
                                  refine L.yes rfl rfl ?_
                                  refine L.rd (rd_fieldAddr tok rfl rfl rfl rfl rfl rfl) rfl ?_
                                  refine L.yes rfl rfl ?_
                                  refine L.rd (rd_load1 tok rfl rfl rfl (hb3.cell (i := 2) rfl)) rfl ?_
                                  refine L.yes rfl rfl ?_
                                  refine L.rd (rd_gtr rfl rfl) rfl ?_
                                  refine L.yes rfl rfl ?_
                                  refine L.rd (rd_pickF rfl rfl) rfl ?_
                                  refine L.rd (rd_pickT rfl rfl) rfl ?_
                                  refine L.nil ?_
                                  refine X.sq ?_
                                  first | refine V.cond rfl (fun h121 => ?_) (fun h121 => ?_) | refine V.condB rfl (fun h121 => ?_) (fun h121 => ?_)
                                  ·
                                    refine V.seq ?_
                                    refine V.region ?_
                                    refine L.rd (rd_assign rfl) rfl ?_
                                    refine L.nil ?_
                                    refine X.sq ?_
                                    refine V.ret ?_
                                    refine X.sqRet ?_
                                    refine X.bkRet ?_
                                    refine X.ctRet ?_
                                    refine X.bkRet ?_
                                    refine X.sqRet ?_
                                    refine X.lpRet ?_
                                    refine X.bkRet ?_
                                    refine X.sqRet ?_
                                    refine ret_1 Yaam.results45 rfl ?_
                                    exfalso; omega
                                  ·
                                    refine V.skip ?_
                                    refine X.sq ?_
                                    refine V.seq ?_
                                    refine V.seq ?_
                                    refine V.region ?_
                                    refine L.rd (rd_fieldAddr tok rfl rfl rfl rfl rfl rfl) rfl ?_
                                    refine L.rd (rd_load1 tok rfl rfl rfl (hb3.cell (i := 3) rfl)) rfl ?_
                                    refine L.rd (rd_neq rfl rfl) rfl ?_
                                    refine L.rd (rd_move rfl) rfl ?_
                                    first | refine L.partG rfl rfl (fun g125 => ?_) (fun g125 => ?_) | refine L.partGB rfl rfl (fun g125 => ?_) (fun g125 => ?_)
                                    ·
                                      refine L.no rfl rfl rfl rfl ?_
                                      refine L.no rfl rfl rfl rfl ?_
                                      refine L.no rfl rfl rfl rfl ?_
                                      refine L.rd (rd_pickT rfl rfl) rfl ?_
                                      refine L.nil ?_
                                      refine X.sq ?_
                                      refine V.condT rfl ?_
                                      refine V.seq ?_
                                      refine V.region ?_
                                      refine L.rd (rd_assign rfl) rfl ?_
                                      refine L.nil ?_
                                      refine X.sq ?_
                                      refine V.ret ?_
                                      refine X.sqRet ?_
                                      refine X.bkRet ?_
                                      refine X.ctRet ?_
                                      refine X.bkRet ?_
                                      refine X.sqRet ?_
                                      refine X.lpRet ?_
                                      refine X.bkRet ?_
                                      refine X.sqRet ?_
                                      refine ret_1 Yaam.results45 rfl ?_
                                      exfalso; omega
                                    ·
                                      refine L.yes rfl rfl ?_
                                      refine L.rd (rd_fieldAddr tok rfl rfl rfl rfl rfl rfl) rfl ?_
                                      refine L.yes rfl rfl ?_
                                      refine L.rd (rd_load1 tok rfl rfl rfl (hb3.cell (i := 4) rfl)) rfl ?_
                                      refine L.yes rfl rfl ?_
                                      refine L.rd (rd_neq rfl rfl) rfl ?_
                                      refine L.rd (rd_pickF rfl rfl) rfl ?_
                                      refine L.nil ?_
                                      refine X.sq ?_
                                      first | refine V.cond rfl (fun h129 => ?_) (fun h129 => ?_) | refine V.condB rfl (fun h129 => ?_) (fun h129 => ?_)
                                      ·
                                        refine V.seq ?_
                                        refine V.region ?_
                                        refine L.rd (rd_assign rfl) rfl ?_
                                        refine L.nil ?_
                                        refine X.sq ?_
                                        refine V.ret ?_
                                        refine X.sqRet ?_
                                        refine X.bkRet ?_
                                        refine X.ctRet ?_
                                        refine X.bkRet ?_
                                        refine X.sqRet ?_
                                        refine X.lpRet ?_
                                        refine X.bkRet ?_
                                        refine X.sqRet ?_
                                        refine ret_1 Yaam.results45 rfl ?_
                                        exfalso; omega
                                      ·
                                        refine V.skip ?_
                                        refine X.sq ?_
                                        refine V.region ?_
                                        refine L.rd (rd_move rfl) rfl ?_
                                        refine L.rd (rd_move rfl) rfl ?_
                                        (refine L.rd (rd_indexSlice (sz := 1) tok rfl rfl rfl rfl rfl rfl rfl ?_) rfl ?_; omega)
                                        refine L.ef (e_store (vs := [_]) tok rfl rfl rfl rfl hG3 rfl (by simp [Value.oneCell']) (by simp [iC]; omega) ?_)
                                        (simp only [Nat.zero_add, Nat.mul_one, Int.toNat_natCast])
                                        rw [iC_putI _ _ _ (by omega)]
                                        refine L.nil ?_
                                        refine X.bk ?_
                                        have hs : S[i]? = some 1 := by
                                          rcases hok with ⟨h1, h2, h3, h4, h5⟩ | ⟨h1, h2, h3, h4, h5, h6, h7⟩ | ⟨a, h0, h1, h2, h3, h4, h5, h6⟩ | ⟨a, b, j, h0, h1, h2, h3, h4, h5, h6, h7, h8, h9, h10⟩
                                          · exact h5
                                          · exact h7
                                          · simp only [] at h3; omega
                                          · simp only [] at h7; omega
                                        exact X.ct ⟨_, (by repeat' (first | exact trivial | refine ⟨rfl, ?_⟩)), 1, rfl, hs, hE3.set (Nat.le_refl _) _ _, hG3.set _ _⟩
                              ·
                                refine L.no rfl rfl rfl rfl ?_
                                refine L.no rfl rfl rfl rfl ?_
                                refine L.no rfl rfl rfl rfl ?_
                                refine L.no rfl rfl rfl rfl ?_
                                refine L.noU rfl rfl rfl ?_
                                refine L.noU rfl rfl rfl ?_
                                refine L.noU rfl rfl rfl ?_
                                refine L.no rfl rfl rfl rfl ?_
                                refine L.rd (rd_pickF rfl rfl) rfl ?_
                                refine L.nil ?_
                                refine X.sq ?_
                                refine V.condF rfl ?_
                                refine V.skip ?_
                                refine X.sq ?_
                                refine V.seq ?_
                                refine V.seq ?_
                                refine V.region ?_
                                refine L.rd (rd_fieldAddr tok rfl rfl rfl rfl rfl rfl) rfl ?_
                                refine L.rd (rd_load1 tok rfl rfl rfl (hb3.cell (i := 3) rfl)) rfl ?_
                                refine L.rd (rd_neq rfl rfl) rfl ?_
                                refine L.rd (rd_move rfl) rfl ?_
                                first | refine L.partG rfl rfl (fun g125 => ?_) (fun g125 => ?_) | refine L.partGB rfl rfl (fun g125 => ?_) (fun g125 => ?_)
                                ·
                                  refine L.no rfl rfl rfl rfl ?_
                                  refine L.no rfl rfl rfl rfl ?_
                                  refine L.no rfl rfl rfl rfl ?_
                                  refine L.rd (rd_pickT rfl rfl) rfl ?_
                                  refine L.nil ?_
                                  refine X.sq ?_
                                  refine V.condT rfl ?_
                                  refine V.seq ?_
                                  refine V.region ?_
                                  refine L.rd (rd_assign rfl) rfl ?_
                                  refine L.nil ?_
                                  refine X.sq ?_
                                  refine V.ret ?_
                                  refine X.sqRet ?_
                                  refine X.bkRet ?_
                                  refine X.ctRet ?_
                                  refine X.bkRet ?_
                                  refine X.sqRet ?_
                                  refine X.lpRet ?_
                                  refine X.bkRet ?_
                                  refine X.sqRet ?_
                                  refine ret_1 Yaam.results45 rfl ?_
                                  exfalso; omega
                                ·
                                  refine L.yes rfl rfl ?_
                                  refine L.rd (rd_fieldAddr tok rfl rfl rfl rfl rfl rfl) rfl ?_
                                  refine L.yes rfl rfl ?_
                                  refine L.rd (rd_load1 tok rfl rfl rfl (hb3.cell (i := 4) rfl)) rfl ?_
                                  refine L.yes rfl rfl ?_
                                  refine L.rd (rd_neq rfl rfl) rfl ?_
                                  refine L.rd (rd_pickF rfl rfl) rfl ?_
                                  refine L.nil ?_
                                  refine X.sq ?_
                                  first | refine V.cond rfl (fun h129 => ?_) (fun h129 => ?_) | refine V.condB rfl (fun h129 => ?_) (fun h129 => ?_)
                                  ·
                                    refine V.seq ?_
                                    refine V.region ?_
                                    refine L.rd (rd_assign rfl) rfl ?_
                                    refine L.nil ?_
                                    refine X.sq ?_
                                    refine V.ret ?_
                                    refine X.sqRet ?_
                                    refine X.bkRet ?_
                                    refine X.ctRet ?_
                                    refine X.bkRet ?_
                                    refine X.sqRet ?_
                                    refine X.lpRet ?_
                                    refine X.bkRet ?_
                                    refine X.sqRet ?_
                                    refine ret_1 Yaam.results45 rfl ?_
                                    exfalso; omega
                                  ·
                                    refine V.skip ?_
                                    refine X.sq ?_
                                    refine V.region ?_
                                    refine L.rd (rd_move rfl) rfl ?_
                                    refine L.rd (rd_move rfl) rfl ?_
                                    (refine L.rd (rd_indexSlice (sz := 1) tok rfl rfl rfl rfl rfl rfl rfl ?_) rfl ?_; omega)
                                    refine L.ef (e_store (vs := [_]) tok rfl rfl rfl rfl hG3 rfl (by simp [Value.oneCell']) (by simp [iC]; omega) ?_)
                                    (simp only [Nat.zero_add, Nat.mul_one, Int.toNat_natCast])
                                    rw [iC_putI _ _ _ (by omega)]
                                    refine L.nil ?_
                                    refine X.bk ?_
                                    have hs : S[i]? = some 1 := by
                                      rcases hok with ⟨h1, h2, h3, h4, h5⟩ | ⟨h1, h2, h3, h4, h5, h6, h7⟩ | ⟨a, h0, h1, h2, h3, h4, h5, h6⟩ | ⟨a, b, j, h0, h1, h2, h3, h4, h5, h6, h7, h8, h9, h10⟩
                                      · exact h5
                                      · exact h7
                                      · simp only [] at h3; omega
                                      · simp only [] at h7; omega
                                    exact X.ct ⟨_, (by repeat' (first | exact trivial | refine ⟨rfl, ?_⟩)), 1, rfl, hs, hE3.set (Nat.le_refl _) _ _, hG3.set _ _⟩
                            ·
                              refine V.seq ?_
                              refine V.seq ?_
                              refine V.region ?_
                              refine L.rd (rd_eql rfl rfl) rfl ?_
                              refine L.rd (rd_assign rfl) rfl ?_
                              refine L.nil ?_
                              refine X.sq ?_
                              first | refine V.cond rfl (fun h133 => ?_) (fun h133 => ?_) | refine V.condB rfl (fun h133 => ?_) (fun h133 => ?_)
                              ·
                                refine V.skip ?_
                                refine X.sq ?_
                                first | refine V.cond rfl (fun h133_ => ?_) (fun h133_ => ?_) | refine V.condB rfl (fun h133_ => ?_) (fun h133_ => ?_)
                                ·
                                  refine V.seq ?_
                                  refine V.seq ?_
                                  refine V.region ?_
                                  refine L.rd (rd_fieldAddr tok rfl rfl rfl rfl rfl rfl) rfl ?_
                                  refine L.rd (rd_load1 tok rfl rfl rfl (hb3.cell rfl)) rfl ?_
                                  refine L.rd (rd_eql rfl rfl) rfl ?_
                                  refine L.rd (rd_move rfl) rfl ?_
                                  first | refine L.partG rfl rfl (fun g139 => ?_) (fun g139 => ?_) | refine L.partGB rfl rfl (fun g139 => ?_) (fun g139 => ?_)
                                  ·
                                    refine L.yes rfl rfl ?_
                                    refine L.rd (rd_fieldAddr tok rfl rfl rfl rfl rfl rfl) rfl ?_
                                    refine L.yes rfl rfl ?_
                                    refine L.rd (rd_load1 tok rfl rfl rfl (hb3.cell (i := 1) rfl)) rfl ?_
                                    refine L.yes rfl rfl ?_
                                    refine L.rd (rd_lss rfl rfl) rfl ?_
                                    refine L.yes rfl rfl ?_
                                    refine L.rd (rd_move rfl) rfl ?_
                                    first | refine L.partG rfl rfl (fun g143 => ?_) (fun g143 => ?_) | refine L.partGB rfl rfl (fun g143 => ?_) (fun g143 => ?_)
                                    ·
                                      refine L.no rfl rfl rfl rfl ?_
                                      refine L.no rfl rfl rfl rfl ?_
                                      refine L.no rfl rfl rfl rfl ?_
                                      refine L.yes rfl rfl ?_
                                      refine L.rd (rd_pickT rfl rfl) rfl ?_
                                      refine L.rd (rd_pickT rfl rfl) rfl ?_
                                      refine L.nil ?_
                                      refine X.sq ?_
                                      refine V.condT rfl ?_
                                      refine V.seq ?_
                                      refine V.region ?_
                                      refine L.rd (rd_assign rfl) rfl ?_
                                      refine L.nil ?_
                                      refine X.sq ?_
                                      refine V.ret ?_
                                      refine X.sqRet ?_
                                      refine X.bkRet ?_
                                      refine X.ctRet ?_
                                      refine X.bkRet ?_
                                      refine X.sqRet ?_
                                      refine X.lpRet ?_
                                      refine X.bkRet ?_
                                      refine X.sqRet ?_
                                      refine ret_1 Yaam.results45 rfl ?_
                                      exfalso; omega
                                    ·
                                      refine L.yes rfl rfl ?_
                                      refine L.rd (rd_fieldAddr tok rfl rfl rfl rfl rfl rfl) rfl ?_
                                      refine L.yes rfl rfl ?_
                                      refine L.rd (rd_load1 tok rfl rfl rfl (hb3.cell (i := 1) rfl)) rfl ?_
                                      refine L.yes rfl rfl ?_
                                      refine L.rd (rd_gtr rfl rfl) rfl ?_
                                      refine L.yes rfl rfl ?_
                                      refine L.rd (rd_pickF rfl rfl) rfl ?_
                                      refine L.rd (rd_pickT rfl rfl) rfl ?_
                                      refine L.nil ?_
                                      refine X.sq ?_
                                      first | refine V.cond rfl (fun h148 => ?_) (fun h148 => ?_) | refine V.condB rfl (fun h148 => ?_) (fun h148 => ?_)
                                      ·
                                        refine V.seq ?_
                                        refine V.region ?_
                                        refine L.rd (rd_assign rfl) rfl ?_
                                        refine L.nil ?_
                                        refine X.sq ?_
                                        refine V.ret ?_
                                        refine X.sqRet ?_
                                        refine X.bkRet ?_
                                        refine X.ctRet ?_
                                        refine X.bkRet ?_
                                        refine X.sqRet ?_
                                        refine X.lpRet ?_
                                        refine X.bkRet ?_
                                        refine X.sqRet ?_
                                        refine ret_1 Yaam.results45 rfl ?_
                                        exfalso; omega
                                      ·
                                        refine V.skip ?_
                                        refine X.sq ?_
                                        refine V.seq ?_
                                        refine V.seq ?_
                                        refine V.region ?_
                                        refine L.rd (rd_move rfl) rfl ?_
                                        refine L.rd (rd_lss rfl rfl) rfl ?_
                                        refine L.rd (rd_move rfl) rfl ?_
                                        first | refine L.partG rfl rfl (fun g151 => ?_) (fun g151 => ?_) | refine L.partGB rfl rfl (fun g151 => ?_) (fun g151 => ?_)
                                        ·
                                          refine L.no rfl rfl rfl rfl ?_
                                          refine L.no rfl rfl rfl rfl ?_
                                          refine L.no rfl rfl rfl rfl ?_
                                          refine L.no rfl rfl rfl rfl ?_
                                          refine L.no rfl rfl rfl rfl ?_
                                          refine L.rd (rd_pickT rfl rfl) rfl ?_
                                          refine L.rd (rd_move rfl) rfl ?_
                                          refine L.no rfl rfl rfl rfl ?_
                                          refine L.no rfl rfl rfl rfl ?_
                                          refine L.no rfl rfl rfl rfl ?_
                                          refine L.rd (rd_pickT rfl rfl) rfl ?_
                                          refine L.nil ?_
                                          refine X.sq ?_
                                          refine V.condT rfl ?_
                                          refine V.seq ?_
                                          refine V.region ?_
                                          refine L.rd (rd_assign rfl) rfl ?_
                                          refine L.nil ?_
                                          refine X.sq ?_
                                          refine V.ret ?_
                                          refine X.sqRet ?_
                                          refine X.bkRet ?_
                                          refine X.ctRet ?_
                                          refine X.bkRet ?_
                                          refine X.sqRet ?_
                                          refine X.lpRet ?_
                                          refine X.bkRet ?_
                                          refine X.sqRet ?_
                                          refine ret_1 Yaam.results45 rfl ?_
                                          exfalso; omega
                                        ·
                                          refine L.yes rfl rfl ?_
                                          refine L.rd (rd_fieldAddr tok rfl rfl rfl rfl rfl rfl) rfl ?_
                                          refine L.yes rfl rfl ?_
                                          refine L.rd (rd_load1 tok rfl rfl rfl (hb3.cell (i := 3) rfl)) rfl ?_
                                          refine L.yes rfl rfl ?_
                                          refine L.rd (rd_move rfl) rfl ?_
                                          refine L.yes rfl rfl ?_
                                          (refine L.rd (rd_sub3 rfl rfl ?_) rfl ?_; omega)
                                          refine L.yes rfl rfl ?_
                                          refine L.rd (rd_neq rfl rfl) rfl ?_
                                          refine L.rd (rd_pickF rfl rfl) rfl ?_
                                          refine L.rd (rd_move rfl) rfl ?_
                                          first | refine L.partG rfl rfl (fun g158 => ?_) (fun g158 => ?_) | refine L.partGB rfl rfl (fun g158 => ?_) (fun g158 => ?_)
                                          ·
                                            refine L.no rfl rfl rfl rfl ?_
                                            refine L.no rfl rfl rfl rfl ?_
                                            refine L.no rfl rfl rfl rfl ?_
                                            refine L.rd (rd_pickT rfl rfl) rfl ?_
                                            refine L.nil ?_
                                            refine X.sq ?_
                                            refine V.condT rfl ?_
                                            refine V.seq ?_
                                            refine V.region ?_
                                            refine L.rd (rd_assign rfl) rfl ?_
                                            refine L.nil ?_
                                            refine X.sq ?_
                                            refine V.ret ?_
                                            refine X.sqRet ?_
                                            refine X.bkRet ?_
                                            refine X.ctRet ?_
                                            refine X.bkRet ?_
                                            refine X.sqRet ?_
                                            refine X.lpRet ?_
                                            refine X.bkRet ?_
                                            refine X.sqRet ?_
                                            refine ret_1 Yaam.results45 rfl ?_
                                            exfalso; omega
                                          ·
                                            refine L.yes rfl rfl ?_
                                            refine L.rd (rd_fieldAddr tok rfl rfl rfl rfl rfl rfl) rfl ?_
                                            refine L.yes rfl rfl ?_
                                            refine L.rd (rd_load1 tok rfl rfl rfl (hb3.cell (i := 4) rfl)) rfl ?_
                                            refine L.yes rfl rfl ?_
                                            refine L.rd (rd_neq rfl rfl) rfl ?_
                                            refine L.rd (rd_pickF rfl rfl) rfl ?_
                                            refine L.nil ?_
                                            refine X.sq ?_
                                            first | refine V.cond rfl (fun h162 => ?_) (fun h162 => ?_) | refine V.condB rfl (fun h162 => ?_) (fun h162 => ?_)
                                            ·
                                              refine V.seq ?_
                                              refine V.region ?_
                                              refine L.rd (rd_assign rfl) rfl ?_
                                              refine L.nil ?_
                                              refine X.sq ?_
                                              refine V.ret ?_
                                              refine X.sqRet ?_
                                              refine X.bkRet ?_
                                              refine X.ctRet ?_
                                              refine X.bkRet ?_
                                              refine X.sqRet ?_
                                              refine X.lpRet ?_
                                              refine X.bkRet ?_
                                              refine X.sqRet ?_
                                              refine ret_1 Yaam.results45 rfl ?_
                                              exfalso; omega
                                            ·
                                              refine V.skip ?_
                                              refine X.sq ?_
                                              obtain ⟨a, hi1, ha, hs⟩ : ∃ a, 1 ≤ i ∧ S[i - 1]? = some a ∧ S[i]? = some (1 + a) := by
                                                rcases hok with ⟨h1, h2, h3, h4, h5⟩ | ⟨h1, h2, h3, h4, h5, h6, h7⟩ | ⟨a, h0, h1, h2, h3, h4, h5, h6⟩ | ⟨a, b, j, h0, h1, h2, h3, h4, h5, h6, h7, h8, h9, h10⟩
                                                · simp only [] at h1; omega
                                                · simp only [] at h1; omega
                                                · exact ⟨a, h0, h1, h6⟩
                                                · simp only [] at h7; omega
                                              have hga := get_of_take htk (j := i - 1) (by omega)
                                              rw [ha] at hga
                                              have hab := hsm a (List.mem_of_getElem? ha)
                                              have hix : ((i : Int) - 1).toNat = i - 1 := by omega
                                              refine V.region ?_
                                              refine L.rd (rd_move rfl) rfl ?_
                                              refine L.rd (rd_move rfl) rfl ?_
                                              refine L.rd (rd_move rfl) rfl ?_
                                              refine L.rd (rd_move rfl) rfl ?_
                                              (refine L.rd (rd_sub3 rfl rfl ?_) rfl ?_; omega)
                                              (refine L.rd (rd_indexSlice (sz := 1) tok rfl rfl rfl rfl rfl rfl rfl ?_) rfl ?_; omega)
                                              refine L.rd (rd_load1 tok rfl rfl rfl (cell_at (i := ((i : Int) - 1).toNat) hG3 (by rw [hix]; exact iC_get hga) (by simp))) rfl ?_
                                              (refine L.rd (rd_add3 rfl rfl ?_) rfl ?_; omega)
                                              (refine L.rd (rd_indexSlice (sz := 1) tok rfl rfl rfl rfl rfl rfl rfl ?_) rfl ?_; omega)
                                              refine L.ef (e_store (vs := [_]) tok rfl rfl rfl rfl hG3 rfl (by simp [Value.oneCell']) (by simp [iC]; omega) ?_)
                                              (simp only [Nat.zero_add, Nat.mul_one, Int.toNat_natCast])
                                              rw [iC_putI _ _ _ (by omega)]
                                              refine L.nil ?_
                                              refine X.bk ?_
                                              exact X.ct ⟨_, (by repeat' (first | exact trivial | refine ⟨rfl, ?_⟩)), 1 + a, rfl, hs, hE3.set (Nat.le_refl _) _ _, hG3.set _ _⟩
                                  ·
                                    refine L.no rfl rfl rfl rfl ?_
                                    refine L.no rfl rfl rfl rfl ?_
                                    refine L.no rfl rfl rfl rfl ?_
                                    refine L.no rfl rfl rfl rfl ?_
                                    refine L.noU rfl rfl rfl ?_
                                    refine L.noU rfl rfl rfl ?_
                                    refine L.noU rfl rfl rfl ?_
                                    refine L.no rfl rfl rfl rfl ?_
                                    refine L.rd (rd_pickF rfl rfl) rfl ?_
                                    refine L.nil ?_
                                    refine X.sq ?_
                                    refine V.condF rfl ?_
                                    refine V.skip ?_
                                    refine X.sq ?_
                                    refine V.seq ?_
                                    refine V.seq ?_
                                    refine V.region ?_
                                    refine L.rd (rd_move rfl) rfl ?_
                                    refine L.rd (rd_lss rfl rfl) rfl ?_
                                    refine L.rd (rd_move rfl) rfl ?_
                                    first | refine L.partG rfl rfl (fun g151 => ?_) (fun g151 => ?_) | refine L.partGB rfl rfl (fun g151 => ?_) (fun g151 => ?_)
                                    ·
                                      refine L.no rfl rfl rfl rfl ?_
                                      refine L.no rfl rfl rfl rfl ?_
                                      refine L.no rfl rfl rfl rfl ?_
                                      refine L.no rfl rfl rfl rfl ?_
                                      refine L.no rfl rfl rfl rfl ?_
                                      refine L.rd (rd_pickT rfl rfl) rfl ?_
                                      refine L.rd (rd_move rfl) rfl ?_
                                      refine L.no rfl rfl rfl rfl ?_
                                      refine L.no rfl rfl rfl rfl ?_
                                      refine L.no rfl rfl rfl rfl ?_
                                      refine L.rd (rd_pickT rfl rfl) rfl ?_
                                      refine L.nil ?_
                                      refine X.sq ?_
                                      refine V.condT rfl ?_
                                      refine V.seq ?_
                                      refine V.region ?_
                                      refine L.rd (rd_assign rfl) rfl ?_
                                      refine L.nil ?_
                                      refine X.sq ?_
                                      refine V.ret ?_
                                      refine X.sqRet ?_
                                      refine X.bkRet ?_
                                      refine X.ctRet ?_
                                      refine X.bkRet ?_
                                      refine X.sqRet ?_
                                      refine X.lpRet ?_
                                      refine X.bkRet ?_
                                      refine X.sqRet ?_
                                      refine ret_1 Yaam.results45 rfl ?_
                                      exfalso; omega
                                    ·
                                      refine L.yes rfl rfl ?_
                                      refine L.rd (rd_fieldAddr tok rfl rfl rfl rfl rfl rfl) rfl ?_
                                      refine L.yes rfl rfl ?_
                                      refine L.rd (rd_load1 tok rfl rfl rfl (hb3.cell (i := 3) rfl)) rfl ?_
                                      refine L.yes rfl rfl ?_
                                      refine L.rd (rd_move rfl) rfl ?_
                                      refine L.yes rfl rfl ?_
                                      (refine L.rd (rd_sub3 rfl rfl ?_) rfl ?_; omega)
                                      refine L.yes rfl rfl ?_
                                      refine L.rd (rd_neq rfl rfl) rfl ?_
                                      refine L.rd (rd_pickF rfl rfl) rfl ?_
                                      refine L.rd (rd_move rfl) rfl ?_
                                      first | refine L.partG rfl rfl (fun g158 => ?_) (fun g158 => ?_) | refine L.partGB rfl rfl (fun g158 => ?_) (fun g158 => ?_)
                                      ·
                                        refine L.no rfl rfl rfl rfl ?_
                                        refine L.no rfl rfl rfl rfl ?_
                                        refine L.no rfl rfl rfl rfl ?_
                                        refine L.rd (rd_pickT rfl rfl) rfl ?_
                                        refine L.nil ?_
                                        refine X.sq ?_
                                        refine V.condT rfl ?_
                                        refine V.seq ?_
                                        refine V.region ?_
                                        refine L.rd (rd_assign rfl) rfl ?_
                                        refine L.nil ?_
                                        refine X.sq ?_
                                        refine V.ret ?_
                                        refine X.sqRet ?_
                                        refine X.bkRet ?_
                                        refine X.ctRet ?_
                                        refine X.bkRet ?_
                                        refine X.sqRet ?_
                                        refine X.lpRet ?_
                                        refine X.bkRet ?_
                                        refine X.sqRet ?_
                                        refine ret_1 Yaam.results45 rfl ?_
                                        exfalso; omega
                                      ·
                                        refine L.yes rfl rfl ?_
                                        refine L.rd (rd_fieldAddr tok rfl rfl rfl rfl rfl rfl) rfl ?_
                                        refine L.yes rfl rfl ?_
                                        refine L.rd (rd_load1 tok rfl rfl rfl (hb3.cell (i := 4) rfl)) rfl ?_
                                        refine L.yes rfl rfl ?_
                                        refine L.rd (rd_neq rfl rfl) rfl ?_
                                        refine L.rd (rd_pickF rfl rfl) rfl ?_
                                        refine L.nil ?_
                                        refine X.sq ?_
                                        first | refine V.cond rfl (fun h162 => ?_) (fun h162 => ?_) | refine V.condB rfl (fun h162 => ?_) (fun h162 => ?_)
                                        ·
                                          refine V.seq ?_
                                          refine V.region ?_
                                          refine L.rd (rd_assign rfl) rfl ?_
                                          refine L.nil ?_
                                          refine X.sq ?_
                                          refine V.ret ?_
                                          refine X.sqRet ?_
                                          refine X.bkRet ?_
                                          refine X.ctRet ?_
                                          refine X.bkRet ?_
                                          refine X.sqRet ?_
                                          refine X.lpRet ?_
                                          refine X.bkRet ?_
                                          refine X.sqRet ?_
                                          refine ret_1 Yaam.results45 rfl ?_
                                          exfalso; omega
                                        ·
                                          refine V.skip ?_
                                          refine X.sq ?_
                                          obtain ⟨a, hi1, ha, hs⟩ : ∃ a, 1 ≤ i ∧ S[i - 1]? = some a ∧ S[i]? = some (1 + a) := by
                                            rcases hok with ⟨h1, h2, h3, h4, h5⟩ | ⟨h1, h2, h3, h4, h5, h6, h7⟩ | ⟨a, h0, h1, h2, h3, h4, h5, h6⟩ | ⟨a, b, j, h0, h1, h2, h3, h4, h5, h6, h7, h8, h9, h10⟩
                                            · simp only [] at h1; omega
                                            · simp only [] at h1; omega
                                            · exact ⟨a, h0, h1, h6⟩
                                            · simp only [] at h7; omega
                                          have hga := get_of_take htk (j := i - 1) (by omega)
                                          rw [ha] at hga
                                          have hab := hsm a (List.mem_of_getElem? ha)
                                          have hix : ((i : Int) - 1).toNat = i - 1 := by omega
                                          refine V.region ?_
                                          refine L.rd (rd_move rfl) rfl ?_
                                          refine L.rd (rd_move rfl) rfl ?_
                                          refine L.rd (rd_move rfl) rfl ?_
                                          refine L.rd (rd_move rfl) rfl ?_
                                          (refine L.rd (rd_sub3 rfl rfl ?_) rfl ?_; omega)
                                          (refine L.rd (rd_indexSlice (sz := 1) tok rfl rfl rfl rfl rfl rfl rfl ?_) rfl ?_; omega)
                                          refine L.rd (rd_load1 tok rfl rfl rfl (cell_at (i := ((i : Int) - 1).toNat) hG3 (by rw [hix]; exact iC_get hga) (by simp))) rfl ?_
                                          (refine L.rd (rd_add3 rfl rfl ?_) rfl ?_; omega)
                                          (refine L.rd (rd_indexSlice (sz := 1) tok rfl rfl rfl rfl rfl rfl rfl ?_) rfl ?_; omega)
                                          refine L.ef (e_store (vs := [_]) tok rfl rfl rfl rfl hG3 rfl (by simp [Value.oneCell']) (by simp [iC]; omega) ?_)
                                          (simp only [Nat.zero_add, Nat.mul_one, Int.toNat_natCast])
                                          rw [iC_putI _ _ _ (by omega)]
                                          refine L.nil ?_
                                          refine X.bk ?_
                                          exact X.ct ⟨_, (by repeat' (first | exact trivial | refine ⟨rfl, ?_⟩)), 1 + a, rfl, hs, hE3.set (Nat.le_refl _) _ _, hG3.set _ _⟩
                                ·
                                  exact absurd h133 h133_
                              ·
                                refine V.region ?_
                                refine L.rd (rd_eql rfl rfl) rfl ?_
                                refine L.rd (rd_assign rfl) rfl ?_
                                refine L.nil ?_
                                refine X.sq ?_
                                first | refine V.cond rfl (fun h133 => ?_) (fun h133 => ?_) | refine V.condB rfl (fun h133 => ?_) (fun h133 => ?_)
                                ·
                                  refine V.seq ?_
                                  refine V.seq ?_
                                  refine V.region ?_
                                  refine L.rd (rd_fieldAddr tok rfl rfl rfl rfl rfl rfl) rfl ?_
                                  refine L.rd (rd_load1 tok rfl rfl rfl (hb3.cell rfl)) rfl ?_
                                  refine L.rd (rd_eql rfl rfl) rfl ?_
                                  refine L.rd (rd_move rfl) rfl ?_
                                  first | refine L.partG rfl rfl (fun g139 => ?_) (fun g139 => ?_) | refine L.partGB rfl rfl (fun g139 => ?_) (fun g139 => ?_)
                                  ·
                                    refine L.yes rfl rfl ?_
                                    refine L.rd (rd_fieldAddr tok rfl rfl rfl rfl rfl rfl) rfl ?_
                                    refine L.yes rfl rfl ?_
                                    refine L.rd (rd_load1 tok rfl rfl rfl (hb3.cell (i := 1) rfl)) rfl ?_
                                    refine L.yes rfl rfl ?_
                                    refine L.rd (rd_lss rfl rfl) rfl ?_
                                    refine L.yes rfl rfl ?_
                                    refine L.rd (rd_move rfl) rfl ?_
                                    first | refine L.partG rfl rfl (fun g143 => ?_) (fun g143 => ?_) | refine L.partGB rfl rfl (fun g143 => ?_) (fun g143 => ?_)
                                    ·
                                      refine L.no rfl rfl rfl rfl ?_
                                      refine L.no rfl rfl rfl rfl ?_
                                      refine L.no rfl rfl rfl rfl ?_
                                      refine L.yes rfl rfl ?_
                                      refine L.rd (rd_pickT rfl rfl) rfl ?_
                                      refine L.rd (rd_pickT rfl rfl) rfl ?_
                                      refine L.nil ?_
                                      refine X.sq ?_
                                      refine V.condT rfl ?_
                                      refine V.seq ?_
                                      refine V.region ?_
                                      refine L.rd (rd_assign rfl) rfl ?_
                                      refine L.nil ?_
                                      refine X.sq ?_
                                      refine V.ret ?_
                                      refine X.sqRet ?_
                                      refine X.bkRet ?_
                                      refine X.ctRet ?_
                                      refine X.bkRet ?_
                                      refine X.sqRet ?_
                                      refine X.lpRet ?_
                                      refine X.bkRet ?_
                                      refine X.sqRet ?_
                                      refine ret_1 Yaam.results45 rfl ?_
                                      exfalso; omega
                                    ·
                                      refine L.yes rfl rfl ?_
                                      refine L.rd (rd_fieldAddr tok rfl rfl rfl rfl rfl rfl) rfl ?_
                                      refine L.yes rfl rfl ?_
                                      refine L.rd (rd_load1 tok rfl rfl rfl (hb3.cell (i := 1) rfl)) rfl ?_
                                      refine L.yes rfl rfl ?_
                                      refine L.rd (rd_gtr rfl rfl) rfl ?_
                                      refine L.yes rfl rfl ?_
                                      refine L.rd (rd_pickF rfl rfl) rfl ?_
                                      refine L.rd (rd_pickT rfl rfl) rfl ?_
                                      refine L.nil ?_
                                      refine X.sq ?_
                                      first | refine V.cond rfl (fun h148 => ?_) (fun h148 => ?_) | refine V.condB rfl (fun h148 => ?_) (fun h148 => ?_)
                                      ·
                                        refine V.seq ?_
                                        refine V.region ?_
                                        refine L.rd (rd_assign rfl) rfl ?_
                                        refine L.nil ?_
                                        refine X.sq ?_
                                        refine V.ret ?_
                                        refine X.sqRet ?_
                                        refine X.bkRet ?_
                                        refine X.ctRet ?_
                                        refine X.bkRet ?_
                                        refine X.sqRet ?_
                                        refine X.lpRet ?_
                                        refine X.bkRet ?_
                                        refine X.sqRet ?_
                                        refine ret_1 Yaam.results45 rfl ?_
                                        exfalso; omega
                                      ·
                                        refine V.skip ?_
                                        refine X.sq ?_
                                        refine V.seq ?_
                                        refine V.seq ?_
                                        refine V.region ?_
                                        refine L.rd (rd_move rfl) rfl ?_
                                        refine L.rd (rd_lss rfl rfl) rfl ?_
                                        refine L.rd (rd_move rfl) rfl ?_
                                        first | refine L.partG rfl rfl (fun g151 => ?_) (fun g151 => ?_) | refine L.partGB rfl rfl (fun g151 => ?_) (fun g151 => ?_)
                                        ·
                                          refine L.no rfl rfl rfl rfl ?_
                                          refine L.no rfl rfl rfl rfl ?_
                                          refine L.no rfl rfl rfl rfl ?_
                                          refine L.no rfl rfl rfl rfl ?_
                                          refine L.no rfl rfl rfl rfl ?_
                                          refine L.rd (rd_pickT rfl rfl) rfl ?_
                                          refine L.rd (rd_move rfl) rfl ?_
                                          refine L.no rfl rfl rfl rfl ?_
                                          refine L.no rfl rfl rfl rfl ?_
                                          refine L.no rfl rfl rfl rfl ?_
                                          refine L.rd (rd_pickT rfl rfl) rfl ?_
                                          refine L.nil ?_
                                          refine X.sq ?_
                                          refine V.condT rfl ?_
                                          refine V.seq ?_
                                          refine V.region ?_
                                          refine L.rd (rd_assign rfl) rfl ?_
                                          refine L.nil ?_
                                          refine X.sq ?_
                                          refine V.ret ?_
                                          refine X.sqRet ?_
                                          refine X.bkRet ?_
                                          refine X.ctRet ?_
                                          refine X.bkRet ?_
                                          refine X.sqRet ?_
                                          refine X.lpRet ?_
                                          refine X.bkRet ?_
                                          refine X.sqRet ?_
                                          refine ret_1 Yaam.results45 rfl ?_
                                          exfalso; omega
                                        ·
                                          refine L.yes rfl rfl ?_
                                          refine L.rd (rd_fieldAddr tok rfl rfl rfl rfl rfl rfl) rfl ?_
                                          refine L.yes rfl rfl ?_
                                          refine L.rd (rd_load1 tok rfl rfl rfl (hb3.cell (i := 3) rfl)) rfl ?_
                                          refine L.yes rfl rfl ?_
                                          refine L.rd (rd_move rfl) rfl ?_
                                          refine L.yes rfl rfl ?_
                                          (refine L.rd (rd_sub3 rfl rfl ?_) rfl ?_; omega)
                                          refine L.yes rfl rfl ?_
                                          refine L.rd (rd_neq rfl rfl) rfl ?_
                                          refine L.rd (rd_pickF rfl rfl) rfl ?_
                                          refine L.rd (rd_move rfl) rfl ?_
                                          first | refine L.partG rfl rfl (fun g158 => ?_) (fun g158 => ?_) | refine L.partGB rfl rfl (fun g158 => ?_) (fun g158 => ?_)
                                          ·
                                            refine L.no rfl rfl rfl rfl ?_
                                            refine L.no rfl rfl rfl rfl ?_
                                            refine L.no rfl rfl rfl rfl ?_
                                            refine L.rd (rd_pickT rfl rfl) rfl ?_
                                            refine L.nil ?_
                                            refine X.sq ?_
                                            refine V.condT rfl ?_
                                            refine V.seq ?_
                                            refine V.region ?_
                                            refine L.rd (rd_assign rfl) rfl ?_
                                            refine L.nil ?_
                                            refine X.sq ?_
                                            refine V.ret ?_
                                            refine X.sqRet ?_
                                            refine X.bkRet ?_
                                            refine X.ctRet ?_
                                            refine X.bkRet ?_
                                            refine X.sqRet ?_
                                            refine X.lpRet ?_
                                            refine X.bkRet ?_
                                            refine X.sqRet ?_
                                            refine ret_1 Yaam.results45 rfl ?_
                                            exfalso; omega
                                          ·
                                            refine L.yes rfl rfl ?_
                                            refine L.rd (rd_fieldAddr tok rfl rfl rfl rfl rfl rfl) rfl ?_
                                            refine L.yes rfl rfl ?_
                                            refine L.rd (rd_load1 tok rfl rfl rfl (hb3.cell (i := 4) rfl)) rfl ?_
                                            refine L.yes rfl rfl ?_
                                            refine L.rd (rd_neq rfl rfl) rfl ?_
                                            refine L.rd (rd_pickF rfl rfl) rfl ?_
                                            refine L.nil ?_
                                            refine X.sq ?_
                                            first | refine V.cond rfl (fun h162 => ?_) (fun h162 => ?_) | refine V.condB rfl (fun h162 => ?_) (fun h162 => ?_)
                                            ·
                                              refine V.seq ?_
                                              refine V.region ?_
                                              refine L.rd (rd_assign rfl) rfl ?_
                                              refine L.nil ?_
                                              refine X.sq ?_
                                              refine V.ret ?_
                                              refine X.sqRet ?_
                                              refine X.bkRet ?_
                                              refine X.ctRet ?_
                                              refine X.bkRet ?_
                                              refine X.sqRet ?_
                                              refine X.lpRet ?_
                                              refine X.bkRet ?_
                                              refine X.sqRet ?_
                                              refine ret_1 Yaam.results45 rfl ?_
                                              exfalso; omega
                                            ·
                                              refine V.skip ?_
                                              refine X.sq ?_
                                              obtain ⟨a, hi1, ha, hs⟩ : ∃ a, 1 ≤ i ∧ S[i - 1]? = some a ∧ S[i]? = some (1 + a) := by
                                                rcases hok with ⟨h1, h2, h3, h4, h5⟩ | ⟨h1, h2, h3, h4, h5, h6, h7⟩ | ⟨a, h0, h1, h2, h3, h4, h5, h6⟩ | ⟨a, b, j, h0, h1, h2, h3, h4, h5, h6, h7, h8, h9, h10⟩
                                                · simp only [] at h1; omega
                                                · simp only [] at h1; omega
                                                · exact ⟨a, h0, h1, h6⟩
                                                · simp only [] at h7; omega
                                              have hga := get_of_take htk (j := i - 1) (by omega)
                                              rw [ha] at hga
                                              have hab := hsm a (List.mem_of_getElem? ha)
                                              have hix : ((i : Int) - 1).toNat = i - 1 := by omega
                                              refine V.region ?_
                                              refine L.rd (rd_move rfl) rfl ?_
                                              refine L.rd (rd_move rfl) rfl ?_
                                              refine L.rd (rd_move rfl) rfl ?_
                                              refine L.rd (rd_move rfl) rfl ?_
                                              (refine L.rd (rd_sub3 rfl rfl ?_) rfl ?_; omega)
                                              (refine L.rd (rd_indexSlice (sz := 1) tok rfl rfl rfl rfl rfl rfl rfl ?_) rfl ?_; omega)
                                              refine L.rd (rd_load1 tok rfl rfl rfl (cell_at (i := ((i : Int) - 1).toNat) hG3 (by rw [hix]; exact iC_get hga) (by simp))) rfl ?_
                                              (refine L.rd (rd_add3 rfl rfl ?_) rfl ?_; omega)
                                              (refine L.rd (rd_indexSlice (sz := 1) tok rfl rfl rfl rfl rfl rfl rfl ?_) rfl ?_; omega)
                                              refine L.ef (e_store (vs := [_]) tok rfl rfl rfl rfl hG3 rfl (by simp [Value.oneCell']) (by simp [iC]; omega) ?_)
                                              (simp only [Nat.zero_add, Nat.mul_one, Int.toNat_natCast])
                                              rw [iC_putI _ _ _ (by omega)]
                                              refine L.nil ?_
                                              refine X.bk ?_
                                              exact X.ct ⟨_, (by repeat' (first | exact trivial | refine ⟨rfl, ?_⟩)), 1 + a, rfl, hs, hE3.set (Nat.le_refl _) _ _, hG3.set _ _⟩
                                  ·
                                    refine L.no rfl rfl rfl rfl ?_
                                    refine L.no rfl rfl rfl rfl ?_
                                    refine L.no rfl rfl rfl rfl ?_
                                    refine L.no rfl rfl rfl rfl ?_
                                    refine L.noU rfl rfl rfl ?_
                                    refine L.noU rfl rfl rfl ?_
                                    refine L.noU rfl rfl rfl ?_
                                    refine L.no rfl rfl rfl rfl ?_
                                    refine L.rd (rd_pickF rfl rfl) rfl ?_
                                    refine L.nil ?_
                                    refine X.sq ?_
                                    refine V.condF rfl ?_
                                    refine V.skip ?_
                                    refine X.sq ?_
                                    refine V.seq ?_
                                    refine V.seq ?_
                                    refine V.region ?_
                                    refine L.rd (rd_move rfl) rfl ?_
                                    refine L.rd (rd_lss rfl rfl) rfl ?_
                                    refine L.rd (rd_move rfl) rfl ?_
                                    first | refine L.partG rfl rfl (fun g151 => ?_) (fun g151 => ?_) | refine L.partGB rfl rfl (fun g151 => ?_) (fun g151 => ?_)
                                    ·
                                      refine L.no rfl rfl rfl rfl ?_
                                      refine L.no rfl rfl rfl rfl ?_
                                      refine L.no rfl rfl rfl rfl ?_
                                      refine L.no rfl rfl rfl rfl ?_
                                      refine L.no rfl rfl rfl rfl ?_
                                      refine L.rd (rd_pickT rfl rfl) rfl ?_
                                      refine L.rd (rd_move rfl) rfl ?_
                                      refine L.no rfl rfl rfl rfl ?_
                                      refine L.no rfl rfl rfl rfl ?_
                                      refine L.no rfl rfl rfl rfl ?_
                                      refine L.rd (rd_pickT rfl rfl) rfl ?_
                                      refine L.nil ?_
                                      refine X.sq ?_
                                      refine V.condT rfl ?_
                                      refine V.seq ?_
                                      refine V.region ?_
                                      refine L.rd (rd_assign rfl) rfl ?_
                                      refine L.nil ?_
                                      refine X.sq ?_
                                      refine V.ret ?_
                                      refine X.sqRet ?_
                                      refine X.bkRet ?_
                                      refine X.ctRet ?_
                                      refine X.bkRet ?_
                                      refine X.sqRet ?_
                                      refine X.lpRet ?_
                                      refine X.bkRet ?_
                                      refine X.sqRet ?_
                                      refine ret_1 Yaam.results45 rfl ?_
                                      exfalso; omega
                                    ·
                                      refine L.yes rfl rfl ?_
                                      refine L.rd (rd_fieldAddr tok rfl rfl rfl rfl rfl rfl) rfl ?_
                                      refine L.yes rfl rfl ?_
                                      refine L.rd (rd_load1 tok rfl rfl rfl (hb3.cell (i := 3) rfl)) rfl ?_
                                      refine L.yes rfl rfl ?_
                                      refine L.rd (rd_move rfl) rfl ?_
                                      refine L.yes rfl rfl ?_
                                      (refine L.rd (rd_sub3 rfl rfl ?_) rfl ?_; omega)
                                      refine L.yes rfl rfl ?_
                                      refine L.rd (rd_neq rfl rfl) rfl ?_
                                      refine L.rd (rd_pickF rfl rfl) rfl ?_
                                      refine L.rd (rd_move rfl) rfl ?_
                                      first | refine L.partG rfl rfl (fun g158 => ?_) (fun g158 => ?_) | refine L.partGB rfl rfl (fun g158 => ?_) (fun g158 => ?_)
                                      ·
                                        refine L.no rfl rfl rfl rfl ?_
                                        refine L.no rfl rfl rfl rfl ?_
                                        refine L.no rfl rfl rfl rfl ?_
                                        refine L.rd (rd_pickT rfl rfl) rfl ?_
                                        refine L.nil ?_
                                        refine X.sq ?_
                                        refine V.condT rfl ?_
                                        refine V.seq ?_
                                        refine V.region ?_
                                        refine L.rd (rd_assign rfl) rfl ?_
                                        refine L.nil ?_
                                        refine X.sq ?_
                                        refine V.ret ?_
                                        refine X.sqRet ?_
                                        refine X.bkRet ?_
                                        refine X.ctRet ?_
                                        refine X.bkRet ?_
                                        refine X.sqRet ?_
                                        refine X.lpRet ?_
                                        refine X.bkRet ?_
                                        refine X.sqRet ?_
                                        refine ret_1 Yaam.results45 rfl ?_
                                        exfalso; omega
                                      ·
                                        refine L.yes rfl rfl ?_
                                        refine L.rd (rd_fieldAddr tok rfl rfl rfl rfl rfl rfl) rfl ?_
                                        refine L.yes rfl rfl ?_
                                        refine L.rd (rd_load1 tok rfl rfl rfl (hb3.cell (i := 4) rfl)) rfl ?_
                                        refine L.yes rfl rfl ?_
                                        refine L.rd (rd_neq rfl rfl) rfl ?_
                                        refine L.rd (rd_pickF rfl rfl) rfl ?_
                                        refine L.nil ?_
                                        refine X.sq ?_
                                        first | refine V.cond rfl (fun h162 => ?_) (fun h162 => ?_) | refine V.condB rfl (fun h162 => ?_) (fun h162 => ?_)
                                        ·
                                          refine V.seq ?_
                                          refine V.region ?_
                                          refine L.rd (rd_assign rfl) rfl ?_
                                          refine L.nil ?_
                                          refine X.sq ?_
                                          refine V.ret ?_
                                          refine X.sqRet ?_
                                          refine X.bkRet ?_
                                          refine X.ctRet ?_
                                          refine X.bkRet ?_
                                          refine X.sqRet ?_
                                          refine X.lpRet ?_
                                          refine X.bkRet ?_
                                          refine X.sqRet ?_
                                          refine ret_1 Yaam.results45 rfl ?_
                                          exfalso; omega
                                        ·
                                          refine V.skip ?_
                                          refine X.sq ?_
                                          obtain ⟨a, hi1, ha, hs⟩ : ∃ a, 1 ≤ i ∧ S[i - 1]? = some a ∧ S[i]? = some (1 + a) := by
                                            rcases hok with ⟨h1, h2, h3, h4, h5⟩ | ⟨h1, h2, h3, h4, h5, h6, h7⟩ | ⟨a, h0, h1, h2, h3, h4, h5, h6⟩ | ⟨a, b, j, h0, h1, h2, h3, h4, h5, h6, h7, h8, h9, h10⟩
                                            · simp only [] at h1; omega
                                            · simp only [] at h1; omega
                                            · exact ⟨a, h0, h1, h6⟩
                                            · simp only [] at h7; omega
                                          have hga := get_of_take htk (j := i - 1) (by omega)
                                          rw [ha] at hga
                                          have hab := hsm a (List.mem_of_getElem? ha)
                                          have hix : ((i : Int) - 1).toNat = i - 1 := by omega
                                          refine V.region ?_
                                          refine L.rd (rd_move rfl) rfl ?_
                                          refine L.rd (rd_move rfl) rfl ?_
                                          refine L.rd (rd_move rfl) rfl ?_
                                          refine L.rd (rd_move rfl) rfl ?_
                                          (refine L.rd (rd_sub3 rfl rfl ?_) rfl ?_; omega)
                                          (refine L.rd (rd_indexSlice (sz := 1) tok rfl rfl rfl rfl rfl rfl rfl ?_) rfl ?_; omega)
                                          refine L.rd (rd_load1 tok rfl rfl rfl (cell_at (i := ((i : Int) - 1).toNat) hG3 (by rw [hix]; exact iC_get hga) (by simp))) rfl ?_
                                          (refine L.rd (rd_add3 rfl rfl ?_) rfl ?_; omega)
                                          (refine L.rd (rd_indexSlice (sz := 1) tok rfl rfl rfl rfl rfl rfl rfl ?_) rfl ?_; omega)
                                          refine L.ef (e_store (vs := [_]) tok rfl rfl rfl rfl hG3 rfl (by simp [Value.oneCell']) (by simp [iC]; omega) ?_)
                                          (simp only [Nat.zero_add, Nat.mul_one, Int.toNat_natCast])
                                          rw [iC_putI _ _ _ (by omega)]
                                          refine L.nil ?_
                                          refine X.bk ?_
                                          exact X.ct ⟨_, (by repeat' (first | exact trivial | refine ⟨rfl, ?_⟩)), 1 + a, rfl, hs, hE3.set (Nat.le_refl _) _ _, hG3.set _ _⟩
                                ·
                                  refine V.seq ?_
                                  refine V.seq ?_
                                  refine V.region ?_
                                  refine L.rd (rd_move rfl) rfl ?_
                                  refine L.rd (rd_lss rfl rfl) rfl ?_
                                  refine L.rd (rd_move rfl) rfl ?_
                                  first | refine L.partG rfl rfl (fun g69 => ?_) (fun g69 => ?_) | refine L.partGB rfl rfl (fun g69 => ?_) (fun g69 => ?_)
                                  ·
                                    refine L.no rfl rfl rfl rfl ?_
                                    refine L.no rfl rfl rfl rfl ?_
                                    refine L.no rfl rfl rfl rfl ?_
                                    refine L.no rfl rfl rfl rfl ?_
                                    refine L.no rfl rfl rfl rfl ?_
                                    refine L.rd (rd_pickT rfl rfl) rfl ?_
                                    refine L.nil ?_
                                    refine X.sq ?_
                                    refine V.condT rfl ?_
                                    refine V.seq ?_
                                    refine V.region ?_
                                    refine L.rd (rd_assign rfl) rfl ?_
                                    refine L.nil ?_
                                    refine X.sq ?_
                                    refine V.ret ?_
                                    refine X.sqRet ?_
                                    refine X.bkRet ?_
                                    refine X.ctRet ?_
                                    refine X.bkRet ?_
                                    refine X.sqRet ?_
                                    refine X.lpRet ?_
                                    refine X.bkRet ?_
                                    refine X.sqRet ?_
                                    refine ret_1 Yaam.results45 rfl ?_
                                    exfalso; omega
                                  ·
                                    refine L.yes rfl rfl ?_
                                    refine L.rd (rd_fieldAddr tok rfl rfl rfl rfl rfl rfl) rfl ?_
                                    refine L.yes rfl rfl ?_
                                    refine L.rd (rd_load1 tok rfl rfl rfl (hb3.cell (i := 4) rfl)) rfl ?_
                                    refine L.yes rfl rfl ?_
                                    refine L.rd (rd_move rfl) rfl ?_
                                    refine L.yes rfl rfl ?_
                                    (refine L.rd (rd_sub3 rfl rfl ?_) rfl ?_; omega)
                                    refine L.yes rfl rfl ?_
                                    refine L.rd (rd_neq rfl rfl) rfl ?_
                                    refine L.rd (rd_pickF rfl rfl) rfl ?_
                                    refine L.nil ?_
                                    refine X.sq ?_
                                    first | refine V.cond rfl (fun h75 => ?_) (fun h75 => ?_) | refine V.condB rfl (fun h75 => ?_) (fun h75 => ?_)
                                    ·
                                      refine V.seq ?_
                                      refine V.region ?_
                                      refine L.rd (rd_assign rfl) rfl ?_
                                      refine L.nil ?_
                                      refine X.sq ?_
                                      refine V.ret ?_
                                      refine X.sqRet ?_
                                      refine X.bkRet ?_
                                      refine X.ctRet ?_
                                      refine X.bkRet ?_
                                      refine X.sqRet ?_
                                      refine X.lpRet ?_
                                      refine X.bkRet ?_
                                      refine X.sqRet ?_
                                      refine ret_1 Yaam.results45 rfl ?_
                                      exfalso; omega
                                    ·
                                      refine V.skip ?_
                                      refine X.sq ?_
                                      refine V.seq ?_
                                      obtain ⟨a, b, j, hi1, ha, hj, hb, hji, hlf, hs⟩ : ∃ a b, ∃ j : Nat, 1 ≤ i ∧ S[i - 1]? = some a ∧ (j : Int) = (i : Int) - 1 - a ∧ S[j]? = some b ∧ j < i ∧ lf_ = (j : Int) ∧ S[i]? = some (1 + a + b) := by
                                        rcases hok with ⟨h1, h2, h3, h4, h5⟩ | ⟨h1, h2, h3, h4, h5, h6, h7⟩ | ⟨a, h0, h1, h2, h3, h4, h5, h6⟩ | ⟨a, b, j, h0, h1, h2, h3, h4, h5, h6, h7, h8, h9, h10⟩
                                        · simp only [] at h1; omega
                                        · simp only [] at h1; omega
                                        · simp only [] at h3; omega
                                        · exact ⟨a, b, j, h0, h1, h2, h3, h4, h8, h10⟩
                                      have hga := get_of_take htk (j := i - 1) (by omega)
                                      rw [ha] at hga
                                      have hgb := get_of_take htk (j := j) hji
                                      rw [hb] at hgb
                                      have hab := hsm a (List.mem_of_getElem? ha)
                                      have hbb := hsm b (List.mem_of_getElem? hb)
                                      have hix : ((i : Int) - 1).toNat = i - 1 := by omega
                                      have hjx : ((i : Int) - 1 - a).toNat = j := by omega
                                      refine V.region ?_
                                      refine L.rd (rd_move rfl) rfl ?_
                                      (refine L.rd (rd_sub3 rfl rfl ?_) rfl ?_; omega)
                                      refine L.rd (rd_move rfl) rfl ?_
                                      refine L.rd (rd_move rfl) rfl ?_
                                      (refine L.rd (rd_sub3 rfl rfl ?_) rfl ?_; omega)
                                      (refine L.rd (rd_indexSlice (sz := 1) tok rfl rfl rfl rfl rfl rfl rfl ?_) rfl ?_; omega)
                                      refine L.rd (rd_load1 tok rfl rfl rfl (cell_at (i := ((i : Int) - 1).toNat) hG3 (by rw [hix]; exact iC_get hga) (by simp))) rfl ?_
                                      (refine L.rd (rd_sub3 rfl rfl ?_) rfl ?_; omega)
                                      refine L.rd (rd_assign rfl) rfl ?_
                                      refine L.nil ?_
                                      refine X.sq ?_
                                      refine V.seq ?_
                                      refine V.seq ?_
                                      refine V.region ?_
                                      refine L.rd (rd_move rfl) rfl ?_
                                      refine L.rd (rd_lss rfl rfl) rfl ?_
                                      refine L.rd (rd_move rfl) rfl ?_
                                      first | refine L.partG rfl rfl (fun g86 => ?_) (fun g86 => ?_) | refine L.partGB rfl rfl (fun g86 => ?_) (fun g86 => ?_)
                                      ·
                                        refine L.no rfl rfl rfl rfl ?_
                                        refine L.no rfl rfl rfl rfl ?_
                                        refine L.no rfl rfl rfl rfl ?_
                                        refine L.no rfl rfl rfl rfl ?_
                                        refine L.rd (rd_pickT rfl rfl) rfl ?_
                                        refine L.nil ?_
                                        refine X.sq ?_
                                        refine V.condT rfl ?_
                                        refine V.seq ?_
                                        refine V.region ?_
                                        refine L.rd (rd_assign rfl) rfl ?_
                                        refine L.nil ?_
                                        refine X.sq ?_
                                        refine V.ret ?_
                                        refine X.sqRet ?_
                                        refine X.bkRet ?_
                                        refine X.ctRet ?_
                                        refine X.bkRet ?_
                                        refine X.sqRet ?_
                                        refine X.lpRet ?_
                                        refine X.bkRet ?_
                                        refine X.sqRet ?_
                                        refine ret_1 Yaam.results45 rfl ?_
                                        exfalso; omega
                                      ·
                                        refine L.yes rfl rfl ?_
                                        refine L.rd (rd_fieldAddr tok rfl rfl rfl rfl rfl rfl) rfl ?_
                                        refine L.yes rfl rfl ?_
                                        refine L.rd (rd_load1 tok rfl rfl rfl (hb3.cell (i := 3) rfl)) rfl ?_
                                        refine L.yes rfl rfl ?_
                                        refine L.rd (rd_move rfl) rfl ?_
                                        refine L.yes rfl rfl ?_
                                        refine L.rd (rd_neq rfl rfl) rfl ?_
                                        refine L.rd (rd_pickF rfl rfl) rfl ?_
                                        refine L.nil ?_
                                        refine X.sq ?_
                                        first | refine V.cond rfl (fun h91 => ?_) (fun h91 => ?_) | refine V.condB rfl (fun h91 => ?_) (fun h91 => ?_)
                                        ·
                                          refine V.seq ?_
                                          refine V.region ?_
                                          refine L.rd (rd_assign rfl) rfl ?_
                                          refine L.nil ?_
                                          refine X.sq ?_
                                          refine V.ret ?_
                                          refine X.sqRet ?_
                                          refine X.bkRet ?_
                                          refine X.ctRet ?_
                                          refine X.bkRet ?_
                                          refine X.sqRet ?_
                                          refine X.lpRet ?_
                                          refine X.bkRet ?_
                                          refine X.sqRet ?_
                                          refine ret_1 Yaam.results45 rfl ?_
                                          exfalso; omega
                                        ·
                                          refine V.skip ?_
                                          refine X.sq ?_
                                          refine V.draw [14] mixed ?_
                                          refine D.take 0 [true, false, false, false, false, false, false, false, false, false, false, false, false, false, false] (.bk (.ct (.bk (.sq (.lp (.bk (.sq .bd))))))) rfl (rd_move rfl) rfl (by kernel_rfl) rfl (LeC.drew _) ?_
                                          refine D.take 1 [true, true, false, false, false, false, false, false, false, false, false, false, false, false, false] (.bk (.ct (.bk (.sq (.lp (.bk (.sq .bd))))))) rfl (rd_move rfl) rfl (by kernel_rfl) rfl (LeC.drew _) ?_
                                          refine D.take 2 [true, true, true, false, false, false, false, false, false, false, false, false, false, false, false] (.bk (.ct (.bk (.sq (.lp (.bk (.sq .bd))))))) rfl (rd_move rfl) rfl (by kernel_rfl) rfl (LeC.drew _) ?_
                                          refine D.take 3 [true, true, true, true, false, false, false, false, false, false, false, false, false, false, false] (.bk (.ct (.bk (.sq (.lp (.bk (.sq .bd))))))) rfl (rd_move rfl) rfl (by kernel_rfl) rfl (LeC.drew _) ?_
                                          (refine D.take 4 [true, true, true, true, true, false, false, false, false, false, false, false, false, false, false] (.bk (.ct (.bk (.sq (.lp (.bk (.sq .bd))))))) rfl (rd_sub3 rfl rfl ?_) rfl (by kernel_rfl) rfl (LeC.drew _) ?_; omega)
                                          (refine D.take 5 [true, true, true, true, true, true, false, false, false, false, false, false, false, false, false] (.bk (.ct (.bk (.sq (.lp (.bk (.sq .bd))))))) rfl (rd_indexSlice (sz := 1) tok rfl rfl rfl rfl rfl rfl rfl ?_) rfl (by kernel_rfl) rfl (LeC.drew _) ?_; omega)
                                          refine D.take 6 [true, true, true, true, true, true, true, false, false, false, false, false, false, false, false] (.bk (.ct (.bk (.sq (.lp (.bk (.sq .bd))))))) rfl (rd_load1 tok rfl rfl rfl (cell_at (i := ((i : Int) - 1).toNat) hG3 (by rw [hix]; exact iC_get hga) (by simp))) rfl (by kernel_rfl) rfl (LeC.drew _) ?_
                                          (refine D.take 7 [true, true, true, true, true, true, true, true, false, false, false, false, false, false, false] (.bk (.ct (.bk (.sq (.lp (.bk (.sq .bd))))))) rfl (rd_add3 rfl rfl ?_) rfl (by kernel_rfl) rfl (LeC.drew _) ?_; omega)
                                          refine D.take 8 [true, true, true, true, true, true, true, true, true, false, false, false, false, false, false] (.bk (.ct (.bk (.sq (.lp (.bk (.sq .bd))))))) rfl (rd_move rfl) rfl (by kernel_rfl) rfl (LeC.drew _) ?_
                                          refine D.take 9 [true, true, true, true, true, true, true, true, true, true, false, false, false, false, false] (.bk (.ct (.bk (.sq (.lp (.bk (.sq .bd))))))) rfl (rd_move rfl) rfl (by kernel_rfl) rfl (LeC.drew _) ?_
                                          (refine D.take 10 [true, true, true, true, true, true, true, true, true, true, true, false, false, false, false] (.bk (.ct (.bk (.sq (.lp (.bk (.sq .bd))))))) rfl (rd_indexSlice (sz := 1) tok rfl rfl rfl rfl rfl rfl rfl ?_) rfl (by kernel_rfl) rfl (LeC.drew _) ?_; omega)
                                          refine D.take 11 [true, true, true, true, true, true, true, true, true, true, true, true, false, false, false] (.bk (.ct (.bk (.sq (.lp (.bk (.sq .bd))))))) rfl (rd_load1 tok rfl rfl rfl (cell_at (i := ((i : Int) - 1 - a).toNat) hG3 (by rw [hjx]; exact iC_get hgb) (by simp))) rfl (by kernel_rfl) rfl (LeC.drew _) ?_
                                          (refine D.take 12 [true, true, true, true, true, true, true, true, true, true, true, true, true, false, false] (.bk (.ct (.bk (.sq (.lp (.bk (.sq .bd))))))) rfl (rd_add3 rfl rfl ?_) rfl (by kernel_rfl) rfl (LeC.drew _) ?_; omega)
                                          (refine D.take 13 [true, true, true, true, true, true, true, true, true, true, true, true, true, true, false] (.bk (.ct (.bk (.sq (.lp (.bk (.sq .bd))))))) rfl (rd_indexSlice (sz := 1) tok rfl rfl rfl rfl rfl rfl rfl ?_) rfl (by kernel_rfl) rfl (LeC.drew _) ?_; omega)
                                          refine D.one 14 [true, true, true, true, true, true, true, true, true, true, true, true, true, true, true] rfl (by kernel_rfl) rfl (e_store (vs := [_]) tok rfl rfl rfl rfl hG3.drew rfl (by simp [Value.oneCell']) (by simp [iC]; omega) ⟨fun h => (by cases h), ?_⟩)
                                          (simp only [Nat.zero_add, Nat.mul_one, Int.toNat_natCast])
                                          rw [iC_putI _ _ _ (by omega)]
                                          refine D.done (by kernel_rfl) ?_
                                          refine X.bk ?_
                                          exact X.ct ⟨_, (by repeat' (first | exact trivial | refine ⟨rfl, ?_⟩)), 1 + a + b, rfl, hs, hE3.drew.set (Nat.le_refl _) _ _, hG3.drew.set _ _⟩
                        ·
                          rintro l w7 ⟨s, rfl, hs, hE7, hG7⟩
                          refine X.bk ?_
                          refine X.sq ?_
                          refine V.region ?_
                          refine L.rd (rd_move rfl) rfl ?_
                          (refine L.rd (rd_add3 rfl rfl ?_) rfl ?_; omega)
                          refine L.rd (rd_assign rfl) rfl ?_
                          refine L.nil ?_
                          exact X.lp ⟨_, _, by omega, (by repeat' (first | exact trivial | refine ⟨rfl, ?_⟩)), i + 1, G.set i s, rfl, rfl, by omega, hE7, hG7, by simp [hGl], take_put_next S G i s (by omega) hs htk⟩
          ·
            refine V.exit ?_
            refine X.sqExit ?_
            refine X.lpExit ?_
            refine X.bkHere ?_
            refine X.sq ?_
            refine V.seq ?_
            have hGS : G = S := by
              have : i = ns.length := by omega
              subst this
              rwa [List.take_of_length_le (by omega), List.take_of_length_le (by omega)] at htk
            subst hGS
            have hlast := szs_last t []
            rw [hSS, List.nil_append, List.length_nil, Nat.zero_add] at hlast
            have hix : ((ns.length : Int) - 1).toNat = tsz t - 1 := by omega
            refine V.region ?_
            refine L.rd (rd_move rfl) rfl ?_
            refine L.rd (rd_move rfl) rfl ?_
            (refine L.rd (rd_sub3 rfl rfl ?_) rfl ?_; omega)
            (refine L.rd (rd_indexSlice (sz := 1) tok rfl rfl rfl rfl rfl rfl rfl ?_) rfl ?_; omega)
            refine L.rd (rd_load1 tok rfl rfl rfl (cell_at (i := ((ns.length : Int) - 1).toNat) hG (by rw [hix]; exact iC_get hlast) (by simp))) rfl ?_
            refine L.rd (rd_move rfl) rfl ?_
            refine L.rd (rd_eql rfl rfl) rfl ?_
            refine L.rd (rd_assign rfl) rfl ?_
            refine L.nil ?_
            refine X.sq ?_
            refine V.ret ?_
            refine ret_1 Yaam.results45 rfl ?_
            exact ⟨congrArg Value.bool (decide_eq_true (by omega)), hEr⟩
end Go.Proofs.YbxaawGreat
