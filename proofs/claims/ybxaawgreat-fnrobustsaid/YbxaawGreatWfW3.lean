/-
  impl.WellFormed and spec.WellFormed at nodes that are not those of a tree.
-/
import Derived.Test.YbxaawGreatWfQ
import Derived.Test.YbxaawGreatWfW
import Derived.Test.YbxaawGreatLawB
set_option linter.unusedVariables false
set_option linter.unusedSimpArgs false
set_option maxRecDepth 10000
set_option maxHeartbeats 4000000
namespace Go.Proofs.YbxaawGreat
open Go.Mw

theorem iwf_bad (ns : List Nd) (root : Int) (hnot : ¬ WF ns root) (nv : Value) (w : World) (hN : Rs w 5 nv ns.length (ns.flatMap ndE)) (hlen : ns.length ≤ 1000000000) : Ret Yaam.prog 45 [.agg #[nv, .int .i64 root]] w fun r w' => r = .bool false ∧ Ext w.heap.size w w' := by
  obtain ⟨na, nc, rfl, hfn⟩ := hN.form
  refine enter1 Yaam.func45 Yaam.ntmps45 (by kernel_rfl) rfl rfl ?_
  refine V.seq ?_
  refine V.region ?_
  refine L.ef (e_box (cs := [_, _]) rfl rfl (by first | (simp only [size_addB, size_setB, size_drew]; rfl) | rfl) rfl ?_)
  refine L.rd (rd_assign rfl) rfl ?_
  refine L.nil ?_
  refine X.sq ?_
  refine V.seq ?_
  have hp := Bl.new w 34 [.slice na ns.length nc, .int .i64 root]
  have hE := (Ext.refl _ w).addNew 34 [.slice na ns.length nc, .int .i64 root]
  generalize addB w 34 [.slice na ns.length nc, .int .i64 root] = w0 at hp hE ⊢
  refine V.region ?_
  refine L.rd (rd_fieldAddr tok rfl rfl rfl rfl rfl rfl) rfl ?_
  refine L.rd (rd_load1 tok rfl rfl rfl (hp.cell rfl)) rfl ?_
  refine L.rd (rd_lenSlice tok rfl rfl rfl) rfl ?_
  refine L.rd (rd_assign rfl) rfl ?_
  refine L.nil ?_
  refine X.sq ?_
  refine V.seq ?_
  refine V.seq ?_
  refine V.region ?_
  refine L.rd (rd_move rfl) rfl ?_
  refine L.rd (rd_lss rfl rfl) rfl ?_
  refine L.rd (rd_move rfl) rfl ?_
  first | refine L.partG rfl rfl (fun g13 => ?_) (fun g13 => ?_) | refine L.partGB rfl rfl (fun g13 => ?_) (fun g13 => ?_)
  ·
    refine L.no rfl rfl rfl rfl ?_
    refine L.no rfl rfl rfl rfl ?_
    refine L.rd (rd_pickT rfl rfl) rfl ?_
    refine L.rd (rd_move rfl) rfl ?_
    refine L.no rfl rfl rfl rfl ?_
    refine L.no rfl rfl rfl rfl ?_
    refine L.no rfl rfl rfl rfl ?_
    refine L.no rfl rfl rfl rfl ?_
    refine L.no rfl rfl rfl rfl ?_
    refine L.rd (rd_pickT rfl rfl) rfl ?_
    refine L.nil ?_
    refine X.sq ?_
    refine V.condT rfl ?_
    refine V.seq ?_
    refine V.region ?_
    refine L.rd (rd_assign rfl) rfl ?_
    refine L.nil ?_
    refine X.sq ?_
    refine V.ret ?_
    refine X.sqRet ?_
    refine ret_1 Yaam.results45 rfl ?_
    exact ⟨rfl, hE⟩
  ·
    refine L.yes rfl rfl ?_
    refine L.rd (rd_move rfl) rfl ?_
    refine L.yes rfl rfl ?_
    refine L.rd (rd_gtr rfl rfl) rfl ?_
    refine L.rd (rd_pickF rfl rfl) rfl ?_
    refine L.rd (rd_move rfl) rfl ?_
    first | refine L.partG rfl rfl (fun g17 => ?_) (fun g17 => ?_) | refine L.partGB rfl rfl (fun g17 => ?_) (fun g17 => ?_)
    ·
      refine L.no rfl rfl rfl rfl ?_
      refine L.no rfl rfl rfl rfl ?_
      refine L.no rfl rfl rfl rfl ?_
      refine L.no rfl rfl rfl rfl ?_
      refine L.no rfl rfl rfl rfl ?_
      refine L.rd (rd_pickT rfl rfl) rfl ?_
      refine L.nil ?_
      refine X.sq ?_
      refine V.condT rfl ?_
      refine V.seq ?_
      refine V.region ?_
      refine L.rd (rd_assign rfl) rfl ?_
      refine L.nil ?_
      refine X.sq ?_
      refine V.ret ?_
      refine X.sqRet ?_
      refine ret_1 Yaam.results45 rfl ?_
      exact ⟨rfl, hE⟩
    ·
      refine L.yes rfl rfl ?_
      refine L.rd (rd_fieldAddr tok rfl rfl rfl rfl rfl rfl) rfl ?_
      refine L.yes rfl rfl ?_
      refine L.rd (rd_load1 tok rfl rfl rfl (hp.cell (i := 1) rfl)) rfl ?_
      refine L.yes rfl rfl ?_
      refine L.rd (rd_move rfl) rfl ?_
      refine L.yes rfl rfl ?_
      (refine L.rd (rd_sub3 rfl rfl ?_) rfl ?_; omega)
      refine L.yes rfl rfl ?_
      refine L.rd (rd_neq rfl rfl) rfl ?_
      refine L.rd (rd_pickF rfl rfl) rfl ?_
      refine L.nil ?_
      refine X.sq ?_
      first | refine V.cond rfl (fun h23 => ?_) (fun h23 => ?_) | refine V.condB rfl (fun h23 => ?_) (fun h23 => ?_)
      ·
        refine V.seq ?_
        refine V.region ?_
        refine L.rd (rd_assign rfl) rfl ?_
        refine L.nil ?_
        refine X.sq ?_
        refine V.ret ?_
        refine X.sqRet ?_
        refine ret_1 Yaam.results45 rfl ?_
        exact ⟨rfl, hE⟩
      ·
        refine V.skip ?_
        refine X.sq ?_
        refine V.seq ?_
        refine V.region ?_
        refine L.rd (rd_move rfl) rfl ?_
        refine L.ef (e_make (e := 3) (zs := [_]) (m := ns.length) (c := ns.length) tok rfl rfl rfl rfl rfl rfl rfl rfl (by first | (simp only [size_addB, size_setB, size_drew]; rfl) | rfl) rfl (by omega) (by simp only []; omega) (by omega) ?_)
        refine L.rd (rd_assign rfl) rfl ?_
        refine L.nil ?_
        refine X.sq ?_
        refine V.seq ?_
        refine V.seq ?_
        refine V.region ?_
        refine L.rd (rd_assign rfl) rfl ?_
        refine L.nil ?_
        refine X.sq ?_
        refine V.block ?_
        refine V.loop (fun m l w2 => ∃ (i : Nat) (G : List Int), l = [(1, .pointer (some ⟨w.heap.size, 0, none⟩)), (3, .int .i64 ns.length), (4, .slice (some ⟨w0.heap.size, 0, none⟩) ns.length ns.length), (5, .int .i64 i)] ∧ m = ns.length - i ∧ i ≤ ns.length ∧ Ext w0.heap.size w0 w2 ∧ Bl w2 w0.heap.size 3 (iC .i64 G) ∧ G.length = ns.length ∧ Gd (ns.take i) (G.take i)) ?_ ?_
        ·
          exact ⟨_, _, (by repeat' (first | exact trivial | refine ⟨rfl, ?_⟩)), 0, List.replicate ns.length 0, rfl, rfl, by omega, (Ext.refl _ _).addNew _ _, by have := Bl.new w0 3 ((List.replicate ns.length [Value.int .i64 0]).flatten); rw [flat_rep1] at this; simpa [iC] using this, by simp, by simpa using Gd.nil⟩
        ·
          rintro m l w2 ⟨i, G, rfl, rfl, hi, hE2, hG, hGl, hgd⟩
          have hp2 := hE2.bl hp.lt hp
          have hEr := hE.next hE2
          have hGlt := hG.lt
          have hs2 := hE2.size
          have hTl : (G.take i).length = i := by rw [List.length_take]; omega
          refine V.seq ?_
          refine V.seq ?_
          refine V.region ?_
          refine L.rd (rd_move rfl) rfl ?_
          refine L.rd (rd_move rfl) rfl ?_
          refine L.rd (rd_lss rfl rfl) rfl ?_
          refine L.nil ?_
          refine X.sq ?_
          first | refine V.cond rfl (fun h28 => ?_) (fun h28 => ?_) | refine V.condB rfl (fun h28 => ?_) (fun h28 => ?_)
          ·
            obtain ⟨b1, o1, rfl, hc1⟩ := hfn.resolve_left (by omega)
            obtain ⟨⟨k, v, x, lf_, rt⟩, ht⟩ := nth_of_lt ns i (by omega)
            have hcx := (hc1.le hEr.leC).sub (i * 5) (ndE (k, v, x, lf_, rt)) (fun j u hu => fm_get ndE_len ns i _ ht j u hu)
            refine V.skip ?_
            refine X.sq ?_
            refine V.seq ?_
            refine V.block ?_
            refine V.seq ?_
            refine V.region ?_
            refine L.rd (rd_fieldAddr tok rfl rfl rfl rfl rfl rfl) rfl ?_
            refine L.rd (rd_load1 tok rfl rfl rfl (hp2.cell rfl)) rfl ?_
            refine L.rd (rd_move rfl) rfl ?_
            (refine L.rd (rd_indexSlice (sz := 5) tok rfl rfl rfl rfl rfl rfl rfl ?_) rfl ?_; omega)
            refine L.rd (rd_loadN tok rfl rfl rfl hcx rfl) rfl ?_
            refine L.ef (e_alloc (cs := [_, _, _, _, _]) tok rfl rfl (by first | (simp only [size_addB, size_setB, size_drew]; rfl) | rfl) rfl ?_)
            refine L.ef (e_store (vs := [_, _, _, _, _]) tok rfl rfl rfl rfl (by (repeat (first | assumption | (refine Bl.new' ?_ _ _; first | with_reducible rfl | (simp only [size_addB, size_setB, size_drew]; done)) | apply Bl.add | apply Bl.drew | (apply Bl.setNe; omega) | (refine Bl.set' ?_ _ _; (try simp only [size_addB, size_setB, size_drew]); omega)))) rfl (by simp [Value.oneCell']) (by simp) ?_)
            refine L.nil ?_
            refine X.sq ?_
            refine V.seq ?_
            refine V.seq ?_
            generalize hw3 : setB _ _ _ _ = w3
            have hb3 : Bl w3 w2.heap.size 80 [.int .i64 k, .int .i64 v, .int .i64 x, .int .i64 lf_, .int .i64 rt] := bl_of_new hw3
            have he3 := ext_of_new hw3
            have hG3 := he3.bl hG.lt hG
            have hE3 := hE2.next he3
            have hEr3 := hE.next hE3
            refine V.region ?_
            refine L.rd (rd_fieldAddr tok rfl rfl rfl rfl rfl rfl) rfl ?_
            refine L.rd (rd_load1 tok rfl rfl rfl (hb3.cell rfl)) rfl ?_
            refine L.rd (rd_lss rfl rfl) rfl ?_
            refine L.rd (rd_move rfl) rfl ?_
            first | refine L.partG rfl rfl (fun g39 => ?_) (fun g39 => ?_) | refine L.partGB rfl rfl (fun g39 => ?_) (fun g39 => ?_)
            ·
              refine L.no rfl rfl rfl rfl ?_
              refine L.no rfl rfl rfl rfl ?_
              refine L.no rfl rfl rfl rfl ?_
              refine L.rd (rd_pickT rfl rfl) rfl ?_
              refine L.nil ?_
              refine X.sq ?_
              refine V.condT rfl ?_
              refine V.seq ?_
              refine V.region ?_
              refine L.rd (rd_assign rfl) rfl ?_
              refine L.nil ?_
              refine X.sq ?_
              refine V.ret ?_
              refine X.sqRet ?_
              refine X.bkRet ?_
              refine X.sqRet ?_
              refine X.lpRet ?_
              refine X.bkRet ?_
              refine X.sqRet ?_
              refine ret_1 Yaam.results45 rfl ?_
              exact ⟨rfl, hEr3⟩
            ·
              refine L.yes rfl rfl ?_
              refine L.rd (rd_fieldAddr tok rfl rfl rfl rfl rfl rfl) rfl ?_
              refine L.yes rfl rfl ?_
              refine L.rd (rd_load1 tok rfl rfl rfl (hb3.cell rfl)) rfl ?_
              refine L.yes rfl rfl ?_
              refine L.rd (rd_gtr rfl rfl) rfl ?_
              refine L.rd (rd_pickF rfl rfl) rfl ?_
              refine L.nil ?_
              refine X.sq ?_
              first | refine V.cond rfl (fun h43 => ?_) (fun h43 => ?_) | refine V.condB rfl (fun h43 => ?_) (fun h43 => ?_)
              ·
                refine V.seq ?_
                refine V.region ?_
                refine L.rd (rd_assign rfl) rfl ?_
                refine L.nil ?_
                refine X.sq ?_
                refine V.ret ?_
                refine X.sqRet ?_
                refine X.bkRet ?_
                refine X.sqRet ?_
                refine X.lpRet ?_
                refine X.bkRet ?_
                refine X.sqRet ?_
                refine ret_1 Yaam.results45 rfl ?_
                exact ⟨rfl, hEr3⟩
              ·
                refine V.skip ?_
                refine X.sq ?_
                refine V.seq ?_
                refine V.seq ?_
                refine V.cut (fun l w' => ∃ b : Bool, l = [(1, .pointer (some ⟨w.heap.size, 0, none⟩)), (3, .int .i64 ns.length), (4, .slice (some ⟨w0.heap.size, 0, none⟩) ns.length ns.length), (5, .int .i64 i), (6, .pointer (some ⟨w2.heap.size, 0, none⟩)), (56, .bool b)] ∧ (b = false → (1 ≤ k ∧ k ≤ 7) ∧ (k = 1 ∨ k = 7 ∨ v = 0)) ∧ w3 = w') ?_ ?_
                ·
                  have hk17 : 1 ≤ k ∧ k ≤ 7 := by omega
                  refine V.region ?_
                  refine L.rd (rd_fieldAddr tok rfl rfl rfl rfl rfl rfl) rfl ?_
                  refine L.rd (rd_load1 tok rfl rfl rfl (hb3.cell rfl)) rfl ?_
                  refine L.rd (rd_neq rfl rfl) rfl ?_
                  refine L.rd (rd_move rfl) rfl ?_
                  first | refine L.partG rfl rfl (fun g47 => ?_) (fun g47 => ?_) | refine L.partGB rfl rfl (fun g47 => ?_) (fun g47 => ?_)
                  ·
                    refine L.yes rfl rfl ?_
                    refine L.rd (rd_fieldAddr tok rfl rfl rfl rfl rfl rfl) rfl ?_
                    refine L.yes rfl rfl ?_
                    refine L.rd (rd_load1 tok rfl rfl rfl (hb3.cell rfl)) rfl ?_
                    refine L.yes rfl rfl ?_
                    refine L.rd (rd_neq rfl rfl) rfl ?_
                    refine L.rd (rd_pickT rfl rfl) rfl ?_
                    refine L.rd (rd_move rfl) rfl ?_
                    first | refine L.partG rfl rfl (fun g52 => ?_) (fun g52 => ?_) | refine L.partGB rfl rfl (fun g52 => ?_) (fun g52 => ?_)
                    ·
                      refine L.yes rfl rfl ?_
                      refine L.rd (rd_fieldAddr tok rfl rfl rfl rfl rfl rfl) rfl ?_
                      refine L.yes rfl rfl ?_
                      refine L.rd (rd_load1 tok rfl rfl rfl (hb3.cell (i := 1) rfl)) rfl ?_
                      refine L.yes rfl rfl ?_
                      refine L.rd (rd_neq rfl rfl) rfl ?_
                      refine L.rd (rd_pickT rfl rfl) rfl ?_
                      refine L.nil ?_
                      exact X.ct ⟨_, (by repeat' (first | exact trivial | refine ⟨rfl, ?_⟩)), _, rfl, fun hb => by first | omega | (simp at hb; omega), rfl⟩
                    ·
                      refine L.no rfl rfl rfl rfl ?_
                      refine L.no rfl rfl rfl rfl ?_
                      refine L.no rfl rfl rfl rfl ?_
                      refine L.rd (rd_pickF rfl rfl) rfl ?_
                      refine L.nil ?_
                      exact X.ct ⟨_, (by repeat' (first | exact trivial | refine ⟨rfl, ?_⟩)), _, rfl, fun hb => by first | omega | (simp at hb; omega), rfl⟩
                  ·
                    refine L.no rfl rfl rfl rfl ?_
                    refine L.no rfl rfl rfl rfl ?_
                    refine L.no rfl rfl rfl rfl ?_
                    refine L.rd (rd_pickF rfl rfl) rfl ?_
                    refine L.rd (rd_move rfl) rfl ?_
                    refine L.no rfl rfl rfl rfl ?_
                    refine L.no rfl rfl rfl rfl ?_
                    refine L.no rfl rfl rfl rfl ?_
                    refine L.rd (rd_pickF rfl rfl) rfl ?_
                    refine L.nil ?_
                    exact X.ct ⟨_, (by repeat' (first | exact trivial | refine ⟨rfl, ?_⟩)), _, rfl, fun hb => by first | omega | (simp at hb; omega), rfl⟩
                ·
                  rintro l w' ⟨b56, rfl, hb56, rfl⟩
                  refine X.sq ?_
                  first | refine V.cond rfl (fun h56 => ?_) (fun h56 => ?_) | refine V.condB rfl (fun h56 => ?_) (fun h56 => ?_)
                  ·
                    refine V.seq ?_
                    refine V.region ?_
                    refine L.rd (rd_assign rfl) rfl ?_
                    refine L.nil ?_
                    refine X.sq ?_
                    refine V.ret ?_
                    refine X.sqRet ?_
                    refine X.bkRet ?_
                    refine X.sqRet ?_
                    refine X.lpRet ?_
                    refine X.bkRet ?_
                    refine X.sqRet ?_
                    refine ret_1 Yaam.results45 rfl ?_
                    exact ⟨rfl, hEr3⟩
                  ·
                    have hc11 := hb56 (by simpa using h56)
                    refine V.skip ?_
                    refine X.sq ?_
                    refine V.seq ?_
                    refine V.seq ?_
                    refine V.cut (fun l w' => ∃ b : Bool, l = [(1, .pointer (some ⟨w.heap.size, 0, none⟩)), (3, .int .i64 ns.length), (4, .slice (some ⟨w0.heap.size, 0, none⟩) ns.length ns.length), (5, .int .i64 i), (6, .pointer (some ⟨w2.heap.size, 0, none⟩)), (64, .bool b)] ∧ (b = false → (k = 2 ∨ x = 0)) ∧ w3 = w') ?_ ?_
                    ·
                      refine V.region ?_
                      refine L.rd (rd_fieldAddr tok rfl rfl rfl rfl rfl rfl) rfl ?_
                      refine L.rd (rd_load1 tok rfl rfl rfl (hb3.cell rfl)) rfl ?_
                      refine L.rd (rd_neq rfl rfl) rfl ?_
                      refine L.rd (rd_move rfl) rfl ?_
                      first | refine L.partG rfl rfl (fun g60 => ?_) (fun g60 => ?_) | refine L.partGB rfl rfl (fun g60 => ?_) (fun g60 => ?_)
                      ·
                        refine L.yes rfl rfl ?_
                        refine L.rd (rd_fieldAddr tok rfl rfl rfl rfl rfl rfl) rfl ?_
                        refine L.yes rfl rfl ?_
                        refine L.rd (rd_load1 tok rfl rfl rfl (hb3.cell (i := 2) rfl)) rfl ?_
                        refine L.yes rfl rfl ?_
                        refine L.rd (rd_neq rfl rfl) rfl ?_
                        refine L.rd (rd_pickT rfl rfl) rfl ?_
                        refine L.nil ?_
                        exact X.ct ⟨_, (by repeat' (first | exact trivial | refine ⟨rfl, ?_⟩)), _, rfl, fun hb => by first | omega | (simp at hb; omega), rfl⟩
                      ·
                        refine L.no rfl rfl rfl rfl ?_
                        refine L.no rfl rfl rfl rfl ?_
                        refine L.no rfl rfl rfl rfl ?_
                        refine L.rd (rd_pickF rfl rfl) rfl ?_
                        refine L.nil ?_
                        exact X.ct ⟨_, (by repeat' (first | exact trivial | refine ⟨rfl, ?_⟩)), _, rfl, fun hb => by first | omega | (simp at hb; omega), rfl⟩
                    ·
                      rintro l w' ⟨b64, rfl, hb64, rfl⟩
                      refine X.sq ?_
                      first | refine V.cond rfl (fun h64 => ?_) (fun h64 => ?_) | refine V.condB rfl (fun h64 => ?_) (fun h64 => ?_)
                      ·
                        refine V.seq ?_
                        refine V.region ?_
                        refine L.rd (rd_assign rfl) rfl ?_
                        refine L.nil ?_
                        refine X.sq ?_
                        refine V.ret ?_
                        refine X.sqRet ?_
                        refine X.bkRet ?_
                        refine X.sqRet ?_
                        refine X.lpRet ?_
                        refine X.bkRet ?_
                        refine X.sqRet ?_
                        refine ret_1 Yaam.results45 rfl ?_
                        exact ⟨rfl, hEr3⟩
                      ·
                        have hc13 := hb64 (by simpa using h64)
                        refine V.skip ?_
                        refine X.sq ?_
                        refine V.seq ?_
                        refine V.region ?_
                        refine L.rd (rd_fieldAddr tok rfl rfl rfl rfl rfl rfl) rfl ?_
                        refine L.rd (rd_load1 tok rfl rfl rfl (hb3.cell rfl)) rfl ?_
                        refine L.nil ?_
                        refine X.sq ?_
                        refine V.cut (fun l w' => ∃ (s : Int), l = [(1, .pointer (some ⟨w.heap.size, 0, none⟩)), (3, .int .i64 ns.length), (4, .slice (some ⟨w0.heap.size, 0, none⟩) ns.length ns.length), (5, .int .i64 i)] ∧ okN (G.take i ++ [s]) i (k, v, x, lf_, rt) ∧ Ext w0.heap.size w0 w' ∧ Bl w' w0.heap.size 3 (iC .i64 (G.set i s))) ?_ ?_
                        ·
                          refine V.block ?_
                          refine V.seq ?_
                          refine V.seq ?_
                          refine V.region ?_
                          refine L.rd (rd_eql rfl rfl) rfl ?_
                          refine L.rd (rd_assign rfl) rfl ?_
                          refine L.nil ?_
                          refine X.sq ?_
                          first | refine V.cond rfl (fun h106 => ?_) (fun h106 => ?_) | refine V.condB rfl (fun h106 => ?_) (fun h106 => ?_)
                          ·
                            refine V.skip ?_
                            refine X.sq ?_
                            first | refine V.cond rfl (fun h106_ => ?_) (fun h106_ => ?_) | refine V.condB rfl (fun h106_ => ?_) (fun h106_ => ?_)
                            ·
                              refine V.seq ?_
                              refine V.seq ?_
                              refine V.region ?_
                              refine L.rd (rd_fieldAddr tok rfl rfl rfl rfl rfl rfl) rfl ?_
                              refine L.rd (rd_load1 tok rfl rfl rfl (hb3.cell rfl)) rfl ?_
                              refine L.rd (rd_eql rfl rfl) rfl ?_
                              refine L.rd (rd_move rfl) rfl ?_
                              first | refine L.partG rfl rfl (fun g112 => ?_) (fun g112 => ?_) | refine L.partGB rfl rfl (fun g112 => ?_) (fun g112 => ?_)
                              ·
                                refine L.yes rfl rfl ?_
                                refine L.rd (rd_fieldAddr tok rfl rfl rfl rfl rfl rfl) rfl ?_
                                refine L.yes rfl rfl ?_
                                refine L.rd (rd_load1 tok rfl rfl rfl (hb3.cell (i := 2) rfl)) rfl ?_
                                refine L.yes rfl rfl ?_
                                refine L.rd (rd_lss rfl rfl) rfl ?_
                                refine L.yes rfl rfl ?_
                                refine L.rd (rd_move rfl) rfl ?_
                                first | refine L.partG rfl rfl (fun g116 => ?_) (fun g116 => ?_) | refine L.partGB rfl rfl (fun g116 => ?_) (fun g116 => ?_)
                                ·
                                  refine L.no rfl rfl rfl rfl ?_
                                  refine L.no rfl rfl rfl rfl ?_
                                  refine L.no rfl rfl rfl rfl ?_
                                  refine L.yes rfl rfl ?_
                                  refine L.rd (rd_pickT rfl rfl) rfl ?_
                                  refine L.rd (rd_pickT rfl rfl) rfl ?_
                                  refine L.nil ?_
                                  refine X.sq ?_
                                  refine V.condT rfl ?_
                                  refine V.seq ?_
                                  refine V.region ?_
                                  refine L.rd (rd_assign rfl) rfl ?_
                                  refine L.nil ?_
                                  refine X.sq ?_
                                  refine V.ret ?_
                                  refine X.sqRet ?_
                                  refine X.bkRet ?_
                                  refine X.ctRet ?_
                                  refine X.bkRet ?_
                                  refine X.sqRet ?_
                                  refine X.lpRet ?_
                                  refine X.bkRet ?_
                                  refine X.sqRet ?_
                                  refine ret_1 Yaam.results45 rfl ?_
                                  exact ⟨rfl, hEr3⟩
                                ·
                                  refine L.yes rfl rfl ?_
                                  refine L.rd (rd_fieldAddr tok rfl rfl rfl rfl rfl rfl) rfl ?_
                                  refine L.yes rfl rfl ?_
                                  refine L.rd (rd_load1 tok rfl rfl rfl (hb3.cell (i := 2) rfl)) rfl ?_
                                  refine L.yes rfl rfl ?_
                                  refine L.rd (rd_gtr rfl rfl) rfl ?_
                                  refine L.yes rfl rfl ?_
                                  refine L.rd (rd_pickF rfl rfl) rfl ?_
                                  refine L.rd (rd_pickT rfl rfl) rfl ?_
                                  refine L.nil ?_
                                  refine X.sq ?_
                                  first | refine V.cond rfl (fun h121 => ?_) (fun h121 => ?_) | refine V.condB rfl (fun h121 => ?_) (fun h121 => ?_)
                                  ·
                                    refine V.seq ?_
                                    refine V.region ?_
                                    refine L.rd (rd_assign rfl) rfl ?_
                                    refine L.nil ?_
                                    refine X.sq ?_
                                    refine V.ret ?_
                                    refine X.sqRet ?_
                                    refine X.bkRet ?_
                                    refine X.ctRet ?_
                                    refine X.bkRet ?_
                                    refine X.sqRet ?_
                                    refine X.lpRet ?_
                                    refine X.bkRet ?_
                                    refine X.sqRet ?_
                                    refine ret_1 Yaam.results45 rfl ?_
                                    exact ⟨rfl, hEr3⟩
                                  ·
                                    refine V.skip ?_
                                    refine X.sq ?_
                                    refine V.seq ?_
                                    refine V.seq ?_
                                    refine V.region ?_
                                    refine L.rd (rd_fieldAddr tok rfl rfl rfl rfl rfl rfl) rfl ?_
                                    refine L.rd (rd_load1 tok rfl rfl rfl (hb3.cell (i := 3) rfl)) rfl ?_
                                    refine L.rd (rd_neq rfl rfl) rfl ?_
                                    refine L.rd (rd_move rfl) rfl ?_
                                    first | refine L.partG rfl rfl (fun g125 => ?_) (fun g125 => ?_) | refine L.partGB rfl rfl (fun g125 => ?_) (fun g125 => ?_)
                                    ·
                                      refine L.no rfl rfl rfl rfl ?_
                                      refine L.no rfl rfl rfl rfl ?_
                                      refine L.no rfl rfl rfl rfl ?_
                                      refine L.rd (rd_pickT rfl rfl) rfl ?_
                                      refine L.nil ?_
                                      refine X.sq ?_
                                      refine V.condT rfl ?_
                                      refine V.seq ?_
                                      refine V.region ?_
                                      refine L.rd (rd_assign rfl) rfl ?_
                                      refine L.nil ?_
                                      refine X.sq ?_
                                      refine V.ret ?_
                                      refine X.sqRet ?_
                                      refine X.bkRet ?_
                                      refine X.ctRet ?_
                                      refine X.bkRet ?_
                                      refine X.sqRet ?_
                                      refine X.lpRet ?_
                                      refine X.bkRet ?_
                                      refine X.sqRet ?_
                                      refine ret_1 Yaam.results45 rfl ?_
                                      exact ⟨rfl, hEr3⟩
                                    ·
                                      refine L.yes rfl rfl ?_
                                      refine L.rd (rd_fieldAddr tok rfl rfl rfl rfl rfl rfl) rfl ?_
                                      refine L.yes rfl rfl ?_
                                      refine L.rd (rd_load1 tok rfl rfl rfl (hb3.cell (i := 4) rfl)) rfl ?_
                                      refine L.yes rfl rfl ?_
                                      refine L.rd (rd_neq rfl rfl) rfl ?_
                                      refine L.rd (rd_pickF rfl rfl) rfl ?_
                                      refine L.nil ?_
                                      refine X.sq ?_
                                      first | refine V.cond rfl (fun h129 => ?_) (fun h129 => ?_) | refine V.condB rfl (fun h129 => ?_) (fun h129 => ?_)
                                      ·
                                        refine V.seq ?_
                                        refine V.region ?_
                                        refine L.rd (rd_assign rfl) rfl ?_
                                        refine L.nil ?_
                                        refine X.sq ?_
                                        refine V.ret ?_
                                        refine X.sqRet ?_
                                        refine X.bkRet ?_
                                        refine X.ctRet ?_
                                        refine X.bkRet ?_
                                        refine X.sqRet ?_
                                        refine X.lpRet ?_
                                        refine X.bkRet ?_
                                        refine X.sqRet ?_
                                        refine ret_1 Yaam.results45 rfl ?_
                                        exact ⟨rfl, hEr3⟩
                                      ·
                                        refine V.skip ?_
                                        refine X.sq ?_
                                        refine V.region ?_
                                        refine L.rd (rd_move rfl) rfl ?_
                                        refine L.rd (rd_move rfl) rfl ?_
                                        (refine L.rd (rd_indexSlice (sz := 1) tok rfl rfl rfl rfl rfl rfl rfl ?_) rfl ?_; omega)
                                        refine L.ef (e_store (vs := [_]) tok rfl rfl rfl rfl hG3 rfl (by simp [Value.oneCell']) (by simp [iC]; omega) ?_)
                                        (simp only [Nat.zero_add, Nat.mul_one, Int.toNat_natCast])
                                        rw [iC_putI _ _ _ (by omega)]
                                        refine L.nil ?_
                                        refine X.bk ?_
                                        exact X.ct ⟨_, (by repeat' (first | exact trivial | refine ⟨rfl, ?_⟩)), 1, rfl, okN_one hTl (by omega) (by omega) (by omega), hE3.set (Nat.le_refl _) _ _, hG3.set _ _⟩
                              ·
                                refine L.no rfl rfl rfl rfl ?_
                                refine L.no rfl rfl rfl rfl ?_
                                refine L.no rfl rfl rfl rfl ?_
                                refine L.no rfl rfl rfl rfl ?_
                                refine L.noU rfl rfl rfl ?_
                                refine L.noU rfl rfl rfl ?_
                                refine L.noU rfl rfl rfl ?_
                                refine L.no rfl rfl rfl rfl ?_
                                refine L.rd (rd_pickF rfl rfl) rfl ?_
                                refine L.nil ?_
                                refine X.sq ?_
                                refine V.condF rfl ?_
                                refine V.skip ?_
                                refine X.sq ?_
                                refine V.seq ?_
                                refine V.seq ?_
                                refine V.region ?_
                                refine L.rd (rd_fieldAddr tok rfl rfl rfl rfl rfl rfl) rfl ?_
                                refine L.rd (rd_load1 tok rfl rfl rfl (hb3.cell (i := 3) rfl)) rfl ?_
                                refine L.rd (rd_neq rfl rfl) rfl ?_
                                refine L.rd (rd_move rfl) rfl ?_
                                first | refine L.partG rfl rfl (fun g125 => ?_) (fun g125 => ?_) | refine L.partGB rfl rfl (fun g125 => ?_) (fun g125 => ?_)
                                ·
                                  refine L.no rfl rfl rfl rfl ?_
                                  refine L.no rfl rfl rfl rfl ?_
                                  refine L.no rfl rfl rfl rfl ?_
                                  refine L.rd (rd_pickT rfl rfl) rfl ?_
                                  refine L.nil ?_
                                  refine X.sq ?_
                                  refine V.condT rfl ?_
                                  refine V.seq ?_
                                  refine V.region ?_
                                  refine L.rd (rd_assign rfl) rfl ?_
                                  refine L.nil ?_
                                  refine X.sq ?_
                                  refine V.ret ?_
                                  refine X.sqRet ?_
                                  refine X.bkRet ?_
                                  refine X.ctRet ?_
                                  refine X.bkRet ?_
                                  refine X.sqRet ?_
                                  refine X.lpRet ?_
                                  refine X.bkRet ?_
                                  refine X.sqRet ?_
                                  refine ret_1 Yaam.results45 rfl ?_
                                  exact ⟨rfl, hEr3⟩
                                ·
                                  refine L.yes rfl rfl ?_
                                  refine L.rd (rd_fieldAddr tok rfl rfl rfl rfl rfl rfl) rfl ?_
                                  refine L.yes rfl rfl ?_
                                  refine L.rd (rd_load1 tok rfl rfl rfl (hb3.cell (i := 4) rfl)) rfl ?_
                                  refine L.yes rfl rfl ?_
                                  refine L.rd (rd_neq rfl rfl) rfl ?_
                                  refine L.rd (rd_pickF rfl rfl) rfl ?_
                                  refine L.nil ?_
                                  refine X.sq ?_
                                  first | refine V.cond rfl (fun h129 => ?_) (fun h129 => ?_) | refine V.condB rfl (fun h129 => ?_) (fun h129 => ?_)
                                  ·
                                    refine V.seq ?_
                                    refine V.region ?_
                                    refine L.rd (rd_assign rfl) rfl ?_
                                    refine L.nil ?_
                                    refine X.sq ?_
                                    refine V.ret ?_
                                    refine X.sqRet ?_
                                    refine X.bkRet ?_
                                    refine X.ctRet ?_
                                    refine X.bkRet ?_
                                    refine X.sqRet ?_
                                    refine X.lpRet ?_
                                    refine X.bkRet ?_
                                    refine X.sqRet ?_
                                    refine ret_1 Yaam.results45 rfl ?_
                                    exact ⟨rfl, hEr3⟩
                                  ·
                                    refine V.skip ?_
                                    refine X.sq ?_
                                    refine V.region ?_
                                    refine L.rd (rd_move rfl) rfl ?_
                                    refine L.rd (rd_move rfl) rfl ?_
                                    (refine L.rd (rd_indexSlice (sz := 1) tok rfl rfl rfl rfl rfl rfl rfl ?_) rfl ?_; omega)
                                    refine L.ef (e_store (vs := [_]) tok rfl rfl rfl rfl hG3 rfl (by simp [Value.oneCell']) (by simp [iC]; omega) ?_)
                                    (simp only [Nat.zero_add, Nat.mul_one, Int.toNat_natCast])
                                    rw [iC_putI _ _ _ (by omega)]
                                    refine L.nil ?_
                                    refine X.bk ?_
                                    exact X.ct ⟨_, (by repeat' (first | exact trivial | refine ⟨rfl, ?_⟩)), 1, rfl, okN_one hTl (by omega) (by omega) (by omega), hE3.set (Nat.le_refl _) _ _, hG3.set _ _⟩
                            ·
                              exact absurd h106 h106_
                          ·
                            refine V.region ?_
                            refine L.rd (rd_eql rfl rfl) rfl ?_
                            refine L.rd (rd_assign rfl) rfl ?_
                            refine L.nil ?_
                            refine X.sq ?_
                            first | refine V.cond rfl (fun h106 => ?_) (fun h106 => ?_) | refine V.condB rfl (fun h106 => ?_) (fun h106 => ?_)
                            ·
                              refine V.seq ?_
                              refine V.seq ?_
                              refine V.region ?_
                              refine L.rd (rd_fieldAddr tok rfl rfl rfl rfl rfl rfl) rfl ?_
                              refine L.rd (rd_load1 tok rfl rfl rfl (hb3.cell rfl)) rfl ?_
                              refine L.rd (rd_eql rfl rfl) rfl ?_
                              refine L.rd (rd_move rfl) rfl ?_
                              first | refine L.partG rfl rfl (fun g112 => ?_) (fun g112 => ?_) | refine L.partGB rfl rfl (fun g112 => ?_) (fun g112 => ?_)
                              ·
                                refine L.yes rfl rfl ?_
                                refine L.rd (rd_fieldAddr tok rfl rfl rfl rfl rfl rfl) rfl ?_
                                refine L.yes rfl rfl ?_
                                refine L.rd (rd_load1 tok rfl rfl rfl (hb3.cell (i := 2) rfl)) rfl ?_
                                refine L.yes rfl rfl ?_
                                refine L.rd (rd_lss rfl rfl) rfl ?_
                                refine L.yes rfl rfl ?_
                                refine L.rd (rd_move rfl) rfl ?_
                                first | refine L.partG rfl rfl (fun g116 => ?_) (fun g116 => ?_) | refine L.partGB rfl rfl (fun g116 => ?_) (fun g116 => ?_)
                                ·
                                  refine L.no rfl rfl rfl rfl ?_
                                  refine L.no rfl rfl rfl rfl ?_
                                  refine L.no rfl rfl rfl rfl ?_
                                  refine L.yes rfl rfl ?_
                                  refine L.rd (rd_pickT rfl rfl) rfl ?_
                                  refine L.rd (rd_pickT rfl rfl) rfl ?_
                                  refine L.nil ?_
                                  refine X.sq ?_
                                  refine V.condT rfl ?_
                                  refine V.seq ?_
                                  refine V.region ?_
                                  refine L.rd (rd_assign rfl) rfl ?_
                                  refine L.nil ?_
                                  refine X.sq ?_
                                  refine V.ret ?_
                                  refine X.sqRet ?_
                                  refine X.bkRet ?_
                                  refine X.ctRet ?_
                                  refine X.bkRet ?_
                                  refine X.sqRet ?_
                                  refine X.lpRet ?_
                                  refine X.bkRet ?_
                                  refine X.sqRet ?_
                                  refine ret_1 Yaam.results45 rfl ?_
                                  exact ⟨rfl, hEr3⟩
                                ·
                                  refine L.yes rfl rfl ?_
                                  refine L.rd (rd_fieldAddr tok rfl rfl rfl rfl rfl rfl) rfl ?_
                                  refine L.yes rfl rfl ?_
                                  refine L.rd (rd_load1 tok rfl rfl rfl (hb3.cell (i := 2) rfl)) rfl ?_
                                  refine L.yes rfl rfl ?_
                                  refine L.rd (rd_gtr rfl rfl) rfl ?_
                                  refine L.yes rfl rfl ?_
                                  refine L.rd (rd_pickF rfl rfl) rfl ?_
                                  refine L.rd (rd_pickT rfl rfl) rfl ?_
                                  refine L.nil ?_
                                  refine X.sq ?_
                                  first | refine V.cond rfl (fun h121 => ?_) (fun h121 => ?_) | refine V.condB rfl (fun h121 => ?_) (fun h121 => ?_)
                                  ·
                                    refine V.seq ?_
                                    refine V.region ?_
                                    refine L.rd (rd_assign rfl) rfl ?_
                                    refine L.nil ?_
                                    refine X.sq ?_
                                    refine V.ret ?_
                                    refine X.sqRet ?_
                                    refine X.bkRet ?_
                                    refine X.ctRet ?_
                                    refine X.bkRet ?_
                                    refine X.sqRet ?_
                                    refine X.lpRet ?_
                                    refine X.bkRet ?_
                                    refine X.sqRet ?_
                                    refine ret_1 Yaam.results45 rfl ?_
                                    exact ⟨rfl, hEr3⟩
                                  ·
                                    refine V.skip ?_
                                    refine X.sq ?_
                                    refine V.seq ?_
                                    refine V.seq ?_
                                    refine V.region ?_
                                    refine L.rd (rd_fieldAddr tok rfl rfl rfl rfl rfl rfl) rfl ?_
                                    refine L.rd (rd_load1 tok rfl rfl rfl (hb3.cell (i := 3) rfl)) rfl ?_
                                    refine L.rd (rd_neq rfl rfl) rfl ?_
                                    refine L.rd (rd_move rfl) rfl ?_
                                    first | refine L.partG rfl rfl (fun g125 => ?_) (fun g125 => ?_) | refine L.partGB rfl rfl (fun g125 => ?_) (fun g125 => ?_)
                                    ·
                                      refine L.no rfl rfl rfl rfl ?_
                                      refine L.no rfl rfl rfl rfl ?_
                                      refine L.no rfl rfl rfl rfl ?_
                                      refine L.rd (rd_pickT rfl rfl) rfl ?_
                                      refine L.nil ?_
                                      refine X.sq ?_
                                      refine V.condT rfl ?_
                                      refine V.seq ?_
                                      refine V.region ?_
                                      refine L.rd (rd_assign rfl) rfl ?_
                                      refine L.nil ?_
                                      refine X.sq ?_
                                      refine V.ret ?_
                                      refine X.sqRet ?_
                                      refine X.bkRet ?_
                                      refine X.ctRet ?_
                                      refine X.bkRet ?_
                                      refine X.sqRet ?_
                                      refine X.lpRet ?_
                                      refine X.bkRet ?_
                                      refine X.sqRet ?_
                                      refine ret_1 Yaam.results45 rfl ?_
                                      exact ⟨rfl, hEr3⟩
                                    ·
                                      refine L.yes rfl rfl ?_
                                      refine L.rd (rd_fieldAddr tok rfl rfl rfl rfl rfl rfl) rfl ?_
                                      refine L.yes rfl rfl ?_
                                      refine L.rd (rd_load1 tok rfl rfl rfl (hb3.cell (i := 4) rfl)) rfl ?_
                                      refine L.yes rfl rfl ?_
                                      refine L.rd (rd_neq rfl rfl) rfl ?_
                                      refine L.rd (rd_pickF rfl rfl) rfl ?_
                                      refine L.nil ?_
                                      refine X.sq ?_
                                      first | refine V.cond rfl (fun h129 => ?_) (fun h129 => ?_) | refine V.condB rfl (fun h129 => ?_) (fun h129 => ?_)
                                      ·
                                        refine V.seq ?_
                                        refine V.region ?_
                                        refine L.rd (rd_assign rfl) rfl ?_
                                        refine L.nil ?_
                                        refine X.sq ?_
                                        refine V.ret ?_
                                        refine X.sqRet ?_
                                        refine X.bkRet ?_
                                        refine X.ctRet ?_
                                        refine X.bkRet ?_
                                        refine X.sqRet ?_
                                        refine X.lpRet ?_
                                        refine X.bkRet ?_
                                        refine X.sqRet ?_
                                        refine ret_1 Yaam.results45 rfl ?_
                                        exact ⟨rfl, hEr3⟩
                                      ·
                                        refine V.skip ?_
                                        refine X.sq ?_
                                        refine V.region ?_
                                        refine L.rd (rd_move rfl) rfl ?_
                                        refine L.rd (rd_move rfl) rfl ?_
                                        (refine L.rd (rd_indexSlice (sz := 1) tok rfl rfl rfl rfl rfl rfl rfl ?_) rfl ?_; omega)
                                        refine L.ef (e_store (vs := [_]) tok rfl rfl rfl rfl hG3 rfl (by simp [Value.oneCell']) (by simp [iC]; omega) ?_)
                                        (simp only [Nat.zero_add, Nat.mul_one, Int.toNat_natCast])
                                        rw [iC_putI _ _ _ (by omega)]
                                        refine L.nil ?_
                                        refine X.bk ?_
                                        exact X.ct ⟨_, (by repeat' (first | exact trivial | refine ⟨rfl, ?_⟩)), 1, rfl, okN_one hTl (by omega) (by omega) (by omega), hE3.set (Nat.le_refl _) _ _, hG3.set _ _⟩
                              ·
                                refine L.no rfl rfl rfl rfl ?_
                                refine L.no rfl rfl rfl rfl ?_
                                refine L.no rfl rfl rfl rfl ?_
                                refine L.no rfl rfl rfl rfl ?_
                                refine L.noU rfl rfl rfl ?_
                                refine L.noU rfl rfl rfl ?_
                                refine L.noU rfl rfl rfl ?_
                                refine L.no rfl rfl rfl rfl ?_
                                refine L.rd (rd_pickF rfl rfl) rfl ?_
                                refine L.nil ?_
                                refine X.sq ?_
                                refine V.condF rfl ?_
                                refine V.skip ?_
                                refine X.sq ?_
                                refine V.seq ?_
                                refine V.seq ?_
                                refine V.region ?_
                                refine L.rd (rd_fieldAddr tok rfl rfl rfl rfl rfl rfl) rfl ?_
                                refine L.rd (rd_load1 tok rfl rfl rfl (hb3.cell (i := 3) rfl)) rfl ?_
                                refine L.rd (rd_neq rfl rfl) rfl ?_
                                refine L.rd (rd_move rfl) rfl ?_
                                first | refine L.partG rfl rfl (fun g125 => ?_) (fun g125 => ?_) | refine L.partGB rfl rfl (fun g125 => ?_) (fun g125 => ?_)
                                ·
                                  refine L.no rfl rfl rfl rfl ?_
                                  refine L.no rfl rfl rfl rfl ?_
                                  refine L.no rfl rfl rfl rfl ?_
                                  refine L.rd (rd_pickT rfl rfl) rfl ?_
                                  refine L.nil ?_
                                  refine X.sq ?_
                                  refine V.condT rfl ?_
                                  refine V.seq ?_
                                  refine V.region ?_
                                  refine L.rd (rd_assign rfl) rfl ?_
                                  refine L.nil ?_
                                  refine X.sq ?_
                                  refine V.ret ?_
                                  refine X.sqRet ?_
                                  refine X.bkRet ?_
                                  refine X.ctRet ?_
                                  refine X.bkRet ?_
                                  refine X.sqRet ?_
                                  refine X.lpRet ?_
                                  refine X.bkRet ?_
                                  refine X.sqRet ?_
                                  refine ret_1 Yaam.results45 rfl ?_
                                  exact ⟨rfl, hEr3⟩
                                ·
                                  refine L.yes rfl rfl ?_
                                  refine L.rd (rd_fieldAddr tok rfl rfl rfl rfl rfl rfl) rfl ?_
                                  refine L.yes rfl rfl ?_
                                  refine L.rd (rd_load1 tok rfl rfl rfl (hb3.cell (i := 4) rfl)) rfl ?_
                                  refine L.yes rfl rfl ?_
                                  refine L.rd (rd_neq rfl rfl) rfl ?_
                                  refine L.rd (rd_pickF rfl rfl) rfl ?_
                                  refine L.nil ?_
                                  refine X.sq ?_
                                  first | refine V.cond rfl (fun h129 => ?_) (fun h129 => ?_) | refine V.condB rfl (fun h129 => ?_) (fun h129 => ?_)
                                  ·
                                    refine V.seq ?_
                                    refine V.region ?_
                                    refine L.rd (rd_assign rfl) rfl ?_
                                    refine L.nil ?_
                                    refine X.sq ?_
                                    refine V.ret ?_
                                    refine X.sqRet ?_
                                    refine X.bkRet ?_
                                    refine X.ctRet ?_
                                    refine X.bkRet ?_
                                    refine X.sqRet ?_
                                    refine X.lpRet ?_
                                    refine X.bkRet ?_
                                    refine X.sqRet ?_
                                    refine ret_1 Yaam.results45 rfl ?_
                                    exact ⟨rfl, hEr3⟩
                                  ·
                                    refine V.skip ?_
                                    refine X.sq ?_
                                    refine V.region ?_
                                    refine L.rd (rd_move rfl) rfl ?_
                                    refine L.rd (rd_move rfl) rfl ?_
                                    (refine L.rd (rd_indexSlice (sz := 1) tok rfl rfl rfl rfl rfl rfl rfl ?_) rfl ?_; omega)
                                    refine L.ef (e_store (vs := [_]) tok rfl rfl rfl rfl hG3 rfl (by simp [Value.oneCell']) (by simp [iC]; omega) ?_)
                                    (simp only [Nat.zero_add, Nat.mul_one, Int.toNat_natCast])
                                    rw [iC_putI _ _ _ (by omega)]
                                    refine L.nil ?_
                                    refine X.bk ?_
                                    exact X.ct ⟨_, (by repeat' (first | exact trivial | refine ⟨rfl, ?_⟩)), 1, rfl, okN_one hTl (by omega) (by omega) (by omega), hE3.set (Nat.le_refl _) _ _, hG3.set _ _⟩
                            ·
                              refine V.seq ?_
                              refine V.seq ?_
                              refine V.region ?_
                              refine L.rd (rd_eql rfl rfl) rfl ?_
                              refine L.rd (rd_assign rfl) rfl ?_
                              refine L.nil ?_
                              refine X.sq ?_
                              first | refine V.cond rfl (fun h133 => ?_) (fun h133 => ?_) | refine V.condB rfl (fun h133 => ?_) (fun h133 => ?_)
                              ·
                                refine V.skip ?_
                                refine X.sq ?_
                                first | refine V.cond rfl (fun h133_ => ?_) (fun h133_ => ?_) | refine V.condB rfl (fun h133_ => ?_) (fun h133_ => ?_)
                                ·
                                  refine V.seq ?_
                                  refine V.seq ?_
                                  refine V.region ?_
                                  refine L.rd (rd_fieldAddr tok rfl rfl rfl rfl rfl rfl) rfl ?_
                                  refine L.rd (rd_load1 tok rfl rfl rfl (hb3.cell rfl)) rfl ?_
                                  refine L.rd (rd_eql rfl rfl) rfl ?_
                                  refine L.rd (rd_move rfl) rfl ?_
                                  first | refine L.partG rfl rfl (fun g139 => ?_) (fun g139 => ?_) | refine L.partGB rfl rfl (fun g139 => ?_) (fun g139 => ?_)
                                  ·
                                    refine L.yes rfl rfl ?_
                                    refine L.rd (rd_fieldAddr tok rfl rfl rfl rfl rfl rfl) rfl ?_
                                    refine L.yes rfl rfl ?_
                                    refine L.rd (rd_load1 tok rfl rfl rfl (hb3.cell (i := 1) rfl)) rfl ?_
                                    refine L.yes rfl rfl ?_
                                    refine L.rd (rd_lss rfl rfl) rfl ?_
                                    refine L.yes rfl rfl ?_
                                    refine L.rd (rd_move rfl) rfl ?_
                                    first | refine L.partG rfl rfl (fun g143 => ?_) (fun g143 => ?_) | refine L.partGB rfl rfl (fun g143 => ?_) (fun g143 => ?_)
                                    ·
                                      refine L.no rfl rfl rfl rfl ?_
                                      refine L.no rfl rfl rfl rfl ?_
                                      refine L.no rfl rfl rfl rfl ?_
                                      refine L.yes rfl rfl ?_
                                      refine L.rd (rd_pickT rfl rfl) rfl ?_
                                      refine L.rd (rd_pickT rfl rfl) rfl ?_
                                      refine L.nil ?_
                                      refine X.sq ?_
                                      refine V.condT rfl ?_
                                      refine V.seq ?_
                                      refine V.region ?_
                                      refine L.rd (rd_assign rfl) rfl ?_
                                      refine L.nil ?_
                                      refine X.sq ?_
                                      refine V.ret ?_
                                      refine X.sqRet ?_
                                      refine X.bkRet ?_
                                      refine X.ctRet ?_
                                      refine X.bkRet ?_
                                      refine X.sqRet ?_
                                      refine X.lpRet ?_
                                      refine X.bkRet ?_
                                      refine X.sqRet ?_
                                      refine ret_1 Yaam.results45 rfl ?_
                                      exact ⟨rfl, hEr3⟩
                                    ·
                                      refine L.yes rfl rfl ?_
                                      refine L.rd (rd_fieldAddr tok rfl rfl rfl rfl rfl rfl) rfl ?_
                                      refine L.yes rfl rfl ?_
                                      refine L.rd (rd_load1 tok rfl rfl rfl (hb3.cell (i := 1) rfl)) rfl ?_
                                      refine L.yes rfl rfl ?_
                                      refine L.rd (rd_gtr rfl rfl) rfl ?_
                                      refine L.yes rfl rfl ?_
                                      refine L.rd (rd_pickF rfl rfl) rfl ?_
                                      refine L.rd (rd_pickT rfl rfl) rfl ?_
                                      refine L.nil ?_
                                      refine X.sq ?_
                                      first | refine V.cond rfl (fun h148 => ?_) (fun h148 => ?_) | refine V.condB rfl (fun h148 => ?_) (fun h148 => ?_)
                                      ·
                                        refine V.seq ?_
                                        refine V.region ?_
                                        refine L.rd (rd_assign rfl) rfl ?_
                                        refine L.nil ?_
                                        refine X.sq ?_
                                        refine V.ret ?_
                                        refine X.sqRet ?_
                                        refine X.bkRet ?_
                                        refine X.ctRet ?_
                                        refine X.bkRet ?_
                                        refine X.sqRet ?_
                                        refine X.lpRet ?_
                                        refine X.bkRet ?_
                                        refine X.sqRet ?_
                                        refine ret_1 Yaam.results45 rfl ?_
                                        exact ⟨rfl, hEr3⟩
                                      ·
                                        refine V.skip ?_
                                        refine X.sq ?_
                                        refine V.seq ?_
                                        refine V.seq ?_
                                        refine V.region ?_
                                        refine L.rd (rd_move rfl) rfl ?_
                                        refine L.rd (rd_lss rfl rfl) rfl ?_
                                        refine L.rd (rd_move rfl) rfl ?_
                                        first | refine L.partG rfl rfl (fun g151 => ?_) (fun g151 => ?_) | refine L.partGB rfl rfl (fun g151 => ?_) (fun g151 => ?_)
                                        ·
                                          refine L.no rfl rfl rfl rfl ?_
                                          refine L.no rfl rfl rfl rfl ?_
                                          refine L.no rfl rfl rfl rfl ?_
                                          refine L.no rfl rfl rfl rfl ?_
                                          refine L.no rfl rfl rfl rfl ?_
                                          refine L.rd (rd_pickT rfl rfl) rfl ?_
                                          refine L.rd (rd_move rfl) rfl ?_
                                          refine L.no rfl rfl rfl rfl ?_
                                          refine L.no rfl rfl rfl rfl ?_
                                          refine L.no rfl rfl rfl rfl ?_
                                          refine L.rd (rd_pickT rfl rfl) rfl ?_
                                          refine L.nil ?_
                                          refine X.sq ?_
                                          refine V.condT rfl ?_
                                          refine V.seq ?_
                                          refine V.region ?_
                                          refine L.rd (rd_assign rfl) rfl ?_
                                          refine L.nil ?_
                                          refine X.sq ?_
                                          refine V.ret ?_
                                          refine X.sqRet ?_
                                          refine X.bkRet ?_
                                          refine X.ctRet ?_
                                          refine X.bkRet ?_
                                          refine X.sqRet ?_
                                          refine X.lpRet ?_
                                          refine X.bkRet ?_
                                          refine X.sqRet ?_
                                          refine ret_1 Yaam.results45 rfl ?_
                                          exact ⟨rfl, hEr3⟩
                                        ·
                                          refine L.yes rfl rfl ?_
                                          refine L.rd (rd_fieldAddr tok rfl rfl rfl rfl rfl rfl) rfl ?_
                                          refine L.yes rfl rfl ?_
                                          refine L.rd (rd_load1 tok rfl rfl rfl (hb3.cell (i := 3) rfl)) rfl ?_
                                          refine L.yes rfl rfl ?_
                                          refine L.rd (rd_move rfl) rfl ?_
                                          refine L.yes rfl rfl ?_
                                          (refine L.rd (rd_sub3 rfl rfl ?_) rfl ?_; omega)
                                          refine L.yes rfl rfl ?_
                                          refine L.rd (rd_neq rfl rfl) rfl ?_
                                          refine L.rd (rd_pickF rfl rfl) rfl ?_
                                          refine L.rd (rd_move rfl) rfl ?_
                                          first | refine L.partG rfl rfl (fun g158 => ?_) (fun g158 => ?_) | refine L.partGB rfl rfl (fun g158 => ?_) (fun g158 => ?_)
                                          ·
                                            refine L.no rfl rfl rfl rfl ?_
                                            refine L.no rfl rfl rfl rfl ?_
                                            refine L.no rfl rfl rfl rfl ?_
                                            refine L.rd (rd_pickT rfl rfl) rfl ?_
                                            refine L.nil ?_
                                            refine X.sq ?_
                                            refine V.condT rfl ?_
                                            refine V.seq ?_
                                            refine V.region ?_
                                            refine L.rd (rd_assign rfl) rfl ?_
                                            refine L.nil ?_
                                            refine X.sq ?_
                                            refine V.ret ?_
                                            refine X.sqRet ?_
                                            refine X.bkRet ?_
                                            refine X.ctRet ?_
                                            refine X.bkRet ?_
                                            refine X.sqRet ?_
                                            refine X.lpRet ?_
                                            refine X.bkRet ?_
                                            refine X.sqRet ?_
                                            refine ret_1 Yaam.results45 rfl ?_
                                            exact ⟨rfl, hEr3⟩
                                          ·
                                            refine L.yes rfl rfl ?_
                                            refine L.rd (rd_fieldAddr tok rfl rfl rfl rfl rfl rfl) rfl ?_
                                            refine L.yes rfl rfl ?_
                                            refine L.rd (rd_load1 tok rfl rfl rfl (hb3.cell (i := 4) rfl)) rfl ?_
                                            refine L.yes rfl rfl ?_
                                            refine L.rd (rd_neq rfl rfl) rfl ?_
                                            refine L.rd (rd_pickF rfl rfl) rfl ?_
                                            refine L.nil ?_
                                            refine X.sq ?_
                                            first | refine V.cond rfl (fun h162 => ?_) (fun h162 => ?_) | refine V.condB rfl (fun h162 => ?_) (fun h162 => ?_)
                                            ·
                                              refine V.seq ?_
                                              refine V.region ?_
                                              refine L.rd (rd_assign rfl) rfl ?_
                                              refine L.nil ?_
                                              refine X.sq ?_
                                              refine V.ret ?_
                                              refine X.sqRet ?_
                                              refine X.bkRet ?_
                                              refine X.ctRet ?_
                                              refine X.bkRet ?_
                                              refine X.sqRet ?_
                                              refine X.lpRet ?_
                                              refine X.bkRet ?_
                                              refine X.sqRet ?_
                                              refine ret_1 Yaam.results45 rfl ?_
                                              exact ⟨rfl, hEr3⟩
                                            ·
                                              refine V.skip ?_
                                              refine X.sq ?_
                                              obtain ⟨a, hga⟩ := nth_of_lt G (i - 1) (by omega)
                                              have ha := take_nth hga (i := i) (by omega)
                                              have hab := gd_bound hgd ha
                                              have hix : ((i : Int) - 1).toNat = i - 1 := by omega
                                              refine V.region ?_
                                              refine L.rd (rd_move rfl) rfl ?_
                                              refine L.rd (rd_move rfl) rfl ?_
                                              refine L.rd (rd_move rfl) rfl ?_
                                              refine L.rd (rd_move rfl) rfl ?_
                                              (refine L.rd (rd_sub3 rfl rfl ?_) rfl ?_; omega)
                                              (refine L.rd (rd_indexSlice (sz := 1) tok rfl rfl rfl rfl rfl rfl rfl ?_) rfl ?_; omega)
                                              refine L.rd (rd_load1 tok rfl rfl rfl (cell_at (i := ((i : Int) - 1).toNat) hG3 (by rw [hix]; exact iC_get hga) (by simp))) rfl ?_
                                              (refine L.rd (rd_add3 rfl rfl ?_) rfl ?_; omega)
                                              (refine L.rd (rd_indexSlice (sz := 1) tok rfl rfl rfl rfl rfl rfl rfl ?_) rfl ?_; omega)
                                              refine L.ef (e_store (vs := [_]) tok rfl rfl rfl rfl hG3 rfl (by simp [Value.oneCell']) (by simp [iC]; omega) ?_)
                                              (simp only [Nat.zero_add, Nat.mul_one, Int.toNat_natCast])
                                              rw [iC_putI _ _ _ (by omega)]
                                              refine L.nil ?_
                                              refine X.bk ?_
                                              exact X.ct ⟨_, (by repeat' (first | exact trivial | refine ⟨rfl, ?_⟩)), 1 + a, rfl, okN_un hTl (by omega) ha (by omega) (by omega) (by omega) (by omega), hE3.set (Nat.le_refl _) _ _, hG3.set _ _⟩
                                  ·
                                    refine L.no rfl rfl rfl rfl ?_
                                    refine L.no rfl rfl rfl rfl ?_
                                    refine L.no rfl rfl rfl rfl ?_
                                    refine L.no rfl rfl rfl rfl ?_
                                    refine L.noU rfl rfl rfl ?_
                                    refine L.noU rfl rfl rfl ?_
                                    refine L.noU rfl rfl rfl ?_
                                    refine L.no rfl rfl rfl rfl ?_
                                    refine L.rd (rd_pickF rfl rfl) rfl ?_
                                    refine L.nil ?_
                                    refine X.sq ?_
                                    refine V.condF rfl ?_
                                    refine V.skip ?_
                                    refine X.sq ?_
                                    refine V.seq ?_
                                    refine V.seq ?_
                                    refine V.region ?_
                                    refine L.rd (rd_move rfl) rfl ?_
                                    refine L.rd (rd_lss rfl rfl) rfl ?_
                                    refine L.rd (rd_move rfl) rfl ?_
                                    first | refine L.partG rfl rfl (fun g151 => ?_) (fun g151 => ?_) | refine L.partGB rfl rfl (fun g151 => ?_) (fun g151 => ?_)
                                    ·
                                      refine L.no rfl rfl rfl rfl ?_
                                      refine L.no rfl rfl rfl rfl ?_
                                      refine L.no rfl rfl rfl rfl ?_
                                      refine L.no rfl rfl rfl rfl ?_
                                      refine L.no rfl rfl rfl rfl ?_
                                      refine L.rd (rd_pickT rfl rfl) rfl ?_
                                      refine L.rd (rd_move rfl) rfl ?_
                                      refine L.no rfl rfl rfl rfl ?_
                                      refine L.no rfl rfl rfl rfl ?_
                                      refine L.no rfl rfl rfl rfl ?_
                                      refine L.rd (rd_pickT rfl rfl) rfl ?_
                                      refine L.nil ?_
                                      refine X.sq ?_
                                      refine V.condT rfl ?_
                                      refine V.seq ?_
                                      refine V.region ?_
                                      refine L.rd (rd_assign rfl) rfl ?_
                                      refine L.nil ?_
                                      refine X.sq ?_
                                      refine V.ret ?_
                                      refine X.sqRet ?_
                                      refine X.bkRet ?_
                                      refine X.ctRet ?_
                                      refine X.bkRet ?_
                                      refine X.sqRet ?_
                                      refine X.lpRet ?_
                                      refine X.bkRet ?_
                                      refine X.sqRet ?_
                                      refine ret_1 Yaam.results45 rfl ?_
                                      exact ⟨rfl, hEr3⟩
                                    ·
                                      refine L.yes rfl rfl ?_
                                      refine L.rd (rd_fieldAddr tok rfl rfl rfl rfl rfl rfl) rfl ?_
                                      refine L.yes rfl rfl ?_
                                      refine L.rd (rd_load1 tok rfl rfl rfl (hb3.cell (i := 3) rfl)) rfl ?_
                                      refine L.yes rfl rfl ?_
                                      refine L.rd (rd_move rfl) rfl ?_
                                      refine L.yes rfl rfl ?_
                                      (refine L.rd (rd_sub3 rfl rfl ?_) rfl ?_; omega)
                                      refine L.yes rfl rfl ?_
                                      refine L.rd (rd_neq rfl rfl) rfl ?_
                                      refine L.rd (rd_pickF rfl rfl) rfl ?_
                                      refine L.rd (rd_move rfl) rfl ?_
                                      first | refine L.partG rfl rfl (fun g158 => ?_) (fun g158 => ?_) | refine L.partGB rfl rfl (fun g158 => ?_) (fun g158 => ?_)
                                      ·
                                        refine L.no rfl rfl rfl rfl ?_
                                        refine L.no rfl rfl rfl rfl ?_
                                        refine L.no rfl rfl rfl rfl ?_
                                        refine L.rd (rd_pickT rfl rfl) rfl ?_
                                        refine L.nil ?_
                                        refine X.sq ?_
                                        refine V.condT rfl ?_
                                        refine V.seq ?_
                                        refine V.region ?_
                                        refine L.rd (rd_assign rfl) rfl ?_
                                        refine L.nil ?_
                                        refine X.sq ?_
                                        refine V.ret ?_
                                        refine X.sqRet ?_
                                        refine X.bkRet ?_
                                        refine X.ctRet ?_
                                        refine X.bkRet ?_
                                        refine X.sqRet ?_
                                        refine X.lpRet ?_
                                        refine X.bkRet ?_
                                        refine X.sqRet ?_
                                        refine ret_1 Yaam.results45 rfl ?_
                                        exact ⟨rfl, hEr3⟩
                                      ·
                                        refine L.yes rfl rfl ?_
                                        refine L.rd (rd_fieldAddr tok rfl rfl rfl rfl rfl rfl) rfl ?_
                                        refine L.yes rfl rfl ?_
                                        refine L.rd (rd_load1 tok rfl rfl rfl (hb3.cell (i := 4) rfl)) rfl ?_
                                        refine L.yes rfl rfl ?_
                                        refine L.rd (rd_neq rfl rfl) rfl ?_
                                        refine L.rd (rd_pickF rfl rfl) rfl ?_
                                        refine L.nil ?_
                                        refine X.sq ?_
                                        first | refine V.cond rfl (fun h162 => ?_) (fun h162 => ?_) | refine V.condB rfl (fun h162 => ?_) (fun h162 => ?_)
                                        ·
                                          refine V.seq ?_
                                          refine V.region ?_
                                          refine L.rd (rd_assign rfl) rfl ?_
                                          refine L.nil ?_
                                          refine X.sq ?_
                                          refine V.ret ?_
                                          refine X.sqRet ?_
                                          refine X.bkRet ?_
                                          refine X.ctRet ?_
                                          refine X.bkRet ?_
                                          refine X.sqRet ?_
                                          refine X.lpRet ?_
                                          refine X.bkRet ?_
                                          refine X.sqRet ?_
                                          refine ret_1 Yaam.results45 rfl ?_
                                          exact ⟨rfl, hEr3⟩
                                        ·
                                          refine V.skip ?_
                                          refine X.sq ?_
                                          obtain ⟨a, hga⟩ := nth_of_lt G (i - 1) (by omega)
                                          have ha := take_nth hga (i := i) (by omega)
                                          have hab := gd_bound hgd ha
                                          have hix : ((i : Int) - 1).toNat = i - 1 := by omega
                                          refine V.region ?_
                                          refine L.rd (rd_move rfl) rfl ?_
                                          refine L.rd (rd_move rfl) rfl ?_
                                          refine L.rd (rd_move rfl) rfl ?_
                                          refine L.rd (rd_move rfl) rfl ?_
                                          (refine L.rd (rd_sub3 rfl rfl ?_) rfl ?_; omega)
                                          (refine L.rd (rd_indexSlice (sz := 1) tok rfl rfl rfl rfl rfl rfl rfl ?_) rfl ?_; omega)
                                          refine L.rd (rd_load1 tok rfl rfl rfl (cell_at (i := ((i : Int) - 1).toNat) hG3 (by rw [hix]; exact iC_get hga) (by simp))) rfl ?_
                                          (refine L.rd (rd_add3 rfl rfl ?_) rfl ?_; omega)
                                          (refine L.rd (rd_indexSlice (sz := 1) tok rfl rfl rfl rfl rfl rfl rfl ?_) rfl ?_; omega)
                                          refine L.ef (e_store (vs := [_]) tok rfl rfl rfl rfl hG3 rfl (by simp [Value.oneCell']) (by simp [iC]; omega) ?_)
                                          (simp only [Nat.zero_add, Nat.mul_one, Int.toNat_natCast])
                                          rw [iC_putI _ _ _ (by omega)]
                                          refine L.nil ?_
                                          refine X.bk ?_
                                          exact X.ct ⟨_, (by repeat' (first | exact trivial | refine ⟨rfl, ?_⟩)), 1 + a, rfl, okN_un hTl (by omega) ha (by omega) (by omega) (by omega) (by omega), hE3.set (Nat.le_refl _) _ _, hG3.set _ _⟩
                                ·
                                  exact absurd h133 h133_
                              ·
                                refine V.region ?_
                                refine L.rd (rd_eql rfl rfl) rfl ?_
                                refine L.rd (rd_assign rfl) rfl ?_
                                refine L.nil ?_
                                refine X.sq ?_
                                first | refine V.cond rfl (fun h133 => ?_) (fun h133 => ?_) | refine V.condB rfl (fun h133 => ?_) (fun h133 => ?_)
                                ·
                                  refine V.seq ?_
                                  refine V.seq ?_
                                  refine V.region ?_
                                  refine L.rd (rd_fieldAddr tok rfl rfl rfl rfl rfl rfl) rfl ?_
                                  refine L.rd (rd_load1 tok rfl rfl rfl (hb3.cell rfl)) rfl ?_
                                  refine L.rd (rd_eql rfl rfl) rfl ?_
                                  refine L.rd (rd_move rfl) rfl ?_
                                  first | refine L.partG rfl rfl (fun g139 => ?_) (fun g139 => ?_) | refine L.partGB rfl rfl (fun g139 => ?_) (fun g139 => ?_)
                                  ·
                                    refine L.yes rfl rfl ?_
                                    refine L.rd (rd_fieldAddr tok rfl rfl rfl rfl rfl rfl) rfl ?_
                                    refine L.yes rfl rfl ?_
                                    refine L.rd (rd_load1 tok rfl rfl rfl (hb3.cell (i := 1) rfl)) rfl ?_
                                    refine L.yes rfl rfl ?_
                                    refine L.rd (rd_lss rfl rfl) rfl ?_
                                    refine L.yes rfl rfl ?_
                                    refine L.rd (rd_move rfl) rfl ?_
                                    first | refine L.partG rfl rfl (fun g143 => ?_) (fun g143 => ?_) | refine L.partGB rfl rfl (fun g143 => ?_) (fun g143 => ?_)
                                    ·
                                      refine L.no rfl rfl rfl rfl ?_
                                      refine L.no rfl rfl rfl rfl ?_
                                      refine L.no rfl rfl rfl rfl ?_
                                      refine L.yes rfl rfl ?_
                                      refine L.rd (rd_pickT rfl rfl) rfl ?_
                                      refine L.rd (rd_pickT rfl rfl) rfl ?_
                                      refine L.nil ?_
                                      refine X.sq ?_
                                      refine V.condT rfl ?_
                                      refine V.seq ?_
                                      refine V.region ?_
                                      refine L.rd (rd_assign rfl) rfl ?_
                                      refine L.nil ?_
                                      refine X.sq ?_
                                      refine V.ret ?_
                                      refine X.sqRet ?_
                                      refine X.bkRet ?_
                                      refine X.ctRet ?_
                                      refine X.bkRet ?_
                                      refine X.sqRet ?_
                                      refine X.lpRet ?_
                                      refine X.bkRet ?_
                                      refine X.sqRet ?_
                                      refine ret_1 Yaam.results45 rfl ?_
                                      exact ⟨rfl, hEr3⟩
                                    ·
                                      refine L.yes rfl rfl ?_
                                      refine L.rd (rd_fieldAddr tok rfl rfl rfl rfl rfl rfl) rfl ?_
                                      refine L.yes rfl rfl ?_
                                      refine L.rd (rd_load1 tok rfl rfl rfl (hb3.cell (i := 1) rfl)) rfl ?_
                                      refine L.yes rfl rfl ?_
                                      refine L.rd (rd_gtr rfl rfl) rfl ?_
                                      refine L.yes rfl rfl ?_
                                      refine L.rd (rd_pickF rfl rfl) rfl ?_
                                      refine L.rd (rd_pickT rfl rfl) rfl ?_
                                      refine L.nil ?_
                                      refine X.sq ?_
                                      first | refine V.cond rfl (fun h148 => ?_) (fun h148 => ?_) | refine V.condB rfl (fun h148 => ?_) (fun h148 => ?_)
                                      ·
                                        refine V.seq ?_
                                        refine V.region ?_
                                        refine L.rd (rd_assign rfl) rfl ?_
                                        refine L.nil ?_
                                        refine X.sq ?_
                                        refine V.ret ?_
                                        refine X.sqRet ?_
                                        refine X.bkRet ?_
                                        refine X.ctRet ?_
                                        refine X.bkRet ?_
                                        refine X.sqRet ?_
                                        refine X.lpRet ?_
                                        refine X.bkRet ?_
                                        refine X.sqRet ?_
                                        refine ret_1 Yaam.results45 rfl ?_
                                        exact ⟨rfl, hEr3⟩
                                      ·
                                        refine V.skip ?_
                                        refine X.sq ?_
                                        refine V.seq ?_
                                        refine V.seq ?_
                                        refine V.region ?_
                                        refine L.rd (rd_move rfl) rfl ?_
                                        refine L.rd (rd_lss rfl rfl) rfl ?_
                                        refine L.rd (rd_move rfl) rfl ?_
                                        first | refine L.partG rfl rfl (fun g151 => ?_) (fun g151 => ?_) | refine L.partGB rfl rfl (fun g151 => ?_) (fun g151 => ?_)
                                        ·
                                          refine L.no rfl rfl rfl rfl ?_
                                          refine L.no rfl rfl rfl rfl ?_
                                          refine L.no rfl rfl rfl rfl ?_
                                          refine L.no rfl rfl rfl rfl ?_
                                          refine L.no rfl rfl rfl rfl ?_
                                          refine L.rd (rd_pickT rfl rfl) rfl ?_
                                          refine L.rd (rd_move rfl) rfl ?_
                                          refine L.no rfl rfl rfl rfl ?_
                                          refine L.no rfl rfl rfl rfl ?_
                                          refine L.no rfl rfl rfl rfl ?_
                                          refine L.rd (rd_pickT rfl rfl) rfl ?_
                                          refine L.nil ?_
                                          refine X.sq ?_
                                          refine V.condT rfl ?_
                                          refine V.seq ?_
                                          refine V.region ?_
                                          refine L.rd (rd_assign rfl) rfl ?_
                                          refine L.nil ?_
                                          refine X.sq ?_
                                          refine V.ret ?_
                                          refine X.sqRet ?_
                                          refine X.bkRet ?_
                                          refine X.ctRet ?_
                                          refine X.bkRet ?_
                                          refine X.sqRet ?_
                                          refine X.lpRet ?_
                                          refine X.bkRet ?_
                                          refine X.sqRet ?_
                                          refine ret_1 Yaam.results45 rfl ?_
                                          exact ⟨rfl, hEr3⟩
                                        ·
                                          refine L.yes rfl rfl ?_
                                          refine L.rd (rd_fieldAddr tok rfl rfl rfl rfl rfl rfl) rfl ?_
                                          refine L.yes rfl rfl ?_
                                          refine L.rd (rd_load1 tok rfl rfl rfl (hb3.cell (i := 3) rfl)) rfl ?_
                                          refine L.yes rfl rfl ?_
                                          refine L.rd (rd_move rfl) rfl ?_
                                          refine L.yes rfl rfl ?_
                                          (refine L.rd (rd_sub3 rfl rfl ?_) rfl ?_; omega)
                                          refine L.yes rfl rfl ?_
                                          refine L.rd (rd_neq rfl rfl) rfl ?_
                                          refine L.rd (rd_pickF rfl rfl) rfl ?_
                                          refine L.rd (rd_move rfl) rfl ?_
                                          first | refine L.partG rfl rfl (fun g158 => ?_) (fun g158 => ?_) | refine L.partGB rfl rfl (fun g158 => ?_) (fun g158 => ?_)
                                          ·
                                            refine L.no rfl rfl rfl rfl ?_
                                            refine L.no rfl rfl rfl rfl ?_
                                            refine L.no rfl rfl rfl rfl ?_
                                            refine L.rd (rd_pickT rfl rfl) rfl ?_
                                            refine L.nil ?_
                                            refine X.sq ?_
                                            refine V.condT rfl ?_
                                            refine V.seq ?_
                                            refine V.region ?_
                                            refine L.rd (rd_assign rfl) rfl ?_
                                            refine L.nil ?_
                                            refine X.sq ?_
                                            refine V.ret ?_
                                            refine X.sqRet ?_
                                            refine X.bkRet ?_
                                            refine X.ctRet ?_
                                            refine X.bkRet ?_
                                            refine X.sqRet ?_
                                            refine X.lpRet ?_
                                            refine X.bkRet ?_
                                            refine X.sqRet ?_
                                            refine ret_1 Yaam.results45 rfl ?_
                                            exact ⟨rfl, hEr3⟩
                                          ·
                                            refine L.yes rfl rfl ?_
                                            refine L.rd (rd_fieldAddr tok rfl rfl rfl rfl rfl rfl) rfl ?_
                                            refine L.yes rfl rfl ?_
                                            refine L.rd (rd_load1 tok rfl rfl rfl (hb3.cell (i := 4) rfl)) rfl ?_
                                            refine L.yes rfl rfl ?_
                                            refine L.rd (rd_neq rfl rfl) rfl ?_
                                            refine L.rd (rd_pickF rfl rfl) rfl ?_
                                            refine L.nil ?_
                                            refine X.sq ?_
                                            first | refine V.cond rfl (fun h162 => ?_) (fun h162 => ?_) | refine V.condB rfl (fun h162 => ?_) (fun h162 => ?_)
                                            ·
                                              refine V.seq ?_
                                              refine V.region ?_
                                              refine L.rd (rd_assign rfl) rfl ?_
                                              refine L.nil ?_
                                              refine X.sq ?_
                                              refine V.ret ?_
                                              refine X.sqRet ?_
                                              refine X.bkRet ?_
                                              refine X.ctRet ?_
                                              refine X.bkRet ?_
                                              refine X.sqRet ?_
                                              refine X.lpRet ?_
                                              refine X.bkRet ?_
                                              refine X.sqRet ?_
                                              refine ret_1 Yaam.results45 rfl ?_
                                              exact ⟨rfl, hEr3⟩
                                            ·
                                              refine V.skip ?_
                                              refine X.sq ?_
                                              obtain ⟨a, hga⟩ := nth_of_lt G (i - 1) (by omega)
                                              have ha := take_nth hga (i := i) (by omega)
                                              have hab := gd_bound hgd ha
                                              have hix : ((i : Int) - 1).toNat = i - 1 := by omega
                                              refine V.region ?_
                                              refine L.rd (rd_move rfl) rfl ?_
                                              refine L.rd (rd_move rfl) rfl ?_
                                              refine L.rd (rd_move rfl) rfl ?_
                                              refine L.rd (rd_move rfl) rfl ?_
                                              (refine L.rd (rd_sub3 rfl rfl ?_) rfl ?_; omega)
                                              (refine L.rd (rd_indexSlice (sz := 1) tok rfl rfl rfl rfl rfl rfl rfl ?_) rfl ?_; omega)
                                              refine L.rd (rd_load1 tok rfl rfl rfl (cell_at (i := ((i : Int) - 1).toNat) hG3 (by rw [hix]; exact iC_get hga) (by simp))) rfl ?_
                                              (refine L.rd (rd_add3 rfl rfl ?_) rfl ?_; omega)
                                              (refine L.rd (rd_indexSlice (sz := 1) tok rfl rfl rfl rfl rfl rfl rfl ?_) rfl ?_; omega)
                                              refine L.ef (e_store (vs := [_]) tok rfl rfl rfl rfl hG3 rfl (by simp [Value.oneCell']) (by simp [iC]; omega) ?_)
                                              (simp only [Nat.zero_add, Nat.mul_one, Int.toNat_natCast])
                                              rw [iC_putI _ _ _ (by omega)]
                                              refine L.nil ?_
                                              refine X.bk ?_
                                              exact X.ct ⟨_, (by repeat' (first | exact trivial | refine ⟨rfl, ?_⟩)), 1 + a, rfl, okN_un hTl (by omega) ha (by omega) (by omega) (by omega) (by omega), hE3.set (Nat.le_refl _) _ _, hG3.set _ _⟩
                                  ·
                                    refine L.no rfl rfl rfl rfl ?_
                                    refine L.no rfl rfl rfl rfl ?_
                                    refine L.no rfl rfl rfl rfl ?_
                                    refine L.no rfl rfl rfl rfl ?_
                                    refine L.noU rfl rfl rfl ?_
                                    refine L.noU rfl rfl rfl ?_
                                    refine L.noU rfl rfl rfl ?_
                                    refine L.no rfl rfl rfl rfl ?_
                                    refine L.rd (rd_pickF rfl rfl) rfl ?_
                                    refine L.nil ?_
                                    refine X.sq ?_
                                    refine V.condF rfl ?_
                                    refine V.skip ?_
                                    refine X.sq ?_
                                    refine V.seq ?_
                                    refine V.seq ?_
                                    refine V.region ?_
                                    refine L.rd (rd_move rfl) rfl ?_
                                    refine L.rd (rd_lss rfl rfl) rfl ?_
                                    refine L.rd (rd_move rfl) rfl ?_
                                    first | refine L.partG rfl rfl (fun g151 => ?_) (fun g151 => ?_) | refine L.partGB rfl rfl (fun g151 => ?_) (fun g151 => ?_)
                                    ·
                                      refine L.no rfl rfl rfl rfl ?_
                                      refine L.no rfl rfl rfl rfl ?_
                                      refine L.no rfl rfl rfl rfl ?_
                                      refine L.no rfl rfl rfl rfl ?_
                                      refine L.no rfl rfl rfl rfl ?_
                                      refine L.rd (rd_pickT rfl rfl) rfl ?_
                                      refine L.rd (rd_move rfl) rfl ?_
                                      refine L.no rfl rfl rfl rfl ?_
                                      refine L.no rfl rfl rfl rfl ?_
                                      refine L.no rfl rfl rfl rfl ?_
                                      refine L.rd (rd_pickT rfl rfl) rfl ?_
                                      refine L.nil ?_
                                      refine X.sq ?_
                                      refine V.condT rfl ?_
                                      refine V.seq ?_
                                      refine V.region ?_
                                      refine L.rd (rd_assign rfl) rfl ?_
                                      refine L.nil ?_
                                      refine X.sq ?_
                                      refine V.ret ?_
                                      refine X.sqRet ?_
                                      refine X.bkRet ?_
                                      refine X.ctRet ?_
                                      refine X.bkRet ?_
                                      refine X.sqRet ?_
                                      refine X.lpRet ?_
                                      refine X.bkRet ?_
                                      refine X.sqRet ?_
                                      refine ret_1 Yaam.results45 rfl ?_
                                      exact ⟨rfl, hEr3⟩
                                    ·
                                      refine L.yes rfl rfl ?_
                                      refine L.rd (rd_fieldAddr tok rfl rfl rfl rfl rfl rfl) rfl ?_
                                      refine L.yes rfl rfl ?_
                                      refine L.rd (rd_load1 tok rfl rfl rfl (hb3.cell (i := 3) rfl)) rfl ?_
                                      refine L.yes rfl rfl ?_
                                      refine L.rd (rd_move rfl) rfl ?_
                                      refine L.yes rfl rfl ?_
                                      (refine L.rd (rd_sub3 rfl rfl ?_) rfl ?_; omega)
                                      refine L.yes rfl rfl ?_
                                      refine L.rd (rd_neq rfl rfl) rfl ?_
                                      refine L.rd (rd_pickF rfl rfl) rfl ?_
                                      refine L.rd (rd_move rfl) rfl ?_
                                      first | refine L.partG rfl rfl (fun g158 => ?_) (fun g158 => ?_) | refine L.partGB rfl rfl (fun g158 => ?_) (fun g158 => ?_)
                                      ·
                                        refine L.no rfl rfl rfl rfl ?_
                                        refine L.no rfl rfl rfl rfl ?_
                                        refine L.no rfl rfl rfl rfl ?_
                                        refine L.rd (rd_pickT rfl rfl) rfl ?_
                                        refine L.nil ?_
                                        refine X.sq ?_
                                        refine V.condT rfl ?_
                                        refine V.seq ?_
                                        refine V.region ?_
                                        refine L.rd (rd_assign rfl) rfl ?_
                                        refine L.nil ?_
                                        refine X.sq ?_
                                        refine V.ret ?_
                                        refine X.sqRet ?_
                                        refine X.bkRet ?_
                                        refine X.ctRet ?_
                                        refine X.bkRet ?_
                                        refine X.sqRet ?_
                                        refine X.lpRet ?_
                                        refine X.bkRet ?_
                                        refine X.sqRet ?_
                                        refine ret_1 Yaam.results45 rfl ?_
                                        exact ⟨rfl, hEr3⟩
                                      ·
                                        refine L.yes rfl rfl ?_
                                        refine L.rd (rd_fieldAddr tok rfl rfl rfl rfl rfl rfl) rfl ?_
                                        refine L.yes rfl rfl ?_
                                        refine L.rd (rd_load1 tok rfl rfl rfl (hb3.cell (i := 4) rfl)) rfl ?_
                                        refine L.yes rfl rfl ?_
                                        refine L.rd (rd_neq rfl rfl) rfl ?_
                                        refine L.rd (rd_pickF rfl rfl) rfl ?_
                                        refine L.nil ?_
                                        refine X.sq ?_
                                        first | refine V.cond rfl (fun h162 => ?_) (fun h162 => ?_) | refine V.condB rfl (fun h162 => ?_) (fun h162 => ?_)
                                        ·
                                          refine V.seq ?_
                                          refine V.region ?_
                                          refine L.rd (rd_assign rfl) rfl ?_
                                          refine L.nil ?_
                                          refine X.sq ?_
                                          refine V.ret ?_
                                          refine X.sqRet ?_
                                          refine X.bkRet ?_
                                          refine X.ctRet ?_
                                          refine X.bkRet ?_
                                          refine X.sqRet ?_
                                          refine X.lpRet ?_
                                          refine X.bkRet ?_
                                          refine X.sqRet ?_
                                          refine ret_1 Yaam.results45 rfl ?_
                                          exact ⟨rfl, hEr3⟩
                                        ·
                                          refine V.skip ?_
                                          refine X.sq ?_
                                          obtain ⟨a, hga⟩ := nth_of_lt G (i - 1) (by omega)
                                          have ha := take_nth hga (i := i) (by omega)
                                          have hab := gd_bound hgd ha
                                          have hix : ((i : Int) - 1).toNat = i - 1 := by omega
                                          refine V.region ?_
                                          refine L.rd (rd_move rfl) rfl ?_
                                          refine L.rd (rd_move rfl) rfl ?_
                                          refine L.rd (rd_move rfl) rfl ?_
                                          refine L.rd (rd_move rfl) rfl ?_
                                          (refine L.rd (rd_sub3 rfl rfl ?_) rfl ?_; omega)
                                          (refine L.rd (rd_indexSlice (sz := 1) tok rfl rfl rfl rfl rfl rfl rfl ?_) rfl ?_; omega)
                                          refine L.rd (rd_load1 tok rfl rfl rfl (cell_at (i := ((i : Int) - 1).toNat) hG3 (by rw [hix]; exact iC_get hga) (by simp))) rfl ?_
                                          (refine L.rd (rd_add3 rfl rfl ?_) rfl ?_; omega)
                                          (refine L.rd (rd_indexSlice (sz := 1) tok rfl rfl rfl rfl rfl rfl rfl ?_) rfl ?_; omega)
                                          refine L.ef (e_store (vs := [_]) tok rfl rfl rfl rfl hG3 rfl (by simp [Value.oneCell']) (by simp [iC]; omega) ?_)
                                          (simp only [Nat.zero_add, Nat.mul_one, Int.toNat_natCast])
                                          rw [iC_putI _ _ _ (by omega)]
                                          refine L.nil ?_
                                          refine X.bk ?_
                                          exact X.ct ⟨_, (by repeat' (first | exact trivial | refine ⟨rfl, ?_⟩)), 1 + a, rfl, okN_un hTl (by omega) ha (by omega) (by omega) (by omega) (by omega), hE3.set (Nat.le_refl _) _ _, hG3.set _ _⟩
                                ·
                                  refine V.seq ?_
                                  refine V.seq ?_
                                  refine V.region ?_
                                  refine L.rd (rd_move rfl) rfl ?_
                                  refine L.rd (rd_lss rfl rfl) rfl ?_
                                  refine L.rd (rd_move rfl) rfl ?_
                                  first | refine L.partG rfl rfl (fun g69 => ?_) (fun g69 => ?_) | refine L.partGB rfl rfl (fun g69 => ?_) (fun g69 => ?_)
                                  ·
                                    refine L.no rfl rfl rfl rfl ?_
                                    refine L.no rfl rfl rfl rfl ?_
                                    refine L.no rfl rfl rfl rfl ?_
                                    refine L.no rfl rfl rfl rfl ?_
                                    refine L.no rfl rfl rfl rfl ?_
                                    refine L.rd (rd_pickT rfl rfl) rfl ?_
                                    refine L.nil ?_
                                    refine X.sq ?_
                                    refine V.condT rfl ?_
                                    refine V.seq ?_
                                    refine V.region ?_
                                    refine L.rd (rd_assign rfl) rfl ?_
                                    refine L.nil ?_
                                    refine X.sq ?_
                                    refine V.ret ?_
                                    refine X.sqRet ?_
                                    refine X.bkRet ?_
                                    refine X.ctRet ?_
                                    refine X.bkRet ?_
                                    refine X.sqRet ?_
                                    refine X.lpRet ?_
                                    refine X.bkRet ?_
                                    refine X.sqRet ?_
                                    refine ret_1 Yaam.results45 rfl ?_
                                    exact ⟨rfl, hEr3⟩
                                  ·
                                    refine L.yes rfl rfl ?_
                                    refine L.rd (rd_fieldAddr tok rfl rfl rfl rfl rfl rfl) rfl ?_
                                    refine L.yes rfl rfl ?_
                                    refine L.rd (rd_load1 tok rfl rfl rfl (hb3.cell (i := 4) rfl)) rfl ?_
                                    refine L.yes rfl rfl ?_
                                    refine L.rd (rd_move rfl) rfl ?_
                                    refine L.yes rfl rfl ?_
                                    (refine L.rd (rd_sub3 rfl rfl ?_) rfl ?_; omega)
                                    refine L.yes rfl rfl ?_
                                    refine L.rd (rd_neq rfl rfl) rfl ?_
                                    refine L.rd (rd_pickF rfl rfl) rfl ?_
                                    refine L.nil ?_
                                    refine X.sq ?_
                                    first | refine V.cond rfl (fun h75 => ?_) (fun h75 => ?_) | refine V.condB rfl (fun h75 => ?_) (fun h75 => ?_)
                                    ·
                                      refine V.seq ?_
                                      refine V.region ?_
                                      refine L.rd (rd_assign rfl) rfl ?_
                                      refine L.nil ?_
                                      refine X.sq ?_
                                      refine V.ret ?_
                                      refine X.sqRet ?_
                                      refine X.bkRet ?_
                                      refine X.ctRet ?_
                                      refine X.bkRet ?_
                                      refine X.sqRet ?_
                                      refine X.lpRet ?_
                                      refine X.bkRet ?_
                                      refine X.sqRet ?_
                                      refine ret_1 Yaam.results45 rfl ?_
                                      exact ⟨rfl, hEr3⟩
                                    ·
                                      refine V.skip ?_
                                      refine X.sq ?_
                                      refine V.seq ?_
                                      obtain ⟨a, hga⟩ := nth_of_lt G (i - 1) (by omega)
                                      have ha := take_nth hga (i := i) (by omega)
                                      have hab := gd_bound hgd ha
                                      have hix : ((i : Int) - 1).toNat = i - 1 := by omega
                                      refine V.region ?_
                                      refine L.rd (rd_move rfl) rfl ?_
                                      (refine L.rd (rd_sub3 rfl rfl ?_) rfl ?_; omega)
                                      refine L.rd (rd_move rfl) rfl ?_
                                      refine L.rd (rd_move rfl) rfl ?_
                                      (refine L.rd (rd_sub3 rfl rfl ?_) rfl ?_; omega)
                                      (refine L.rd (rd_indexSlice (sz := 1) tok rfl rfl rfl rfl rfl rfl rfl ?_) rfl ?_; omega)
                                      refine L.rd (rd_load1 tok rfl rfl rfl (cell_at (i := ((i : Int) - 1).toNat) hG3 (by rw [hix]; exact iC_get hga) (by simp))) rfl ?_
                                      (refine L.rd (rd_sub3 rfl rfl ?_) rfl ?_; omega)
                                      refine L.rd (rd_assign rfl) rfl ?_
                                      refine L.nil ?_
                                      refine X.sq ?_
                                      refine V.seq ?_
                                      refine V.seq ?_
                                      refine V.region ?_
                                      refine L.rd (rd_move rfl) rfl ?_
                                      refine L.rd (rd_lss rfl rfl) rfl ?_
                                      refine L.rd (rd_move rfl) rfl ?_
                                      first | refine L.partG rfl rfl (fun g86 => ?_) (fun g86 => ?_) | refine L.partGB rfl rfl (fun g86 => ?_) (fun g86 => ?_)
                                      ·
                                        refine L.no rfl rfl rfl rfl ?_
                                        refine L.no rfl rfl rfl rfl ?_
                                        refine L.no rfl rfl rfl rfl ?_
                                        refine L.no rfl rfl rfl rfl ?_
                                        refine L.rd (rd_pickT rfl rfl) rfl ?_
                                        refine L.nil ?_
                                        refine X.sq ?_
                                        refine V.condT rfl ?_
                                        refine V.seq ?_
                                        refine V.region ?_
                                        refine L.rd (rd_assign rfl) rfl ?_
                                        refine L.nil ?_
                                        refine X.sq ?_
                                        refine V.ret ?_
                                        refine X.sqRet ?_
                                        refine X.bkRet ?_
                                        refine X.ctRet ?_
                                        refine X.bkRet ?_
                                        refine X.sqRet ?_
                                        refine X.lpRet ?_
                                        refine X.bkRet ?_
                                        refine X.sqRet ?_
                                        refine ret_1 Yaam.results45 rfl ?_
                                        exact ⟨rfl, hEr3⟩
                                      ·
                                        refine L.yes rfl rfl ?_
                                        refine L.rd (rd_fieldAddr tok rfl rfl rfl rfl rfl rfl) rfl ?_
                                        refine L.yes rfl rfl ?_
                                        refine L.rd (rd_load1 tok rfl rfl rfl (hb3.cell (i := 3) rfl)) rfl ?_
                                        refine L.yes rfl rfl ?_
                                        refine L.rd (rd_move rfl) rfl ?_
                                        refine L.yes rfl rfl ?_
                                        refine L.rd (rd_neq rfl rfl) rfl ?_
                                        refine L.rd (rd_pickF rfl rfl) rfl ?_
                                        refine L.nil ?_
                                        refine X.sq ?_
                                        first | refine V.cond rfl (fun h91 => ?_) (fun h91 => ?_) | refine V.condB rfl (fun h91 => ?_) (fun h91 => ?_)
                                        ·
                                          refine V.seq ?_
                                          refine V.region ?_
                                          refine L.rd (rd_assign rfl) rfl ?_
                                          refine L.nil ?_
                                          refine X.sq ?_
                                          refine V.ret ?_
                                          refine X.sqRet ?_
                                          refine X.bkRet ?_
                                          refine X.ctRet ?_
                                          refine X.bkRet ?_
                                          refine X.sqRet ?_
                                          refine X.lpRet ?_
                                          refine X.bkRet ?_
                                          refine X.sqRet ?_
                                          refine ret_1 Yaam.results45 rfl ?_
                                          exact ⟨rfl, hEr3⟩
                                        ·
                                          refine V.skip ?_
                                          refine X.sq ?_
                                          obtain ⟨j, hj⟩ : ∃ j : Nat, (j : Int) = (i : Int) - 1 - a := ⟨((i : Int) - 1 - a).toNat, by omega⟩
                                          obtain ⟨b, hgb⟩ := nth_of_lt G j (by omega)
                                          have hb := take_nth hgb (i := i) (by omega)
                                          have hbb := gd_bound hgd hb
                                          have hjx : ((i : Int) - 1 - a).toNat = j := by omega
                                          refine V.draw [14] mixed ?_
                                          refine D.take 0 [true, false, false, false, false, false, false, false, false, false, false, false, false, false, false] (.bk (.ct (.bk (.sq (.lp (.bk (.sq .bd))))))) rfl (rd_move rfl) rfl (by kernel_rfl) rfl (LeC.drew _) ?_
                                          refine D.take 1 [true, true, false, false, false, false, false, false, false, false, false, false, false, false, false] (.bk (.ct (.bk (.sq (.lp (.bk (.sq .bd))))))) rfl (rd_move rfl) rfl (by kernel_rfl) rfl (LeC.drew _) ?_
                                          refine D.take 2 [true, true, true, false, false, false, false, false, false, false, false, false, false, false, false] (.bk (.ct (.bk (.sq (.lp (.bk (.sq .bd))))))) rfl (rd_move rfl) rfl (by kernel_rfl) rfl (LeC.drew _) ?_
                                          refine D.take 3 [true, true, true, true, false, false, false, false, false, false, false, false, false, false, false] (.bk (.ct (.bk (.sq (.lp (.bk (.sq .bd))))))) rfl (rd_move rfl) rfl (by kernel_rfl) rfl (LeC.drew _) ?_
                                          (refine D.take 4 [true, true, true, true, true, false, false, false, false, false, false, false, false, false, false] (.bk (.ct (.bk (.sq (.lp (.bk (.sq .bd))))))) rfl (rd_sub3 rfl rfl ?_) rfl (by kernel_rfl) rfl (LeC.drew _) ?_; omega)
                                          (refine D.take 5 [true, true, true, true, true, true, false, false, false, false, false, false, false, false, false] (.bk (.ct (.bk (.sq (.lp (.bk (.sq .bd))))))) rfl (rd_indexSlice (sz := 1) tok rfl rfl rfl rfl rfl rfl rfl ?_) rfl (by kernel_rfl) rfl (LeC.drew _) ?_; omega)
                                          refine D.take 6 [true, true, true, true, true, true, true, false, false, false, false, false, false, false, false] (.bk (.ct (.bk (.sq (.lp (.bk (.sq .bd))))))) rfl (rd_load1 tok rfl rfl rfl (cell_at (i := ((i : Int) - 1).toNat) hG3 (by rw [hix]; exact iC_get hga) (by simp))) rfl (by kernel_rfl) rfl (LeC.drew _) ?_
                                          (refine D.take 7 [true, true, true, true, true, true, true, true, false, false, false, false, false, false, false] (.bk (.ct (.bk (.sq (.lp (.bk (.sq .bd))))))) rfl (rd_add3 rfl rfl ?_) rfl (by kernel_rfl) rfl (LeC.drew _) ?_; omega)
                                          refine D.take 8 [true, true, true, true, true, true, true, true, true, false, false, false, false, false, false] (.bk (.ct (.bk (.sq (.lp (.bk (.sq .bd))))))) rfl (rd_move rfl) rfl (by kernel_rfl) rfl (LeC.drew _) ?_
                                          refine D.take 9 [true, true, true, true, true, true, true, true, true, true, false, false, false, false, false] (.bk (.ct (.bk (.sq (.lp (.bk (.sq .bd))))))) rfl (rd_move rfl) rfl (by kernel_rfl) rfl (LeC.drew _) ?_
                                          (refine D.take 10 [true, true, true, true, true, true, true, true, true, true, true, false, false, false, false] (.bk (.ct (.bk (.sq (.lp (.bk (.sq .bd))))))) rfl (rd_indexSlice (sz := 1) tok rfl rfl rfl rfl rfl rfl rfl ?_) rfl (by kernel_rfl) rfl (LeC.drew _) ?_; omega)
                                          refine D.take 11 [true, true, true, true, true, true, true, true, true, true, true, true, false, false, false] (.bk (.ct (.bk (.sq (.lp (.bk (.sq .bd))))))) rfl (rd_load1 tok rfl rfl rfl (cell_at (i := ((i : Int) - 1 - a).toNat) hG3 (by rw [hjx]; exact iC_get hgb) (by simp))) rfl (by kernel_rfl) rfl (LeC.drew _) ?_
                                          (refine D.take 12 [true, true, true, true, true, true, true, true, true, true, true, true, true, false, false] (.bk (.ct (.bk (.sq (.lp (.bk (.sq .bd))))))) rfl (rd_add3 rfl rfl ?_) rfl (by kernel_rfl) rfl (LeC.drew _) ?_; omega)
                                          (refine D.take 13 [true, true, true, true, true, true, true, true, true, true, true, true, true, true, false] (.bk (.ct (.bk (.sq (.lp (.bk (.sq .bd))))))) rfl (rd_indexSlice (sz := 1) tok rfl rfl rfl rfl rfl rfl rfl ?_) rfl (by kernel_rfl) rfl (LeC.drew _) ?_; omega)
                                          refine D.one 14 [true, true, true, true, true, true, true, true, true, true, true, true, true, true, true] rfl (by kernel_rfl) rfl (e_store (vs := [_]) tok rfl rfl rfl rfl hG3.drew rfl (by simp [Value.oneCell']) (by simp [iC]; omega) ⟨fun h => (by cases h), ?_⟩)
                                          (simp only [Nat.zero_add, Nat.mul_one, Int.toNat_natCast])
                                          rw [iC_putI _ _ _ (by omega)]
                                          refine D.done (by kernel_rfl) ?_
                                          refine X.bk ?_
                                          exact X.ct ⟨_, (by repeat' (first | exact trivial | refine ⟨rfl, ?_⟩)), 1 + a + b, rfl, okN_bin hTl (by omega) ha hj hb (by omega) (by omega) (by omega) (by omega) (by omega) (by omega), hE3.drew.set (Nat.le_refl _) _ _, hG3.drew.set _ _⟩
                        ·
                          rintro l w7 ⟨s, rfl, hs, hE7, hG7⟩
                          refine X.bk ?_
                          refine X.sq ?_
                          refine V.region ?_
                          refine L.rd (rd_move rfl) rfl ?_
                          (refine L.rd (rd_add3 rfl rfl ?_) rfl ?_; omega)
                          refine L.rd (rd_assign rfl) rfl ?_
                          refine L.nil ?_
                          exact X.lp ⟨_, _, by omega, (by repeat' (first | exact trivial | refine ⟨rfl, ?_⟩)), i + 1, G.set i s, rfl, rfl, by omega, hE7, hG7, by simp [hGl], Gd.next ht hGl hgd hs⟩
          ·
            refine V.exit ?_
            refine X.sqExit ?_
            refine X.lpExit ?_
            refine X.bkHere ?_
            refine X.sq ?_
            refine V.seq ?_
            have hin : i = ns.length := by omega
            subst hin
            rw [List.take_of_length_le (Nat.le_refl _), List.take_of_length_le (by omega)] at hgd
            obtain ⟨g, hg⟩ := nth_of_lt G (ns.length - 1) (by omega)
            have hix : ((ns.length : Int) - 1).toNat = ns.length - 1 := by omega
            refine V.region ?_
            refine L.rd (rd_move rfl) rfl ?_
            refine L.rd (rd_move rfl) rfl ?_
            (refine L.rd (rd_sub3 rfl rfl ?_) rfl ?_; omega)
            (refine L.rd (rd_indexSlice (sz := 1) tok rfl rfl rfl rfl rfl rfl rfl ?_) rfl ?_; omega)
            refine L.rd (rd_load1 tok rfl rfl rfl (cell_at (i := ((ns.length : Int) - 1).toNat) hG (by rw [hix]; exact iC_get hg) (by simp))) rfl ?_
            refine L.rd (rd_move rfl) rfl ?_
            refine L.rd (rd_eql rfl rfl) rfl ?_
            refine L.rd (rd_assign rfl) rfl ?_
            refine L.nil ?_
            refine X.sq ?_
            refine V.ret ?_
            refine ret_1 Yaam.results45 rfl ?_
            refine ⟨congrArg Value.bool (decide_eq_false fun hgn => hnot ?_), hEr⟩
            obtain ⟨t, b, hw, hat, hb, hs⟩ := gd_build hgd (ns.length - 1) (by omega)
            rw [hg] at hs
            simp only [Option.some.injEq] at hs
            exact wf_of_at hw hat (by omega) (by omega) (by omega) (by omega)

/-- what wfSub vouches for -/
def WsP (ns : List Nd) (ix : Int) (w : World) (r : Value) (w' : World) : Prop := ∃ (s : Int) (ok : Bool), r = .tuple #[.int .i64 s, .bool ok] ∧ (ok = true → ∃ (t : Tre) (b : Nat), Wt t ∧ At ns t b ∧ (b : Int) + tsz t = ix + 1 ∧ s = tsz t) ∧ Ext w.heap.size w w'
theorem WsP.bad {ns : List Nd} {ix : Int} {w w' : World} (he : Ext w.heap.size w w') : WsP ns ix w (.tuple #[.int .i64 0, .bool false]) w' := ⟨_, _, rfl, fun h => (by cases h), he⟩
theorem wfSub_snd (ns : List Nd) (nv : Value) (w0 : World) (hN : Rs w0 5 nv ns.length (ns.flatMap ndE)) (hlen : ns.length ≤ 1000000000) : ∀ (n : Nat) (ix : Int) (w : World), ix + 1 ≤ n → -1000000000000 ≤ ix → ix ≤ 1000000000000 → Ext w0.heap.size w0 w → Ret Yaam.prog 83 [nv, .int .i64 ix] w (WsP ns ix w) := by
  obtain ⟨na, nc, rfl, hfn⟩ := hN.form
  intro n
  induction n using Nat.strongRecOn with
  | _ n ih =>
  intro ix w hix hlo hhi hE
  refine enter2 Yaam.func83 Yaam.ntmps83 (by kernel_rfl) rfl rfl ?_
  refine V.seq ?_
  refine V.region ?_
  refine L.rd (rd_assign rfl) rfl ?_
  refine L.rd (rd_assign rfl) rfl ?_
  refine L.nil ?_
  refine X.sq ?_
  refine V.seq ?_
  refine V.seq ?_
  refine V.region ?_
  refine L.rd (rd_move rfl) rfl ?_
  refine L.rd (rd_lss rfl rfl) rfl ?_
  refine L.rd (rd_move rfl) rfl ?_
  first | refine L.partG rfl rfl (fun g15 => ?_) (fun g15 => ?_) | refine L.partGB rfl rfl (fun g15 => ?_) (fun g15 => ?_)
  ·
    refine L.no rfl rfl rfl rfl ?_
    refine L.no rfl rfl rfl rfl ?_
    refine L.no rfl rfl rfl rfl ?_
    refine L.no rfl rfl rfl rfl ?_
    refine L.rd (rd_pickT rfl rfl) rfl ?_
    refine L.nil ?_
    refine X.sq ?_
    refine V.condT rfl ?_
    refine V.seq ?_
    refine V.region ?_
    refine L.rd (rd_assign rfl) rfl ?_
    refine L.rd (rd_assign rfl) rfl ?_
    refine L.nil ?_
    refine X.sq ?_
    refine V.ret ?_
    refine X.sqRet ?_
    refine ret_2 Yaam.results83 rfl rfl ?_
    exact WsP.bad (Ext.refl _ _)
  ·
    refine L.yes rfl rfl ?_
    refine L.rd (rd_move rfl) rfl ?_
    refine L.yes rfl rfl ?_
    refine L.rd (rd_move rfl) rfl ?_
    refine L.yes rfl rfl ?_
    refine L.rd (rd_lenSlice tok rfl rfl rfl) rfl ?_
    refine L.yes rfl rfl ?_
    refine L.rd (rd_geq rfl rfl) rfl ?_
    refine L.rd (rd_pickF rfl rfl) rfl ?_
    refine L.nil ?_
    refine X.sq ?_
    first | refine V.cond rfl (fun h20 => ?_) (fun h20 => ?_) | refine V.condB rfl (fun h20 => ?_) (fun h20 => ?_)
    ·
      refine V.seq ?_
      refine V.region ?_
      refine L.rd (rd_assign rfl) rfl ?_
      refine L.rd (rd_assign rfl) rfl ?_
      refine L.nil ?_
      refine X.sq ?_
      refine V.ret ?_
      refine X.sqRet ?_
      refine ret_2 Yaam.results83 rfl rfl ?_
      exact WsP.bad (Ext.refl _ _)
    ·
      refine V.skip ?_
      refine X.sq ?_
      refine V.seq ?_
      obtain ⟨i, rfl⟩ : ∃ i : Nat, ix = i := ⟨ix.toNat, by omega⟩
      obtain ⟨b1, o1, rfl, hc1⟩ := hfn.resolve_left (by omega)
      obtain ⟨⟨k, v, x, lf_, rt⟩, ht⟩ := nth_of_lt ns i (by omega)
      have hcx := (hc1.le hE.leC).sub (i * 5) (ndE (k, v, x, lf_, rt)) (fun j u hu => fm_get ndE_len ns i _ ht j u hu)
      refine V.region ?_
      refine L.rd (rd_move rfl) rfl ?_
      refine L.rd (rd_move rfl) rfl ?_
      (refine L.rd (rd_indexSlice (sz := 5) tok rfl rfl rfl rfl rfl rfl rfl ?_) rfl ?_; omega)
      refine L.rd (rd_loadN tok rfl rfl rfl hcx rfl) rfl ?_
      refine L.ef (e_alloc (cs := [_, _, _, _, _]) tok rfl rfl (by first | (simp only [size_addB, size_setB, size_drew]; rfl) | rfl) rfl ?_)
      refine L.ef (e_store (vs := [_, _, _, _, _]) tok rfl rfl rfl rfl (by (repeat (first | assumption | (refine Bl.new' ?_ _ _; first | with_reducible rfl | (simp only [size_addB, size_setB, size_drew]; done)) | apply Bl.add | apply Bl.drew | (apply Bl.setNe; omega) | (refine Bl.set' ?_ _ _; (try simp only [size_addB, size_setB, size_drew]); omega)))) rfl (by simp [Value.oneCell']) (by simp) ?_)
      refine L.nil ?_
      refine X.sq ?_
      refine V.seq ?_
      refine V.seq ?_
      generalize hw3 : setB _ _ _ _ = w3
      have hb3 : Bl w3 w.heap.size 80 [.int .i64 k, .int .i64 v, .int .i64 x, .int .i64 lf_, .int .i64 rt] := bl_of_new hw3
      have he3 := ext_of_new hw3
      have hE3 := hE.next he3
      refine V.region ?_
      refine L.rd (rd_fieldAddr tok rfl rfl rfl rfl rfl rfl) rfl ?_
      refine L.rd (rd_load1 tok rfl rfl rfl (hb3.cell rfl)) rfl ?_
      refine L.nil ?_
      refine X.sq ?_
      refine V.block ?_
      refine V.seq ?_
      refine V.region ?_
      refine L.rd (rd_eql rfl rfl) rfl ?_
      refine L.rd (rd_assign rfl) rfl ?_
      refine L.nil ?_
      refine X.sq ?_
      first | refine V.cond rfl (fun h27 => ?_) (fun h27 => ?_) | refine V.condB rfl (fun h27 => ?_) (fun h27 => ?_)
      ·
        refine V.seq ?_
        refine V.seq ?_
        refine V.region ?_
        refine L.rd (rd_fieldAddr tok rfl rfl rfl rfl rfl rfl) rfl ?_
        refine L.rd (rd_load1 tok rfl rfl rfl (hb3.cell (i := 2) rfl)) rfl ?_
        refine L.rd (rd_neq rfl rfl) rfl ?_
        refine L.rd (rd_move rfl) rfl ?_
        first | refine L.partG rfl rfl (fun g32 => ?_) (fun g32 => ?_) | refine L.partGB rfl rfl (fun g32 => ?_) (fun g32 => ?_)
        ·
          refine L.no rfl rfl rfl rfl ?_
          refine L.no rfl rfl rfl rfl ?_
          refine L.no rfl rfl rfl rfl ?_
          refine L.rd (rd_pickT rfl rfl) rfl ?_
          refine L.rd (rd_move rfl) rfl ?_
          refine L.no rfl rfl rfl rfl ?_
          refine L.no rfl rfl rfl rfl ?_
          refine L.no rfl rfl rfl rfl ?_
          refine L.rd (rd_pickT rfl rfl) rfl ?_
          refine L.nil ?_
          refine X.sq ?_
          refine V.condT rfl ?_
          refine V.seq ?_
          refine V.region ?_
          refine L.rd (rd_assign rfl) rfl ?_
          refine L.rd (rd_assign rfl) rfl ?_
          refine L.nil ?_
          refine X.sq ?_
          refine V.ret ?_
          refine X.sqRet ?_
          refine X.bkRet ?_
          refine X.sqRet ?_
          refine ret_2 Yaam.results83 rfl rfl ?_
          exact WsP.bad he3
        ·
          refine L.yes rfl rfl ?_
          refine L.rd (rd_fieldAddr tok rfl rfl rfl rfl rfl rfl) rfl ?_
          refine L.yes rfl rfl ?_
          refine L.rd (rd_load1 tok rfl rfl rfl (hb3.cell (i := 3) rfl)) rfl ?_
          refine L.yes rfl rfl ?_
          refine L.rd (rd_neq rfl rfl) rfl ?_
          refine L.rd (rd_pickF rfl rfl) rfl ?_
          refine L.rd (rd_move rfl) rfl ?_
          first | refine L.partG rfl rfl (fun g37 => ?_) (fun g37 => ?_) | refine L.partGB rfl rfl (fun g37 => ?_) (fun g37 => ?_)
          ·
            refine L.no rfl rfl rfl rfl ?_
            refine L.no rfl rfl rfl rfl ?_
            refine L.no rfl rfl rfl rfl ?_
            refine L.rd (rd_pickT rfl rfl) rfl ?_
            refine L.nil ?_
            refine X.sq ?_
            refine V.condT rfl ?_
            refine V.seq ?_
            refine V.region ?_
            refine L.rd (rd_assign rfl) rfl ?_
            refine L.rd (rd_assign rfl) rfl ?_
            refine L.nil ?_
            refine X.sq ?_
            refine V.ret ?_
            refine X.sqRet ?_
            refine X.bkRet ?_
            refine X.sqRet ?_
            refine ret_2 Yaam.results83 rfl rfl ?_
            exact WsP.bad he3
          ·
            refine L.yes rfl rfl ?_
            refine L.rd (rd_fieldAddr tok rfl rfl rfl rfl rfl rfl) rfl ?_
            refine L.yes rfl rfl ?_
            refine L.rd (rd_load1 tok rfl rfl rfl (hb3.cell (i := 4) rfl)) rfl ?_
            refine L.yes rfl rfl ?_
            refine L.rd (rd_neq rfl rfl) rfl ?_
            refine L.rd (rd_pickF rfl rfl) rfl ?_
            refine L.nil ?_
            refine X.sq ?_
            first | refine V.cond rfl (fun h41 => ?_) (fun h41 => ?_) | refine V.condB rfl (fun h41 => ?_) (fun h41 => ?_)
            ·
              refine V.seq ?_
              refine V.region ?_
              refine L.rd (rd_assign rfl) rfl ?_
              refine L.rd (rd_assign rfl) rfl ?_
              refine L.nil ?_
              refine X.sq ?_
              refine V.ret ?_
              refine X.sqRet ?_
              refine X.bkRet ?_
              refine X.sqRet ?_
              refine ret_2 Yaam.results83 rfl rfl ?_
              exact WsP.bad he3
            ·
              refine V.skip ?_
              refine X.sq ?_
              refine V.seq ?_
              refine V.region ?_
              refine L.rd (rd_assign rfl) rfl ?_
              refine L.rd (rd_assign rfl) rfl ?_
              refine L.nil ?_
              refine X.sq ?_
              refine V.ret ?_
              refine X.bkRet ?_
              refine X.sqRet ?_
              refine ret_2 Yaam.results83 rfl rfl ?_
              refine ⟨1, true, rfl, fun _ => ⟨lf 1 v 0, i, wt_num v, ?_, by rw [tsz_lf]; omega, rfl⟩, he3⟩
              obtain ⟨rfl, rfl, rfl, rfl⟩ : k = 1 ∧ x = 0 ∧ lf_ = -1 ∧ rt = -1 := by omega
              exact at_one ht
      ·
        refine V.seq ?_
        refine V.region ?_
        refine L.rd (rd_eql rfl rfl) rfl ?_
        refine L.rd (rd_assign rfl) rfl ?_
        refine L.nil ?_
        refine X.sq ?_
        first | refine V.cond rfl (fun h42 => ?_) (fun h42 => ?_) | refine V.condB rfl (fun h42 => ?_) (fun h42 => ?_)
        ·
          refine V.seq ?_
          refine V.seq ?_
          refine V.region ?_
          refine L.rd (rd_fieldAddr tok rfl rfl rfl rfl rfl rfl) rfl ?_
          refine L.rd (rd_load1 tok rfl rfl rfl (hb3.cell (i := 1) rfl)) rfl ?_
          refine L.rd (rd_neq rfl rfl) rfl ?_
          refine L.rd (rd_move rfl) rfl ?_
          first | refine L.partG rfl rfl (fun g47 => ?_) (fun g47 => ?_) | refine L.partGB rfl rfl (fun g47 => ?_) (fun g47 => ?_)
          ·
            refine L.no rfl rfl rfl rfl ?_
            refine L.no rfl rfl rfl rfl ?_
            refine L.no rfl rfl rfl rfl ?_
            refine L.rd (rd_pickT rfl rfl) rfl ?_
            refine L.rd (rd_move rfl) rfl ?_
            refine L.no rfl rfl rfl rfl ?_
            refine L.no rfl rfl rfl rfl ?_
            refine L.no rfl rfl rfl rfl ?_
            refine L.rd (rd_pickT rfl rfl) rfl ?_
            refine L.rd (rd_move rfl) rfl ?_
            refine L.no rfl rfl rfl rfl ?_
            refine L.no rfl rfl rfl rfl ?_
            refine L.no rfl rfl rfl rfl ?_
            refine L.rd (rd_pickT rfl rfl) rfl ?_
            refine L.rd (rd_move rfl) rfl ?_
            refine L.no rfl rfl rfl rfl ?_
            refine L.no rfl rfl rfl rfl ?_
            refine L.no rfl rfl rfl rfl ?_
            refine L.rd (rd_pickT rfl rfl) rfl ?_
            refine L.nil ?_
            refine X.sq ?_
            refine V.condT rfl ?_
            refine V.seq ?_
            refine V.region ?_
            refine L.rd (rd_assign rfl) rfl ?_
            refine L.rd (rd_assign rfl) rfl ?_
            refine L.nil ?_
            refine X.sq ?_
            refine V.ret ?_
            refine X.sqRet ?_
            refine X.bkRet ?_
            refine X.sqRet ?_
            refine ret_2 Yaam.results83 rfl rfl ?_
            exact WsP.bad he3
          ·
            refine L.yes rfl rfl ?_
            refine L.rd (rd_fieldAddr tok rfl rfl rfl rfl rfl rfl) rfl ?_
            refine L.yes rfl rfl ?_
            refine L.rd (rd_load1 tok rfl rfl rfl (hb3.cell (i := 2) rfl)) rfl ?_
            refine L.yes rfl rfl ?_
            refine L.rd (rd_lss rfl rfl) rfl ?_
            refine L.rd (rd_pickF rfl rfl) rfl ?_
            refine L.rd (rd_move rfl) rfl ?_
            first | refine L.partG rfl rfl (fun g52 => ?_) (fun g52 => ?_) | refine L.partGB rfl rfl (fun g52 => ?_) (fun g52 => ?_)
            ·
              refine L.no rfl rfl rfl rfl ?_
              refine L.no rfl rfl rfl rfl ?_
              refine L.no rfl rfl rfl rfl ?_
              refine L.rd (rd_pickT rfl rfl) rfl ?_
              refine L.rd (rd_move rfl) rfl ?_
              refine L.no rfl rfl rfl rfl ?_
              refine L.no rfl rfl rfl rfl ?_
              refine L.no rfl rfl rfl rfl ?_
              refine L.rd (rd_pickT rfl rfl) rfl ?_
              refine L.rd (rd_move rfl) rfl ?_
              refine L.no rfl rfl rfl rfl ?_
              refine L.no rfl rfl rfl rfl ?_
              refine L.no rfl rfl rfl rfl ?_
              refine L.rd (rd_pickT rfl rfl) rfl ?_
              refine L.nil ?_
              refine X.sq ?_
              refine V.condT rfl ?_
              refine V.seq ?_
              refine V.region ?_
              refine L.rd (rd_assign rfl) rfl ?_
              refine L.rd (rd_assign rfl) rfl ?_
              refine L.nil ?_
              refine X.sq ?_
              refine V.ret ?_
              refine X.sqRet ?_
              refine X.bkRet ?_
              refine X.sqRet ?_
              refine ret_2 Yaam.results83 rfl rfl ?_
              exact WsP.bad he3
            ·
              refine L.yes rfl rfl ?_
              refine L.rd (rd_fieldAddr tok rfl rfl rfl rfl rfl rfl) rfl ?_
              refine L.yes rfl rfl ?_
              refine L.rd (rd_load1 tok rfl rfl rfl (hb3.cell (i := 2) rfl)) rfl ?_
              refine L.yes rfl rfl ?_
              refine L.rd (rd_geq rfl rfl) rfl ?_
              refine L.rd (rd_pickF rfl rfl) rfl ?_
              refine L.rd (rd_move rfl) rfl ?_
              first | refine L.partG rfl rfl (fun g57 => ?_) (fun g57 => ?_) | refine L.partGB rfl rfl (fun g57 => ?_) (fun g57 => ?_)
              ·
                refine L.no rfl rfl rfl rfl ?_
                refine L.no rfl rfl rfl rfl ?_
                refine L.no rfl rfl rfl rfl ?_
                refine L.rd (rd_pickT rfl rfl) rfl ?_
                refine L.rd (rd_move rfl) rfl ?_
                refine L.no rfl rfl rfl rfl ?_
                refine L.no rfl rfl rfl rfl ?_
                refine L.no rfl rfl rfl rfl ?_
                refine L.rd (rd_pickT rfl rfl) rfl ?_
                refine L.nil ?_
                refine X.sq ?_
                refine V.condT rfl ?_
                refine V.seq ?_
                refine V.region ?_
                refine L.rd (rd_assign rfl) rfl ?_
                refine L.rd (rd_assign rfl) rfl ?_
                refine L.nil ?_
                refine X.sq ?_
                refine V.ret ?_
                refine X.sqRet ?_
                refine X.bkRet ?_
                refine X.sqRet ?_
                refine ret_2 Yaam.results83 rfl rfl ?_
                exact WsP.bad he3
              ·
                refine L.yes rfl rfl ?_
                refine L.rd (rd_fieldAddr tok rfl rfl rfl rfl rfl rfl) rfl ?_
                refine L.yes rfl rfl ?_
                refine L.rd (rd_load1 tok rfl rfl rfl (hb3.cell (i := 3) rfl)) rfl ?_
                refine L.yes rfl rfl ?_
                refine L.rd (rd_neq rfl rfl) rfl ?_
                refine L.rd (rd_pickF rfl rfl) rfl ?_
                refine L.rd (rd_move rfl) rfl ?_
                first | refine L.partG rfl rfl (fun g62 => ?_) (fun g62 => ?_) | refine L.partGB rfl rfl (fun g62 => ?_) (fun g62 => ?_)
                ·
                  refine L.no rfl rfl rfl rfl ?_
                  refine L.no rfl rfl rfl rfl ?_
                  refine L.no rfl rfl rfl rfl ?_
                  refine L.rd (rd_pickT rfl rfl) rfl ?_
                  refine L.nil ?_
                  refine X.sq ?_
                  refine V.condT rfl ?_
                  refine V.seq ?_
                  refine V.region ?_
                  refine L.rd (rd_assign rfl) rfl ?_
                  refine L.rd (rd_assign rfl) rfl ?_
                  refine L.nil ?_
                  refine X.sq ?_
                  refine V.ret ?_
                  refine X.sqRet ?_
                  refine X.bkRet ?_
                  refine X.sqRet ?_
                  refine ret_2 Yaam.results83 rfl rfl ?_
                  exact WsP.bad he3
                ·
                  refine L.yes rfl rfl ?_
                  refine L.rd (rd_fieldAddr tok rfl rfl rfl rfl rfl rfl) rfl ?_
                  refine L.yes rfl rfl ?_
                  refine L.rd (rd_load1 tok rfl rfl rfl (hb3.cell (i := 4) rfl)) rfl ?_
                  refine L.yes rfl rfl ?_
                  refine L.rd (rd_neq rfl rfl) rfl ?_
                  refine L.rd (rd_pickF rfl rfl) rfl ?_
                  refine L.nil ?_
                  refine X.sq ?_
                  first | refine V.cond rfl (fun h66 => ?_) (fun h66 => ?_) | refine V.condB rfl (fun h66 => ?_) (fun h66 => ?_)
                  ·
                    refine V.seq ?_
                    refine V.region ?_
                    refine L.rd (rd_assign rfl) rfl ?_
                    refine L.rd (rd_assign rfl) rfl ?_
                    refine L.nil ?_
                    refine X.sq ?_
                    refine V.ret ?_
                    refine X.sqRet ?_
                    refine X.bkRet ?_
                    refine X.sqRet ?_
                    refine ret_2 Yaam.results83 rfl rfl ?_
                    exact WsP.bad he3
                  ·
                    refine V.skip ?_
                    refine X.sq ?_
                    refine V.seq ?_
                    refine V.region ?_
                    refine L.rd (rd_assign rfl) rfl ?_
                    refine L.rd (rd_assign rfl) rfl ?_
                    refine L.nil ?_
                    refine X.sq ?_
                    refine V.ret ?_
                    refine X.bkRet ?_
                    refine X.sqRet ?_
                    refine ret_2 Yaam.results83 rfl rfl ?_
                    refine ⟨1, true, rfl, fun _ => ⟨lf 2 0 x, i, wt_var (by omega), ?_, by rw [tsz_lf]; omega, rfl⟩, he3⟩
                    obtain ⟨rfl, rfl, rfl, rfl⟩ : k = 2 ∧ v = 0 ∧ lf_ = -1 ∧ rt = -1 := by omega
                    exact at_one ht
        ·
          refine V.seq ?_
          refine V.seq ?_
          refine V.region ?_
          refine L.rd (rd_eql rfl rfl) rfl ?_
          refine L.rd (rd_assign rfl) rfl ?_
          refine L.nil ?_
          refine X.sq ?_
          first | refine V.cond rfl (fun h67 => ?_) (fun h67 => ?_) | refine V.condB rfl (fun h67 => ?_) (fun h67 => ?_)
          ·
            refine V.skip ?_
            refine X.sq ?_
            first | refine V.cond rfl (fun h67_ => ?_) (fun h67_ => ?_) | refine V.condB rfl (fun h67_ => ?_) (fun h67_ => ?_)
            ·
              refine V.seq ?_
              refine V.seq ?_
              refine V.region ?_
              refine L.rd (rd_fieldAddr tok rfl rfl rfl rfl rfl rfl) rfl ?_
              refine L.rd (rd_load1 tok rfl rfl rfl (hb3.cell (i := 2) rfl)) rfl ?_
              refine L.rd (rd_neq rfl rfl) rfl ?_
              refine L.rd (rd_move rfl) rfl ?_
              first | refine L.partG rfl rfl (fun g73 => ?_) (fun g73 => ?_) | refine L.partGB rfl rfl (fun g73 => ?_) (fun g73 => ?_)
              ·
                refine L.no rfl rfl rfl rfl ?_
                refine L.no rfl rfl rfl rfl ?_
                refine L.no rfl rfl rfl rfl ?_
                refine L.rd (rd_pickT rfl rfl) rfl ?_
                refine L.rd (rd_move rfl) rfl ?_
                refine L.no rfl rfl rfl rfl ?_
                refine L.no rfl rfl rfl rfl ?_
                refine L.no rfl rfl rfl rfl ?_
                refine L.no rfl rfl rfl rfl ?_
                refine L.no rfl rfl rfl rfl ?_
                refine L.rd (rd_pickT rfl rfl) rfl ?_
                refine L.nil ?_
                refine X.sq ?_
                refine V.condT rfl ?_
                refine V.seq ?_
                refine V.region ?_
                refine L.rd (rd_assign rfl) rfl ?_
                refine L.rd (rd_assign rfl) rfl ?_
                refine L.nil ?_
                refine X.sq ?_
                refine V.ret ?_
                refine X.sqRet ?_
                refine X.bkRet ?_
                refine X.sqRet ?_
                refine ret_2 Yaam.results83 rfl rfl ?_
                exact WsP.bad he3
              ·
                refine L.yes rfl rfl ?_
                refine L.rd (rd_fieldAddr tok rfl rfl rfl rfl rfl rfl) rfl ?_
                refine L.yes rfl rfl ?_
                refine L.rd (rd_load1 tok rfl rfl rfl (hb3.cell (i := 4) rfl)) rfl ?_
                refine L.yes rfl rfl ?_
                refine L.rd (rd_neq rfl rfl) rfl ?_
                refine L.rd (rd_pickF rfl rfl) rfl ?_
                refine L.rd (rd_move rfl) rfl ?_
                first | refine L.partG rfl rfl (fun g78 => ?_) (fun g78 => ?_) | refine L.partGB rfl rfl (fun g78 => ?_) (fun g78 => ?_)
                ·
                  refine L.no rfl rfl rfl rfl ?_
                  refine L.no rfl rfl rfl rfl ?_
                  refine L.no rfl rfl rfl rfl ?_
                  refine L.no rfl rfl rfl rfl ?_
                  refine L.no rfl rfl rfl rfl ?_
                  refine L.rd (rd_pickT rfl rfl) rfl ?_
                  refine L.nil ?_
                  refine X.sq ?_
                  refine V.condT rfl ?_
                  refine V.seq ?_
                  refine V.region ?_
                  refine L.rd (rd_assign rfl) rfl ?_
                  refine L.rd (rd_assign rfl) rfl ?_
                  refine L.nil ?_
                  refine X.sq ?_
                  refine V.ret ?_
                  refine X.sqRet ?_
                  refine X.bkRet ?_
                  refine X.sqRet ?_
                  refine ret_2 Yaam.results83 rfl rfl ?_
                  exact WsP.bad he3
                ·
                  refine L.yes rfl rfl ?_
                  refine L.rd (rd_fieldAddr tok rfl rfl rfl rfl rfl rfl) rfl ?_
                  refine L.yes rfl rfl ?_
                  refine L.rd (rd_load1 tok rfl rfl rfl (hb3.cell (i := 3) rfl)) rfl ?_
                  refine L.yes rfl rfl ?_
                  refine L.rd (rd_move rfl) rfl ?_
                  refine L.yes rfl rfl ?_
                  (refine L.rd (rd_sub3 rfl rfl ?_) rfl ?_; omega)
                  refine L.yes rfl rfl ?_
                  refine L.rd (rd_neq rfl rfl) rfl ?_
                  refine L.rd (rd_pickF rfl rfl) rfl ?_
                  refine L.nil ?_
                  refine X.sq ?_
                  first | refine V.cond rfl (fun h84 => ?_) (fun h84 => ?_) | refine V.condB rfl (fun h84 => ?_) (fun h84 => ?_)
                  ·
                    refine V.seq ?_
                    refine V.region ?_
                    refine L.rd (rd_assign rfl) rfl ?_
                    refine L.rd (rd_assign rfl) rfl ?_
                    refine L.nil ?_
                    refine X.sq ?_
                    refine V.ret ?_
                    refine X.sqRet ?_
                    refine X.bkRet ?_
                    refine X.sqRet ?_
                    refine ret_2 Yaam.results83 rfl rfl ?_
                    exact WsP.bad he3
                  ·
                    refine V.skip ?_
                    refine X.sq ?_
                    refine V.seq ?_
                    refine V.seq ?_
                    refine V.region ?_
                    refine L.rd (rd_fieldAddr tok rfl rfl rfl rfl rfl rfl) rfl ?_
                    refine L.rd (rd_load1 tok rfl rfl rfl (hb3.cell (i := 0) rfl)) rfl ?_
                    refine L.rd (rd_eql rfl rfl) rfl ?_
                    refine L.rd (rd_move rfl) rfl ?_
                    first | refine L.partG rfl rfl (fun g88 => ?_) (fun g88 => ?_) | refine L.partGB rfl rfl (fun g88 => ?_) (fun g88 => ?_)
                    ·
                      refine L.yes rfl rfl ?_
                      refine L.rd (rd_fieldAddr tok rfl rfl rfl rfl rfl rfl) rfl ?_
                      refine L.yes rfl rfl ?_
                      refine L.rd (rd_load1 tok rfl rfl rfl (hb3.cell (i := 1) rfl)) rfl ?_
                      refine L.yes rfl rfl ?_
                      refine L.rd (rd_neq rfl rfl) rfl ?_
                      refine L.rd (rd_pickT rfl rfl) rfl ?_
                      refine L.nil ?_
                      refine X.sq ?_
                      first | refine V.cond rfl (fun h92 => ?_) (fun h92 => ?_) | refine V.condB rfl (fun h92 => ?_) (fun h92 => ?_)
                      ·
                        refine V.seq ?_
                        refine V.region ?_
                        refine L.rd (rd_assign rfl) rfl ?_
                        refine L.rd (rd_assign rfl) rfl ?_
                        refine L.nil ?_
                        refine X.sq ?_
                        refine V.ret ?_
                        refine X.sqRet ?_
                        refine X.bkRet ?_
                        refine X.sqRet ?_
                        refine ret_2 Yaam.results83 rfl rfl ?_
                        exact WsP.bad he3
                      ·
                        refine V.skip ?_
                        refine X.sq ?_
                        refine V.seq ?_
                        refine V.seq ?_
                        refine V.region ?_
                        refine L.rd (rd_fieldAddr tok rfl rfl rfl rfl rfl rfl) rfl ?_
                        refine L.rd (rd_load1 tok rfl rfl rfl (hb3.cell (i := 0) rfl)) rfl ?_
                        refine L.rd (rd_eql rfl rfl) rfl ?_
                        refine L.rd (rd_move rfl) rfl ?_
                        first | refine L.partG rfl rfl (fun g96 => ?_) (fun g96 => ?_) | refine L.partGB rfl rfl (fun g96 => ?_) (fun g96 => ?_)
                        ·
                          refine L.yes rfl rfl ?_
                          refine L.rd (rd_fieldAddr tok rfl rfl rfl rfl rfl rfl) rfl ?_
                          refine L.yes rfl rfl ?_
                          refine L.rd (rd_load1 tok rfl rfl rfl (hb3.cell (i := 1) rfl)) rfl ?_
                          refine L.yes rfl rfl ?_
                          refine L.rd (rd_lss rfl rfl) rfl ?_
                          refine L.yes rfl rfl ?_
                          refine L.rd (rd_move rfl) rfl ?_
                          first | refine L.partG rfl rfl (fun g100 => ?_) (fun g100 => ?_) | refine L.partGB rfl rfl (fun g100 => ?_) (fun g100 => ?_)
                          ·
                            refine L.no rfl rfl rfl rfl ?_
                            refine L.no rfl rfl rfl rfl ?_
                            refine L.no rfl rfl rfl rfl ?_
                            refine L.yes rfl rfl ?_
                            refine L.rd (rd_pickT rfl rfl) rfl ?_
                            refine L.rd (rd_pickT rfl rfl) rfl ?_
                            refine L.nil ?_
                            refine X.sq ?_
                            refine V.condT rfl ?_
                            refine V.seq ?_
                            refine V.region ?_
                            refine L.rd (rd_assign rfl) rfl ?_
                            refine L.rd (rd_assign rfl) rfl ?_
                            refine L.nil ?_
                            refine X.sq ?_
                            refine V.ret ?_
                            refine X.sqRet ?_
                            refine X.bkRet ?_
                            refine X.sqRet ?_
                            refine ret_2 Yaam.results83 rfl rfl ?_
                            exact WsP.bad he3
                          ·
                            refine L.yes rfl rfl ?_
                            refine L.rd (rd_fieldAddr tok rfl rfl rfl rfl rfl rfl) rfl ?_
                            refine L.yes rfl rfl ?_
                            refine L.rd (rd_load1 tok rfl rfl rfl (hb3.cell (i := 1) rfl)) rfl ?_
                            refine L.yes rfl rfl ?_
                            refine L.rd (rd_gtr rfl rfl) rfl ?_
                            refine L.yes rfl rfl ?_
                            refine L.rd (rd_pickF rfl rfl) rfl ?_
                            refine L.rd (rd_pickT rfl rfl) rfl ?_
                            refine L.nil ?_
                            refine X.sq ?_
                            first | refine V.cond rfl (fun h105 => ?_) (fun h105 => ?_) | refine V.condB rfl (fun h105 => ?_) (fun h105 => ?_)
                            ·
                              refine V.seq ?_
                              refine V.region ?_
                              refine L.rd (rd_assign rfl) rfl ?_
                              refine L.rd (rd_assign rfl) rfl ?_
                              refine L.nil ?_
                              refine X.sq ?_
                              refine V.ret ?_
                              refine X.sqRet ?_
                              refine X.bkRet ?_
                              refine X.sqRet ?_
                              refine ret_2 Yaam.results83 rfl rfl ?_
                              exact WsP.bad he3
                            ·
                              refine V.skip ?_
                              refine X.sq ?_
                              refine V.seq ?_
                              refine V.region ?_
                              refine L.rd (rd_move rfl) rfl ?_
                              refine L.rd (rd_move rfl) rfl ?_
                              (refine L.rd (rd_sub3 rfl rfl ?_) rfl ?_; omega)
                              refine L.ef (e_call rfl (ih (n - 1) (by omega) _ _ (by omega) (by omega) (by omega) hE3) rfl ?_)
                              rintro _ w4 ⟨s, ok, rfl, hok, he4⟩
                              refine L.rd (rd_move rfl) rfl ?_
                              refine L.rd (rd_ext0 rfl) rfl ?_
                              refine L.rd (rd_ext1 rfl) rfl ?_
                              refine L.rd (rd_assign rfl) rfl ?_
                              refine L.rd (rd_assign rfl) rfl ?_
                              refine L.nil ?_
                              refine X.sq ?_
                              refine V.seq ?_
                              refine V.seq ?_
                              refine V.region ?_
                              refine L.rd (rd_move rfl) rfl ?_
                              first | refine L.rd (rd_not rfl) rfl ?_ | refine L.rd (rd_notB rfl) rfl ?_
                              refine L.nil ?_
                              refine X.sq ?_
                              first | refine V.cond rfl (fun h114 => ?_) (fun h114 => ?_) | refine V.condB rfl (fun h114 => ?_) (fun h114 => ?_)
                              ·
                                refine V.seq ?_
                                refine V.region ?_
                                refine L.rd (rd_assign rfl) rfl ?_
                                refine L.rd (rd_assign rfl) rfl ?_
                                refine L.nil ?_
                                refine X.sq ?_
                                refine V.ret ?_
                                refine X.sqRet ?_
                                refine X.bkRet ?_
                                refine X.sqRet ?_
                                refine ret_2 Yaam.results83 rfl rfl ?_
                                exact WsP.bad (he3.next he4)
                              ·
                                refine V.skip ?_
                                refine X.sq ?_
                                refine V.seq ?_
                                obtain ⟨t1, c1, hw1, hat1, hc1', hs1⟩ := hok (by simpa using h114)
                                have hp1 := tsz_pos t1
                                refine V.region ?_
                                refine L.rd (rd_move rfl) rfl ?_
                                (refine L.rd (rd_add3 rfl rfl ?_) rfl ?_; omega)
                                refine L.rd (rd_assign rfl) rfl ?_
                                refine L.rd (rd_assign rfl) rfl ?_
                                refine L.nil ?_
                                refine X.sq ?_
                                refine V.ret ?_
                                refine X.bkRet ?_
                                refine X.sqRet ?_
                                refine ret_2 Yaam.results83 rfl rfl ?_
                                refine ⟨_, true, rfl, fun _ => ⟨u1 k v t1, c1, ⟨rfl, by omega, hw1⟩, ?_, by rw [tsz_u1]; omega, by rw [tsz_u1]; omega⟩, he3.next he4⟩
                                have hfl := flat_len t1 c1
                                unfold At
                                rw [flat_u1]
                                refine at_app hat1 ?_
                                obtain ⟨rfl, rfl⟩ : x = 0 ∧ rt = -1 := by omega
                                rw [hfl, show c1 + tsz t1 = i by omega, show (c1 : Int) + tsz t1 - 1 = lf_ by omega]
                                exact at_one ht
                        ·
                          refine L.no rfl rfl rfl rfl ?_
                          refine L.no rfl rfl rfl rfl ?_
                          refine L.no rfl rfl rfl rfl ?_
                          refine L.no rfl rfl rfl rfl ?_
                          refine L.noU rfl rfl rfl ?_
                          refine L.noU rfl rfl rfl ?_
                          refine L.noU rfl rfl rfl ?_
                          refine L.no rfl rfl rfl rfl ?_
                          refine L.rd (rd_pickF rfl rfl) rfl ?_
                          refine L.nil ?_
                          refine X.sq ?_
                          refine V.condF rfl ?_
                          refine V.skip ?_
                          refine X.sq ?_
                          refine V.seq ?_
                          refine V.region ?_
                          refine L.rd (rd_move rfl) rfl ?_
                          refine L.rd (rd_move rfl) rfl ?_
                          (refine L.rd (rd_sub3 rfl rfl ?_) rfl ?_; omega)
                          refine L.ef (e_call rfl (ih (n - 1) (by omega) _ _ (by omega) (by omega) (by omega) hE3) rfl ?_)
                          rintro _ w4 ⟨s, ok, rfl, hok, he4⟩
                          refine L.rd (rd_move rfl) rfl ?_
                          refine L.rd (rd_ext0 rfl) rfl ?_
                          refine L.rd (rd_ext1 rfl) rfl ?_
                          refine L.rd (rd_assign rfl) rfl ?_
                          refine L.rd (rd_assign rfl) rfl ?_
                          refine L.nil ?_
                          refine X.sq ?_
                          refine V.seq ?_
                          refine V.seq ?_
                          refine V.region ?_
                          refine L.rd (rd_move rfl) rfl ?_
                          first | refine L.rd (rd_not rfl) rfl ?_ | refine L.rd (rd_notB rfl) rfl ?_
                          refine L.nil ?_
                          refine X.sq ?_
                          first | refine V.cond rfl (fun h114 => ?_) (fun h114 => ?_) | refine V.condB rfl (fun h114 => ?_) (fun h114 => ?_)
                          ·
                            refine V.seq ?_
                            refine V.region ?_
                            refine L.rd (rd_assign rfl) rfl ?_
                            refine L.rd (rd_assign rfl) rfl ?_
                            refine L.nil ?_
                            refine X.sq ?_
                            refine V.ret ?_
                            refine X.sqRet ?_
                            refine X.bkRet ?_
                            refine X.sqRet ?_
                            refine ret_2 Yaam.results83 rfl rfl ?_
                            exact WsP.bad (he3.next he4)
                          ·
                            refine V.skip ?_
                            refine X.sq ?_
                            refine V.seq ?_
                            obtain ⟨t1, c1, hw1, hat1, hc1', hs1⟩ := hok (by simpa using h114)
                            have hp1 := tsz_pos t1
                            refine V.region ?_
                            refine L.rd (rd_move rfl) rfl ?_
                            (refine L.rd (rd_add3 rfl rfl ?_) rfl ?_; omega)
                            refine L.rd (rd_assign rfl) rfl ?_
                            refine L.rd (rd_assign rfl) rfl ?_
                            refine L.nil ?_
                            refine X.sq ?_
                            refine V.ret ?_
                            refine X.bkRet ?_
                            refine X.sqRet ?_
                            refine ret_2 Yaam.results83 rfl rfl ?_
                            refine ⟨_, true, rfl, fun _ => ⟨u1 k v t1, c1, ⟨rfl, by omega, hw1⟩, ?_, by rw [tsz_u1]; omega, by rw [tsz_u1]; omega⟩, he3.next he4⟩
                            have hfl := flat_len t1 c1
                            unfold At
                            rw [flat_u1]
                            refine at_app hat1 ?_
                            obtain ⟨rfl, rfl⟩ : x = 0 ∧ rt = -1 := by omega
                            rw [hfl, show c1 + tsz t1 = i by omega, show (c1 : Int) + tsz t1 - 1 = lf_ by omega]
                            exact at_one ht
                    ·
                      refine L.no rfl rfl rfl rfl ?_
                      refine L.no rfl rfl rfl rfl ?_
                      refine L.no rfl rfl rfl rfl ?_
                      refine L.rd (rd_pickF rfl rfl) rfl ?_
                      refine L.nil ?_
                      refine X.sq ?_
                      refine V.condF rfl ?_
                      refine V.skip ?_
                      refine X.sq ?_
                      refine V.seq ?_
                      refine V.seq ?_
                      refine V.region ?_
                      refine L.rd (rd_fieldAddr tok rfl rfl rfl rfl rfl rfl) rfl ?_
                      refine L.rd (rd_load1 tok rfl rfl rfl (hb3.cell (i := 0) rfl)) rfl ?_
                      refine L.rd (rd_eql rfl rfl) rfl ?_
                      refine L.rd (rd_move rfl) rfl ?_
                      first | refine L.partG rfl rfl (fun g96 => ?_) (fun g96 => ?_) | refine L.partGB rfl rfl (fun g96 => ?_) (fun g96 => ?_)
                      ·
                        refine L.yes rfl rfl ?_
                        refine L.rd (rd_fieldAddr tok rfl rfl rfl rfl rfl rfl) rfl ?_
                        refine L.yes rfl rfl ?_
                        refine L.rd (rd_load1 tok rfl rfl rfl (hb3.cell (i := 1) rfl)) rfl ?_
                        refine L.yes rfl rfl ?_
                        refine L.rd (rd_lss rfl rfl) rfl ?_
                        refine L.yes rfl rfl ?_
                        refine L.rd (rd_move rfl) rfl ?_
                        first | refine L.partG rfl rfl (fun g100 => ?_) (fun g100 => ?_) | refine L.partGB rfl rfl (fun g100 => ?_) (fun g100 => ?_)
                        ·
                          refine L.no rfl rfl rfl rfl ?_
                          refine L.no rfl rfl rfl rfl ?_
                          refine L.no rfl rfl rfl rfl ?_
                          refine L.yes rfl rfl ?_
                          refine L.rd (rd_pickT rfl rfl) rfl ?_
                          refine L.rd (rd_pickT rfl rfl) rfl ?_
                          refine L.nil ?_
                          refine X.sq ?_
                          refine V.condT rfl ?_
                          refine V.seq ?_
                          refine V.region ?_
                          refine L.rd (rd_assign rfl) rfl ?_
                          refine L.rd (rd_assign rfl) rfl ?_
                          refine L.nil ?_
                          refine X.sq ?_
                          refine V.ret ?_
                          refine X.sqRet ?_
                          refine X.bkRet ?_
                          refine X.sqRet ?_
                          refine ret_2 Yaam.results83 rfl rfl ?_
                          exact WsP.bad he3
                        ·
                          refine L.yes rfl rfl ?_
                          refine L.rd (rd_fieldAddr tok rfl rfl rfl rfl rfl rfl) rfl ?_
                          refine L.yes rfl rfl ?_
                          refine L.rd (rd_load1 tok rfl rfl rfl (hb3.cell (i := 1) rfl)) rfl ?_
                          refine L.yes rfl rfl ?_
                          refine L.rd (rd_gtr rfl rfl) rfl ?_
                          refine L.yes rfl rfl ?_
                          refine L.rd (rd_pickF rfl rfl) rfl ?_
                          refine L.rd (rd_pickT rfl rfl) rfl ?_
                          refine L.nil ?_
                          refine X.sq ?_
                          first | refine V.cond rfl (fun h105 => ?_) (fun h105 => ?_) | refine V.condB rfl (fun h105 => ?_) (fun h105 => ?_)
                          ·
                            refine V.seq ?_
                            refine V.region ?_
                            refine L.rd (rd_assign rfl) rfl ?_
                            refine L.rd (rd_assign rfl) rfl ?_
                            refine L.nil ?_
                            refine X.sq ?_
                            refine V.ret ?_
                            refine X.sqRet ?_
                            refine X.bkRet ?_
                            refine X.sqRet ?_
                            refine ret_2 Yaam.results83 rfl rfl ?_
                            exact WsP.bad he3
                          ·
                            refine V.skip ?_
                            refine X.sq ?_
                            refine V.seq ?_
                            refine V.region ?_
                            refine L.rd (rd_move rfl) rfl ?_
                            refine L.rd (rd_move rfl) rfl ?_
                            (refine L.rd (rd_sub3 rfl rfl ?_) rfl ?_; omega)
                            refine L.ef (e_call rfl (ih (n - 1) (by omega) _ _ (by omega) (by omega) (by omega) hE3) rfl ?_)
                            rintro _ w4 ⟨s, ok, rfl, hok, he4⟩
                            refine L.rd (rd_move rfl) rfl ?_
                            refine L.rd (rd_ext0 rfl) rfl ?_
                            refine L.rd (rd_ext1 rfl) rfl ?_
                            refine L.rd (rd_assign rfl) rfl ?_
                            refine L.rd (rd_assign rfl) rfl ?_
                            refine L.nil ?_
                            refine X.sq ?_
                            refine V.seq ?_
                            refine V.seq ?_
                            refine V.region ?_
                            refine L.rd (rd_move rfl) rfl ?_
                            first | refine L.rd (rd_not rfl) rfl ?_ | refine L.rd (rd_notB rfl) rfl ?_
                            refine L.nil ?_
                            refine X.sq ?_
                            first | refine V.cond rfl (fun h114 => ?_) (fun h114 => ?_) | refine V.condB rfl (fun h114 => ?_) (fun h114 => ?_)
                            ·
                              refine V.seq ?_
                              refine V.region ?_
                              refine L.rd (rd_assign rfl) rfl ?_
                              refine L.rd (rd_assign rfl) rfl ?_
                              refine L.nil ?_
                              refine X.sq ?_
                              refine V.ret ?_
                              refine X.sqRet ?_
                              refine X.bkRet ?_
                              refine X.sqRet ?_
                              refine ret_2 Yaam.results83 rfl rfl ?_
                              exact WsP.bad (he3.next he4)
                            ·
                              refine V.skip ?_
                              refine X.sq ?_
                              refine V.seq ?_
                              obtain ⟨t1, c1, hw1, hat1, hc1', hs1⟩ := hok (by simpa using h114)
                              have hp1 := tsz_pos t1
                              refine V.region ?_
                              refine L.rd (rd_move rfl) rfl ?_
                              (refine L.rd (rd_add3 rfl rfl ?_) rfl ?_; omega)
                              refine L.rd (rd_assign rfl) rfl ?_
                              refine L.rd (rd_assign rfl) rfl ?_
                              refine L.nil ?_
                              refine X.sq ?_
                              refine V.ret ?_
                              refine X.bkRet ?_
                              refine X.sqRet ?_
                              refine ret_2 Yaam.results83 rfl rfl ?_
                              refine ⟨_, true, rfl, fun _ => ⟨u1 k v t1, c1, ⟨rfl, by omega, hw1⟩, ?_, by rw [tsz_u1]; omega, by rw [tsz_u1]; omega⟩, he3.next he4⟩
                              have hfl := flat_len t1 c1
                              unfold At
                              rw [flat_u1]
                              refine at_app hat1 ?_
                              obtain ⟨rfl, rfl⟩ : x = 0 ∧ rt = -1 := by omega
                              rw [hfl, show c1 + tsz t1 = i by omega, show (c1 : Int) + tsz t1 - 1 = lf_ by omega]
                              exact at_one ht
                      ·
                        refine L.no rfl rfl rfl rfl ?_
                        refine L.no rfl rfl rfl rfl ?_
                        refine L.no rfl rfl rfl rfl ?_
                        refine L.no rfl rfl rfl rfl ?_
                        refine L.noU rfl rfl rfl ?_
                        refine L.noU rfl rfl rfl ?_
                        refine L.noU rfl rfl rfl ?_
                        refine L.no rfl rfl rfl rfl ?_
                        refine L.rd (rd_pickF rfl rfl) rfl ?_
                        refine L.nil ?_
                        refine X.sq ?_
                        refine V.condF rfl ?_
                        refine V.skip ?_
                        refine X.sq ?_
                        refine V.seq ?_
                        refine V.region ?_
                        refine L.rd (rd_move rfl) rfl ?_
                        refine L.rd (rd_move rfl) rfl ?_
                        (refine L.rd (rd_sub3 rfl rfl ?_) rfl ?_; omega)
                        refine L.ef (e_call rfl (ih (n - 1) (by omega) _ _ (by omega) (by omega) (by omega) hE3) rfl ?_)
                        rintro _ w4 ⟨s, ok, rfl, hok, he4⟩
                        refine L.rd (rd_move rfl) rfl ?_
                        refine L.rd (rd_ext0 rfl) rfl ?_
                        refine L.rd (rd_ext1 rfl) rfl ?_
                        refine L.rd (rd_assign rfl) rfl ?_
                        refine L.rd (rd_assign rfl) rfl ?_
                        refine L.nil ?_
                        refine X.sq ?_
                        refine V.seq ?_
                        refine V.seq ?_
                        refine V.region ?_
                        refine L.rd (rd_move rfl) rfl ?_
                        first | refine L.rd (rd_not rfl) rfl ?_ | refine L.rd (rd_notB rfl) rfl ?_
                        refine L.nil ?_
                        refine X.sq ?_
                        first | refine V.cond rfl (fun h114 => ?_) (fun h114 => ?_) | refine V.condB rfl (fun h114 => ?_) (fun h114 => ?_)
                        ·
                          refine V.seq ?_
                          refine V.region ?_
                          refine L.rd (rd_assign rfl) rfl ?_
                          refine L.rd (rd_assign rfl) rfl ?_
                          refine L.nil ?_
                          refine X.sq ?_
                          refine V.ret ?_
                          refine X.sqRet ?_
                          refine X.bkRet ?_
                          refine X.sqRet ?_
                          refine ret_2 Yaam.results83 rfl rfl ?_
                          exact WsP.bad (he3.next he4)
                        ·
                          refine V.skip ?_
                          refine X.sq ?_
                          refine V.seq ?_
                          obtain ⟨t1, c1, hw1, hat1, hc1', hs1⟩ := hok (by simpa using h114)
                          have hp1 := tsz_pos t1
                          refine V.region ?_
                          refine L.rd (rd_move rfl) rfl ?_
                          (refine L.rd (rd_add3 rfl rfl ?_) rfl ?_; omega)
                          refine L.rd (rd_assign rfl) rfl ?_
                          refine L.rd (rd_assign rfl) rfl ?_
                          refine L.nil ?_
                          refine X.sq ?_
                          refine V.ret ?_
                          refine X.bkRet ?_
                          refine X.sqRet ?_
                          refine ret_2 Yaam.results83 rfl rfl ?_
                          refine ⟨_, true, rfl, fun _ => ⟨u1 k v t1, c1, ⟨rfl, by omega, hw1⟩, ?_, by rw [tsz_u1]; omega, by rw [tsz_u1]; omega⟩, he3.next he4⟩
                          have hfl := flat_len t1 c1
                          unfold At
                          rw [flat_u1]
                          refine at_app hat1 ?_
                          obtain ⟨rfl, rfl⟩ : x = 0 ∧ rt = -1 := by omega
                          rw [hfl, show c1 + tsz t1 = i by omega, show (c1 : Int) + tsz t1 - 1 = lf_ by omega]
                          exact at_one ht
            ·
              exact absurd h67 h67_
          ·
            refine V.region ?_
            refine L.rd (rd_eql rfl rfl) rfl ?_
            refine L.rd (rd_assign rfl) rfl ?_
            refine L.nil ?_
            refine X.sq ?_
            first | refine V.cond rfl (fun h67 => ?_) (fun h67 => ?_) | refine V.condB rfl (fun h67 => ?_) (fun h67 => ?_)
            ·
              refine V.seq ?_
              refine V.seq ?_
              refine V.region ?_
              refine L.rd (rd_fieldAddr tok rfl rfl rfl rfl rfl rfl) rfl ?_
              refine L.rd (rd_load1 tok rfl rfl rfl (hb3.cell (i := 2) rfl)) rfl ?_
              refine L.rd (rd_neq rfl rfl) rfl ?_
              refine L.rd (rd_move rfl) rfl ?_
              first | refine L.partG rfl rfl (fun g73 => ?_) (fun g73 => ?_) | refine L.partGB rfl rfl (fun g73 => ?_) (fun g73 => ?_)
              ·
                refine L.no rfl rfl rfl rfl ?_
                refine L.no rfl rfl rfl rfl ?_
                refine L.no rfl rfl rfl rfl ?_
                refine L.rd (rd_pickT rfl rfl) rfl ?_
                refine L.rd (rd_move rfl) rfl ?_
                refine L.no rfl rfl rfl rfl ?_
                refine L.no rfl rfl rfl rfl ?_
                refine L.no rfl rfl rfl rfl ?_
                refine L.no rfl rfl rfl rfl ?_
                refine L.no rfl rfl rfl rfl ?_
                refine L.rd (rd_pickT rfl rfl) rfl ?_
                refine L.nil ?_
                refine X.sq ?_
                refine V.condT rfl ?_
                refine V.seq ?_
                refine V.region ?_
                refine L.rd (rd_assign rfl) rfl ?_
                refine L.rd (rd_assign rfl) rfl ?_
                refine L.nil ?_
                refine X.sq ?_
                refine V.ret ?_
                refine X.sqRet ?_
                refine X.bkRet ?_
                refine X.sqRet ?_
                refine ret_2 Yaam.results83 rfl rfl ?_
                exact WsP.bad he3
              ·
                refine L.yes rfl rfl ?_
                refine L.rd (rd_fieldAddr tok rfl rfl rfl rfl rfl rfl) rfl ?_
                refine L.yes rfl rfl ?_
                refine L.rd (rd_load1 tok rfl rfl rfl (hb3.cell (i := 4) rfl)) rfl ?_
                refine L.yes rfl rfl ?_
                refine L.rd (rd_neq rfl rfl) rfl ?_
                refine L.rd (rd_pickF rfl rfl) rfl ?_
                refine L.rd (rd_move rfl) rfl ?_
                first | refine L.partG rfl rfl (fun g78 => ?_) (fun g78 => ?_) | refine L.partGB rfl rfl (fun g78 => ?_) (fun g78 => ?_)
                ·
                  refine L.no rfl rfl rfl rfl ?_
                  refine L.no rfl rfl rfl rfl ?_
                  refine L.no rfl rfl rfl rfl ?_
                  refine L.no rfl rfl rfl rfl ?_
                  refine L.no rfl rfl rfl rfl ?_
                  refine L.rd (rd_pickT rfl rfl) rfl ?_
                  refine L.nil ?_
                  refine X.sq ?_
                  refine V.condT rfl ?_
                  refine V.seq ?_
                  refine V.region ?_
                  refine L.rd (rd_assign rfl) rfl ?_
                  refine L.rd (rd_assign rfl) rfl ?_
                  refine L.nil ?_
                  refine X.sq ?_
                  refine V.ret ?_
                  refine X.sqRet ?_
                  refine X.bkRet ?_
                  refine X.sqRet ?_
                  refine ret_2 Yaam.results83 rfl rfl ?_
                  exact WsP.bad he3
                ·
                  refine L.yes rfl rfl ?_
                  refine L.rd (rd_fieldAddr tok rfl rfl rfl rfl rfl rfl) rfl ?_
                  refine L.yes rfl rfl ?_
                  refine L.rd (rd_load1 tok rfl rfl rfl (hb3.cell (i := 3) rfl)) rfl ?_
                  refine L.yes rfl rfl ?_
                  refine L.rd (rd_move rfl) rfl ?_
                  refine L.yes rfl rfl ?_
                  (refine L.rd (rd_sub3 rfl rfl ?_) rfl ?_; omega)
                  refine L.yes rfl rfl ?_
                  refine L.rd (rd_neq rfl rfl) rfl ?_
                  refine L.rd (rd_pickF rfl rfl) rfl ?_
                  refine L.nil ?_
                  refine X.sq ?_
                  first | refine V.cond rfl (fun h84 => ?_) (fun h84 => ?_) | refine V.condB rfl (fun h84 => ?_) (fun h84 => ?_)
                  ·
                    refine V.seq ?_
                    refine V.region ?_
                    refine L.rd (rd_assign rfl) rfl ?_
                    refine L.rd (rd_assign rfl) rfl ?_
                    refine L.nil ?_
                    refine X.sq ?_
                    refine V.ret ?_
                    refine X.sqRet ?_
                    refine X.bkRet ?_
                    refine X.sqRet ?_
                    refine ret_2 Yaam.results83 rfl rfl ?_
                    exact WsP.bad he3
                  ·
                    refine V.skip ?_
                    refine X.sq ?_
                    refine V.seq ?_
                    refine V.seq ?_
                    refine V.region ?_
                    refine L.rd (rd_fieldAddr tok rfl rfl rfl rfl rfl rfl) rfl ?_
                    refine L.rd (rd_load1 tok rfl rfl rfl (hb3.cell (i := 0) rfl)) rfl ?_
                    refine L.rd (rd_eql rfl rfl) rfl ?_
                    refine L.rd (rd_move rfl) rfl ?_
                    first | refine L.partG rfl rfl (fun g88 => ?_) (fun g88 => ?_) | refine L.partGB rfl rfl (fun g88 => ?_) (fun g88 => ?_)
                    ·
                      refine L.yes rfl rfl ?_
                      refine L.rd (rd_fieldAddr tok rfl rfl rfl rfl rfl rfl) rfl ?_
                      refine L.yes rfl rfl ?_
                      refine L.rd (rd_load1 tok rfl rfl rfl (hb3.cell (i := 1) rfl)) rfl ?_
                      refine L.yes rfl rfl ?_
                      refine L.rd (rd_neq rfl rfl) rfl ?_
                      refine L.rd (rd_pickT rfl rfl) rfl ?_
                      refine L.nil ?_
                      refine X.sq ?_
                      first | refine V.cond rfl (fun h92 => ?_) (fun h92 => ?_) | refine V.condB rfl (fun h92 => ?_) (fun h92 => ?_)
                      ·
                        refine V.seq ?_
                        refine V.region ?_
                        refine L.rd (rd_assign rfl) rfl ?_
                        refine L.rd (rd_assign rfl) rfl ?_
                        refine L.nil ?_
                        refine X.sq ?_
                        refine V.ret ?_
                        refine X.sqRet ?_
                        refine X.bkRet ?_
                        refine X.sqRet ?_
                        refine ret_2 Yaam.results83 rfl rfl ?_
                        exact WsP.bad he3
                      ·
                        refine V.skip ?_
                        refine X.sq ?_
                        refine V.seq ?_
                        refine V.seq ?_
                        refine V.region ?_
                        refine L.rd (rd_fieldAddr tok rfl rfl rfl rfl rfl rfl) rfl ?_
                        refine L.rd (rd_load1 tok rfl rfl rfl (hb3.cell (i := 0) rfl)) rfl ?_
                        refine L.rd (rd_eql rfl rfl) rfl ?_
                        refine L.rd (rd_move rfl) rfl ?_
                        first | refine L.partG rfl rfl (fun g96 => ?_) (fun g96 => ?_) | refine L.partGB rfl rfl (fun g96 => ?_) (fun g96 => ?_)
                        ·
                          refine L.yes rfl rfl ?_
                          refine L.rd (rd_fieldAddr tok rfl rfl rfl rfl rfl rfl) rfl ?_
                          refine L.yes rfl rfl ?_
                          refine L.rd (rd_load1 tok rfl rfl rfl (hb3.cell (i := 1) rfl)) rfl ?_
                          refine L.yes rfl rfl ?_
                          refine L.rd (rd_lss rfl rfl) rfl ?_
                          refine L.yes rfl rfl ?_
                          refine L.rd (rd_move rfl) rfl ?_
                          first | refine L.partG rfl rfl (fun g100 => ?_) (fun g100 => ?_) | refine L.partGB rfl rfl (fun g100 => ?_) (fun g100 => ?_)
                          ·
                            refine L.no rfl rfl rfl rfl ?_
                            refine L.no rfl rfl rfl rfl ?_
                            refine L.no rfl rfl rfl rfl ?_
                            refine L.yes rfl rfl ?_
                            refine L.rd (rd_pickT rfl rfl) rfl ?_
                            refine L.rd (rd_pickT rfl rfl) rfl ?_
                            refine L.nil ?_
                            refine X.sq ?_
                            refine V.condT rfl ?_
                            refine V.seq ?_
                            refine V.region ?_
                            refine L.rd (rd_assign rfl) rfl ?_
                            refine L.rd (rd_assign rfl) rfl ?_
                            refine L.nil ?_
                            refine X.sq ?_
                            refine V.ret ?_
                            refine X.sqRet ?_
                            refine X.bkRet ?_
                            refine X.sqRet ?_
                            refine ret_2 Yaam.results83 rfl rfl ?_
                            exact WsP.bad he3
                          ·
                            refine L.yes rfl rfl ?_
                            refine L.rd (rd_fieldAddr tok rfl rfl rfl rfl rfl rfl) rfl ?_
                            refine L.yes rfl rfl ?_
                            refine L.rd (rd_load1 tok rfl rfl rfl (hb3.cell (i := 1) rfl)) rfl ?_
                            refine L.yes rfl rfl ?_
                            refine L.rd (rd_gtr rfl rfl) rfl ?_
                            refine L.yes rfl rfl ?_
                            refine L.rd (rd_pickF rfl rfl) rfl ?_
                            refine L.rd (rd_pickT rfl rfl) rfl ?_
                            refine L.nil ?_
                            refine X.sq ?_
                            first | refine V.cond rfl (fun h105 => ?_) (fun h105 => ?_) | refine V.condB rfl (fun h105 => ?_) (fun h105 => ?_)
                            ·
                              refine V.seq ?_
                              refine V.region ?_
                              refine L.rd (rd_assign rfl) rfl ?_
                              refine L.rd (rd_assign rfl) rfl ?_
                              refine L.nil ?_
                              refine X.sq ?_
                              refine V.ret ?_
                              refine X.sqRet ?_
                              refine X.bkRet ?_
                              refine X.sqRet ?_
                              refine ret_2 Yaam.results83 rfl rfl ?_
                              exact WsP.bad he3
                            ·
                              refine V.skip ?_
                              refine X.sq ?_
                              refine V.seq ?_
                              refine V.region ?_
                              refine L.rd (rd_move rfl) rfl ?_
                              refine L.rd (rd_move rfl) rfl ?_
                              (refine L.rd (rd_sub3 rfl rfl ?_) rfl ?_; omega)
                              refine L.ef (e_call rfl (ih (n - 1) (by omega) _ _ (by omega) (by omega) (by omega) hE3) rfl ?_)
                              rintro _ w4 ⟨s, ok, rfl, hok, he4⟩
                              refine L.rd (rd_move rfl) rfl ?_
                              refine L.rd (rd_ext0 rfl) rfl ?_
                              refine L.rd (rd_ext1 rfl) rfl ?_
                              refine L.rd (rd_assign rfl) rfl ?_
                              refine L.rd (rd_assign rfl) rfl ?_
                              refine L.nil ?_
                              refine X.sq ?_
                              refine V.seq ?_
                              refine V.seq ?_
                              refine V.region ?_
                              refine L.rd (rd_move rfl) rfl ?_
                              first | refine L.rd (rd_not rfl) rfl ?_ | refine L.rd (rd_notB rfl) rfl ?_
                              refine L.nil ?_
                              refine X.sq ?_
                              first | refine V.cond rfl (fun h114 => ?_) (fun h114 => ?_) | refine V.condB rfl (fun h114 => ?_) (fun h114 => ?_)
                              ·
                                refine V.seq ?_
                                refine V.region ?_
                                refine L.rd (rd_assign rfl) rfl ?_
                                refine L.rd (rd_assign rfl) rfl ?_
                                refine L.nil ?_
                                refine X.sq ?_
                                refine V.ret ?_
                                refine X.sqRet ?_
                                refine X.bkRet ?_
                                refine X.sqRet ?_
                                refine ret_2 Yaam.results83 rfl rfl ?_
                                exact WsP.bad (he3.next he4)
                              ·
                                refine V.skip ?_
                                refine X.sq ?_
                                refine V.seq ?_
                                obtain ⟨t1, c1, hw1, hat1, hc1', hs1⟩ := hok (by simpa using h114)
                                have hp1 := tsz_pos t1
                                refine V.region ?_
                                refine L.rd (rd_move rfl) rfl ?_
                                (refine L.rd (rd_add3 rfl rfl ?_) rfl ?_; omega)
                                refine L.rd (rd_assign rfl) rfl ?_
                                refine L.rd (rd_assign rfl) rfl ?_
                                refine L.nil ?_
                                refine X.sq ?_
                                refine V.ret ?_
                                refine X.bkRet ?_
                                refine X.sqRet ?_
                                refine ret_2 Yaam.results83 rfl rfl ?_
                                refine ⟨_, true, rfl, fun _ => ⟨u1 k v t1, c1, ⟨rfl, by omega, hw1⟩, ?_, by rw [tsz_u1]; omega, by rw [tsz_u1]; omega⟩, he3.next he4⟩
                                have hfl := flat_len t1 c1
                                unfold At
                                rw [flat_u1]
                                refine at_app hat1 ?_
                                obtain ⟨rfl, rfl⟩ : x = 0 ∧ rt = -1 := by omega
                                rw [hfl, show c1 + tsz t1 = i by omega, show (c1 : Int) + tsz t1 - 1 = lf_ by omega]
                                exact at_one ht
                        ·
                          refine L.no rfl rfl rfl rfl ?_
                          refine L.no rfl rfl rfl rfl ?_
                          refine L.no rfl rfl rfl rfl ?_
                          refine L.no rfl rfl rfl rfl ?_
                          refine L.noU rfl rfl rfl ?_
                          refine L.noU rfl rfl rfl ?_
                          refine L.noU rfl rfl rfl ?_
                          refine L.no rfl rfl rfl rfl ?_
                          refine L.rd (rd_pickF rfl rfl) rfl ?_
                          refine L.nil ?_
                          refine X.sq ?_
                          refine V.condF rfl ?_
                          refine V.skip ?_
                          refine X.sq ?_
                          refine V.seq ?_
                          refine V.region ?_
                          refine L.rd (rd_move rfl) rfl ?_
                          refine L.rd (rd_move rfl) rfl ?_
                          (refine L.rd (rd_sub3 rfl rfl ?_) rfl ?_; omega)
                          refine L.ef (e_call rfl (ih (n - 1) (by omega) _ _ (by omega) (by omega) (by omega) hE3) rfl ?_)
                          rintro _ w4 ⟨s, ok, rfl, hok, he4⟩
                          refine L.rd (rd_move rfl) rfl ?_
                          refine L.rd (rd_ext0 rfl) rfl ?_
                          refine L.rd (rd_ext1 rfl) rfl ?_
                          refine L.rd (rd_assign rfl) rfl ?_
                          refine L.rd (rd_assign rfl) rfl ?_
                          refine L.nil ?_
                          refine X.sq ?_
                          refine V.seq ?_
                          refine V.seq ?_
                          refine V.region ?_
                          refine L.rd (rd_move rfl) rfl ?_
                          first | refine L.rd (rd_not rfl) rfl ?_ | refine L.rd (rd_notB rfl) rfl ?_
                          refine L.nil ?_
                          refine X.sq ?_
                          first | refine V.cond rfl (fun h114 => ?_) (fun h114 => ?_) | refine V.condB rfl (fun h114 => ?_) (fun h114 => ?_)
                          ·
                            refine V.seq ?_
                            refine V.region ?_
                            refine L.rd (rd_assign rfl) rfl ?_
                            refine L.rd (rd_assign rfl) rfl ?_
                            refine L.nil ?_
                            refine X.sq ?_
                            refine V.ret ?_
                            refine X.sqRet ?_
                            refine X.bkRet ?_
                            refine X.sqRet ?_
                            refine ret_2 Yaam.results83 rfl rfl ?_
                            exact WsP.bad (he3.next he4)
                          ·
                            refine V.skip ?_
                            refine X.sq ?_
                            refine V.seq ?_
                            obtain ⟨t1, c1, hw1, hat1, hc1', hs1⟩ := hok (by simpa using h114)
                            have hp1 := tsz_pos t1
                            refine V.region ?_
                            refine L.rd (rd_move rfl) rfl ?_
                            (refine L.rd (rd_add3 rfl rfl ?_) rfl ?_; omega)
                            refine L.rd (rd_assign rfl) rfl ?_
                            refine L.rd (rd_assign rfl) rfl ?_
                            refine L.nil ?_
                            refine X.sq ?_
                            refine V.ret ?_
                            refine X.bkRet ?_
                            refine X.sqRet ?_
                            refine ret_2 Yaam.results83 rfl rfl ?_
                            refine ⟨_, true, rfl, fun _ => ⟨u1 k v t1, c1, ⟨rfl, by omega, hw1⟩, ?_, by rw [tsz_u1]; omega, by rw [tsz_u1]; omega⟩, he3.next he4⟩
                            have hfl := flat_len t1 c1
                            unfold At
                            rw [flat_u1]
                            refine at_app hat1 ?_
                            obtain ⟨rfl, rfl⟩ : x = 0 ∧ rt = -1 := by omega
                            rw [hfl, show c1 + tsz t1 = i by omega, show (c1 : Int) + tsz t1 - 1 = lf_ by omega]
                            exact at_one ht
                    ·
                      refine L.no rfl rfl rfl rfl ?_
                      refine L.no rfl rfl rfl rfl ?_
                      refine L.no rfl rfl rfl rfl ?_
                      refine L.rd (rd_pickF rfl rfl) rfl ?_
                      refine L.nil ?_
                      refine X.sq ?_
                      refine V.condF rfl ?_
                      refine V.skip ?_
                      refine X.sq ?_
                      refine V.seq ?_
                      refine V.seq ?_
                      refine V.region ?_
                      refine L.rd (rd_fieldAddr tok rfl rfl rfl rfl rfl rfl) rfl ?_
                      refine L.rd (rd_load1 tok rfl rfl rfl (hb3.cell (i := 0) rfl)) rfl ?_
                      refine L.rd (rd_eql rfl rfl) rfl ?_
                      refine L.rd (rd_move rfl) rfl ?_
                      first | refine L.partG rfl rfl (fun g96 => ?_) (fun g96 => ?_) | refine L.partGB rfl rfl (fun g96 => ?_) (fun g96 => ?_)
                      ·
                        refine L.yes rfl rfl ?_
                        refine L.rd (rd_fieldAddr tok rfl rfl rfl rfl rfl rfl) rfl ?_
                        refine L.yes rfl rfl ?_
                        refine L.rd (rd_load1 tok rfl rfl rfl (hb3.cell (i := 1) rfl)) rfl ?_
                        refine L.yes rfl rfl ?_
                        refine L.rd (rd_lss rfl rfl) rfl ?_
                        refine L.yes rfl rfl ?_
                        refine L.rd (rd_move rfl) rfl ?_
                        first | refine L.partG rfl rfl (fun g100 => ?_) (fun g100 => ?_) | refine L.partGB rfl rfl (fun g100 => ?_) (fun g100 => ?_)
                        ·
                          refine L.no rfl rfl rfl rfl ?_
                          refine L.no rfl rfl rfl rfl ?_
                          refine L.no rfl rfl rfl rfl ?_
                          refine L.yes rfl rfl ?_
                          refine L.rd (rd_pickT rfl rfl) rfl ?_
                          refine L.rd (rd_pickT rfl rfl) rfl ?_
                          refine L.nil ?_
                          refine X.sq ?_
                          refine V.condT rfl ?_
                          refine V.seq ?_
                          refine V.region ?_
                          refine L.rd (rd_assign rfl) rfl ?_
                          refine L.rd (rd_assign rfl) rfl ?_
                          refine L.nil ?_
                          refine X.sq ?_
                          refine V.ret ?_
                          refine X.sqRet ?_
                          refine X.bkRet ?_
                          refine X.sqRet ?_
                          refine ret_2 Yaam.results83 rfl rfl ?_
                          exact WsP.bad he3
                        ·
                          refine L.yes rfl rfl ?_
                          refine L.rd (rd_fieldAddr tok rfl rfl rfl rfl rfl rfl) rfl ?_
                          refine L.yes rfl rfl ?_
                          refine L.rd (rd_load1 tok rfl rfl rfl (hb3.cell (i := 1) rfl)) rfl ?_
                          refine L.yes rfl rfl ?_
                          refine L.rd (rd_gtr rfl rfl) rfl ?_
                          refine L.yes rfl rfl ?_
                          refine L.rd (rd_pickF rfl rfl) rfl ?_
                          refine L.rd (rd_pickT rfl rfl) rfl ?_
                          refine L.nil ?_
                          refine X.sq ?_
                          first | refine V.cond rfl (fun h105 => ?_) (fun h105 => ?_) | refine V.condB rfl (fun h105 => ?_) (fun h105 => ?_)
                          ·
                            refine V.seq ?_
                            refine V.region ?_
                            refine L.rd (rd_assign rfl) rfl ?_
                            refine L.rd (rd_assign rfl) rfl ?_
                            refine L.nil ?_
                            refine X.sq ?_
                            refine V.ret ?_
                            refine X.sqRet ?_
                            refine X.bkRet ?_
                            refine X.sqRet ?_
                            refine ret_2 Yaam.results83 rfl rfl ?_
                            exact WsP.bad he3
                          ·
                            refine V.skip ?_
                            refine X.sq ?_
                            refine V.seq ?_
                            refine V.region ?_
                            refine L.rd (rd_move rfl) rfl ?_
                            refine L.rd (rd_move rfl) rfl ?_
                            (refine L.rd (rd_sub3 rfl rfl ?_) rfl ?_; omega)
                            refine L.ef (e_call rfl (ih (n - 1) (by omega) _ _ (by omega) (by omega) (by omega) hE3) rfl ?_)
                            rintro _ w4 ⟨s, ok, rfl, hok, he4⟩
                            refine L.rd (rd_move rfl) rfl ?_
                            refine L.rd (rd_ext0 rfl) rfl ?_
                            refine L.rd (rd_ext1 rfl) rfl ?_
                            refine L.rd (rd_assign rfl) rfl ?_
                            refine L.rd (rd_assign rfl) rfl ?_
                            refine L.nil ?_
                            refine X.sq ?_
                            refine V.seq ?_
                            refine V.seq ?_
                            refine V.region ?_
                            refine L.rd (rd_move rfl) rfl ?_
                            first | refine L.rd (rd_not rfl) rfl ?_ | refine L.rd (rd_notB rfl) rfl ?_
                            refine L.nil ?_
                            refine X.sq ?_
                            first | refine V.cond rfl (fun h114 => ?_) (fun h114 => ?_) | refine V.condB rfl (fun h114 => ?_) (fun h114 => ?_)
                            ·
                              refine V.seq ?_
                              refine V.region ?_
                              refine L.rd (rd_assign rfl) rfl ?_
                              refine L.rd (rd_assign rfl) rfl ?_
                              refine L.nil ?_
                              refine X.sq ?_
                              refine V.ret ?_
                              refine X.sqRet ?_
                              refine X.bkRet ?_
                              refine X.sqRet ?_
                              refine ret_2 Yaam.results83 rfl rfl ?_
                              exact WsP.bad (he3.next he4)
                            ·
                              refine V.skip ?_
                              refine X.sq ?_
                              refine V.seq ?_
                              obtain ⟨t1, c1, hw1, hat1, hc1', hs1⟩ := hok (by simpa using h114)
                              have hp1 := tsz_pos t1
                              refine V.region ?_
                              refine L.rd (rd_move rfl) rfl ?_
                              (refine L.rd (rd_add3 rfl rfl ?_) rfl ?_; omega)
                              refine L.rd (rd_assign rfl) rfl ?_
                              refine L.rd (rd_assign rfl) rfl ?_
                              refine L.nil ?_
                              refine X.sq ?_
                              refine V.ret ?_
                              refine X.bkRet ?_
                              refine X.sqRet ?_
                              refine ret_2 Yaam.results83 rfl rfl ?_
                              refine ⟨_, true, rfl, fun _ => ⟨u1 k v t1, c1, ⟨rfl, by omega, hw1⟩, ?_, by rw [tsz_u1]; omega, by rw [tsz_u1]; omega⟩, he3.next he4⟩
                              have hfl := flat_len t1 c1
                              unfold At
                              rw [flat_u1]
                              refine at_app hat1 ?_
                              obtain ⟨rfl, rfl⟩ : x = 0 ∧ rt = -1 := by omega
                              rw [hfl, show c1 + tsz t1 = i by omega, show (c1 : Int) + tsz t1 - 1 = lf_ by omega]
                              exact at_one ht
                      ·
                        refine L.no rfl rfl rfl rfl ?_
                        refine L.no rfl rfl rfl rfl ?_
                        refine L.no rfl rfl rfl rfl ?_
                        refine L.no rfl rfl rfl rfl ?_
                        refine L.noU rfl rfl rfl ?_
                        refine L.noU rfl rfl rfl ?_
                        refine L.noU rfl rfl rfl ?_
                        refine L.no rfl rfl rfl rfl ?_
                        refine L.rd (rd_pickF rfl rfl) rfl ?_
                        refine L.nil ?_
                        refine X.sq ?_
                        refine V.condF rfl ?_
                        refine V.skip ?_
                        refine X.sq ?_
                        refine V.seq ?_
                        refine V.region ?_
                        refine L.rd (rd_move rfl) rfl ?_
                        refine L.rd (rd_move rfl) rfl ?_
                        (refine L.rd (rd_sub3 rfl rfl ?_) rfl ?_; omega)
                        refine L.ef (e_call rfl (ih (n - 1) (by omega) _ _ (by omega) (by omega) (by omega) hE3) rfl ?_)
                        rintro _ w4 ⟨s, ok, rfl, hok, he4⟩
                        refine L.rd (rd_move rfl) rfl ?_
                        refine L.rd (rd_ext0 rfl) rfl ?_
                        refine L.rd (rd_ext1 rfl) rfl ?_
                        refine L.rd (rd_assign rfl) rfl ?_
                        refine L.rd (rd_assign rfl) rfl ?_
                        refine L.nil ?_
                        refine X.sq ?_
                        refine V.seq ?_
                        refine V.seq ?_
                        refine V.region ?_
                        refine L.rd (rd_move rfl) rfl ?_
                        first | refine L.rd (rd_not rfl) rfl ?_ | refine L.rd (rd_notB rfl) rfl ?_
                        refine L.nil ?_
                        refine X.sq ?_
                        first | refine V.cond rfl (fun h114 => ?_) (fun h114 => ?_) | refine V.condB rfl (fun h114 => ?_) (fun h114 => ?_)
                        ·
                          refine V.seq ?_
                          refine V.region ?_
                          refine L.rd (rd_assign rfl) rfl ?_
                          refine L.rd (rd_assign rfl) rfl ?_
                          refine L.nil ?_
                          refine X.sq ?_
                          refine V.ret ?_
                          refine X.sqRet ?_
                          refine X.bkRet ?_
                          refine X.sqRet ?_
                          refine ret_2 Yaam.results83 rfl rfl ?_
                          exact WsP.bad (he3.next he4)
                        ·
                          refine V.skip ?_
                          refine X.sq ?_
                          refine V.seq ?_
                          obtain ⟨t1, c1, hw1, hat1, hc1', hs1⟩ := hok (by simpa using h114)
                          have hp1 := tsz_pos t1
                          refine V.region ?_
                          refine L.rd (rd_move rfl) rfl ?_
                          (refine L.rd (rd_add3 rfl rfl ?_) rfl ?_; omega)
                          refine L.rd (rd_assign rfl) rfl ?_
                          refine L.rd (rd_assign rfl) rfl ?_
                          refine L.nil ?_
                          refine X.sq ?_
                          refine V.ret ?_
                          refine X.bkRet ?_
                          refine X.sqRet ?_
                          refine ret_2 Yaam.results83 rfl rfl ?_
                          refine ⟨_, true, rfl, fun _ => ⟨u1 k v t1, c1, ⟨rfl, by omega, hw1⟩, ?_, by rw [tsz_u1]; omega, by rw [tsz_u1]; omega⟩, he3.next he4⟩
                          have hfl := flat_len t1 c1
                          unfold At
                          rw [flat_u1]
                          refine at_app hat1 ?_
                          obtain ⟨rfl, rfl⟩ : x = 0 ∧ rt = -1 := by omega
                          rw [hfl, show c1 + tsz t1 = i by omega, show (c1 : Int) + tsz t1 - 1 = lf_ by omega]
                          exact at_one ht
            ·
              refine V.seq ?_
              refine V.seq ?_
              refine V.region ?_
              refine L.rd (rd_eql rfl rfl) rfl ?_
              refine L.rd (rd_assign rfl) rfl ?_
              refine L.nil ?_
              refine X.sq ?_
              first | refine V.cond rfl (fun h117 => ?_) (fun h117 => ?_) | refine V.condB rfl (fun h117 => ?_) (fun h117 => ?_)
              ·
                refine V.skip ?_
                refine X.sq ?_
                first | refine V.cond rfl (fun h117_ => ?_) (fun h117_ => ?_) | refine V.condB rfl (fun h117_ => ?_) (fun h117_ => ?_)
                ·
                  refine V.seq ?_
                  refine V.seq ?_
                  refine V.region ?_
                  refine L.rd (rd_fieldAddr tok rfl rfl rfl rfl rfl rfl) rfl ?_
                  refine L.rd (rd_load1 tok rfl rfl rfl (hb3.cell (i := 1) rfl)) rfl ?_
                  refine L.rd (rd_neq rfl rfl) rfl ?_
                  refine L.rd (rd_move rfl) rfl ?_
                  first | refine L.partG rfl rfl (fun g124 => ?_) (fun g124 => ?_) | refine L.partGB rfl rfl (fun g124 => ?_) (fun g124 => ?_)
                  ·
                    refine L.no rfl rfl rfl rfl ?_
                    refine L.no rfl rfl rfl rfl ?_
                    refine L.no rfl rfl rfl rfl ?_
                    refine L.rd (rd_pickT rfl rfl) rfl ?_
                    refine L.rd (rd_move rfl) rfl ?_
                    refine L.no rfl rfl rfl rfl ?_
                    refine L.no rfl rfl rfl rfl ?_
                    refine L.no rfl rfl rfl rfl ?_
                    refine L.no rfl rfl rfl rfl ?_
                    refine L.no rfl rfl rfl rfl ?_
                    refine L.rd (rd_pickT rfl rfl) rfl ?_
                    refine L.nil ?_
                    refine X.sq ?_
                    refine V.condT rfl ?_
                    refine V.seq ?_
                    refine V.region ?_
                    refine L.rd (rd_assign rfl) rfl ?_
                    refine L.rd (rd_assign rfl) rfl ?_
                    refine L.nil ?_
                    refine X.sq ?_
                    refine V.ret ?_
                    refine X.sqRet ?_
                    refine X.bkRet ?_
                    refine X.sqRet ?_
                    refine ret_2 Yaam.results83 rfl rfl ?_
                    exact WsP.bad he3
                  ·
                    refine L.yes rfl rfl ?_
                    refine L.rd (rd_fieldAddr tok rfl rfl rfl rfl rfl rfl) rfl ?_
                    refine L.yes rfl rfl ?_
                    refine L.rd (rd_load1 tok rfl rfl rfl (hb3.cell (i := 2) rfl)) rfl ?_
                    refine L.yes rfl rfl ?_
                    refine L.rd (rd_neq rfl rfl) rfl ?_
                    refine L.rd (rd_pickF rfl rfl) rfl ?_
                    refine L.rd (rd_move rfl) rfl ?_
                    first | refine L.partG rfl rfl (fun g129 => ?_) (fun g129 => ?_) | refine L.partGB rfl rfl (fun g129 => ?_) (fun g129 => ?_)
                    ·
                      refine L.no rfl rfl rfl rfl ?_
                      refine L.no rfl rfl rfl rfl ?_
                      refine L.no rfl rfl rfl rfl ?_
                      refine L.no rfl rfl rfl rfl ?_
                      refine L.no rfl rfl rfl rfl ?_
                      refine L.rd (rd_pickT rfl rfl) rfl ?_
                      refine L.nil ?_
                      refine X.sq ?_
                      refine V.condT rfl ?_
                      refine V.seq ?_
                      refine V.region ?_
                      refine L.rd (rd_assign rfl) rfl ?_
                      refine L.rd (rd_assign rfl) rfl ?_
                      refine L.nil ?_
                      refine X.sq ?_
                      refine V.ret ?_
                      refine X.sqRet ?_
                      refine X.bkRet ?_
                      refine X.sqRet ?_
                      refine ret_2 Yaam.results83 rfl rfl ?_
                      exact WsP.bad he3
                    ·
                      refine L.yes rfl rfl ?_
                      refine L.rd (rd_fieldAddr tok rfl rfl rfl rfl rfl rfl) rfl ?_
                      refine L.yes rfl rfl ?_
                      refine L.rd (rd_load1 tok rfl rfl rfl (hb3.cell (i := 4) rfl)) rfl ?_
                      refine L.yes rfl rfl ?_
                      refine L.rd (rd_move rfl) rfl ?_
                      refine L.yes rfl rfl ?_
                      (refine L.rd (rd_sub3 rfl rfl ?_) rfl ?_; omega)
                      refine L.yes rfl rfl ?_
                      refine L.rd (rd_neq rfl rfl) rfl ?_
                      refine L.rd (rd_pickF rfl rfl) rfl ?_
                      refine L.nil ?_
                      refine X.sq ?_
                      first | refine V.cond rfl (fun h135 => ?_) (fun h135 => ?_) | refine V.condB rfl (fun h135 => ?_) (fun h135 => ?_)
                      ·
                        refine V.seq ?_
                        refine V.region ?_
                        refine L.rd (rd_assign rfl) rfl ?_
                        refine L.rd (rd_assign rfl) rfl ?_
                        refine L.nil ?_
                        refine X.sq ?_
                        refine V.ret ?_
                        refine X.sqRet ?_
                        refine X.bkRet ?_
                        refine X.sqRet ?_
                        refine ret_2 Yaam.results83 rfl rfl ?_
                        exact WsP.bad he3
                      ·
                        refine V.skip ?_
                        refine X.sq ?_
                        refine V.seq ?_
                        refine V.region ?_
                        refine L.rd (rd_move rfl) rfl ?_
                        refine L.rd (rd_move rfl) rfl ?_
                        (refine L.rd (rd_sub3 rfl rfl ?_) rfl ?_; omega)
                        refine L.ef (e_call rfl (ih (n - 1) (by omega) _ _ (by omega) (by omega) (by omega) hE3) rfl ?_)
                        rintro _ w4 ⟨s, ok, rfl, hok, he4⟩
                        have hb4 := he4.bl hb3.lt hb3
                        have hE4 := hE3.next he4
                        have he34 := he3.next he4
                        refine L.rd (rd_move rfl) rfl ?_
                        refine L.rd (rd_ext0 rfl) rfl ?_
                        refine L.rd (rd_ext1 rfl) rfl ?_
                        refine L.rd (rd_assign rfl) rfl ?_
                        refine L.rd (rd_assign rfl) rfl ?_
                        refine L.nil ?_
                        refine X.sq ?_
                        refine V.seq ?_
                        refine V.seq ?_
                        refine V.region ?_
                        refine L.rd (rd_move rfl) rfl ?_
                        first | refine L.rd (rd_not rfl) rfl ?_ | refine L.rd (rd_notB rfl) rfl ?_
                        refine L.rd (rd_move rfl) rfl ?_
                        first | refine L.partG rfl rfl (fun g145 => ?_) (fun g145 => ?_) | refine L.partGB rfl rfl (fun g145 => ?_) (fun g145 => ?_)
                        ·
                          refine L.no rfl rfl rfl rfl ?_
                          refine L.no rfl rfl rfl rfl ?_
                          refine L.no rfl rfl rfl rfl ?_
                          refine L.no rfl rfl rfl rfl ?_
                          refine L.no rfl rfl rfl rfl ?_
                          refine L.no rfl rfl rfl rfl ?_
                          refine L.no rfl rfl rfl rfl ?_
                          refine L.rd (rd_pickT rfl rfl) rfl ?_
                          refine L.nil ?_
                          refine X.sq ?_
                          refine V.condT rfl ?_
                          refine V.seq ?_
                          refine V.region ?_
                          refine L.rd (rd_assign rfl) rfl ?_
                          refine L.rd (rd_assign rfl) rfl ?_
                          refine L.nil ?_
                          refine X.sq ?_
                          refine V.ret ?_
                          refine X.sqRet ?_
                          refine X.bkRet ?_
                          refine X.sqRet ?_
                          refine ret_2 Yaam.results83 rfl rfl ?_
                          exact WsP.bad he34
                        ·
                          obtain ⟨t2, c2, hw2, hat2, hc2, hs2⟩ := hok (by simpa using g145)
                          have hp2 := tsz_pos t2
                          refine L.yes rfl rfl ?_
                          refine L.rd (rd_fieldAddr tok rfl rfl rfl rfl rfl rfl) rfl ?_
                          refine L.yes rfl rfl ?_
                          refine L.rd (rd_load1 tok rfl rfl rfl (hb4.cell (i := 3) rfl)) rfl ?_
                          refine L.yes rfl rfl ?_
                          refine L.rd (rd_move rfl) rfl ?_
                          refine L.yes rfl rfl ?_
                          (refine L.rd (rd_sub3 rfl rfl ?_) rfl ?_; omega)
                          refine L.yes rfl rfl ?_
                          refine L.rd (rd_move rfl) rfl ?_
                          refine L.yes rfl rfl ?_
                          (refine L.rd (rd_sub3 rfl rfl ?_) rfl ?_; omega)
                          refine L.yes rfl rfl ?_
                          refine L.rd (rd_neq rfl rfl) rfl ?_
                          refine L.rd (rd_pickF rfl rfl) rfl ?_
                          refine L.nil ?_
                          refine X.sq ?_
                          first | refine V.cond rfl (fun h153 => ?_) (fun h153 => ?_) | refine V.condB rfl (fun h153 => ?_) (fun h153 => ?_)
                          ·
                            refine V.seq ?_
                            refine V.region ?_
                            refine L.rd (rd_assign rfl) rfl ?_
                            refine L.rd (rd_assign rfl) rfl ?_
                            refine L.nil ?_
                            refine X.sq ?_
                            refine V.ret ?_
                            refine X.sqRet ?_
                            refine X.bkRet ?_
                            refine X.sqRet ?_
                            refine ret_2 Yaam.results83 rfl rfl ?_
                            exact WsP.bad he34
                          ·
                            refine V.skip ?_
                            refine X.sq ?_
                            refine V.seq ?_
                            refine V.region ?_
                            refine L.rd (rd_move rfl) rfl ?_
                            refine L.rd (rd_fieldAddr tok rfl rfl rfl rfl rfl rfl) rfl ?_
                            refine L.rd (rd_load1 tok rfl rfl rfl (hb4.cell (i := 3) rfl)) rfl ?_
                            refine L.ef (e_call rfl (ih (n - 1) (by omega) _ _ (by omega) (by omega) (by omega) hE4) rfl ?_)
                            rintro _ w5 ⟨s5, ok5, rfl, hok5, he5⟩
                            refine L.rd (rd_move rfl) rfl ?_
                            refine L.rd (rd_ext0 rfl) rfl ?_
                            refine L.rd (rd_ext1 rfl) rfl ?_
                            refine L.rd (rd_assign rfl) rfl ?_
                            refine L.rd (rd_assign rfl) rfl ?_
                            refine L.nil ?_
                            refine X.sq ?_
                            refine V.seq ?_
                            refine V.seq ?_
                            refine V.region ?_
                            refine L.rd (rd_move rfl) rfl ?_
                            first | refine L.rd (rd_not rfl) rfl ?_ | refine L.rd (rd_notB rfl) rfl ?_
                            refine L.nil ?_
                            refine X.sq ?_
                            first | refine V.cond rfl (fun h162 => ?_) (fun h162 => ?_) | refine V.condB rfl (fun h162 => ?_) (fun h162 => ?_)
                            ·
                              refine V.seq ?_
                              refine V.region ?_
                              refine L.rd (rd_assign rfl) rfl ?_
                              refine L.rd (rd_assign rfl) rfl ?_
                              refine L.nil ?_
                              refine X.sq ?_
                              refine V.ret ?_
                              refine X.sqRet ?_
                              refine X.bkRet ?_
                              refine X.sqRet ?_
                              refine ret_2 Yaam.results83 rfl rfl ?_
                              exact WsP.bad (he34.next he5)
                            ·
                              refine V.skip ?_
                              refine X.sq ?_
                              refine V.seq ?_
                              obtain ⟨t1, c1, hw1, hat1, hc1', hs1⟩ := hok5 (by simpa using h162)
                              have hp1 := tsz_pos t1
                              refine V.region ?_
                              refine L.rd (rd_move rfl) rfl ?_
                              (refine L.rd (rd_add3 rfl rfl ?_) rfl ?_; omega)
                              refine L.rd (rd_move rfl) rfl ?_
                              (refine L.rd (rd_add3 rfl rfl ?_) rfl ?_; omega)
                              refine L.rd (rd_assign rfl) rfl ?_
                              refine L.rd (rd_assign rfl) rfl ?_
                              refine L.nil ?_
                              refine X.sq ?_
                              refine V.ret ?_
                              refine X.bkRet ?_
                              refine X.sqRet ?_
                              refine ret_2 Yaam.results83 rfl rfl ?_
                              refine ⟨_, true, rfl, fun _ => ⟨b2 k t1 t2, c1, ⟨rfl, rfl, rfl, by omega, hw1, hw2⟩, ?_, by rw [tsz_b2]; omega, by rw [tsz_b2]; omega⟩, he34.next he5⟩
                              have hfl := flat_len t1 c1
                              have hfl2 := flat_len t2 (c1 + tsz t1)
                              unfold At
                              rw [flat_b2]
                              obtain ⟨rfl, rfl⟩ : v = 0 ∧ x = 0 := by omega
                              refine at_app (at_app hat1 ?_) ?_
                              · rw [hfl, show c1 + tsz t1 = c2 by omega]; exact hat2
                              · rw [List.length_append, hfl, hfl2, show c1 + (tsz t1 + tsz t2) = i by omega, show (c1 : Int) + tsz t1 - 1 = lf_ by omega, show (c1 : Int) + tsz t1 + tsz t2 - 1 = rt by omega]
                                exact at_one ht
                ·
                  exact absurd h117 h117_
              ·
                refine V.seq ?_
                refine V.region ?_
                refine L.rd (rd_eql rfl rfl) rfl ?_
                refine L.rd (rd_assign rfl) rfl ?_
                refine L.nil ?_
                refine X.sq ?_
                first | refine V.cond rfl (fun h117 => ?_) (fun h117 => ?_) | refine V.condB rfl (fun h117 => ?_) (fun h117 => ?_)
                ·
                  refine V.skip ?_
                  refine X.sq ?_
                  first | refine V.cond rfl (fun h117_ => ?_) (fun h117_ => ?_) | refine V.condB rfl (fun h117_ => ?_) (fun h117_ => ?_)
                  ·
                    refine V.seq ?_
                    refine V.seq ?_
                    refine V.region ?_
                    refine L.rd (rd_fieldAddr tok rfl rfl rfl rfl rfl rfl) rfl ?_
                    refine L.rd (rd_load1 tok rfl rfl rfl (hb3.cell (i := 1) rfl)) rfl ?_
                    refine L.rd (rd_neq rfl rfl) rfl ?_
                    refine L.rd (rd_move rfl) rfl ?_
                    first | refine L.partG rfl rfl (fun g124 => ?_) (fun g124 => ?_) | refine L.partGB rfl rfl (fun g124 => ?_) (fun g124 => ?_)
                    ·
                      refine L.no rfl rfl rfl rfl ?_
                      refine L.no rfl rfl rfl rfl ?_
                      refine L.no rfl rfl rfl rfl ?_
                      refine L.rd (rd_pickT rfl rfl) rfl ?_
                      refine L.rd (rd_move rfl) rfl ?_
                      refine L.no rfl rfl rfl rfl ?_
                      refine L.no rfl rfl rfl rfl ?_
                      refine L.no rfl rfl rfl rfl ?_
                      refine L.no rfl rfl rfl rfl ?_
                      refine L.no rfl rfl rfl rfl ?_
                      refine L.rd (rd_pickT rfl rfl) rfl ?_
                      refine L.nil ?_
                      refine X.sq ?_
                      refine V.condT rfl ?_
                      refine V.seq ?_
                      refine V.region ?_
                      refine L.rd (rd_assign rfl) rfl ?_
                      refine L.rd (rd_assign rfl) rfl ?_
                      refine L.nil ?_
                      refine X.sq ?_
                      refine V.ret ?_
                      refine X.sqRet ?_
                      refine X.bkRet ?_
                      refine X.sqRet ?_
                      refine ret_2 Yaam.results83 rfl rfl ?_
                      exact WsP.bad he3
                    ·
                      refine L.yes rfl rfl ?_
                      refine L.rd (rd_fieldAddr tok rfl rfl rfl rfl rfl rfl) rfl ?_
                      refine L.yes rfl rfl ?_
                      refine L.rd (rd_load1 tok rfl rfl rfl (hb3.cell (i := 2) rfl)) rfl ?_
                      refine L.yes rfl rfl ?_
                      refine L.rd (rd_neq rfl rfl) rfl ?_
                      refine L.rd (rd_pickF rfl rfl) rfl ?_
                      refine L.rd (rd_move rfl) rfl ?_
                      first | refine L.partG rfl rfl (fun g129 => ?_) (fun g129 => ?_) | refine L.partGB rfl rfl (fun g129 => ?_) (fun g129 => ?_)
                      ·
                        refine L.no rfl rfl rfl rfl ?_
                        refine L.no rfl rfl rfl rfl ?_
                        refine L.no rfl rfl rfl rfl ?_
                        refine L.no rfl rfl rfl rfl ?_
                        refine L.no rfl rfl rfl rfl ?_
                        refine L.rd (rd_pickT rfl rfl) rfl ?_
                        refine L.nil ?_
                        refine X.sq ?_
                        refine V.condT rfl ?_
                        refine V.seq ?_
                        refine V.region ?_
                        refine L.rd (rd_assign rfl) rfl ?_
                        refine L.rd (rd_assign rfl) rfl ?_
                        refine L.nil ?_
                        refine X.sq ?_
                        refine V.ret ?_
                        refine X.sqRet ?_
                        refine X.bkRet ?_
                        refine X.sqRet ?_
                        refine ret_2 Yaam.results83 rfl rfl ?_
                        exact WsP.bad he3
                      ·
                        refine L.yes rfl rfl ?_
                        refine L.rd (rd_fieldAddr tok rfl rfl rfl rfl rfl rfl) rfl ?_
                        refine L.yes rfl rfl ?_
                        refine L.rd (rd_load1 tok rfl rfl rfl (hb3.cell (i := 4) rfl)) rfl ?_
                        refine L.yes rfl rfl ?_
                        refine L.rd (rd_move rfl) rfl ?_
                        refine L.yes rfl rfl ?_
                        (refine L.rd (rd_sub3 rfl rfl ?_) rfl ?_; omega)
                        refine L.yes rfl rfl ?_
                        refine L.rd (rd_neq rfl rfl) rfl ?_
                        refine L.rd (rd_pickF rfl rfl) rfl ?_
                        refine L.nil ?_
                        refine X.sq ?_
                        first | refine V.cond rfl (fun h135 => ?_) (fun h135 => ?_) | refine V.condB rfl (fun h135 => ?_) (fun h135 => ?_)
                        ·
                          refine V.seq ?_
                          refine V.region ?_
                          refine L.rd (rd_assign rfl) rfl ?_
                          refine L.rd (rd_assign rfl) rfl ?_
                          refine L.nil ?_
                          refine X.sq ?_
                          refine V.ret ?_
                          refine X.sqRet ?_
                          refine X.bkRet ?_
                          refine X.sqRet ?_
                          refine ret_2 Yaam.results83 rfl rfl ?_
                          exact WsP.bad he3
                        ·
                          refine V.skip ?_
                          refine X.sq ?_
                          refine V.seq ?_
                          refine V.region ?_
                          refine L.rd (rd_move rfl) rfl ?_
                          refine L.rd (rd_move rfl) rfl ?_
                          (refine L.rd (rd_sub3 rfl rfl ?_) rfl ?_; omega)
                          refine L.ef (e_call rfl (ih (n - 1) (by omega) _ _ (by omega) (by omega) (by omega) hE3) rfl ?_)
                          rintro _ w4 ⟨s, ok, rfl, hok, he4⟩
                          have hb4 := he4.bl hb3.lt hb3
                          have hE4 := hE3.next he4
                          have he34 := he3.next he4
                          refine L.rd (rd_move rfl) rfl ?_
                          refine L.rd (rd_ext0 rfl) rfl ?_
                          refine L.rd (rd_ext1 rfl) rfl ?_
                          refine L.rd (rd_assign rfl) rfl ?_
                          refine L.rd (rd_assign rfl) rfl ?_
                          refine L.nil ?_
                          refine X.sq ?_
                          refine V.seq ?_
                          refine V.seq ?_
                          refine V.region ?_
                          refine L.rd (rd_move rfl) rfl ?_
                          first | refine L.rd (rd_not rfl) rfl ?_ | refine L.rd (rd_notB rfl) rfl ?_
                          refine L.rd (rd_move rfl) rfl ?_
                          first | refine L.partG rfl rfl (fun g145 => ?_) (fun g145 => ?_) | refine L.partGB rfl rfl (fun g145 => ?_) (fun g145 => ?_)
                          ·
                            refine L.no rfl rfl rfl rfl ?_
                            refine L.no rfl rfl rfl rfl ?_
                            refine L.no rfl rfl rfl rfl ?_
                            refine L.no rfl rfl rfl rfl ?_
                            refine L.no rfl rfl rfl rfl ?_
                            refine L.no rfl rfl rfl rfl ?_
                            refine L.no rfl rfl rfl rfl ?_
                            refine L.rd (rd_pickT rfl rfl) rfl ?_
                            refine L.nil ?_
                            refine X.sq ?_
                            refine V.condT rfl ?_
                            refine V.seq ?_
                            refine V.region ?_
                            refine L.rd (rd_assign rfl) rfl ?_
                            refine L.rd (rd_assign rfl) rfl ?_
                            refine L.nil ?_
                            refine X.sq ?_
                            refine V.ret ?_
                            refine X.sqRet ?_
                            refine X.bkRet ?_
                            refine X.sqRet ?_
                            refine ret_2 Yaam.results83 rfl rfl ?_
                            exact WsP.bad he34
                          ·
                            obtain ⟨t2, c2, hw2, hat2, hc2, hs2⟩ := hok (by simpa using g145)
                            have hp2 := tsz_pos t2
                            refine L.yes rfl rfl ?_
                            refine L.rd (rd_fieldAddr tok rfl rfl rfl rfl rfl rfl) rfl ?_
                            refine L.yes rfl rfl ?_
                            refine L.rd (rd_load1 tok rfl rfl rfl (hb4.cell (i := 3) rfl)) rfl ?_
                            refine L.yes rfl rfl ?_
                            refine L.rd (rd_move rfl) rfl ?_
                            refine L.yes rfl rfl ?_
                            (refine L.rd (rd_sub3 rfl rfl ?_) rfl ?_; omega)
                            refine L.yes rfl rfl ?_
                            refine L.rd (rd_move rfl) rfl ?_
                            refine L.yes rfl rfl ?_
                            (refine L.rd (rd_sub3 rfl rfl ?_) rfl ?_; omega)
                            refine L.yes rfl rfl ?_
                            refine L.rd (rd_neq rfl rfl) rfl ?_
                            refine L.rd (rd_pickF rfl rfl) rfl ?_
                            refine L.nil ?_
                            refine X.sq ?_
                            first | refine V.cond rfl (fun h153 => ?_) (fun h153 => ?_) | refine V.condB rfl (fun h153 => ?_) (fun h153 => ?_)
                            ·
                              refine V.seq ?_
                              refine V.region ?_
                              refine L.rd (rd_assign rfl) rfl ?_
                              refine L.rd (rd_assign rfl) rfl ?_
                              refine L.nil ?_
                              refine X.sq ?_
                              refine V.ret ?_
                              refine X.sqRet ?_
                              refine X.bkRet ?_
                              refine X.sqRet ?_
                              refine ret_2 Yaam.results83 rfl rfl ?_
                              exact WsP.bad he34
                            ·
                              refine V.skip ?_
                              refine X.sq ?_
                              refine V.seq ?_
                              refine V.region ?_
                              refine L.rd (rd_move rfl) rfl ?_
                              refine L.rd (rd_fieldAddr tok rfl rfl rfl rfl rfl rfl) rfl ?_
                              refine L.rd (rd_load1 tok rfl rfl rfl (hb4.cell (i := 3) rfl)) rfl ?_
                              refine L.ef (e_call rfl (ih (n - 1) (by omega) _ _ (by omega) (by omega) (by omega) hE4) rfl ?_)
                              rintro _ w5 ⟨s5, ok5, rfl, hok5, he5⟩
                              refine L.rd (rd_move rfl) rfl ?_
                              refine L.rd (rd_ext0 rfl) rfl ?_
                              refine L.rd (rd_ext1 rfl) rfl ?_
                              refine L.rd (rd_assign rfl) rfl ?_
                              refine L.rd (rd_assign rfl) rfl ?_
                              refine L.nil ?_
                              refine X.sq ?_
                              refine V.seq ?_
                              refine V.seq ?_
                              refine V.region ?_
                              refine L.rd (rd_move rfl) rfl ?_
                              first | refine L.rd (rd_not rfl) rfl ?_ | refine L.rd (rd_notB rfl) rfl ?_
                              refine L.nil ?_
                              refine X.sq ?_
                              first | refine V.cond rfl (fun h162 => ?_) (fun h162 => ?_) | refine V.condB rfl (fun h162 => ?_) (fun h162 => ?_)
                              ·
                                refine V.seq ?_
                                refine V.region ?_
                                refine L.rd (rd_assign rfl) rfl ?_
                                refine L.rd (rd_assign rfl) rfl ?_
                                refine L.nil ?_
                                refine X.sq ?_
                                refine V.ret ?_
                                refine X.sqRet ?_
                                refine X.bkRet ?_
                                refine X.sqRet ?_
                                refine ret_2 Yaam.results83 rfl rfl ?_
                                exact WsP.bad (he34.next he5)
                              ·
                                refine V.skip ?_
                                refine X.sq ?_
                                refine V.seq ?_
                                obtain ⟨t1, c1, hw1, hat1, hc1', hs1⟩ := hok5 (by simpa using h162)
                                have hp1 := tsz_pos t1
                                refine V.region ?_
                                refine L.rd (rd_move rfl) rfl ?_
                                (refine L.rd (rd_add3 rfl rfl ?_) rfl ?_; omega)
                                refine L.rd (rd_move rfl) rfl ?_
                                (refine L.rd (rd_add3 rfl rfl ?_) rfl ?_; omega)
                                refine L.rd (rd_assign rfl) rfl ?_
                                refine L.rd (rd_assign rfl) rfl ?_
                                refine L.nil ?_
                                refine X.sq ?_
                                refine V.ret ?_
                                refine X.bkRet ?_
                                refine X.sqRet ?_
                                refine ret_2 Yaam.results83 rfl rfl ?_
                                refine ⟨_, true, rfl, fun _ => ⟨b2 k t1 t2, c1, ⟨rfl, rfl, rfl, by omega, hw1, hw2⟩, ?_, by rw [tsz_b2]; omega, by rw [tsz_b2]; omega⟩, he34.next he5⟩
                                have hfl := flat_len t1 c1
                                have hfl2 := flat_len t2 (c1 + tsz t1)
                                unfold At
                                rw [flat_b2]
                                obtain ⟨rfl, rfl⟩ : v = 0 ∧ x = 0 := by omega
                                refine at_app (at_app hat1 ?_) ?_
                                · rw [hfl, show c1 + tsz t1 = c2 by omega]; exact hat2
                                · rw [List.length_append, hfl, hfl2, show c1 + (tsz t1 + tsz t2) = i by omega, show (c1 : Int) + tsz t1 - 1 = lf_ by omega, show (c1 : Int) + tsz t1 + tsz t2 - 1 = rt by omega]
                                  exact at_one ht
                  ·
                    exact absurd h117 h117_
                ·
                  refine V.region ?_
                  refine L.rd (rd_eql rfl rfl) rfl ?_
                  refine L.rd (rd_assign rfl) rfl ?_
                  refine L.nil ?_
                  refine X.sq ?_
                  first | refine V.cond rfl (fun h117 => ?_) (fun h117 => ?_) | refine V.condB rfl (fun h117 => ?_) (fun h117 => ?_)
                  ·
                    refine V.seq ?_
                    refine V.seq ?_
                    refine V.region ?_
                    refine L.rd (rd_fieldAddr tok rfl rfl rfl rfl rfl rfl) rfl ?_
                    refine L.rd (rd_load1 tok rfl rfl rfl (hb3.cell (i := 1) rfl)) rfl ?_
                    refine L.rd (rd_neq rfl rfl) rfl ?_
                    refine L.rd (rd_move rfl) rfl ?_
                    first | refine L.partG rfl rfl (fun g124 => ?_) (fun g124 => ?_) | refine L.partGB rfl rfl (fun g124 => ?_) (fun g124 => ?_)
                    ·
                      refine L.no rfl rfl rfl rfl ?_
                      refine L.no rfl rfl rfl rfl ?_
                      refine L.no rfl rfl rfl rfl ?_
                      refine L.rd (rd_pickT rfl rfl) rfl ?_
                      refine L.rd (rd_move rfl) rfl ?_
                      refine L.no rfl rfl rfl rfl ?_
                      refine L.no rfl rfl rfl rfl ?_
                      refine L.no rfl rfl rfl rfl ?_
                      refine L.no rfl rfl rfl rfl ?_
                      refine L.no rfl rfl rfl rfl ?_
                      refine L.rd (rd_pickT rfl rfl) rfl ?_
                      refine L.nil ?_
                      refine X.sq ?_
                      refine V.condT rfl ?_
                      refine V.seq ?_
                      refine V.region ?_
                      refine L.rd (rd_assign rfl) rfl ?_
                      refine L.rd (rd_assign rfl) rfl ?_
                      refine L.nil ?_
                      refine X.sq ?_
                      refine V.ret ?_
                      refine X.sqRet ?_
                      refine X.bkRet ?_
                      refine X.sqRet ?_
                      refine ret_2 Yaam.results83 rfl rfl ?_
                      exact WsP.bad he3
                    ·
                      refine L.yes rfl rfl ?_
                      refine L.rd (rd_fieldAddr tok rfl rfl rfl rfl rfl rfl) rfl ?_
                      refine L.yes rfl rfl ?_
                      refine L.rd (rd_load1 tok rfl rfl rfl (hb3.cell (i := 2) rfl)) rfl ?_
                      refine L.yes rfl rfl ?_
                      refine L.rd (rd_neq rfl rfl) rfl ?_
                      refine L.rd (rd_pickF rfl rfl) rfl ?_
                      refine L.rd (rd_move rfl) rfl ?_
                      first | refine L.partG rfl rfl (fun g129 => ?_) (fun g129 => ?_) | refine L.partGB rfl rfl (fun g129 => ?_) (fun g129 => ?_)
                      ·
                        refine L.no rfl rfl rfl rfl ?_
                        refine L.no rfl rfl rfl rfl ?_
                        refine L.no rfl rfl rfl rfl ?_
                        refine L.no rfl rfl rfl rfl ?_
                        refine L.no rfl rfl rfl rfl ?_
                        refine L.rd (rd_pickT rfl rfl) rfl ?_
                        refine L.nil ?_
                        refine X.sq ?_
                        refine V.condT rfl ?_
                        refine V.seq ?_
                        refine V.region ?_
                        refine L.rd (rd_assign rfl) rfl ?_
                        refine L.rd (rd_assign rfl) rfl ?_
                        refine L.nil ?_
                        refine X.sq ?_
                        refine V.ret ?_
                        refine X.sqRet ?_
                        refine X.bkRet ?_
                        refine X.sqRet ?_
                        refine ret_2 Yaam.results83 rfl rfl ?_
                        exact WsP.bad he3
                      ·
                        refine L.yes rfl rfl ?_
                        refine L.rd (rd_fieldAddr tok rfl rfl rfl rfl rfl rfl) rfl ?_
                        refine L.yes rfl rfl ?_
                        refine L.rd (rd_load1 tok rfl rfl rfl (hb3.cell (i := 4) rfl)) rfl ?_
                        refine L.yes rfl rfl ?_
                        refine L.rd (rd_move rfl) rfl ?_
                        refine L.yes rfl rfl ?_
                        (refine L.rd (rd_sub3 rfl rfl ?_) rfl ?_; omega)
                        refine L.yes rfl rfl ?_
                        refine L.rd (rd_neq rfl rfl) rfl ?_
                        refine L.rd (rd_pickF rfl rfl) rfl ?_
                        refine L.nil ?_
                        refine X.sq ?_
                        first | refine V.cond rfl (fun h135 => ?_) (fun h135 => ?_) | refine V.condB rfl (fun h135 => ?_) (fun h135 => ?_)
                        ·
                          refine V.seq ?_
                          refine V.region ?_
                          refine L.rd (rd_assign rfl) rfl ?_
                          refine L.rd (rd_assign rfl) rfl ?_
                          refine L.nil ?_
                          refine X.sq ?_
                          refine V.ret ?_
                          refine X.sqRet ?_
                          refine X.bkRet ?_
                          refine X.sqRet ?_
                          refine ret_2 Yaam.results83 rfl rfl ?_
                          exact WsP.bad he3
                        ·
                          refine V.skip ?_
                          refine X.sq ?_
                          refine V.seq ?_
                          refine V.region ?_
                          refine L.rd (rd_move rfl) rfl ?_
                          refine L.rd (rd_move rfl) rfl ?_
                          (refine L.rd (rd_sub3 rfl rfl ?_) rfl ?_; omega)
                          refine L.ef (e_call rfl (ih (n - 1) (by omega) _ _ (by omega) (by omega) (by omega) hE3) rfl ?_)
                          rintro _ w4 ⟨s, ok, rfl, hok, he4⟩
                          have hb4 := he4.bl hb3.lt hb3
                          have hE4 := hE3.next he4
                          have he34 := he3.next he4
                          refine L.rd (rd_move rfl) rfl ?_
                          refine L.rd (rd_ext0 rfl) rfl ?_
                          refine L.rd (rd_ext1 rfl) rfl ?_
                          refine L.rd (rd_assign rfl) rfl ?_
                          refine L.rd (rd_assign rfl) rfl ?_
                          refine L.nil ?_
                          refine X.sq ?_
                          refine V.seq ?_
                          refine V.seq ?_
                          refine V.region ?_
                          refine L.rd (rd_move rfl) rfl ?_
                          first | refine L.rd (rd_not rfl) rfl ?_ | refine L.rd (rd_notB rfl) rfl ?_
                          refine L.rd (rd_move rfl) rfl ?_
                          first | refine L.partG rfl rfl (fun g145 => ?_) (fun g145 => ?_) | refine L.partGB rfl rfl (fun g145 => ?_) (fun g145 => ?_)
                          ·
                            refine L.no rfl rfl rfl rfl ?_
                            refine L.no rfl rfl rfl rfl ?_
                            refine L.no rfl rfl rfl rfl ?_
                            refine L.no rfl rfl rfl rfl ?_
                            refine L.no rfl rfl rfl rfl ?_
                            refine L.no rfl rfl rfl rfl ?_
                            refine L.no rfl rfl rfl rfl ?_
                            refine L.rd (rd_pickT rfl rfl) rfl ?_
                            refine L.nil ?_
                            refine X.sq ?_
                            refine V.condT rfl ?_
                            refine V.seq ?_
                            refine V.region ?_
                            refine L.rd (rd_assign rfl) rfl ?_
                            refine L.rd (rd_assign rfl) rfl ?_
                            refine L.nil ?_
                            refine X.sq ?_
                            refine V.ret ?_
                            refine X.sqRet ?_
                            refine X.bkRet ?_
                            refine X.sqRet ?_
                            refine ret_2 Yaam.results83 rfl rfl ?_
                            exact WsP.bad he34
                          ·
                            obtain ⟨t2, c2, hw2, hat2, hc2, hs2⟩ := hok (by simpa using g145)
                            have hp2 := tsz_pos t2
                            refine L.yes rfl rfl ?_
                            refine L.rd (rd_fieldAddr tok rfl rfl rfl rfl rfl rfl) rfl ?_
                            refine L.yes rfl rfl ?_
                            refine L.rd (rd_load1 tok rfl rfl rfl (hb4.cell (i := 3) rfl)) rfl ?_
                            refine L.yes rfl rfl ?_
                            refine L.rd (rd_move rfl) rfl ?_
                            refine L.yes rfl rfl ?_
                            (refine L.rd (rd_sub3 rfl rfl ?_) rfl ?_; omega)
                            refine L.yes rfl rfl ?_
                            refine L.rd (rd_move rfl) rfl ?_
                            refine L.yes rfl rfl ?_
                            (refine L.rd (rd_sub3 rfl rfl ?_) rfl ?_; omega)
                            refine L.yes rfl rfl ?_
                            refine L.rd (rd_neq rfl rfl) rfl ?_
                            refine L.rd (rd_pickF rfl rfl) rfl ?_
                            refine L.nil ?_
                            refine X.sq ?_
                            first | refine V.cond rfl (fun h153 => ?_) (fun h153 => ?_) | refine V.condB rfl (fun h153 => ?_) (fun h153 => ?_)
                            ·
                              refine V.seq ?_
                              refine V.region ?_
                              refine L.rd (rd_assign rfl) rfl ?_
                              refine L.rd (rd_assign rfl) rfl ?_
                              refine L.nil ?_
                              refine X.sq ?_
                              refine V.ret ?_
                              refine X.sqRet ?_
                              refine X.bkRet ?_
                              refine X.sqRet ?_
                              refine ret_2 Yaam.results83 rfl rfl ?_
                              exact WsP.bad he34
                            ·
                              refine V.skip ?_
                              refine X.sq ?_
                              refine V.seq ?_
                              refine V.region ?_
                              refine L.rd (rd_move rfl) rfl ?_
                              refine L.rd (rd_fieldAddr tok rfl rfl rfl rfl rfl rfl) rfl ?_
                              refine L.rd (rd_load1 tok rfl rfl rfl (hb4.cell (i := 3) rfl)) rfl ?_
                              refine L.ef (e_call rfl (ih (n - 1) (by omega) _ _ (by omega) (by omega) (by omega) hE4) rfl ?_)
                              rintro _ w5 ⟨s5, ok5, rfl, hok5, he5⟩
                              refine L.rd (rd_move rfl) rfl ?_
                              refine L.rd (rd_ext0 rfl) rfl ?_
                              refine L.rd (rd_ext1 rfl) rfl ?_
                              refine L.rd (rd_assign rfl) rfl ?_
                              refine L.rd (rd_assign rfl) rfl ?_
                              refine L.nil ?_
                              refine X.sq ?_
                              refine V.seq ?_
                              refine V.seq ?_
                              refine V.region ?_
                              refine L.rd (rd_move rfl) rfl ?_
                              first | refine L.rd (rd_not rfl) rfl ?_ | refine L.rd (rd_notB rfl) rfl ?_
                              refine L.nil ?_
                              refine X.sq ?_
                              first | refine V.cond rfl (fun h162 => ?_) (fun h162 => ?_) | refine V.condB rfl (fun h162 => ?_) (fun h162 => ?_)
                              ·
                                refine V.seq ?_
                                refine V.region ?_
                                refine L.rd (rd_assign rfl) rfl ?_
                                refine L.rd (rd_assign rfl) rfl ?_
                                refine L.nil ?_
                                refine X.sq ?_
                                refine V.ret ?_
                                refine X.sqRet ?_
                                refine X.bkRet ?_
                                refine X.sqRet ?_
                                refine ret_2 Yaam.results83 rfl rfl ?_
                                exact WsP.bad (he34.next he5)
                              ·
                                refine V.skip ?_
                                refine X.sq ?_
                                refine V.seq ?_
                                obtain ⟨t1, c1, hw1, hat1, hc1', hs1⟩ := hok5 (by simpa using h162)
                                have hp1 := tsz_pos t1
                                refine V.region ?_
                                refine L.rd (rd_move rfl) rfl ?_
                                (refine L.rd (rd_add3 rfl rfl ?_) rfl ?_; omega)
                                refine L.rd (rd_move rfl) rfl ?_
                                (refine L.rd (rd_add3 rfl rfl ?_) rfl ?_; omega)
                                refine L.rd (rd_assign rfl) rfl ?_
                                refine L.rd (rd_assign rfl) rfl ?_
                                refine L.nil ?_
                                refine X.sq ?_
                                refine V.ret ?_
                                refine X.bkRet ?_
                                refine X.sqRet ?_
                                refine ret_2 Yaam.results83 rfl rfl ?_
                                refine ⟨_, true, rfl, fun _ => ⟨b2 k t1 t2, c1, ⟨rfl, rfl, rfl, by omega, hw1, hw2⟩, ?_, by rw [tsz_b2]; omega, by rw [tsz_b2]; omega⟩, he34.next he5⟩
                                have hfl := flat_len t1 c1
                                have hfl2 := flat_len t2 (c1 + tsz t1)
                                unfold At
                                rw [flat_b2]
                                obtain ⟨rfl, rfl⟩ : v = 0 ∧ x = 0 := by omega
                                refine at_app (at_app hat1 ?_) ?_
                                · rw [hfl, show c1 + tsz t1 = c2 by omega]; exact hat2
                                · rw [List.length_append, hfl, hfl2, show c1 + (tsz t1 + tsz t2) = i by omega, show (c1 : Int) + tsz t1 - 1 = lf_ by omega, show (c1 : Int) + tsz t1 + tsz t2 - 1 = rt by omega]
                                  exact at_one ht
                  ·
                    refine V.skip ?_
                    refine X.bk ?_
                    refine X.sq ?_
                    refine V.seq ?_
                    refine V.region ?_
                    refine L.rd (rd_assign rfl) rfl ?_
                    refine L.rd (rd_assign rfl) rfl ?_
                    refine L.nil ?_
                    refine X.sq ?_
                    refine V.ret ?_
                    refine ret_2 Yaam.results83 rfl rfl ?_
                    exact WsP.bad he3

theorem swf_bad (ns : List Nd) (root : Int) (hnot : ¬ WF ns root) (nv : Value) (w : World) (hN : Rs w 5 nv ns.length (ns.flatMap ndE)) (hlen : ns.length ≤ 1000000000) : Ret Yaam.prog 44 [.agg #[nv, .int .i64 root]] w fun r w' => r = .bool false ∧ Ext w.heap.size w w' := by
  obtain ⟨na, nc, rfl, hfn⟩ := id hN.form
  refine enter1 Yaam.func44 Yaam.ntmps44 (by kernel_rfl) rfl rfl ?_
  refine V.seq ?_
  refine V.region ?_
  refine L.ef (e_box (cs := [_, _]) rfl rfl (by first | (simp only [size_addB, size_setB, size_drew]; rfl) | rfl) rfl ?_)
  refine L.rd (rd_assign rfl) rfl ?_
  refine L.nil ?_
  refine X.sq ?_
  refine V.seq ?_
  have hp := Bl.new w 34 [.slice na ns.length nc, .int .i64 root]
  have hE := (Ext.refl _ w).addNew 34 [.slice na ns.length nc, .int .i64 root]
  generalize addB w 34 [.slice na ns.length nc, .int .i64 root] = w0 at hp hE ⊢
  refine V.region ?_
  refine L.rd (rd_fieldAddr tok rfl rfl rfl rfl rfl rfl) rfl ?_
  refine L.rd (rd_load1 tok rfl rfl rfl (hp.cell rfl)) rfl ?_
  refine L.rd (rd_lenSlice tok rfl rfl rfl) rfl ?_
  refine L.rd (rd_assign rfl) rfl ?_
  refine L.nil ?_
  refine X.sq ?_
  refine V.seq ?_
  refine V.seq ?_
  refine V.region ?_
  refine L.rd (rd_move rfl) rfl ?_
  refine L.rd (rd_lss rfl rfl) rfl ?_
  refine L.rd (rd_move rfl) rfl ?_
  first | refine L.partG rfl rfl (fun g11 => ?_) (fun g11 => ?_) | refine L.partGB rfl rfl (fun g11 => ?_) (fun g11 => ?_)
  ·
    refine L.no rfl rfl rfl rfl ?_
    refine L.no rfl rfl rfl rfl ?_
    refine L.rd (rd_pickT rfl rfl) rfl ?_
    refine L.rd (rd_move rfl) rfl ?_
    refine L.no rfl rfl rfl rfl ?_
    refine L.no rfl rfl rfl rfl ?_
    refine L.no rfl rfl rfl rfl ?_
    refine L.no rfl rfl rfl rfl ?_
    refine L.no rfl rfl rfl rfl ?_
    refine L.rd (rd_pickT rfl rfl) rfl ?_
    refine L.nil ?_
    refine X.sq ?_
    refine V.condT rfl ?_
    refine V.seq ?_
    refine V.region ?_
    refine L.rd (rd_assign rfl) rfl ?_
    refine L.nil ?_
    refine X.sq ?_
    refine V.ret ?_
    refine X.sqRet ?_
    refine ret_1 Yaam.results44 rfl ?_
    exact ⟨rfl, hE⟩
  ·
    refine L.yes rfl rfl ?_
    refine L.rd (rd_move rfl) rfl ?_
    refine L.yes rfl rfl ?_
    refine L.rd (rd_gtr rfl rfl) rfl ?_
    refine L.rd (rd_pickF rfl rfl) rfl ?_
    refine L.rd (rd_move rfl) rfl ?_
    first | refine L.partG rfl rfl (fun g15 => ?_) (fun g15 => ?_) | refine L.partGB rfl rfl (fun g15 => ?_) (fun g15 => ?_)
    ·
      refine L.no rfl rfl rfl rfl ?_
      refine L.no rfl rfl rfl rfl ?_
      refine L.no rfl rfl rfl rfl ?_
      refine L.no rfl rfl rfl rfl ?_
      refine L.no rfl rfl rfl rfl ?_
      refine L.rd (rd_pickT rfl rfl) rfl ?_
      refine L.nil ?_
      refine X.sq ?_
      refine V.condT rfl ?_
      refine V.seq ?_
      refine V.region ?_
      refine L.rd (rd_assign rfl) rfl ?_
      refine L.nil ?_
      refine X.sq ?_
      refine V.ret ?_
      refine X.sqRet ?_
      refine ret_1 Yaam.results44 rfl ?_
      exact ⟨rfl, hE⟩
    ·
      refine L.yes rfl rfl ?_
      refine L.rd (rd_fieldAddr tok rfl rfl rfl rfl rfl rfl) rfl ?_
      refine L.yes rfl rfl ?_
      refine L.rd (rd_load1 tok rfl rfl rfl (hp.cell (i := 1) rfl)) rfl ?_
      refine L.yes rfl rfl ?_
      refine L.rd (rd_move rfl) rfl ?_
      refine L.yes rfl rfl ?_
      (refine L.rd (rd_sub3 rfl rfl ?_) rfl ?_; omega)
      refine L.yes rfl rfl ?_
      refine L.rd (rd_neq rfl rfl) rfl ?_
      refine L.rd (rd_pickF rfl rfl) rfl ?_
      refine L.nil ?_
      refine X.sq ?_
      first | refine V.cond rfl (fun h21 => ?_) (fun h21 => ?_) | refine V.condB rfl (fun h21 => ?_) (fun h21 => ?_)
      ·
        refine V.seq ?_
        refine V.region ?_
        refine L.rd (rd_assign rfl) rfl ?_
        refine L.nil ?_
        refine X.sq ?_
        refine V.ret ?_
        refine X.sqRet ?_
        refine ret_1 Yaam.results44 rfl ?_
        exact ⟨rfl, hE⟩
      ·
        refine V.skip ?_
        refine X.sq ?_
        refine V.seq ?_
        refine V.region ?_
        refine L.rd (rd_fieldAddr tok rfl rfl rfl rfl rfl rfl) rfl ?_
        refine L.rd (rd_load1 tok rfl rfl rfl (hp.cell rfl)) rfl ?_
        refine L.rd (rd_move rfl) rfl ?_
        (refine L.rd (rd_sub3 rfl rfl ?_) rfl ?_; omega)
        refine L.ef (e_call rfl (wfSub_snd ns _ w hN hlen ns.length _ _ (by omega) (by omega) (by omega) hE) rfl ?_)
        rintro _ w1 ⟨s, ok, rfl, hok, he1⟩
        refine L.rd (rd_move rfl) rfl ?_
        refine L.rd (rd_ext0 rfl) rfl ?_
        refine L.rd (rd_ext1 rfl) rfl ?_
        refine L.rd (rd_assign rfl) rfl ?_
        refine L.rd (rd_assign rfl) rfl ?_
        refine L.nil ?_
        refine X.sq ?_
        refine V.seq ?_
        refine V.region ?_
        refine L.rd (rd_move rfl) rfl ?_
        refine L.rd (rd_move rfl) rfl ?_
        first | refine L.partG rfl rfl (fun g31 => ?_) (fun g31 => ?_) | refine L.partGB rfl rfl (fun g31 => ?_) (fun g31 => ?_)
        ·
          obtain ⟨t, b, hw, hat, hb, hs⟩ := hok (by simpa using g31)
          refine L.yes rfl rfl ?_
          refine L.rd (rd_move rfl) rfl ?_
          refine L.yes rfl rfl ?_
          refine L.rd (rd_move rfl) rfl ?_
          refine L.yes rfl rfl ?_
          refine L.rd (rd_eql rfl rfl) rfl ?_
          refine L.rd (rd_pickT rfl rfl) rfl ?_
          refine L.rd (rd_assign rfl) rfl ?_
          refine L.nil ?_
          refine X.sq ?_
          refine V.ret ?_
          refine ret_1 Yaam.results44 rfl ?_
          first
            | exact ⟨rfl, hE.next he1⟩
            | exact ⟨congrArg Value.bool (decide_eq_false fun hgn => hnot (wf_of_at hw hat (by omega) (by omega) (by omega) (by omega))), hE.next he1⟩
        ·
          refine L.no rfl rfl rfl rfl ?_
          refine L.no rfl rfl rfl rfl ?_
          refine L.no rfl rfl rfl rfl ?_
          refine L.rd (rd_pickF rfl rfl) rfl ?_
          refine L.rd (rd_assign rfl) rfl ?_
          refine L.nil ?_
          refine X.sq ?_
          refine V.ret ?_
          refine ret_1 Yaam.results44 rfl ?_
          first
            | exact ⟨rfl, hE.next he1⟩
            | exact ⟨congrArg Value.bool (decide_eq_false fun hgn => hnot (wf_of_at hw hat (by omega) (by omega) (by omega) (by omega))), hE.next he1⟩
end Go.Proofs.YbxaawGreat
