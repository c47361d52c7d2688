/-
  impl.Diff, walked.
-/
import Derived.Test.YbxaawGreatDfW2
import Derived.Test.YbxaawGreatRevW
import Derived.Test.YbxaawGreatWfW
set_option linter.unusedVariables false
set_option linter.unusedSimpArgs false
set_option maxRecDepth 10000
set_option maxHeartbeats 8000000
namespace Go.Proofs.YbxaawGreat
open Go.Mw

theorem idiff_ok (y : Int) (t : Tre) (hw : Wt t) (hz : tsz t ≤ 500000) (nv : Value) (w : World) (hN : Rs w 5 nv (flat t 0).length ((flat t 0).flatMap ndE)) : Ret Yaam.prog 53 [.agg #[nv, .int .i64 ((tsz t : Int) - 1)], .int .i64 y] w (XPost 80 (difT y t) w) := by
  obtain ⟨na, nc, rfl, hfn⟩ := id hN.form
  have hfl := flat_len t 0
  have htp := tsz_pos t
  have hSb := sb_tree hw
  have hroot := subs_root t
  have hSl := subs_len t
  have hSz := subs_sz t
  have hiwf := iwf_ok t hw hz
  generalize hns : flat t 0 = ns at *
  generalize hSS : subs t = S at *
  refine enter2 Yaam.func53 Yaam.ntmps53 (by kernel_rfl) rfl rfl ?_
  refine V.seq ?_
  refine V.region ?_
  refine L.ef (e_box (cs := [_, _]) rfl rfl (by first | (simp only [size_addB, size_setB, size_drew]; rfl) | rfl) rfl ?_)
  refine L.ef (e_alloc (cs := [_, _]) tok rfl rfl (by first | (simp only [size_addB, size_setB, size_drew]; rfl) | rfl) rfl ?_)
  refine L.rd (rd_assign rfl) rfl ?_
  refine L.nil ?_
  refine X.sq ?_
  refine V.seq ?_
  refine V.seq ?_
  have hp := (Bl.new w 34 [.slice na ns.length nc, .int .i64 ((tsz t : Int) - 1)]).add 34 [.slice none 0 0, .int .i64 0]
  have hr := Bl.new' (w := addB w 34 [.slice na ns.length nc, .int .i64 ((tsz t : Int) - 1)]) (b := w.heap.size + 1) (by rw [size_addB]) 34 [.slice none 0 0, .int .i64 0]
  have hE := ((Ext.refl _ w).addNew 34 [.slice na ns.length nc, .int .i64 ((tsz t : Int) - 1)]).addNew 34 [.slice none 0 0, .int .i64 0]
  generalize addB (addB w 34 [.slice na ns.length nc, .int .i64 ((tsz t : Int) - 1)]) 34 [.slice none 0 0, .int .i64 0] = w0 at hp hr hE ⊢
  have hrl := hr.lt
  refine V.region ?_
  refine L.rd (rd_loadN tok rfl rfl rfl hp.cells rfl) rfl ?_
  refine L.ef (e_call rfl (hiwf _ _ (hN.le hE.leC)) rfl ?_)
  rintro _ w1 ⟨rfl, he1⟩
  have hp1 := he1.bl hp.lt hp
  have hr1 := he1.bl hr.lt hr
  have hE1 := hE.next he1
  have hs1 := he1.size
  first | refine L.rd (rd_not rfl) rfl ?_ | refine L.rd (rd_notB rfl) rfl ?_
  refine L.rd (rd_move rfl) rfl ?_
  first | refine L.partG rfl rfl (fun g36 => ?_) (fun g36 => ?_) | refine L.partGB rfl rfl (fun g36 => ?_) (fun g36 => ?_)
  ·
    cases g36
  ·
    refine L.yes rfl rfl ?_
    refine L.rd (rd_move rfl) rfl ?_
    refine L.yes rfl rfl ?_
    refine L.rd (rd_lss rfl rfl) rfl ?_
    refine L.rd (rd_pickF rfl rfl) rfl ?_
    refine L.rd (rd_move rfl) rfl ?_
    first | refine L.partG rfl rfl (fun g40 => ?_) (fun g40 => ?_) | refine L.partGB rfl rfl (fun g40 => ?_) (fun g40 => ?_)
    ·
      refine L.no rfl rfl rfl rfl ?_
      refine L.no rfl rfl rfl rfl ?_
      refine L.rd (rd_pickT rfl rfl) rfl ?_
      refine L.nil ?_
      refine X.sq ?_
      refine V.condT rfl ?_
      refine V.seq ?_
      refine V.region ?_
      refine L.rd (rd_build (out := [_, _]) tok rfl rfl rfl rfl rfl) rfl ?_
      refine L.ef (e_store (vs := [_, _]) tok rfl rfl rfl rfl hr1 rfl (by simp [Value.oneCell']) (by simp) ?_)
      refine L.rd (rd_assign rfl) rfl ?_
      refine L.nil ?_
      refine X.sq ?_
      refine V.ret ?_
      refine X.sqRet ?_
      refine ret_c1 tok Yaam.results53 rfl rfl rfl rfl (Bl.cells (hr1.set _ _)) rfl ?_
      exact XPost.bad (by unfold difT; rw [if_neg (by omega)]) (hE1.set (by omega) _ _)
    ·
      refine L.yes rfl rfl ?_
      refine L.rd (rd_move rfl) rfl ?_
      refine L.yes rfl rfl ?_
      refine L.rd (rd_gtr rfl rfl) rfl ?_
      refine L.rd (rd_pickF rfl rfl) rfl ?_
      refine L.nil ?_
      refine X.sq ?_
      first | refine V.cond rfl (fun h43 => ?_) (fun h43 => ?_) | refine V.condB rfl (fun h43 => ?_) (fun h43 => ?_)
      ·
        refine V.seq ?_
        refine V.region ?_
        refine L.rd (rd_build (out := [_, _]) tok rfl rfl rfl rfl rfl) rfl ?_
        refine L.ef (e_store (vs := [_, _]) tok rfl rfl rfl rfl hr1 rfl (by simp [Value.oneCell']) (by simp) ?_)
        refine L.rd (rd_assign rfl) rfl ?_
        refine L.nil ?_
        refine X.sq ?_
        refine V.ret ?_
        refine X.sqRet ?_
        refine ret_c1 tok Yaam.results53 rfl rfl rfl rfl (Bl.cells (hr1.set _ _)) rfl ?_
        exact XPost.bad (by unfold difT; rw [if_neg (by omega)]) (hE1.set (by omega) _ _)
      ·
        refine V.skip ?_
        refine X.sq ?_
        refine V.seq ?_
        refine V.region ?_
        refine L.rd (rd_fieldAddr tok rfl rfl rfl rfl rfl rfl) rfl ?_
        refine L.rd (rd_load1 tok rfl rfl rfl (hp1.cell rfl)) rfl ?_
        refine L.rd (rd_lenSlice tok rfl rfl rfl) rfl ?_
        refine L.rd (rd_assign rfl) rfl ?_
        refine L.nil ?_
        refine X.sq ?_
        refine V.seq ?_
        refine V.region ?_
        refine L.rd (rd_move rfl) rfl ?_
        refine L.ef (e_make (e := 3) (zs := [_]) (m := ns.length) (c := ns.length) tok rfl rfl rfl rfl rfl rfl rfl rfl (by first | (simp only [size_addB, size_setB, size_drew]; rfl) | rfl) rfl (by omega) (by simp only []; omega) (by omega) ?_)
        refine L.rd (rd_assign rfl) rfl ?_
        refine L.nil ?_
        refine X.sq ?_
        refine V.seq ?_
        have hG0 : Bl (addB w1 3 ((List.replicate ns.length [Value.int .i64 0]).flatten)) w1.heap.size 3 (iC .i64 (List.replicate ns.length 0)) := by
          have := Bl.new w1 3 ((List.replicate ns.length [Value.int .i64 0]).flatten)
          simp only [flat_rep1] at this ⊢
          simpa [iC] using this
        have he2 := (Ext.refl _ w1).addNew 3 ((List.replicate ns.length [Value.int .i64 0]).flatten)
        generalize addB w1 3 ((List.replicate ns.length [Value.int .i64 0]).flatten) = w2 at hG0 he2 ⊢
        have hl2 := hG0.lt
        refine V.region ?_
        refine L.rd (rd_move rfl) rfl ?_
        refine L.ef (e_make (e := 2) (zs := [_]) (m := ns.length) (c := ns.length) tok rfl rfl rfl rfl rfl rfl rfl rfl (by first | (simp only [size_addB, size_setB, size_drew]; rfl) | rfl) rfl (by omega) (by simp only []; omega) (by omega) ?_)
        refine L.rd (rd_assign rfl) rfl ?_
        refine L.nil ?_
        refine X.sq ?_
        refine V.seq ?_
        refine V.seq ?_
        refine V.region ?_
        refine L.rd (rd_assign rfl) rfl ?_
        refine L.nil ?_
        refine X.sq ?_
        refine V.block ?_
        refine V.loop (fun m l wr => ∃ (i : Nat) (G H : List Int), l = [(1, .int .i64 y), (2, .pointer (some ⟨w.heap.size, 0, none⟩)), (4, .pointer (some ⟨w.heap.size + 1, 0, none⟩)), (6, .int .i64 ns.length), (7, .slice (some ⟨w1.heap.size, 0, none⟩) ns.length ns.length), (8, .slice (some ⟨w2.heap.size, 0, none⟩) ns.length ns.length), (9, .int .i64 i)] ∧ m = ns.length - i ∧ i ≤ ns.length ∧ Ext w1.heap.size w1 wr ∧ Bl wr w1.heap.size 3 (iC .i64 G) ∧ Bl wr w2.heap.size 2 (iC .i64 H) ∧ G.length = ns.length ∧ H.length = ns.length ∧ (∀ (j : Nat) (s : Tre), j < i → S[j]? = some s → G[j]? = some (tsz s : Int) ∧ H[j]? = some (capd s : Int))) ?_ ?_
        ·
          refine ⟨_, _, (by repeat' (first | exact trivial | refine ⟨rfl, ?_⟩)), 0, List.replicate ns.length 0, List.replicate ns.length 0, rfl, rfl, by omega, he2.addNew _ _, hG0.add _ _, ?_, by simp, by simp, fun j s hj => absurd hj (by omega)⟩
          have := Bl.new w2 2 ((List.replicate ns.length [Value.int .i64 0]).flatten)
          simp only [flat_rep1] at this ⊢
          simpa [iC] using this
        ·
          rintro m l wr ⟨i, G, H, rfl, rfl, hi, hEw, hG, hH, hGl, hHl, hinv⟩
          have hse := hE1.size
          have hEr : Ext w.heap.size w wr := hE1.next hEw
          have hpr : Bl wr w.heap.size 34 [.slice na ns.length nc, .int .i64 ((tsz t : Int) - 1)] := hEw.bl hp1.lt hp1
          have hrr : Bl wr (w.heap.size + 1) 34 [.slice none 0 0, .int .i64 0] := hEw.bl hr1.lt hr1
          have hswr := hEw.size
          have hGlt := hG.lt
          have hHlt := hH.lt
          refine V.seq ?_
          refine V.seq ?_
          refine V.region ?_
          refine L.rd (rd_move rfl) rfl ?_
          refine L.rd (rd_move rfl) rfl ?_
          refine L.rd (rd_lss rfl rfl) rfl ?_
          refine L.nil ?_
          refine X.sq ?_
          first | refine V.cond rfl (fun h54 => ?_) (fun h54 => ?_) | refine V.condB rfl (fun h54 => ?_) (fun h54 => ?_)
          ·
            obtain ⟨b1, o1, rfl, hc1⟩ := hfn.resolve_left (by omega)
            obtain ⟨⟨k, v, x, lf_, rt⟩, ht⟩ := nth_of_lt ns i (by omega)
            obtain ⟨s, hs⟩ := nth_of_lt S i (by omega)
            obtain ⟨hok, hws⟩ := hSb.ok i _ s ht hs
            have hkk := sok_kind hok hws
            have hcx := (hc1.le hEr.leC).sub (i * 5) (ndE (k, v, x, lf_, rt)) (fun j u hu => fm_get ndE_len ns i _ ht j u hu)
            refine V.skip ?_
            refine X.sq ?_
            refine V.seq ?_
            refine V.block ?_
            refine V.seq ?_
            refine V.region ?_
            refine L.rd (rd_fieldAddr tok rfl rfl rfl rfl rfl rfl) rfl ?_
            refine L.rd (rd_load1 tok rfl rfl rfl (hpr.cell rfl)) rfl ?_
            refine L.rd (rd_move rfl) rfl ?_
            (refine L.rd (rd_indexSlice (sz := 5) tok rfl rfl rfl rfl rfl rfl rfl ?_) rfl ?_; omega)
            refine L.rd (rd_loadN tok rfl rfl rfl hcx rfl) rfl ?_
            refine L.ef (e_alloc (cs := [_, _, _, _, _]) tok rfl rfl (by first | (simp only [size_addB, size_setB, size_drew]; rfl) | rfl) rfl ?_)
            refine L.ef (e_store (vs := [_, _, _, _, _]) tok rfl rfl rfl rfl (by (repeat (first | assumption | (refine Bl.new' ?_ _ _; first | with_reducible rfl | (simp only [size_addB, size_setB, size_drew]; done)) | apply Bl.add | apply Bl.drew | (apply Bl.setNe; omega) | (refine Bl.set' ?_ _ _; (try simp only [size_addB, size_setB, size_drew]); omega)))) rfl (by simp [Value.oneCell']) (by simp) ?_)
            refine L.nil ?_
            refine X.sq ?_
            refine V.seq ?_
            generalize hw4 : setB _ _ _ _ = w4
            have hb4 : Bl w4 wr.heap.size 80 [.int .i64 k, .int .i64 v, .int .i64 x, .int .i64 lf_, .int .i64 rt] := by rw [← hw4]; refine Bl.set' ?_ _ _; rw [size_addB]; omega
            have he4 : Ext wr.heap.size wr w4 := by rw [← hw4]; exact ((Ext.refl _ _).addNew _ _).set (Nat.le_refl _) _ _
            have hG4 := he4.bl hG.lt hG
            have hH4 := he4.bl hH.lt hH
            have hE4 := hEw.next he4
            refine V.region ?_
            refine L.rd (rd_fieldAddr tok rfl rfl rfl rfl rfl rfl) rfl ?_
            refine L.rd (rd_load1 tok rfl rfl rfl (hb4.cell rfl)) rfl ?_
            refine L.nil ?_
            refine X.sq ?_
            refine V.cut (fun l w' => ∃ (a b : Int), l = [(1, .int .i64 y), (2, .pointer (some ⟨w.heap.size, 0, none⟩)), (4, .pointer (some ⟨w.heap.size + 1, 0, none⟩)), (6, .int .i64 ns.length), (7, .slice (some ⟨w1.heap.size, 0, none⟩) ns.length ns.length), (8, .slice (some ⟨w2.heap.size, 0, none⟩) ns.length ns.length), (9, .int .i64 i)] ∧ Ext w1.heap.size w1 w' ∧ Bl w' w1.heap.size 3 (iC .i64 (G.set i a)) ∧ Bl w' w2.heap.size 2 (iC .i64 (H.set i b)) ∧ a = (tsz s : Int) ∧ b = (capd s : Int)) ?_ ?_
            ·
              refine V.block ?_
              refine V.seq ?_
              refine V.seq ?_
              refine V.region ?_
              refine L.rd (rd_eql rfl rfl) rfl ?_
              refine L.rd (rd_assign rfl) rfl ?_
              refine L.nil ?_
              refine X.sq ?_
              first | refine V.cond rfl (fun h64 => ?_) (fun h64 => ?_) | refine V.condB rfl (fun h64 => ?_) (fun h64 => ?_)
              ·
                refine V.skip ?_
                refine X.sq ?_
                first | refine V.cond rfl (fun h64_ => ?_) (fun h64_ => ?_) | refine V.condB rfl (fun h64_ => ?_) (fun h64_ => ?_)
                ·
                  refine V.seq ?_
                  have hs1' : tsz s = 1 ∧ capd s = 1 := by
                    rcases (by omega : k = 1 ∨ k = 2) with h | h
                    · obtain ⟨rfl, -⟩ := sok1 hok hws h; exact ⟨rfl, rfl⟩
                    · obtain ⟨rfl, -⟩ := sok2 hok hws h; exact ⟨rfl, rfl⟩
                  refine V.region ?_
                  refine L.rd (rd_move rfl) rfl ?_
                  refine L.rd (rd_move rfl) rfl ?_
                  (refine L.rd (rd_indexSlice (sz := 1) tok rfl rfl rfl rfl rfl rfl rfl ?_) rfl ?_; omega)
                  refine L.ef (e_store (vs := [_]) tok rfl rfl rfl rfl hG4 rfl (by simp [Value.oneCell']) (by simp [iC]; omega) ?_)
                  (simp only [Nat.zero_add, Nat.mul_one, Int.toNat_natCast])
                  rw [iC_putI _ _ _ (by omega)]
                  refine L.nil ?_
                  refine X.sq ?_
                  have hG5 := hG4.set 3 (iC .i64 (G.set i 1))
                  have hH5 := hH4.setNe (b' := w1.heap.size) (by omega) 3 (iC .i64 (G.set i 1))
                  have hE5 : Ext w1.heap.size w1 (setB w4 w1.heap.size 3 (iC .i64 (G.set i 1))) := hE4.set (Nat.le_refl _) _ _
                  generalize setB w4 w1.heap.size 3 (iC .i64 (G.set i 1)) = w5 at hG5 hH5 hE5 ⊢
                  refine V.region ?_
                  refine L.rd (rd_move rfl) rfl ?_
                  refine L.rd (rd_move rfl) rfl ?_
                  (refine L.rd (rd_indexSlice (sz := 1) tok rfl rfl rfl rfl rfl rfl rfl ?_) rfl ?_; omega)
                  refine L.ef (e_store (vs := [_]) tok rfl rfl rfl rfl hH5 rfl (by simp [Value.oneCell']) (by simp [iC]; omega) ?_)
                  (simp only [Nat.zero_add, Nat.mul_one, Int.toNat_natCast])
                  rw [iC_putI _ _ _ (by omega)]
                  refine L.nil ?_
                  refine X.bk ?_
                  exact X.ct ⟨_, (by repeat' (first | exact trivial | refine ⟨rfl, ?_⟩)), 1, 1, rfl, hE5.set (by omega) _ _, hG5.setNe (by omega) _ _, hH5.set _ _, by rw [hs1'.1]; rfl, by rw [hs1'.2]; rfl⟩
                ·
                  exact absurd h64 h64_
              ·
                refine V.region ?_
                refine L.rd (rd_eql rfl rfl) rfl ?_
                refine L.rd (rd_assign rfl) rfl ?_
                refine L.nil ?_
                refine X.sq ?_
                first | refine V.cond rfl (fun h64 => ?_) (fun h64 => ?_) | refine V.condB rfl (fun h64 => ?_) (fun h64 => ?_)
                ·
                  refine V.seq ?_
                  have hs1' : tsz s = 1 ∧ capd s = 1 := by
                    rcases (by omega : k = 1 ∨ k = 2) with h | h
                    · obtain ⟨rfl, -⟩ := sok1 hok hws h; exact ⟨rfl, rfl⟩
                    · obtain ⟨rfl, -⟩ := sok2 hok hws h; exact ⟨rfl, rfl⟩
                  refine V.region ?_
                  refine L.rd (rd_move rfl) rfl ?_
                  refine L.rd (rd_move rfl) rfl ?_
                  (refine L.rd (rd_indexSlice (sz := 1) tok rfl rfl rfl rfl rfl rfl rfl ?_) rfl ?_; omega)
                  refine L.ef (e_store (vs := [_]) tok rfl rfl rfl rfl hG4 rfl (by simp [Value.oneCell']) (by simp [iC]; omega) ?_)
                  (simp only [Nat.zero_add, Nat.mul_one, Int.toNat_natCast])
                  rw [iC_putI _ _ _ (by omega)]
                  refine L.nil ?_
                  refine X.sq ?_
                  have hG5 := hG4.set 3 (iC .i64 (G.set i 1))
                  have hH5 := hH4.setNe (b' := w1.heap.size) (by omega) 3 (iC .i64 (G.set i 1))
                  have hE5 : Ext w1.heap.size w1 (setB w4 w1.heap.size 3 (iC .i64 (G.set i 1))) := hE4.set (Nat.le_refl _) _ _
                  generalize setB w4 w1.heap.size 3 (iC .i64 (G.set i 1)) = w5 at hG5 hH5 hE5 ⊢
                  refine V.region ?_
                  refine L.rd (rd_move rfl) rfl ?_
                  refine L.rd (rd_move rfl) rfl ?_
                  (refine L.rd (rd_indexSlice (sz := 1) tok rfl rfl rfl rfl rfl rfl rfl ?_) rfl ?_; omega)
                  refine L.ef (e_store (vs := [_]) tok rfl rfl rfl rfl hH5 rfl (by simp [Value.oneCell']) (by simp [iC]; omega) ?_)
                  (simp only [Nat.zero_add, Nat.mul_one, Int.toNat_natCast])
                  rw [iC_putI _ _ _ (by omega)]
                  refine L.nil ?_
                  refine X.bk ?_
                  exact X.ct ⟨_, (by repeat' (first | exact trivial | refine ⟨rfl, ?_⟩)), 1, 1, rfl, hE5.set (by omega) _ _, hG5.setNe (by omega) _ _, hH5.set _ _, by rw [hs1'.1]; rfl, by rw [hs1'.2]; rfl⟩
                ·
                  refine V.seq ?_
                  refine V.region ?_
                  refine L.rd (rd_eql rfl rfl) rfl ?_
                  refine L.rd (rd_assign rfl) rfl ?_
                  refine L.nil ?_
                  refine X.sq ?_
                  first | refine V.cond rfl (fun h73 => ?_) (fun h73 => ?_) | refine V.condB rfl (fun h73 => ?_) (fun h73 => ?_)
                  ·
                    refine V.seq ?_
                    obtain ⟨a, j, rfl, rfl, hj, hSj, hwa⟩ := sok3 hok hws h73
                    obtain ⟨hGj, hHj⟩ := hinv j a hj hSj
                    have hsa := hSz a (List.mem_of_getElem? hSj)
                    have hca : capd a ≤ 500001 := Nat.min_le_right _ _
                    refine V.region ?_
                    refine L.rd (rd_move rfl) rfl ?_
                    refine L.rd (rd_move rfl) rfl ?_
                    refine L.rd (rd_move rfl) rfl ?_
                    refine L.rd (rd_fieldAddr tok rfl rfl rfl rfl rfl rfl) rfl ?_
                    refine L.rd (rd_load1 tok rfl rfl rfl (hb4.cell (i := 3) rfl)) rfl ?_
                    (refine L.rd (rd_indexSlice (sz := 1) tok rfl rfl rfl rfl rfl rfl rfl ?_) rfl ?_; omega)
                    refine L.rd (rd_load1 tok rfl rfl rfl (cell_at (i := ((j : Nat) : Int).toNat) hG4 (by rw [Int.toNat_natCast]; exact iC_get hGj) (by simp))) rfl ?_
                    (refine L.rd (rd_add3 rfl rfl ?_) rfl ?_; omega)
                    (refine L.rd (rd_indexSlice (sz := 1) tok rfl rfl rfl rfl rfl rfl rfl ?_) rfl ?_; omega)
                    refine L.ef (e_store (vs := [_]) tok rfl rfl rfl rfl hG4 rfl (by simp [Value.oneCell']) (by simp [iC]; omega) ?_)
                    (simp only [Nat.zero_add, Nat.mul_one, Int.toNat_natCast])
                    rw [iC_putI _ _ _ (by omega)]
                    refine L.nil ?_
                    refine X.sq ?_
                    have hG5 := hG4.set 3 (iC .i64 (G.set i (1 + (tsz a : Int))))
                    have hH5 := hH4.setNe (b' := w1.heap.size) (by omega) 3 (iC .i64 (G.set i (1 + (tsz a : Int))))
                    have hn5 := hb4.setNe (b' := w1.heap.size) (by omega) 3 (iC .i64 (G.set i (1 + (tsz a : Int))))
                    have hE5 : Ext w1.heap.size w1 (setB w4 w1.heap.size 3 (iC .i64 (G.set i (1 + (tsz a : Int))))) := hE4.set (Nat.le_refl _) _ _
                    generalize setB w4 w1.heap.size 3 (iC .i64 (G.set i (1 + (tsz a : Int)))) = w5 at hG5 hH5 hn5 hE5 ⊢
                    have hGa5 : (G.set i (1 + (tsz a : Int)))[j]? = some (tsz a : Int) := by rw [List.getElem?_set_ne (by omega)]; exact hGj
                    refine V.region ?_
                    refine L.rd (rd_move rfl) rfl ?_
                    refine L.rd (rd_move rfl) rfl ?_
                    refine L.rd (rd_move rfl) rfl ?_
                    refine L.rd (rd_fieldAddr tok rfl rfl rfl rfl rfl rfl) rfl ?_
                    refine L.rd (rd_load1 tok rfl rfl rfl (hn5.cell (i := 3) rfl)) rfl ?_
                    (refine L.rd (rd_indexSlice (sz := 1) tok rfl rfl rfl rfl rfl rfl rfl ?_) rfl ?_; omega)
                    refine L.rd (rd_load1 tok rfl rfl rfl (cell_at (i := ((j : Nat) : Int).toNat) hH5 (by rw [Int.toNat_natCast]; exact iC_get hHj) (by simp))) rfl ?_
                    refine L.rd (rd_addE (r := ((1 + capd a : Nat) : Int)) rfl rfl (by rw [wrap_i64_in (by omega)]; omega)) rfl ?_
                    refine L.ef (e_call rfl (capS_ok (1 + capd a) (by omega) _) rfl ?_)
                    rintro _ _ ⟨rfl, rfl⟩
                    (refine L.rd (rd_indexSlice (sz := 1) tok rfl rfl rfl rfl rfl rfl rfl ?_) rfl ?_; omega)
                    refine L.ef (e_store (vs := [_]) tok rfl rfl rfl rfl hH5 rfl (by simp [Value.oneCell']) (by simp [iC]; omega) ?_)
                    (simp only [Nat.zero_add, Nat.mul_one, Int.toNat_natCast])
                    rw [iC_putI _ _ _ (by omega)]
                    refine L.nil ?_
                    refine X.bk ?_
                    exact X.ct ⟨_, (by repeat' (first | exact trivial | refine ⟨rfl, ?_⟩)), _, _, rfl, hE5.set (by omega) _ _, hG5.setNe (by omega) _ _, hH5.set _ _, by rw [tsz_u1]; omega, by unfold capd; rw [ds_u3]; omega⟩
                  ·
                    refine V.seq ?_
                    refine V.seq ?_
                    refine V.region ?_
                    refine L.rd (rd_eql rfl rfl) rfl ?_
                    refine L.rd (rd_assign rfl) rfl ?_
                    refine L.nil ?_
                    refine X.sq ?_
                    refine V.cut (fun l w' => ∃ b : Bool, l = [(1, .int .i64 y), (2, .pointer (some ⟨w.heap.size, 0, none⟩)), (4, .pointer (some ⟨w.heap.size + 1, 0, none⟩)), (6, .int .i64 ns.length), (7, .slice (some ⟨w1.heap.size, 0, none⟩) ns.length ns.length), (8, .slice (some ⟨w2.heap.size, 0, none⟩) ns.length ns.length), (9, .int .i64 i), (10, .pointer (some ⟨wr.heap.size, 0, none⟩)), (63, .int .i64 k), (94, .bool b)] ∧ b = decide (k = 4 ∨ k = 5) ∧ w4 = w') ?_ ?_
                    ·
                      first | refine V.cond rfl (fun h94 => ?_) (fun h94 => ?_) | refine V.condB rfl (fun h94 => ?_) (fun h94 => ?_)
                      ·
                        refine V.skip ?_
                        refine X.ct ⟨_, (by repeat' (first | exact trivial | refine ⟨rfl, ?_⟩)), _, rfl, ?_, rfl⟩
                        first
                          | (rw [decide_eq_true h94, decide_eq_true (by omega)])
                          | (by_cases h6 : k = 5
                             · rw [decide_eq_true h6, decide_eq_true (by omega)]
                             · rw [decide_eq_false h6, decide_eq_false (by omega)])
                      ·
                        refine V.region ?_
                        refine L.rd (rd_eql rfl rfl) rfl ?_
                        refine L.rd (rd_assign rfl) rfl ?_
                        refine L.nil ?_
                        refine X.ct ⟨_, (by repeat' (first | exact trivial | refine ⟨rfl, ?_⟩)), _, rfl, ?_, rfl⟩
                        first
                          | (rw [decide_eq_true h94, decide_eq_true (by omega)])
                          | (by_cases h6 : k = 5
                             · rw [decide_eq_true h6, decide_eq_true (by omega)]
                             · rw [decide_eq_false h6, decide_eq_false (by omega)])
                    ·
                      rintro l w' ⟨b, rfl, hb94, rfl⟩
                      refine X.sq ?_
                      first | refine V.cond rfl (fun h94 => ?_) (fun h94 => ?_) | refine V.condB rfl (fun h94 => ?_) (fun h94 => ?_)
                      ·
                        refine V.seq ?_
                        have h45 : k = 4 ∨ k = 5 := by rw [h94] at hb94; exact of_decide_eq_true hb94.symm
                        obtain ⟨a, b', j, j2, rfl, rfl, rfl, hj, hj2, hSj, hSj2, hwa, hwb⟩ := sokb hok hws (by omega)
                        obtain ⟨hGj, hHj⟩ := hinv j a hj hSj
                        obtain ⟨hGj2, hHj2⟩ := hinv j2 b' hj2 hSj2
                        have hsa := hSz a (List.mem_of_getElem? hSj)
                        have hsb := hSz b' (List.mem_of_getElem? hSj2)
                        have hca : capd a ≤ 500001 := Nat.min_le_right _ _
                        have hcb : capd b' ≤ 500001 := Nat.min_le_right _ _
                        refine V.draw [15] mixed ?_
                        refine D.take 0 [true, false, false, false, false, false, false, false, false, false, false, false, false, false, false, false] (.sq (.bk (.ct (.bk (.sq (.lp (.bk (.sq .bd)))))))) rfl (rd_move rfl) rfl (by kernel_rfl) rfl (LeC.drew _) ?_
                        refine D.take 1 [true, true, false, false, false, false, false, false, false, false, false, false, false, false, false, false] (.sq (.bk (.ct (.bk (.sq (.lp (.bk (.sq .bd)))))))) rfl (rd_move rfl) rfl (by kernel_rfl) rfl (LeC.drew _) ?_
                        refine D.take 2 [true, true, true, false, false, false, false, false, false, false, false, false, false, false, false, false] (.sq (.bk (.ct (.bk (.sq (.lp (.bk (.sq .bd)))))))) rfl (rd_move rfl) rfl (by kernel_rfl) rfl (LeC.drew _) ?_
                        refine D.take 3 [true, true, true, true, false, false, false, false, false, false, false, false, false, false, false, false] (.sq (.bk (.ct (.bk (.sq (.lp (.bk (.sq .bd)))))))) rfl (rd_fieldAddr tok rfl rfl rfl rfl rfl rfl) rfl (by kernel_rfl) rfl (LeC.drew _) ?_
                        refine D.take 4 [true, true, true, true, true, false, false, false, false, false, false, false, false, false, false, false] (.sq (.bk (.ct (.bk (.sq (.lp (.bk (.sq .bd)))))))) rfl (rd_load1 tok rfl rfl rfl (hb4.cell (i := 3) rfl)) rfl (by kernel_rfl) rfl (LeC.drew _) ?_
                        (refine D.take 5 [true, true, true, true, true, true, false, false, false, false, false, false, false, false, false, false] (.sq (.bk (.ct (.bk (.sq (.lp (.bk (.sq .bd)))))))) rfl (rd_indexSlice (sz := 1) tok rfl rfl rfl rfl rfl rfl rfl ?_) rfl (by kernel_rfl) rfl (LeC.drew _) ?_; omega)
                        refine D.take 6 [true, true, true, true, true, true, true, false, false, false, false, false, false, false, false, false] (.sq (.bk (.ct (.bk (.sq (.lp (.bk (.sq .bd)))))))) rfl (rd_load1 tok rfl rfl rfl (cell_at (i := ((j : Nat) : Int).toNat) hG4 (by rw [Int.toNat_natCast]; exact iC_get hGj) (by simp))) rfl (by kernel_rfl) rfl (LeC.drew _) ?_
                        (refine D.take 7 [true, true, true, true, true, true, true, true, false, false, false, false, false, false, false, false] (.sq (.bk (.ct (.bk (.sq (.lp (.bk (.sq .bd)))))))) rfl (rd_add3 rfl rfl ?_) rfl (by kernel_rfl) rfl (LeC.drew _) ?_; omega)
                        refine D.take 8 [true, true, true, true, true, true, true, true, true, false, false, false, false, false, false, false] (.sq (.bk (.ct (.bk (.sq (.lp (.bk (.sq .bd)))))))) rfl (rd_move rfl) rfl (by kernel_rfl) rfl (LeC.drew _) ?_
                        refine D.take 9 [true, true, true, true, true, true, true, true, true, true, false, false, false, false, false, false] (.sq (.bk (.ct (.bk (.sq (.lp (.bk (.sq .bd)))))))) rfl (rd_fieldAddr tok rfl rfl rfl rfl rfl rfl) rfl (by kernel_rfl) rfl (LeC.drew _) ?_
                        refine D.take 10 [true, true, true, true, true, true, true, true, true, true, true, false, false, false, false, false] (.sq (.bk (.ct (.bk (.sq (.lp (.bk (.sq .bd)))))))) rfl (rd_load1 tok rfl rfl rfl (hb4.cell (i := 4) rfl)) rfl (by kernel_rfl) rfl (LeC.drew _) ?_
                        (refine D.take 11 [true, true, true, true, true, true, true, true, true, true, true, true, false, false, false, false] (.sq (.bk (.ct (.bk (.sq (.lp (.bk (.sq .bd)))))))) rfl (rd_indexSlice (sz := 1) tok rfl rfl rfl rfl rfl rfl rfl ?_) rfl (by kernel_rfl) rfl (LeC.drew _) ?_; omega)
                        refine D.take 12 [true, true, true, true, true, true, true, true, true, true, true, true, true, false, false, false] (.sq (.bk (.ct (.bk (.sq (.lp (.bk (.sq .bd)))))))) rfl (rd_load1 tok rfl rfl rfl (cell_at (i := ((j2 : Nat) : Int).toNat) hG4 (by rw [Int.toNat_natCast]; exact iC_get hGj2) (by simp))) rfl (by kernel_rfl) rfl (LeC.drew _) ?_
                        (refine D.take 13 [true, true, true, true, true, true, true, true, true, true, true, true, true, true, false, false] (.sq (.bk (.ct (.bk (.sq (.lp (.bk (.sq .bd)))))))) rfl (rd_add3 rfl rfl ?_) rfl (by kernel_rfl) rfl (LeC.drew _) ?_; omega)
                        (refine D.take 14 [true, true, true, true, true, true, true, true, true, true, true, true, true, true, true, false] (.sq (.bk (.ct (.bk (.sq (.lp (.bk (.sq .bd)))))))) rfl (rd_indexSlice (sz := 1) tok rfl rfl rfl rfl rfl rfl rfl ?_) rfl (by kernel_rfl) rfl (LeC.drew _) ?_; omega)
                        refine D.one 15 [true, true, true, true, true, true, true, true, true, true, true, true, true, true, true, true] rfl (by kernel_rfl) rfl (e_store (vs := [_]) tok rfl rfl rfl rfl hG4.drew rfl (by simp [Value.oneCell']) (by simp [iC]; omega) ⟨fun h => (by cases h), ?_⟩)
                        (simp only [Nat.zero_add, Nat.mul_one, Int.toNat_natCast])
                        rw [iC_putI _ _ _ (by omega)]
                        refine D.done (by kernel_rfl) ?_
                        refine X.sq ?_
                        have hG5 := hG4.drew.set 3 (iC .i64 (G.set i (1 + (tsz a : Int) + (tsz b' : Int))))
                        have hH5 := hH4.drew.setNe (b' := w1.heap.size) (by omega) 3 (iC .i64 (G.set i (1 + (tsz a : Int) + (tsz b' : Int))))
                        have hn5 := hb4.drew.setNe (b' := w1.heap.size) (by omega) 3 (iC .i64 (G.set i (1 + (tsz a : Int) + (tsz b' : Int))))
                        have hE5 : Ext w1.heap.size w1 (setB w4.drew w1.heap.size 3 (iC .i64 (G.set i (1 + (tsz a : Int) + (tsz b' : Int))))) := hE4.drew.set (Nat.le_refl _) _ _
                        generalize setB w4.drew w1.heap.size 3 (iC .i64 (G.set i (1 + (tsz a : Int) + (tsz b' : Int)))) = w5 at hG5 hH5 hn5 hE5 ⊢
                        have hGa5 : (G.set i (1 + (tsz a : Int) + (tsz b' : Int)))[j]? = some (tsz a : Int) := by rw [List.getElem?_set_ne (by omega)]; exact hGj
                        have hGb5 : (G.set i (1 + (tsz a : Int) + (tsz b' : Int)))[j2]? = some (tsz b' : Int) := by rw [List.getElem?_set_ne (by omega)]; exact hGj2
                        refine V.draw [16] mixed ?_
                        refine D.take 0 [true, false, false, false, false, false, false, false, false, false, false, false, false, false, false, false, false] (.bk (.ct (.bk (.sq (.lp (.bk (.sq .bd))))))) rfl (rd_move rfl) rfl (by kernel_rfl) rfl (LeC.drew _) ?_
                        refine D.take 1 [true, true, false, false, false, false, false, false, false, false, false, false, false, false, false, false, false] (.bk (.ct (.bk (.sq (.lp (.bk (.sq .bd))))))) rfl (rd_move rfl) rfl (by kernel_rfl) rfl (LeC.drew _) ?_
                        refine D.take 2 [true, true, true, false, false, false, false, false, false, false, false, false, false, false, false, false, false] (.bk (.ct (.bk (.sq (.lp (.bk (.sq .bd))))))) rfl (rd_move rfl) rfl (by kernel_rfl) rfl (LeC.drew _) ?_
                        refine D.take 3 [true, true, true, true, false, false, false, false, false, false, false, false, false, false, false, false, false] (.bk (.ct (.bk (.sq (.lp (.bk (.sq .bd))))))) rfl (rd_fieldAddr tok rfl rfl rfl rfl rfl rfl) rfl (by kernel_rfl) rfl (LeC.drew _) ?_
                        refine D.take 4 [true, true, true, true, true, false, false, false, false, false, false, false, false, false, false, false, false] (.bk (.ct (.bk (.sq (.lp (.bk (.sq .bd))))))) rfl (rd_load1 tok rfl rfl rfl (hn5.cell (i := 3) rfl)) rfl (by kernel_rfl) rfl (LeC.drew _) ?_
                        (refine D.take 5 [true, true, true, true, true, true, false, false, false, false, false, false, false, false, false, false, false] (.bk (.ct (.bk (.sq (.lp (.bk (.sq .bd))))))) rfl (rd_indexSlice (sz := 1) tok rfl rfl rfl rfl rfl rfl rfl ?_) rfl (by kernel_rfl) rfl (LeC.drew _) ?_; omega)
                        refine D.take 6 [true, true, true, true, true, true, true, false, false, false, false, false, false, false, false, false, false] (.bk (.ct (.bk (.sq (.lp (.bk (.sq .bd))))))) rfl (rd_load1 tok rfl rfl rfl (cell_at (i := ((j : Nat) : Int).toNat) hH5 (by rw [Int.toNat_natCast]; exact iC_get hHj) (by simp))) rfl (by kernel_rfl) rfl (LeC.drew _) ?_
                        refine D.take 7 [true, true, true, true, true, true, true, true, false, false, false, false, false, false, false, false, false] (.bk (.ct (.bk (.sq (.lp (.bk (.sq .bd))))))) rfl (rd_addE (r := ((1 + capd a : Nat) : Int)) rfl rfl (by rw [wrap_i64_in (by omega)]; omega)) rfl (by kernel_rfl) rfl (LeC.drew _) ?_
                        refine D.take 8 [true, true, true, true, true, true, true, true, true, false, false, false, false, false, false, false, false] (.bk (.ct (.bk (.sq (.lp (.bk (.sq .bd))))))) rfl (rd_move rfl) rfl (by kernel_rfl) rfl (LeC.drew _) ?_
                        refine D.take 9 [true, true, true, true, true, true, true, true, true, true, false, false, false, false, false, false, false] (.bk (.ct (.bk (.sq (.lp (.bk (.sq .bd))))))) rfl (rd_fieldAddr tok rfl rfl rfl rfl rfl rfl) rfl (by kernel_rfl) rfl (LeC.drew _) ?_
                        refine D.take 10 [true, true, true, true, true, true, true, true, true, true, true, false, false, false, false, false, false] (.bk (.ct (.bk (.sq (.lp (.bk (.sq .bd))))))) rfl (rd_load1 tok rfl rfl rfl (hn5.cell (i := 4) rfl)) rfl (by kernel_rfl) rfl (LeC.drew _) ?_
                        (refine D.take 11 [true, true, true, true, true, true, true, true, true, true, true, true, false, false, false, false, false] (.bk (.ct (.bk (.sq (.lp (.bk (.sq .bd))))))) rfl (rd_indexSlice (sz := 1) tok rfl rfl rfl rfl rfl rfl rfl ?_) rfl (by kernel_rfl) rfl (LeC.drew _) ?_; omega)
                        refine D.take 12 [true, true, true, true, true, true, true, true, true, true, true, true, true, false, false, false, false] (.bk (.ct (.bk (.sq (.lp (.bk (.sq .bd))))))) rfl (rd_load1 tok rfl rfl rfl (cell_at (i := ((j2 : Nat) : Int).toNat) hH5 (by rw [Int.toNat_natCast]; exact iC_get hHj2) (by simp))) rfl (by kernel_rfl) rfl (LeC.drew _) ?_
                        refine D.take 13 [true, true, true, true, true, true, true, true, true, true, true, true, true, true, false, false, false] (.bk (.ct (.bk (.sq (.lp (.bk (.sq .bd))))))) rfl (rd_addE (r := ((1 + capd a + capd b' : Nat) : Int)) rfl rfl (by rw [wrap_i64_in (by omega)]; omega)) rfl (by kernel_rfl) rfl (LeC.drew _) ?_
                        refine D.one 14 [true, true, true, true, true, true, true, true, true, true, true, true, true, true, true, false, false] rfl (by kernel_rfl) rfl (e_call rfl (capS_ok (1 + capd a + capd b') (by omega) _) rfl ?_)
                        rintro _ _ ⟨rfl, rfl⟩
                        refine ⟨fun _ => (LeC.drew _), ?_⟩
                        (refine D.take 15 [true, true, true, true, true, true, true, true, true, true, true, true, true, true, true, true, false] (.bk (.ct (.bk (.sq (.lp (.bk (.sq .bd))))))) rfl (rd_indexSlice (sz := 1) tok rfl rfl rfl rfl rfl rfl rfl ?_) rfl (by kernel_rfl) rfl (LeC.drew _) ?_; omega)
                        refine D.one 16 [true, true, true, true, true, true, true, true, true, true, true, true, true, true, true, true, true] rfl (by kernel_rfl) rfl (e_store (vs := [_]) tok rfl rfl rfl rfl hH5.drew rfl (by simp [Value.oneCell']) (by simp [iC]; omega) ⟨fun h => (by cases h), ?_⟩)
                        (simp only [Nat.zero_add, Nat.mul_one, Int.toNat_natCast])
                        rw [iC_putI _ _ _ (by omega)]
                        refine D.done (by kernel_rfl) ?_
                        refine X.bk ?_
                        exact X.ct ⟨_, (by repeat' (first | exact trivial | refine ⟨rfl, ?_⟩)), _, _, rfl, hE5.drew.set (by omega) _ _, hG5.drew.setNe (by omega) _ _, hH5.drew.set _ _, by rw [tsz_b2]; omega, by unfold capd; rw [ds_b45 _ _ h45]; omega⟩
                      ·
                        refine V.seq ?_
                        have hn45 : ¬ (k = 4 ∨ k = 5) := by rw [h94] at hb94; exact of_decide_eq_false hb94.symm
                        refine V.region ?_
                        refine L.rd (rd_eql rfl rfl) rfl ?_
                        refine L.rd (rd_assign rfl) rfl ?_
                        refine L.nil ?_
                        refine X.sq ?_
                        first | refine V.cond rfl (fun h128 => ?_) (fun h128 => ?_) | refine V.condB rfl (fun h128 => ?_) (fun h128 => ?_)
                        ·
                          refine V.seq ?_
                          obtain rfl : k = 6 := h128
                          obtain ⟨a, b', j, j2, rfl, rfl, rfl, hj, hj2, hSj, hSj2, hwa, hwb⟩ := sokb hok hws (by omega)
                          obtain ⟨hGj, hHj⟩ := hinv j a hj hSj
                          obtain ⟨hGj2, hHj2⟩ := hinv j2 b' hj2 hSj2
                          have hsa := hSz a (List.mem_of_getElem? hSj)
                          have hsb := hSz b' (List.mem_of_getElem? hSj2)
                          have hca : capd a ≤ 500001 := Nat.min_le_right _ _
                          have hcb : capd b' ≤ 500001 := Nat.min_le_right _ _
                          refine V.draw [15] mixed ?_
                          refine D.take 0 [true, false, false, false, false, false, false, false, false, false, false, false, false, false, false, false] (.sq (.bk (.ct (.bk (.sq (.lp (.bk (.sq .bd)))))))) rfl (rd_move rfl) rfl (by kernel_rfl) rfl (LeC.drew _) ?_
                          refine D.take 1 [true, true, false, false, false, false, false, false, false, false, false, false, false, false, false, false] (.sq (.bk (.ct (.bk (.sq (.lp (.bk (.sq .bd)))))))) rfl (rd_move rfl) rfl (by kernel_rfl) rfl (LeC.drew _) ?_
                          refine D.take 2 [true, true, true, false, false, false, false, false, false, false, false, false, false, false, false, false] (.sq (.bk (.ct (.bk (.sq (.lp (.bk (.sq .bd)))))))) rfl (rd_move rfl) rfl (by kernel_rfl) rfl (LeC.drew _) ?_
                          refine D.take 3 [true, true, true, true, false, false, false, false, false, false, false, false, false, false, false, false] (.sq (.bk (.ct (.bk (.sq (.lp (.bk (.sq .bd)))))))) rfl (rd_fieldAddr tok rfl rfl rfl rfl rfl rfl) rfl (by kernel_rfl) rfl (LeC.drew _) ?_
                          refine D.take 4 [true, true, true, true, true, false, false, false, false, false, false, false, false, false, false, false] (.sq (.bk (.ct (.bk (.sq (.lp (.bk (.sq .bd)))))))) rfl (rd_load1 tok rfl rfl rfl (hb4.cell (i := 3) rfl)) rfl (by kernel_rfl) rfl (LeC.drew _) ?_
                          (refine D.take 5 [true, true, true, true, true, true, false, false, false, false, false, false, false, false, false, false] (.sq (.bk (.ct (.bk (.sq (.lp (.bk (.sq .bd)))))))) rfl (rd_indexSlice (sz := 1) tok rfl rfl rfl rfl rfl rfl rfl ?_) rfl (by kernel_rfl) rfl (LeC.drew _) ?_; omega)
                          refine D.take 6 [true, true, true, true, true, true, true, false, false, false, false, false, false, false, false, false] (.sq (.bk (.ct (.bk (.sq (.lp (.bk (.sq .bd)))))))) rfl (rd_load1 tok rfl rfl rfl (cell_at (i := ((j : Nat) : Int).toNat) hG4 (by rw [Int.toNat_natCast]; exact iC_get hGj) (by simp))) rfl (by kernel_rfl) rfl (LeC.drew _) ?_
                          (refine D.take 7 [true, true, true, true, true, true, true, true, false, false, false, false, false, false, false, false] (.sq (.bk (.ct (.bk (.sq (.lp (.bk (.sq .bd)))))))) rfl (rd_add3 rfl rfl ?_) rfl (by kernel_rfl) rfl (LeC.drew _) ?_; omega)
                          refine D.take 8 [true, true, true, true, true, true, true, true, true, false, false, false, false, false, false, false] (.sq (.bk (.ct (.bk (.sq (.lp (.bk (.sq .bd)))))))) rfl (rd_move rfl) rfl (by kernel_rfl) rfl (LeC.drew _) ?_
                          refine D.take 9 [true, true, true, true, true, true, true, true, true, true, false, false, false, false, false, false] (.sq (.bk (.ct (.bk (.sq (.lp (.bk (.sq .bd)))))))) rfl (rd_fieldAddr tok rfl rfl rfl rfl rfl rfl) rfl (by kernel_rfl) rfl (LeC.drew _) ?_
                          refine D.take 10 [true, true, true, true, true, true, true, true, true, true, true, false, false, false, false, false] (.sq (.bk (.ct (.bk (.sq (.lp (.bk (.sq .bd)))))))) rfl (rd_load1 tok rfl rfl rfl (hb4.cell (i := 4) rfl)) rfl (by kernel_rfl) rfl (LeC.drew _) ?_
                          (refine D.take 11 [true, true, true, true, true, true, true, true, true, true, true, true, false, false, false, false] (.sq (.bk (.ct (.bk (.sq (.lp (.bk (.sq .bd)))))))) rfl (rd_indexSlice (sz := 1) tok rfl rfl rfl rfl rfl rfl rfl ?_) rfl (by kernel_rfl) rfl (LeC.drew _) ?_; omega)
                          refine D.take 12 [true, true, true, true, true, true, true, true, true, true, true, true, true, false, false, false] (.sq (.bk (.ct (.bk (.sq (.lp (.bk (.sq .bd)))))))) rfl (rd_load1 tok rfl rfl rfl (cell_at (i := ((j2 : Nat) : Int).toNat) hG4 (by rw [Int.toNat_natCast]; exact iC_get hGj2) (by simp))) rfl (by kernel_rfl) rfl (LeC.drew _) ?_
                          (refine D.take 13 [true, true, true, true, true, true, true, true, true, true, true, true, true, true, false, false] (.sq (.bk (.ct (.bk (.sq (.lp (.bk (.sq .bd)))))))) rfl (rd_add3 rfl rfl ?_) rfl (by kernel_rfl) rfl (LeC.drew _) ?_; omega)
                          (refine D.take 14 [true, true, true, true, true, true, true, true, true, true, true, true, true, true, true, false] (.sq (.bk (.ct (.bk (.sq (.lp (.bk (.sq .bd)))))))) rfl (rd_indexSlice (sz := 1) tok rfl rfl rfl rfl rfl rfl rfl ?_) rfl (by kernel_rfl) rfl (LeC.drew _) ?_; omega)
                          refine D.one 15 [true, true, true, true, true, true, true, true, true, true, true, true, true, true, true, true] rfl (by kernel_rfl) rfl (e_store (vs := [_]) tok rfl rfl rfl rfl hG4.drew rfl (by simp [Value.oneCell']) (by simp [iC]; omega) ⟨fun h => (by cases h), ?_⟩)
                          (simp only [Nat.zero_add, Nat.mul_one, Int.toNat_natCast])
                          rw [iC_putI _ _ _ (by omega)]
                          refine D.done (by kernel_rfl) ?_
                          refine X.sq ?_
                          have hG5 := hG4.drew.set 3 (iC .i64 (G.set i (1 + (tsz a : Int) + (tsz b' : Int))))
                          have hH5 := hH4.drew.setNe (b' := w1.heap.size) (by omega) 3 (iC .i64 (G.set i (1 + (tsz a : Int) + (tsz b' : Int))))
                          have hn5 := hb4.drew.setNe (b' := w1.heap.size) (by omega) 3 (iC .i64 (G.set i (1 + (tsz a : Int) + (tsz b' : Int))))
                          have hE5 : Ext w1.heap.size w1 (setB w4.drew w1.heap.size 3 (iC .i64 (G.set i (1 + (tsz a : Int) + (tsz b' : Int))))) := hE4.drew.set (Nat.le_refl _) _ _
                          generalize setB w4.drew w1.heap.size 3 (iC .i64 (G.set i (1 + (tsz a : Int) + (tsz b' : Int)))) = w5 at hG5 hH5 hn5 hE5 ⊢
                          have hGa5 : (G.set i (1 + (tsz a : Int) + (tsz b' : Int)))[j]? = some (tsz a : Int) := by rw [List.getElem?_set_ne (by omega)]; exact hGj
                          have hGb5 : (G.set i (1 + (tsz a : Int) + (tsz b' : Int)))[j2]? = some (tsz b' : Int) := by rw [List.getElem?_set_ne (by omega)]; exact hGj2
                          refine V.draw [28] mixed ?_
                          refine D.take 0 [true, false, false, false, false, false, false, false, false, false, false, false, false, false, false, false, false, false, false, false, false, false, false, false, false, false, false, false, false] (.bk (.ct (.bk (.sq (.lp (.bk (.sq .bd))))))) rfl (rd_move rfl) rfl (by kernel_rfl) rfl (LeC.drew _) ?_
                          refine D.take 1 [true, true, false, false, false, false, false, false, false, false, false, false, false, false, false, false, false, false, false, false, false, false, false, false, false, false, false, false, false] (.bk (.ct (.bk (.sq (.lp (.bk (.sq .bd))))))) rfl (rd_move rfl) rfl (by kernel_rfl) rfl (LeC.drew _) ?_
                          refine D.take 2 [true, true, true, false, false, false, false, false, false, false, false, false, false, false, false, false, false, false, false, false, false, false, false, false, false, false, false, false, false] (.bk (.ct (.bk (.sq (.lp (.bk (.sq .bd))))))) rfl (rd_move rfl) rfl (by kernel_rfl) rfl (LeC.drew _) ?_
                          refine D.take 3 [true, true, true, true, false, false, false, false, false, false, false, false, false, false, false, false, false, false, false, false, false, false, false, false, false, false, false, false, false] (.bk (.ct (.bk (.sq (.lp (.bk (.sq .bd))))))) rfl (rd_fieldAddr tok rfl rfl rfl rfl rfl rfl) rfl (by kernel_rfl) rfl (LeC.drew _) ?_
                          refine D.take 4 [true, true, true, true, true, false, false, false, false, false, false, false, false, false, false, false, false, false, false, false, false, false, false, false, false, false, false, false, false] (.bk (.ct (.bk (.sq (.lp (.bk (.sq .bd))))))) rfl (rd_load1 tok rfl rfl rfl (hn5.cell (i := 3) rfl)) rfl (by kernel_rfl) rfl (LeC.drew _) ?_
                          (refine D.take 5 [true, true, true, true, true, true, false, false, false, false, false, false, false, false, false, false, false, false, false, false, false, false, false, false, false, false, false, false, false] (.bk (.ct (.bk (.sq (.lp (.bk (.sq .bd))))))) rfl (rd_indexSlice (sz := 1) tok rfl rfl rfl rfl rfl rfl rfl ?_) rfl (by kernel_rfl) rfl (LeC.drew _) ?_; omega)
                          refine D.take 6 [true, true, true, true, true, true, true, false, false, false, false, false, false, false, false, false, false, false, false, false, false, false, false, false, false, false, false, false, false] (.bk (.ct (.bk (.sq (.lp (.bk (.sq .bd))))))) rfl (rd_load1 tok rfl rfl rfl (cell_at (i := ((j : Nat) : Int).toNat) hH5 (by rw [Int.toNat_natCast]; exact iC_get hHj) (by simp))) rfl (by kernel_rfl) rfl (LeC.drew _) ?_
                          refine D.take 7 [true, true, true, true, true, true, true, true, false, false, false, false, false, false, false, false, false, false, false, false, false, false, false, false, false, false, false, false, false] (.bk (.ct (.bk (.sq (.lp (.bk (.sq .bd))))))) rfl (rd_addE (r := ((3 + capd a : Nat) : Int)) rfl rfl (by rw [wrap_i64_in (by omega)]; omega)) rfl (by kernel_rfl) rfl (LeC.drew _) ?_
                          refine D.take 8 [true, true, true, true, true, true, true, true, true, false, false, false, false, false, false, false, false, false, false, false, false, false, false, false, false, false, false, false, false] (.bk (.ct (.bk (.sq (.lp (.bk (.sq .bd))))))) rfl (rd_move rfl) rfl (by kernel_rfl) rfl (LeC.drew _) ?_
                          refine D.take 9 [true, true, true, true, true, true, true, true, true, true, false, false, false, false, false, false, false, false, false, false, false, false, false, false, false, false, false, false, false] (.bk (.ct (.bk (.sq (.lp (.bk (.sq .bd))))))) rfl (rd_fieldAddr tok rfl rfl rfl rfl rfl rfl) rfl (by kernel_rfl) rfl (LeC.drew _) ?_
                          refine D.take 10 [true, true, true, true, true, true, true, true, true, true, true, false, false, false, false, false, false, false, false, false, false, false, false, false, false, false, false, false, false] (.bk (.ct (.bk (.sq (.lp (.bk (.sq .bd))))))) rfl (rd_load1 tok rfl rfl rfl (hn5.cell (i := 4) rfl)) rfl (by kernel_rfl) rfl (LeC.drew _) ?_
                          (refine D.take 11 [true, true, true, true, true, true, true, true, true, true, true, true, false, false, false, false, false, false, false, false, false, false, false, false, false, false, false, false, false] (.bk (.ct (.bk (.sq (.lp (.bk (.sq .bd))))))) rfl (rd_indexSlice (sz := 1) tok rfl rfl rfl rfl rfl rfl rfl ?_) rfl (by kernel_rfl) rfl (LeC.drew _) ?_; omega)
                          refine D.take 12 [true, true, true, true, true, true, true, true, true, true, true, true, true, false, false, false, false, false, false, false, false, false, false, false, false, false, false, false, false] (.bk (.ct (.bk (.sq (.lp (.bk (.sq .bd))))))) rfl (rd_load1 tok rfl rfl rfl (cell_at (i := ((j2 : Nat) : Int).toNat) hG5 (by rw [Int.toNat_natCast]; exact iC_get hGb5) (by simp))) rfl (by kernel_rfl) rfl (LeC.drew _) ?_
                          refine D.take 13 [true, true, true, true, true, true, true, true, true, true, true, true, true, true, false, false, false, false, false, false, false, false, false, false, false, false, false, false, false] (.bk (.ct (.bk (.sq (.lp (.bk (.sq .bd))))))) rfl (rd_addE (r := ((3 + capd a + tsz b' : Nat) : Int)) rfl rfl (by rw [wrap_i64_in (by omega)]; omega)) rfl (by kernel_rfl) rfl (LeC.drew _) ?_
                          refine D.take 14 [true, true, true, true, true, true, true, true, true, true, true, true, true, true, true, false, false, false, false, false, false, false, false, false, false, false, false, false, false] (.bk (.ct (.bk (.sq (.lp (.bk (.sq .bd))))))) rfl (rd_move rfl) rfl (by kernel_rfl) rfl (LeC.drew _) ?_
                          refine D.take 15 [true, true, true, true, true, true, true, true, true, true, true, true, true, true, true, true, false, false, false, false, false, false, false, false, false, false, false, false, false] (.bk (.ct (.bk (.sq (.lp (.bk (.sq .bd))))))) rfl (rd_fieldAddr tok rfl rfl rfl rfl rfl rfl) rfl (by kernel_rfl) rfl (LeC.drew _) ?_
                          refine D.take 16 [true, true, true, true, true, true, true, true, true, true, true, true, true, true, true, true, true, false, false, false, false, false, false, false, false, false, false, false, false] (.bk (.ct (.bk (.sq (.lp (.bk (.sq .bd))))))) rfl (rd_load1 tok rfl rfl rfl (hn5.cell (i := 3) rfl)) rfl (by kernel_rfl) rfl (LeC.drew _) ?_
                          (refine D.take 17 [true, true, true, true, true, true, true, true, true, true, true, true, true, true, true, true, true, true, false, false, false, false, false, false, false, false, false, false, false] (.bk (.ct (.bk (.sq (.lp (.bk (.sq .bd))))))) rfl (rd_indexSlice (sz := 1) tok rfl rfl rfl rfl rfl rfl rfl ?_) rfl (by kernel_rfl) rfl (LeC.drew _) ?_; omega)
                          refine D.take 18 [true, true, true, true, true, true, true, true, true, true, true, true, true, true, true, true, true, true, true, false, false, false, false, false, false, false, false, false, false] (.bk (.ct (.bk (.sq (.lp (.bk (.sq .bd))))))) rfl (rd_load1 tok rfl rfl rfl (cell_at (i := ((j : Nat) : Int).toNat) hG5 (by rw [Int.toNat_natCast]; exact iC_get hGa5) (by simp))) rfl (by kernel_rfl) rfl (LeC.drew _) ?_
                          refine D.take 19 [true, true, true, true, true, true, true, true, true, true, true, true, true, true, true, true, true, true, true, true, false, false, false, false, false, false, false, false, false] (.bk (.ct (.bk (.sq (.lp (.bk (.sq .bd))))))) rfl (rd_addE (r := ((3 + capd a + tsz b' + tsz a : Nat) : Int)) rfl rfl (by rw [wrap_i64_in (by omega)]; omega)) rfl (by kernel_rfl) rfl (LeC.drew _) ?_
                          refine D.take 20 [true, true, true, true, true, true, true, true, true, true, true, true, true, true, true, true, true, true, true, true, true, false, false, false, false, false, false, false, false] (.bk (.ct (.bk (.sq (.lp (.bk (.sq .bd))))))) rfl (rd_move rfl) rfl (by kernel_rfl) rfl (LeC.drew _) ?_
                          refine D.take 21 [true, true, true, true, true, true, true, true, true, true, true, true, true, true, true, true, true, true, true, true, true, true, false, false, false, false, false, false, false] (.bk (.ct (.bk (.sq (.lp (.bk (.sq .bd))))))) rfl (rd_fieldAddr tok rfl rfl rfl rfl rfl rfl) rfl (by kernel_rfl) rfl (LeC.drew _) ?_
                          refine D.take 22 [true, true, true, true, true, true, true, true, true, true, true, true, true, true, true, true, true, true, true, true, true, true, true, false, false, false, false, false, false] (.bk (.ct (.bk (.sq (.lp (.bk (.sq .bd))))))) rfl (rd_load1 tok rfl rfl rfl (hn5.cell (i := 4) rfl)) rfl (by kernel_rfl) rfl (LeC.drew _) ?_
                          (refine D.take 23 [true, true, true, true, true, true, true, true, true, true, true, true, true, true, true, true, true, true, true, true, true, true, true, true, false, false, false, false, false] (.bk (.ct (.bk (.sq (.lp (.bk (.sq .bd))))))) rfl (rd_indexSlice (sz := 1) tok rfl rfl rfl rfl rfl rfl rfl ?_) rfl (by kernel_rfl) rfl (LeC.drew _) ?_; omega)
                          refine D.take 24 [true, true, true, true, true, true, true, true, true, true, true, true, true, true, true, true, true, true, true, true, true, true, true, true, true, false, false, false, false] (.bk (.ct (.bk (.sq (.lp (.bk (.sq .bd))))))) rfl (rd_load1 tok rfl rfl rfl (cell_at (i := ((j2 : Nat) : Int).toNat) hH5 (by rw [Int.toNat_natCast]; exact iC_get hHj2) (by simp))) rfl (by kernel_rfl) rfl (LeC.drew _) ?_
                          refine D.take 25 [true, true, true, true, true, true, true, true, true, true, true, true, true, true, true, true, true, true, true, true, true, true, true, true, true, true, false, false, false] (.bk (.ct (.bk (.sq (.lp (.bk (.sq .bd))))))) rfl (rd_addE (r := ((3 + capd a + tsz b' + tsz a + capd b' : Nat) : Int)) rfl rfl (by rw [wrap_i64_in (by omega)]; omega)) rfl (by kernel_rfl) rfl (LeC.drew _) ?_
                          refine D.one 26 [true, true, true, true, true, true, true, true, true, true, true, true, true, true, true, true, true, true, true, true, true, true, true, true, true, true, true, false, false] rfl (by kernel_rfl) rfl (e_call rfl (capS_ok (3 + capd a + tsz b' + tsz a + capd b') (by omega) _) rfl ?_)
                          rintro _ _ ⟨rfl, rfl⟩
                          refine ⟨fun _ => (LeC.drew _), ?_⟩
                          (refine D.take 27 [true, true, true, true, true, true, true, true, true, true, true, true, true, true, true, true, true, true, true, true, true, true, true, true, true, true, true, true, false] (.bk (.ct (.bk (.sq (.lp (.bk (.sq .bd))))))) rfl (rd_indexSlice (sz := 1) tok rfl rfl rfl rfl rfl rfl rfl ?_) rfl (by kernel_rfl) rfl (LeC.drew _) ?_; omega)
                          refine D.one 28 [true, true, true, true, true, true, true, true, true, true, true, true, true, true, true, true, true, true, true, true, true, true, true, true, true, true, true, true, true] rfl (by kernel_rfl) rfl (e_store (vs := [_]) tok rfl rfl rfl rfl hH5.drew rfl (by simp [Value.oneCell']) (by simp [iC]; omega) ⟨fun h => (by cases h), ?_⟩)
                          (simp only [Nat.zero_add, Nat.mul_one, Int.toNat_natCast])
                          rw [iC_putI _ _ _ (by omega)]
                          refine D.done (by kernel_rfl) ?_
                          refine X.bk ?_
                          exact X.ct ⟨_, (by repeat' (first | exact trivial | refine ⟨rfl, ?_⟩)), _, _, rfl, hE5.drew.set (by omega) _ _, hG5.drew.setNe (by omega) _ _, hH5.drew.set _ _, by rw [tsz_b2]; omega, by unfold capd; rw [ds_b6]; omega⟩
                        ·
                          refine V.seq ?_
                          refine V.region ?_
                          refine L.rd (rd_eql rfl rfl) rfl ?_
                          refine L.rd (rd_assign rfl) rfl ?_
                          refine L.nil ?_
                          refine X.sq ?_
                          first | refine V.cond rfl (fun h173 => ?_) (fun h173 => ?_) | refine V.condB rfl (fun h173 => ?_) (fun h173 => ?_)
                          ·
                            refine V.seq ?_
                            obtain ⟨a, j, rfl, rfl, hj, hSj, hwa, hv0, hv1⟩ := sok7 hok hws h173
                            obtain ⟨hGj, hHj⟩ := hinv j a hj hSj
                            have hsa := hSz a (List.mem_of_getElem? hSj)
                            have hca : capd a ≤ 500001 := Nat.min_le_right _ _
                            refine V.region ?_
                            refine L.rd (rd_move rfl) rfl ?_
                            refine L.rd (rd_move rfl) rfl ?_
                            refine L.rd (rd_move rfl) rfl ?_
                            refine L.rd (rd_fieldAddr tok rfl rfl rfl rfl rfl rfl) rfl ?_
                            refine L.rd (rd_load1 tok rfl rfl rfl (hb4.cell (i := 3) rfl)) rfl ?_
                            (refine L.rd (rd_indexSlice (sz := 1) tok rfl rfl rfl rfl rfl rfl rfl ?_) rfl ?_; omega)
                            refine L.rd (rd_load1 tok rfl rfl rfl (cell_at (i := ((j : Nat) : Int).toNat) hG4 (by rw [Int.toNat_natCast]; exact iC_get hGj) (by simp))) rfl ?_
                            (refine L.rd (rd_add3 rfl rfl ?_) rfl ?_; omega)
                            (refine L.rd (rd_indexSlice (sz := 1) tok rfl rfl rfl rfl rfl rfl rfl ?_) rfl ?_; omega)
                            refine L.ef (e_store (vs := [_]) tok rfl rfl rfl rfl hG4 rfl (by simp [Value.oneCell']) (by simp [iC]; omega) ?_)
                            (simp only [Nat.zero_add, Nat.mul_one, Int.toNat_natCast])
                            rw [iC_putI _ _ _ (by omega)]
                            refine L.nil ?_
                            refine X.sq ?_
                            refine V.seq ?_
                            have hG5 := hG4.set 3 (iC .i64 (G.set i (1 + (tsz a : Int))))
                            have hH5 := hH4.setNe (b' := w1.heap.size) (by omega) 3 (iC .i64 (G.set i (1 + (tsz a : Int))))
                            have hn5 := hb4.setNe (b' := w1.heap.size) (by omega) 3 (iC .i64 (G.set i (1 + (tsz a : Int))))
                            have hE5 : Ext w1.heap.size w1 (setB w4 w1.heap.size 3 (iC .i64 (G.set i (1 + (tsz a : Int))))) := hE4.set (Nat.le_refl _) _ _
                            generalize setB w4 w1.heap.size 3 (iC .i64 (G.set i (1 + (tsz a : Int)))) = w5 at hG5 hH5 hn5 hE5 ⊢
                            have hGa5 : (G.set i (1 + (tsz a : Int)))[j]? = some (tsz a : Int) := by rw [List.getElem?_set_ne (by omega)]; exact hGj
                            refine V.region ?_
                            refine L.rd (rd_fieldAddr tok rfl rfl rfl rfl rfl rfl) rfl ?_
                            refine L.rd (rd_load1 tok rfl rfl rfl (hn5.cell (i := 1) rfl)) rfl ?_
                            refine L.rd (rd_eql rfl rfl) rfl ?_
                            refine L.nil ?_
                            refine X.sq ?_
                            first | refine V.cond rfl (fun h186 => ?_) (fun h186 => ?_) | refine V.condB rfl (fun h186 => ?_) (fun h186 => ?_)
                            ·
                              refine V.region ?_
                              refine L.rd (rd_move rfl) rfl ?_
                              refine L.rd (rd_move rfl) rfl ?_
                              (refine L.rd (rd_indexSlice (sz := 1) tok rfl rfl rfl rfl rfl rfl rfl ?_) rfl ?_; omega)
                              refine L.ef (e_store (vs := [_]) tok rfl rfl rfl rfl hH5 rfl (by simp [Value.oneCell']) (by simp [iC]; omega) ?_)
                              (simp only [Nat.zero_add, Nat.mul_one, Int.toNat_natCast])
                              rw [iC_putI _ _ _ (by omega)]
                              refine L.nil ?_
                              refine X.bk ?_
                              subst h186
                              exact X.ct ⟨_, (by repeat' (first | exact trivial | refine ⟨rfl, ?_⟩)), _, _, rfl, hE5.set (by omega) _ _, hG5.setNe (by omega) _ _, hH5.set _ _, by rw [tsz_u1]; omega, rfl⟩
                            ·
                              refine V.draw [16] mixed ?_
                              refine D.take 0 [true, false, false, false, false, false, false, false, false, false, false, false, false, false, false, false, false] (.bk (.ct (.bk (.sq (.lp (.bk (.sq .bd))))))) rfl (rd_move rfl) rfl (by kernel_rfl) rfl (LeC.drew _) ?_
                              refine D.take 1 [true, true, false, false, false, false, false, false, false, false, false, false, false, false, false, false, false] (.bk (.ct (.bk (.sq (.lp (.bk (.sq .bd))))))) rfl (rd_move rfl) rfl (by kernel_rfl) rfl (LeC.drew _) ?_
                              refine D.take 2 [true, true, true, false, false, false, false, false, false, false, false, false, false, false, false, false, false] (.bk (.ct (.bk (.sq (.lp (.bk (.sq .bd))))))) rfl (rd_move rfl) rfl (by kernel_rfl) rfl (LeC.drew _) ?_
                              refine D.take 3 [true, true, true, true, false, false, false, false, false, false, false, false, false, false, false, false, false] (.bk (.ct (.bk (.sq (.lp (.bk (.sq .bd))))))) rfl (rd_fieldAddr tok rfl rfl rfl rfl rfl rfl) rfl (by kernel_rfl) rfl (LeC.drew _) ?_
                              refine D.take 4 [true, true, true, true, true, false, false, false, false, false, false, false, false, false, false, false, false] (.bk (.ct (.bk (.sq (.lp (.bk (.sq .bd))))))) rfl (rd_load1 tok rfl rfl rfl (hn5.cell (i := 3) rfl)) rfl (by kernel_rfl) rfl (LeC.drew _) ?_
                              (refine D.take 5 [true, true, true, true, true, true, false, false, false, false, false, false, false, false, false, false, false] (.bk (.ct (.bk (.sq (.lp (.bk (.sq .bd))))))) rfl (rd_indexSlice (sz := 1) tok rfl rfl rfl rfl rfl rfl rfl ?_) rfl (by kernel_rfl) rfl (LeC.drew _) ?_; omega)
                              refine D.take 6 [true, true, true, true, true, true, true, false, false, false, false, false, false, false, false, false, false] (.bk (.ct (.bk (.sq (.lp (.bk (.sq .bd))))))) rfl (rd_load1 tok rfl rfl rfl (cell_at (i := ((j : Nat) : Int).toNat) hG5 (by rw [Int.toNat_natCast]; exact iC_get hGa5) (by simp))) rfl (by kernel_rfl) rfl (LeC.drew _) ?_
                              refine D.take 7 [true, true, true, true, true, true, true, true, false, false, false, false, false, false, false, false, false] (.bk (.ct (.bk (.sq (.lp (.bk (.sq .bd))))))) rfl (rd_addE (r := ((4 + tsz a : Nat) : Int)) rfl rfl (by rw [wrap_i64_in (by omega)]; omega)) rfl (by kernel_rfl) rfl (LeC.drew _) ?_
                              refine D.take 8 [true, true, true, true, true, true, true, true, true, false, false, false, false, false, false, false, false] (.bk (.ct (.bk (.sq (.lp (.bk (.sq .bd))))))) rfl (rd_move rfl) rfl (by kernel_rfl) rfl (LeC.drew _) ?_
                              refine D.take 9 [true, true, true, true, true, true, true, true, true, true, false, false, false, false, false, false, false] (.bk (.ct (.bk (.sq (.lp (.bk (.sq .bd))))))) rfl (rd_fieldAddr tok rfl rfl rfl rfl rfl rfl) rfl (by kernel_rfl) rfl (LeC.drew _) ?_
                              refine D.take 10 [true, true, true, true, true, true, true, true, true, true, true, false, false, false, false, false, false] (.bk (.ct (.bk (.sq (.lp (.bk (.sq .bd))))))) rfl (rd_load1 tok rfl rfl rfl (hn5.cell (i := 3) rfl)) rfl (by kernel_rfl) rfl (LeC.drew _) ?_
                              (refine D.take 11 [true, true, true, true, true, true, true, true, true, true, true, true, false, false, false, false, false] (.bk (.ct (.bk (.sq (.lp (.bk (.sq .bd))))))) rfl (rd_indexSlice (sz := 1) tok rfl rfl rfl rfl rfl rfl rfl ?_) rfl (by kernel_rfl) rfl (LeC.drew _) ?_; omega)
                              refine D.take 12 [true, true, true, true, true, true, true, true, true, true, true, true, true, false, false, false, false] (.bk (.ct (.bk (.sq (.lp (.bk (.sq .bd))))))) rfl (rd_load1 tok rfl rfl rfl (cell_at (i := ((j : Nat) : Int).toNat) hH5 (by rw [Int.toNat_natCast]; exact iC_get hHj) (by simp))) rfl (by kernel_rfl) rfl (LeC.drew _) ?_
                              refine D.take 13 [true, true, true, true, true, true, true, true, true, true, true, true, true, true, false, false, false] (.bk (.ct (.bk (.sq (.lp (.bk (.sq .bd))))))) rfl (rd_addE (r := ((4 + tsz a + capd a : Nat) : Int)) rfl rfl (by rw [wrap_i64_in (by omega)]; omega)) rfl (by kernel_rfl) rfl (LeC.drew _) ?_
                              refine D.one 14 [true, true, true, true, true, true, true, true, true, true, true, true, true, true, true, false, false] rfl (by kernel_rfl) rfl (e_call rfl (capS_ok (4 + tsz a + capd a) (by omega) _) rfl ?_)
                              rintro _ _ ⟨rfl, rfl⟩
                              refine ⟨fun _ => (LeC.drew _), ?_⟩
                              (refine D.take 15 [true, true, true, true, true, true, true, true, true, true, true, true, true, true, true, true, false] (.bk (.ct (.bk (.sq (.lp (.bk (.sq .bd))))))) rfl (rd_indexSlice (sz := 1) tok rfl rfl rfl rfl rfl rfl rfl ?_) rfl (by kernel_rfl) rfl (LeC.drew _) ?_; omega)
                              refine D.one 16 [true, true, true, true, true, true, true, true, true, true, true, true, true, true, true, true, true] rfl (by kernel_rfl) rfl (e_store (vs := [_]) tok rfl rfl rfl rfl hH5.drew rfl (by simp [Value.oneCell']) (by simp [iC]; omega) ⟨fun h => (by cases h), ?_⟩)
                              (simp only [Nat.zero_add, Nat.mul_one, Int.toNat_natCast])
                              rw [iC_putI _ _ _ (by omega)]
                              refine D.done (by kernel_rfl) ?_
                              refine X.bk ?_
                              exact X.ct ⟨_, (by repeat' (first | exact trivial | refine ⟨rfl, ?_⟩)), _, _, rfl, hE5.drew.set (by omega) _ _, hG5.drew.setNe (by omega) _ _, hH5.drew.set _ _, by rw [tsz_u1]; omega, by unfold capd; rw [ds_u7 _ h186]; omega⟩
                          ·
                            omega
            ·
              rintro l w5 ⟨ga, hb, rfl, hE5, hG5, hH5, rfl, rfl⟩
              refine X.bk ?_
              refine X.sq ?_
              refine V.region ?_
              refine L.rd (rd_move rfl) rfl ?_
              (refine L.rd (rd_add3 rfl rfl ?_) rfl ?_; omega)
              refine L.rd (rd_assign rfl) rfl ?_
              refine L.nil ?_
              refine X.lp ⟨_, _, by omega, (by repeat' (first | exact trivial | refine ⟨rfl, ?_⟩)), i + 1, G.set i (tsz s : Int), H.set i (capd s : Int), rfl, rfl, by omega, hE5, hG5, hH5, by simp [hGl], by simp [hHl], fun j2 s2 hj2 hs2 => ?_⟩
              by_cases hji : j2 = i
              · subst hji
                rw [hs] at hs2
                simp only [Option.some.injEq] at hs2
                subst hs2
                exact ⟨List.getElem?_set_self (by omega), List.getElem?_set_self (by omega)⟩
              · obtain ⟨h1, h2⟩ := hinv j2 s2 (by omega) hs2
                exact ⟨by rw [List.getElem?_set_ne (by omega)]; exact h1, by rw [List.getElem?_set_ne (by omega)]; exact h2⟩
          ·
            refine V.exit ?_
            refine X.sqExit ?_
            refine X.lpExit ?_
            refine X.bkHere ?_
            refine X.sq ?_
            refine V.seq ?_
            refine V.seq ?_
            obtain rfl : i = ns.length := by omega
            obtain ⟨-, hHr⟩ := hinv (tsz t - 1) t (by omega) hroot
            have hix : ((ns.length : Int) - 1).toNat = tsz t - 1 := by omega
            have hcd : capd t = min (ds t) 500001 := rfl
            clear hinv hG hGlt hG0
            refine V.region ?_
            refine L.rd (rd_move rfl) rfl ?_
            refine L.rd (rd_move rfl) rfl ?_
            (refine L.rd (rd_sub3 rfl rfl ?_) rfl ?_; omega)
            (refine L.rd (rd_indexSlice (sz := 1) tok rfl rfl rfl rfl rfl rfl rfl ?_) rfl ?_; omega)
            refine L.rd (rd_load1 tok rfl rfl rfl (cell_at (i := ((ns.length : Int) - 1).toNat) hH (by rw [hix]; exact iC_get hHr) (by simp))) rfl ?_
            refine L.rd (rd_gtr rfl rfl) rfl ?_
            refine L.nil ?_
            refine X.sq ?_
            first | refine V.cond rfl (fun h211 => ?_) (fun h211 => ?_) | refine V.condB rfl (fun h211 => ?_) (fun h211 => ?_)
            ·
              refine V.seq ?_
              refine V.region ?_
              refine L.rd (rd_build (out := [_, _]) tok rfl rfl rfl rfl rfl) rfl ?_
              refine L.ef (e_store (vs := [_, _]) tok rfl rfl rfl rfl hrr rfl (by simp [Value.oneCell']) (by simp) ?_)
              refine L.rd (rd_assign rfl) rfl ?_
              refine L.nil ?_
              refine X.sq ?_
              refine V.ret ?_
              refine X.sqRet ?_
              refine ret_c1 tok Yaam.results53 rfl rfl rfl rfl (Bl.cells (hrr.set _ _)) rfl ?_
              exact XPost.bad (by unfold difT; rw [if_neg (by omega)]) (hEr.set (by omega) _ _)
            ·
              refine V.skip ?_
              refine X.sq ?_
              refine V.seq ?_
              have hdif : difT y t = some (dT y t) := by unfold difT; rw [if_pos (by omega)]
              have hds : ds t ≤ 500000 := by omega
              have hcds : (capd t : Int) = (ds t : Int) := by omega
              have hdz := tsz_dT y t
              have hdw := dT_wt y t hw
              rw [hdif]
              have he0 := (Ext.refl _ wr).addNew 152 []
              have hpl0 := own_empty (sz := 7) (Bl.new wr 152 []) (Nat.le_refl _)
              refine V.region ?_
              refine L.ef (e_make0 (e := 152) tok rfl rfl rfl rfl rfl rfl rfl (by first | (simp only [size_addB, size_setB, size_drew]; rfl) | rfl) rfl ?_)
              refine L.rd (rd_build (out := [_]) tok rfl rfl rfl rfl rfl) rfl ?_
              refine L.ef (e_box (cs := [_]) rfl rfl (by first | (simp only [size_addB, size_setB, size_drew]; rfl) | rfl) rfl ?_)
              refine L.rd (rd_assign rfl) rfl ?_
              refine L.nil ?_
              refine X.sq ?_
              refine V.seq ?_
              have hC5 : CDq (wr.heap.size + 1) wr.heap.size (addB (addB wr 152 []) 146 [.slice (some ⟨wr.heap.size, 0, none⟩) 0 0]) [] := ⟨⟨_, Bl.new' (by rw [size_addB]) _ _, hpl0.alloc _⟩, by omega⟩
              have he5 := he0.addNew 146 [.slice (some ⟨wr.heap.size, 0, none⟩) 0 0]
              generalize addB (addB wr 152 []) 146 [.slice (some ⟨wr.heap.size, 0, none⟩) 0 0] = w5 at hC5 he5 ⊢
              have hl5 := hC5.lt
              refine V.region ?_
              refine L.rd (rd_move rfl) rfl ?_
              refine L.ef (e_make (e := 149) (zs := [.bool false, .int .i64 0]) (m := ns.length) (c := ns.length) tok rfl rfl rfl rfl rfl rfl rfl rfl (by first | (simp only [size_addB, size_setB, size_drew]; rfl) | rfl) rfl (by omega) (by simp only []; omega) (by omega) ?_)
              refine L.rd (rd_assign rfl) rfl ?_
              refine L.nil ?_
              refine X.sq ?_
              refine V.seq ?_
              have hD6 : Bl (addB w5 149 ((List.replicate ns.length [.bool false, .int .i64 0]).flatten)) w5.heap.size 149 ((List.replicate ns.length ((false, 0) : DR)).flatMap drE) := by
                rw [← fm_replicate drE_len]
                exact Bl.new _ _ _
              have he6 := (Ext.refl _ w5).addNew 149 ((List.replicate ns.length [.bool false, .int .i64 0]).flatten)
              generalize addB w5 149 ((List.replicate ns.length [.bool false, .int .i64 0]).flatten) = w6 at hD6 he6 ⊢
              have hl6 := hD6.lt
              have hC6 := hC5.ext he6
              refine V.region ?_
              refine L.rd (rd_build (out := [_, _]) tok rfl rfl rfl rfl rfl) rfl ?_
              refine L.ef (e_alloc (cs := [_, _]) tok rfl rfl (by first | (simp only [size_addB, size_setB, size_drew]; rfl) | rfl) rfl ?_)
              refine L.ef (e_store (vs := [_, _]) tok rfl rfl rfl rfl (by (repeat (first | assumption | (refine Bl.new' ?_ _ _; first | with_reducible rfl | (simp only [size_addB, size_setB, size_drew]; done)) | apply Bl.add | apply Bl.drew | (apply Bl.setNe; omega) | (refine Bl.set' ?_ _ _; (try simp only [size_addB, size_setB, size_drew]); omega)))) rfl (by simp [Value.oneCell']) (by simp) ?_)
              refine L.nil ?_
              refine X.sq ?_
              refine V.seq ?_
              refine V.seq ?_
              generalize hw7 : setB _ _ _ _ = w7
              have hn7 : Bl w7 w6.heap.size 149 [.bool false, .int .i64 (-1)] := by rw [← hw7]; refine Bl.set' ?_ _ _; rw [size_addB]; omega
              have he7 : Ext w6.heap.size w6 w7 := by rw [← hw7]; exact ((Ext.refl _ _).addNew _ _).set (Nat.le_refl _) _ _
              have hD7 := he7.bl hD6.lt hD6
              have hC7 := hC6.ext he7
              have hE7 := (he5.next he6).next he7
              refine V.region ?_
              refine L.rd (rd_assign rfl) rfl ?_
              refine L.nil ?_
              refine X.sq ?_
              refine V.block ?_
              refine V.loop (fun m l w8 => ∃ (i : Nat) (pool : List DN) (Dl : List DR), l = [(1, .int .i64 y), (2, .pointer (some ⟨w.heap.size, 0, none⟩)), (4, .pointer (some ⟨w.heap.size + 1, 0, none⟩)), (6, .int .i64 ns.length), (8, .slice (some ⟨w2.heap.size, 0, none⟩) ns.length ns.length), (11, .pointer (some ⟨wr.heap.size + 1, 0, none⟩)), (12, .slice (some ⟨w5.heap.size, 0, none⟩) ns.length ns.length), (13, .pointer (some ⟨w6.heap.size, 0, none⟩)), (14, .int .i64 i)] ∧ m = ns.length - i ∧ i ≤ ns.length ∧ CDq (wr.heap.size + 1) wr.heap.size w8 pool ∧ pool.length ≤ 4 * i ∧ Bl w8 w5.heap.size 149 (Dl.flatMap drE) ∧ Dl.length = ns.length ∧ Bl w8 w6.heap.size 149 [.bool false, .int .i64 (-1)] ∧ Ext wr.heap.size wr w8 ∧ (∀ (j : Nat) (s : Tre), j < i → S[j]? = some s → ∃ p, Dl[j]? = some p ∧ Rf S pool (dT y s) p)) ?_ ?_
              ·
                exact ⟨_, _, (by repeat' (first | exact trivial | refine ⟨rfl, ?_⟩)), 0, [], List.replicate ns.length (false, 0), rfl, rfl, by omega, hC7, by simp, hD7, by simp, hn7, hE7, fun j s hj => absurd hj (by omega)⟩
              ·
                clear hC5 hC6 hC7 hD6 hD7 hn7 hE7 he5 he6 he7 hpl0 he0
                rintro m l w8 ⟨i, pool, Dl, rfl, rfl, hi, hC8, hpl, hD8, hDl, hn8, hE8, hinv⟩
                have hpr8 := hE8.bl hpr.lt hpr
                have hs8 := hn8.lt
                have hEr8 := hEr.next hE8
                refine V.seq ?_
                refine V.seq ?_
                refine V.region ?_
                refine L.rd (rd_move rfl) rfl ?_
                refine L.rd (rd_move rfl) rfl ?_
                refine L.rd (rd_lss rfl rfl) rfl ?_
                refine L.nil ?_
                refine X.sq ?_
                first | refine V.cond rfl (fun h221 => ?_) (fun h221 => ?_) | refine V.condB rfl (fun h221 => ?_) (fun h221 => ?_)
                ·
                  obtain ⟨b1, o1, rfl, hc1⟩ := hfn.resolve_left (by omega)
                  obtain ⟨⟨k, v, x, lf_, rt⟩, ht⟩ := nth_of_lt ns i (by omega)
                  obtain ⟨s, hs⟩ := nth_of_lt S i (by omega)
                  obtain ⟨hok, hws⟩ := hSb.ok i _ s ht hs
                  have hkk := sok_kind hok hws
                  have hcx := (hc1.le hEr8.leC).sub (i * 5) (ndE (k, v, x, lf_, rt)) (fun j u hu => fm_get ndE_len ns i _ ht j u hu)
                  have hDfl : (Dl.flatMap drE).length = ns.length * 2 := by rw [fm_length drE_len, hDl]
                  refine V.skip ?_
                  refine X.sq ?_
                  refine V.seq ?_
                  refine V.block ?_
                  refine V.seq ?_
                  refine V.region ?_
                  refine L.rd (rd_fieldAddr tok rfl rfl rfl rfl rfl rfl) rfl ?_
                  refine L.rd (rd_load1 tok rfl rfl rfl (hpr8.cell rfl)) rfl ?_
                  refine L.rd (rd_move rfl) rfl ?_
                  (refine L.rd (rd_indexSlice (sz := 5) tok rfl rfl rfl rfl rfl rfl rfl ?_) rfl ?_; omega)
                  refine L.rd (rd_loadN tok rfl rfl rfl hcx rfl) rfl ?_
                  refine L.ef (e_alloc (cs := [_, _, _, _, _]) tok rfl rfl (by first | (simp only [size_addB, size_setB, size_drew]; rfl) | rfl) rfl ?_)
                  refine L.ef (e_store (vs := [_, _, _, _, _]) tok rfl rfl rfl rfl (by (repeat (first | assumption | (refine Bl.new' ?_ _ _; first | with_reducible rfl | (simp only [size_addB, size_setB, size_drew]; done)) | apply Bl.add | apply Bl.drew | (apply Bl.setNe; omega) | (refine Bl.set' ?_ _ _; (try simp only [size_addB, size_setB, size_drew]); omega)))) rfl (by simp [Value.oneCell']) (by simp) ?_)
                  refine L.nil ?_
                  refine X.sq ?_
                  refine V.seq ?_
                  generalize hw9 : setB _ _ _ _ = w9
                  have hb9 : Bl w9 w8.heap.size 80 [.int .i64 k, .int .i64 v, .int .i64 x, .int .i64 lf_, .int .i64 rt] := by rw [← hw9]; refine Bl.set' ?_ _ _; rw [size_addB]; omega
                  have he9 : Ext w8.heap.size w8 w9 := by rw [← hw9]; exact ((Ext.refl _ _).addNew _ _).set (Nat.le_refl _) _ _
                  have hC9 := hC8.ext he9
                  have hD9 := he9.bl hD8.lt hD8
                  have hn9 := he9.bl hn8.lt hn8
                  have hE9 := hE8.next he9
                  have hs9 := hb9.lt
                  have hCle := hC9.le
                  have hDc : ∀ (w' : World), Bl w' w5.heap.size 149 (Dl.flatMap drE) → ∀ (j : Nat) (p : DR), Dl[j]? = some p → Cells w' w5.heap.size (0 + ((j : Int)).toNat * 2) [.bool p.1, .int .i64 p.2] := fun w' hb j p hj => by
                    rw [Int.toNat_natCast]
                    exact hb.cells.sub (j * 2) (drE p) (fun q u hu => fm_get drE_len Dl j p hj q u hu)
                  refine V.region ?_
                  refine L.rd (rd_fieldAddr tok rfl rfl rfl rfl rfl rfl) rfl ?_
                  refine L.rd (rd_load1 tok rfl rfl rfl (hb9.cell rfl)) rfl ?_
                  refine L.nil ?_
                  refine X.sq ?_
                  refine V.cut (fun l w' => ∃ (ex : List DN) (p : DR), l = [(1, .int .i64 y), (2, .pointer (some ⟨w.heap.size, 0, none⟩)), (4, .pointer (some ⟨w.heap.size + 1, 0, none⟩)), (6, .int .i64 ns.length), (8, .slice (some ⟨w2.heap.size, 0, none⟩) ns.length ns.length), (11, .pointer (some ⟨wr.heap.size + 1, 0, none⟩)), (12, .slice (some ⟨w5.heap.size, 0, none⟩) ns.length ns.length), (13, .pointer (some ⟨w6.heap.size, 0, none⟩)), (14, .int .i64 i)] ∧ ex.length ≤ 4 ∧ CDq (wr.heap.size + 1) wr.heap.size w' (pool ++ ex) ∧ Bl w' w5.heap.size 149 ((Dl.set i p).flatMap drE) ∧ Bl w' w6.heap.size 149 [.bool false, .int .i64 (-1)] ∧ Ext wr.heap.size wr w' ∧ Rf S (pool ++ ex) (dT y s) p) ?_ ?_
                  ·
                    refine V.block ?_
                    refine V.seq ?_
                    refine V.region ?_
                    refine L.rd (rd_eql rfl rfl) rfl ?_
                    refine L.rd (rd_assign rfl) rfl ?_
                    refine L.nil ?_
                    refine X.sq ?_
                    first | refine V.cond rfl (fun h231 => ?_) (fun h231 => ?_) | refine V.condB rfl (fun h231 => ?_) (fun h231 => ?_)
                    ·
                      obtain ⟨rfl, rfl⟩ := sok1 hok hws h231
                      refine V.region ?_
                      refine L.rd (rd_move rfl) rfl ?_
                      refine L.rd (rd_move rfl) rfl ?_
                      refine L.rd (rd_move rfl) rfl ?_
                      refine L.ef (e_call rfl (leafD_ok 0 _) rfl ?_)
                      rintro _ w10 ⟨rfl, he10⟩
                      have hC10 := hC9.ext he10
                      refine L.ef (e_call rfl (dadd_ok (1, 0, 0, (false, -1), (false, -1)) _ hC10 (by omega)) rfl ?_)
                      rintro _ w11 ⟨rfl, hC11, hk11⟩
                      have hD11 := hC10.kbl hk11 (he10.bl hD9.lt hD9) rfl rfl
                      have hn11 := hC10.kbl hk11 (he10.bl hn9.lt hn9) rfl rfl
                      have hb11 := hC10.kbl hk11 (he10.bl hb9.lt hb9) rfl rfl
                      have hE11 := (hE9.next he10).trans (hk11.toExt (Nat.le_refl _))
                      have hs11 := hb11.lt
                      (refine L.rd (rd_indexSlice (sz := 2) tok rfl rfl rfl rfl rfl rfl rfl ?_) rfl ?_; omega)
                      refine L.ef (e_store (vs := [_, _]) tok rfl rfl rfl rfl hD11 rfl (by simp [Value.oneCell']) (by rw [hDfl]; simp; omega) ?_)
                      (simp only [Nat.zero_add, Int.toNat_natCast])
                      refine L.nil ?_
                      refine X.bk ?_
                      have hput := fm_put drE_len [] Dl i (false, (pool.length : Int)) (by omega)
                      rw [List.append_nil, List.append_nil] at hput
                      simp only [drE] at hput
                      rw [hput]
                      exact X.ct ⟨_, (by repeat' (first | exact trivial | refine ⟨rfl, ?_⟩)), [(1, 0, 0, (false, -1), (false, -1))], (false, (pool.length : Int)), rfl, by simp, CD.set hC11 hD11 rfl rfl _, hD11.set _ _, hn11.setNe (by omega) _ _, Ext.set hE11 (by omega) _ _, Rf.leaf 1 0 0 _ _⟩
                    ·
                      refine V.seq ?_
                      refine V.region ?_
                      refine L.rd (rd_eql rfl rfl) rfl ?_
                      refine L.rd (rd_assign rfl) rfl ?_
                      refine L.nil ?_
                      refine X.sq ?_
                      first | refine V.cond rfl (fun h239 => ?_) (fun h239 => ?_) | refine V.condB rfl (fun h239 => ?_) (fun h239 => ?_)
                      ·
                        obtain ⟨rfl, rfl, hx0⟩ := sok2 hok hws h239
                        refine V.seq ?_
                        refine V.region ?_
                        refine L.rd (rd_assign rfl) rfl ?_
                        refine L.nil ?_
                        refine X.sq ?_
                        refine V.seq ?_
                        refine V.seq ?_
                        refine V.region ?_
                        refine L.rd (rd_fieldAddr tok rfl rfl rfl rfl rfl rfl) rfl ?_
                        refine L.rd (rd_load1 tok rfl rfl rfl (hb9.cell (i := 2) rfl)) rfl ?_
                        refine L.rd (rd_move rfl) rfl ?_
                        refine L.rd (rd_eql rfl rfl) rfl ?_
                        refine L.nil ?_
                        refine X.sq ?_
                        refine V.cut (fun l w' => ∃ o : Int, l = [(1, .int .i64 y), (2, .pointer (some ⟨w.heap.size, 0, none⟩)), (4, .pointer (some ⟨w.heap.size + 1, 0, none⟩)), (6, .int .i64 ns.length), (8, .slice (some ⟨w2.heap.size, 0, none⟩) ns.length ns.length), (11, .pointer (some ⟨wr.heap.size + 1, 0, none⟩)), (12, .slice (some ⟨w5.heap.size, 0, none⟩) ns.length ns.length), (13, .pointer (some ⟨w6.heap.size, 0, none⟩)), (14, .int .i64 i), (16, .int .i64 o)] ∧ o = (if x = y then 1 else 0) ∧ w9 = w') ?_ ?_
                        ·
                          first | refine V.cond rfl (fun h244 => ?_) (fun h244 => ?_) | refine V.condB rfl (fun h244 => ?_) (fun h244 => ?_)
                          ·
                            refine V.region ?_
                            refine L.rd (rd_assign rfl) rfl ?_
                            refine L.nil ?_
                            exact X.ct ⟨_, (by repeat' (first | exact trivial | refine ⟨rfl, ?_⟩)), 1, rfl, by rw [if_pos h244], rfl⟩
                          ·
                            refine V.skip ?_
                            exact X.ct ⟨_, (by repeat' (first | exact trivial | refine ⟨rfl, ?_⟩)), 0, rfl, by rw [if_neg h244], rfl⟩
                        ·
                          rintro l w' ⟨o, rfl, ho, rfl⟩
                          refine X.sq ?_
                          refine V.region ?_
                          refine L.rd (rd_move rfl) rfl ?_
                          refine L.rd (rd_move rfl) rfl ?_
                          refine L.rd (rd_move rfl) rfl ?_
                          refine L.rd (rd_move rfl) rfl ?_
                          refine L.ef (e_call rfl (leafD_ok o _) rfl ?_)
                          rintro _ w10 ⟨rfl, he10⟩
                          have hC10 := hC9.ext he10
                          refine L.ef (e_call rfl (dadd_ok (1, o, 0, (false, -1), (false, -1)) _ hC10 (by omega)) rfl ?_)
                          rintro _ w11 ⟨rfl, hC11, hk11⟩
                          have hD11 := hC10.kbl hk11 (he10.bl hD9.lt hD9) rfl rfl
                          have hn11 := hC10.kbl hk11 (he10.bl hn9.lt hn9) rfl rfl
                          have hb11 := hC10.kbl hk11 (he10.bl hb9.lt hb9) rfl rfl
                          have hE11 := (hE9.next he10).trans (hk11.toExt (Nat.le_refl _))
                          have hs11 := hb11.lt
                          (refine L.rd (rd_indexSlice (sz := 2) tok rfl rfl rfl rfl rfl rfl rfl ?_) rfl ?_; omega)
                          refine L.ef (e_store (vs := [_, _]) tok rfl rfl rfl rfl hD11 rfl (by simp [Value.oneCell']) (by rw [hDfl]; simp; omega) ?_)
                          (simp only [Nat.zero_add, Int.toNat_natCast])
                          refine L.nil ?_
                          refine X.bk ?_
                          have hput := fm_put drE_len [] Dl i (false, (pool.length : Int)) (by omega)
                          rw [List.append_nil, List.append_nil] at hput
                          simp only [drE] at hput
                          rw [hput]
                          exact X.ct ⟨_, (by repeat' (first | exact trivial | refine ⟨rfl, ?_⟩)), [(1, o, 0, (false, -1), (false, -1))], (false, (pool.length : Int)), rfl, by simp, CD.set hC11 hD11 rfl rfl _, hD11.set _ _, hn11.setNe (by omega) _ _, Ext.set hE11 (by omega) _ _, by rw [dT_var, ← ho]; exact Rf.leaf 1 o 0 _ _⟩
                      ·
                        refine V.seq ?_
                        refine V.region ?_
                        refine L.rd (rd_eql rfl rfl) rfl ?_
                        refine L.rd (rd_assign rfl) rfl ?_
                        refine L.nil ?_
                        refine X.sq ?_
                        first | refine V.cond rfl (fun h252 => ?_) (fun h252 => ?_) | refine V.condB rfl (fun h252 => ?_) (fun h252 => ?_)
                        ·
                          obtain ⟨a, j, rfl, rfl, hj, hSj, hwa⟩ := sok3 hok hws h252
                          obtain ⟨⟨ps, pi⟩, hDj, hRj⟩ := hinv j a hj hSj
                          have hcj := hDc _ hD9 j _ hDj
                          simp only at hcj
                          have hCd := hC9.ext ((Ext.refl _ w9).drew)
                          refine V.draw [10, 12] mixed ?_
                          refine D.takeP 0 [true, false, false, false, false, false, false, false, false, false, false, false, false] (.bk (.ct (.bk (.sq (.lp (.bk (.sq .bd))))))) rfl (fun _ => rd_move rfl) rfl (by kernel_rfl) rfl ?_
                          refine D.takeP 1 [true, true, false, false, false, false, false, false, false, false, false, false, false] (.bk (.ct (.bk (.sq (.lp (.bk (.sq .bd))))))) rfl (fun _ => rd_move rfl) rfl (by kernel_rfl) rfl ?_
                          refine D.takeP 2 [true, true, true, false, false, false, false, false, false, false, false, false, false] (.bk (.ct (.bk (.sq (.lp (.bk (.sq .bd))))))) rfl (fun _ => rd_move rfl) rfl (by kernel_rfl) rfl ?_
                          refine D.takeP 3 [true, true, true, true, false, false, false, false, false, false, false, false, false] (.bk (.ct (.bk (.sq (.lp (.bk (.sq .bd))))))) rfl (fun _ => rd_move rfl) rfl (by kernel_rfl) rfl ?_
                          refine D.takeP 4 [true, true, true, true, true, false, false, false, false, false, false, false, false] (.bk (.ct (.bk (.sq (.lp (.bk (.sq .bd))))))) rfl (fun _ => rd_fieldAddr tok rfl rfl rfl rfl rfl rfl) rfl (by kernel_rfl) rfl ?_
                          refine D.takeW 5 [true, true, true, true, true, true, false, false, false, false, false, false, false] (.bk (.ct (.bk (.sq (.lp (.bk (.sq .bd))))))) rfl (rd_load1 tok rfl rfl rfl (hb9.cell (i := 3) rfl)) rfl (by kernel_rfl) rfl (LeC.drew _) ?_
                          (refine D.takeP 6 [true, true, true, true, true, true, true, false, false, false, false, false, false] (.bk (.ct (.bk (.sq (.lp (.bk (.sq .bd))))))) rfl (fun _ => rd_indexSlice (sz := 2) tok rfl rfl rfl rfl rfl rfl rfl ?_) rfl (by kernel_rfl) rfl ?_; omega)
                          refine D.takeW 7 [true, true, true, true, true, true, true, true, false, false, false, false, false] (.bk (.ct (.bk (.sq (.lp (.bk (.sq .bd))))))) rfl (rd_loadN tok rfl rfl rfl hcj rfl) rfl (by kernel_rfl) rfl (LeC.drew _) ?_
                          refine D.takeW 8 [true, true, true, true, true, true, true, true, true, false, false, false, false] (.bk (.ct (.bk (.sq (.lp (.bk (.sq .bd))))))) rfl (rd_loadN tok rfl rfl rfl hn9.cells rfl) rfl (by kernel_rfl) rfl (LeC.drew _) ?_
                          refine D.takeP 9 [true, true, true, true, true, true, true, true, true, true, false, false, false] (.bk (.ct (.bk (.sq (.lp (.bk (.sq .bd))))))) rfl (fun _ => rd_build (out := [_, _, _, _, _, _, _]) tok rfl rfl rfl rfl rfl) rfl (by kernel_rfl) rfl ?_
                          refine D.one 10 [true, true, true, true, true, true, true, true, true, true, true, false, false] rfl (by kernel_rfl) rfl (e_call rfl (dadd_ok (3, 0, 0, (ps, pi), (false, -1)) _ hCd (by omega)) rfl ?_)
                          rintro _ w11 ⟨rfl, hC11, hk11⟩
                          have hD11 := hCd.kbl hk11 hD9.drew rfl rfl
                          have hn11 := hCd.kbl hk11 hn9.drew rfl rfl
                          have hE11 := hE9.drew.trans (hk11.toExt (Nat.le_refl _))
                          refine ⟨fun h => (by cases h), ?_⟩
                          (refine D.takeP 11 [true, true, true, true, true, true, true, true, true, true, true, true, false] (.bk (.ct (.bk (.sq (.lp (.bk (.sq .bd))))))) rfl (fun _ => rd_indexSlice (sz := 2) tok rfl rfl rfl rfl rfl rfl rfl ?_) rfl (by kernel_rfl) rfl ?_; omega)
                          refine D.one 12 [true, true, true, true, true, true, true, true, true, true, true, true, true] rfl (by kernel_rfl) rfl (e_store (vs := [_, _]) tok rfl rfl rfl rfl hD11 rfl (by simp [Value.oneCell']) (by rw [hDfl]; simp; omega) ⟨fun h => (by cases h), ?_⟩)
                          (simp only [Nat.zero_add, Int.toNat_natCast])
                          refine D.done (by kernel_rfl) ?_
                          refine X.bk ?_
                          have hput := fm_put drE_len [] Dl i (false, (pool.length : Int)) (by omega)
                          rw [List.append_nil, List.append_nil] at hput
                          simp only [drE] at hput
                          rw [hput]
                          exact X.ct ⟨_, (by repeat' (first | exact trivial | refine ⟨rfl, ?_⟩)), [(3, 0, 0, (ps, pi), (false, -1))], (false, (pool.length : Int)), rfl, by simp, CD.set hC11 hD11 rfl rfl _, hD11.set _ _, hn11.setNe (by omega) _ _, Ext.set hE11 (by omega) _ _, Rf.un 3 0 (false, -1) hRj⟩
                        ·
                          refine V.seq ?_
                          refine V.seq ?_
                          refine V.region ?_
                          refine L.rd (rd_eql rfl rfl) rfl ?_
                          refine L.rd (rd_assign rfl) rfl ?_
                          refine L.nil ?_
                          refine X.sq ?_
                          refine V.cut (fun l w' => ∃ b : Bool, l = [(1, .int .i64 y), (2, .pointer (some ⟨w.heap.size, 0, none⟩)), (4, .pointer (some ⟨w.heap.size + 1, 0, none⟩)), (6, .int .i64 ns.length), (8, .slice (some ⟨w2.heap.size, 0, none⟩) ns.length ns.length), (11, .pointer (some ⟨wr.heap.size + 1, 0, none⟩)), (12, .slice (some ⟨w5.heap.size, 0, none⟩) ns.length ns.length), (13, .pointer (some ⟨w6.heap.size, 0, none⟩)), (14, .int .i64 i), (15, .pointer (some ⟨w8.heap.size, 0, none⟩)), (230, .int .i64 k), (266, .bool b)] ∧ b = decide (k = 4 ∨ k = 5) ∧ w9 = w') ?_ ?_
                          ·
                            first | refine V.cond rfl (fun h266 => ?_) (fun h266 => ?_) | refine V.condB rfl (fun h266 => ?_) (fun h266 => ?_)
                            ·
                              refine V.skip ?_
                              refine X.ct ⟨_, (by repeat' (first | exact trivial | refine ⟨rfl, ?_⟩)), _, rfl, ?_, rfl⟩
                              first
                                | (rw [decide_eq_true h266, decide_eq_true (by omega)])
                                | (by_cases h6 : k = 5
                                   · rw [decide_eq_true h6, decide_eq_true (by omega)]
                                   · rw [decide_eq_false h6, decide_eq_false (by omega)])
                            ·
                              refine V.region ?_
                              refine L.rd (rd_eql rfl rfl) rfl ?_
                              refine L.rd (rd_assign rfl) rfl ?_
                              refine L.nil ?_
                              refine X.ct ⟨_, (by repeat' (first | exact trivial | refine ⟨rfl, ?_⟩)), _, rfl, ?_, rfl⟩
                              first
                                | (rw [decide_eq_true h266, decide_eq_true (by omega)])
                                | (by_cases h6 : k = 5
                                   · rw [decide_eq_true h6, decide_eq_true (by omega)]
                                   · rw [decide_eq_false h6, decide_eq_false (by omega)])
                          ·
                            rintro l w' ⟨b, rfl, hb266, rfl⟩
                            refine X.sq ?_
                            first | refine V.cond rfl (fun h266 => ?_) (fun h266 => ?_) | refine V.condB rfl (fun h266 => ?_) (fun h266 => ?_)
                            ·
                              have h45 : k = 4 ∨ k = 5 := by rw [h266] at hb266; exact of_decide_eq_true hb266.symm
                              obtain ⟨a, b', j, j2, rfl, rfl, rfl, hj, hj2, hSj, hSj2, hwa, hwb⟩ := sokb hok hws (by omega)
                              obtain ⟨⟨ps, pi⟩, hDj, hRj⟩ := hinv j a hj hSj
                              obtain ⟨⟨qs, qi⟩, hDj2, hRj2⟩ := hinv j2 b' hj2 hSj2
                              have hcj := hDc _ hD9 j _ hDj
                              have hcj2 := hDc _ hD9 j2 _ hDj2
                              simp only at hcj hcj2
                              have hCd := hC9.ext ((Ext.refl _ w9).drew)
                              refine V.draw [16, 18] mixed ?_
                              refine D.takeP 0 [true, false, false, false, false, false, false, false, false, false, false, false, false, false, false, false, false, false, false] (.bk (.ct (.bk (.sq (.lp (.bk (.sq .bd))))))) rfl (fun _ => rd_move rfl) rfl (by kernel_rfl) rfl ?_
                              refine D.takeP 1 [true, true, false, false, false, false, false, false, false, false, false, false, false, false, false, false, false, false, false] (.bk (.ct (.bk (.sq (.lp (.bk (.sq .bd))))))) rfl (fun _ => rd_move rfl) rfl (by kernel_rfl) rfl ?_
                              refine D.takeP 2 [true, true, true, false, false, false, false, false, false, false, false, false, false, false, false, false, false, false, false] (.bk (.ct (.bk (.sq (.lp (.bk (.sq .bd))))))) rfl (fun _ => rd_move rfl) rfl (by kernel_rfl) rfl ?_
                              refine D.takeP 3 [true, true, true, true, false, false, false, false, false, false, false, false, false, false, false, false, false, false, false] (.bk (.ct (.bk (.sq (.lp (.bk (.sq .bd))))))) rfl (fun _ => rd_fieldAddr tok rfl rfl rfl rfl rfl rfl) rfl (by kernel_rfl) rfl ?_
                              refine D.takeW 4 [true, true, true, true, true, false, false, false, false, false, false, false, false, false, false, false, false, false, false] (.bk (.ct (.bk (.sq (.lp (.bk (.sq .bd))))))) rfl (rd_load1 tok rfl rfl rfl (hb9.cell rfl)) rfl (by kernel_rfl) rfl (LeC.drew _) ?_
                              refine D.takeP 5 [true, true, true, true, true, true, false, false, false, false, false, false, false, false, false, false, false, false, false] (.bk (.ct (.bk (.sq (.lp (.bk (.sq .bd))))))) rfl (fun _ => rd_move rfl) rfl (by kernel_rfl) rfl ?_
                              refine D.takeP 6 [true, true, true, true, true, true, true, false, false, false, false, false, false, false, false, false, false, false, false] (.bk (.ct (.bk (.sq (.lp (.bk (.sq .bd))))))) rfl (fun _ => rd_fieldAddr tok rfl rfl rfl rfl rfl rfl) rfl (by kernel_rfl) rfl ?_
                              refine D.takeW 7 [true, true, true, true, true, true, true, true, false, false, false, false, false, false, false, false, false, false, false] (.bk (.ct (.bk (.sq (.lp (.bk (.sq .bd))))))) rfl (rd_load1 tok rfl rfl rfl (hb9.cell (i := 3) rfl)) rfl (by kernel_rfl) rfl (LeC.drew _) ?_
                              (refine D.takeP 8 [true, true, true, true, true, true, true, true, true, false, false, false, false, false, false, false, false, false, false] (.bk (.ct (.bk (.sq (.lp (.bk (.sq .bd))))))) rfl (fun _ => rd_indexSlice (sz := 2) tok rfl rfl rfl rfl rfl rfl rfl ?_) rfl (by kernel_rfl) rfl ?_; omega)
                              refine D.takeW 9 [true, true, true, true, true, true, true, true, true, true, false, false, false, false, false, false, false, false, false] (.bk (.ct (.bk (.sq (.lp (.bk (.sq .bd))))))) rfl (rd_loadN tok rfl rfl rfl hcj rfl) rfl (by kernel_rfl) rfl (LeC.drew _) ?_
                              refine D.takeP 10 [true, true, true, true, true, true, true, true, true, true, true, false, false, false, false, false, false, false, false] (.bk (.ct (.bk (.sq (.lp (.bk (.sq .bd))))))) rfl (fun _ => rd_move rfl) rfl (by kernel_rfl) rfl ?_
                              refine D.takeP 11 [true, true, true, true, true, true, true, true, true, true, true, true, false, false, false, false, false, false, false] (.bk (.ct (.bk (.sq (.lp (.bk (.sq .bd))))))) rfl (fun _ => rd_fieldAddr tok rfl rfl rfl rfl rfl rfl) rfl (by kernel_rfl) rfl ?_
                              refine D.takeW 12 [true, true, true, true, true, true, true, true, true, true, true, true, true, false, false, false, false, false, false] (.bk (.ct (.bk (.sq (.lp (.bk (.sq .bd))))))) rfl (rd_load1 tok rfl rfl rfl (hb9.cell (i := 4) rfl)) rfl (by kernel_rfl) rfl (LeC.drew _) ?_
                              (refine D.takeP 13 [true, true, true, true, true, true, true, true, true, true, true, true, true, true, false, false, false, false, false] (.bk (.ct (.bk (.sq (.lp (.bk (.sq .bd))))))) rfl (fun _ => rd_indexSlice (sz := 2) tok rfl rfl rfl rfl rfl rfl rfl ?_) rfl (by kernel_rfl) rfl ?_; omega)
                              refine D.takeW 14 [true, true, true, true, true, true, true, true, true, true, true, true, true, true, true, false, false, false, false] (.bk (.ct (.bk (.sq (.lp (.bk (.sq .bd))))))) rfl (rd_loadN tok rfl rfl rfl hcj2 rfl) rfl (by kernel_rfl) rfl (LeC.drew _) ?_
                              refine D.takeP 15 [true, true, true, true, true, true, true, true, true, true, true, true, true, true, true, true, false, false, false] (.bk (.ct (.bk (.sq (.lp (.bk (.sq .bd))))))) rfl (fun _ => rd_build (out := [_, _, _, _, _, _, _]) tok rfl rfl rfl rfl rfl) rfl (by kernel_rfl) rfl ?_
                              refine D.one 16 [true, true, true, true, true, true, true, true, true, true, true, true, true, true, true, true, true, false, false] rfl (by kernel_rfl) rfl (e_call rfl (dadd_ok (k, 0, 0, (ps, pi), (qs, qi)) _ hCd (by omega)) rfl ?_)
                              rintro _ w11 ⟨rfl, hC11, hk11⟩
                              have hD11 := hCd.kbl hk11 hD9.drew rfl rfl
                              have hn11 := hCd.kbl hk11 hn9.drew rfl rfl
                              have hE11 := hE9.drew.trans (hk11.toExt (Nat.le_refl _))
                              refine ⟨fun h => (by cases h), ?_⟩
                              (refine D.takeP 17 [true, true, true, true, true, true, true, true, true, true, true, true, true, true, true, true, true, true, false] (.bk (.ct (.bk (.sq (.lp (.bk (.sq .bd))))))) rfl (fun _ => rd_indexSlice (sz := 2) tok rfl rfl rfl rfl rfl rfl rfl ?_) rfl (by kernel_rfl) rfl ?_; omega)
                              refine D.one 18 [true, true, true, true, true, true, true, true, true, true, true, true, true, true, true, true, true, true, true] rfl (by kernel_rfl) rfl (e_store (vs := [_, _]) tok rfl rfl rfl rfl hD11 rfl (by simp [Value.oneCell']) (by rw [hDfl]; simp; omega) ⟨fun h => (by cases h), ?_⟩)
                              (simp only [Nat.zero_add, Int.toNat_natCast])
                              refine D.done (by kernel_rfl) ?_
                              refine X.bk ?_
                              have hput := fm_put drE_len [] Dl i (false, (pool.length : Int)) (by omega)
                              rw [List.append_nil, List.append_nil] at hput
                              simp only [drE] at hput
                              rw [hput]
                              exact X.ct ⟨_, (by repeat' (first | exact trivial | refine ⟨rfl, ?_⟩)), [(k, 0, 0, (ps, pi), (qs, qi))], (false, (pool.length : Int)), rfl, by simp, CD.set hC11 hD11 rfl rfl _, hD11.set _ _, hn11.setNe (by omega) _ _, Ext.set hE11 (by omega) _ _, by rw [dT_b45 _ _ h45]; exact Rf.bin k hRj hRj2⟩
                            ·
                              refine V.seq ?_
                              have hn45 : ¬ (k = 4 ∨ k = 5) := by rw [h266] at hb266; exact of_decide_eq_false hb266.symm
                              refine V.region ?_
                              refine L.rd (rd_eql rfl rfl) rfl ?_
                              refine L.rd (rd_assign rfl) rfl ?_
                              refine L.nil ?_
                              refine X.sq ?_
                              first | refine V.cond rfl (fun h287 => ?_) (fun h287 => ?_) | refine V.condB rfl (fun h287 => ?_) (fun h287 => ?_)
                              ·
                                obtain rfl : k = 6 := h287
                                obtain ⟨a, b', j, j2, rfl, rfl, rfl, hj, hj2, hSj, hSj2, hwa, hwb⟩ := sokb hok hws (by omega)
                                obtain ⟨⟨ps, pi⟩, hDj, hRj⟩ := hinv j a hj hSj
                                obtain ⟨⟨qs, qi⟩, hDj2, hRj2⟩ := hinv j2 b' hj2 hSj2
                                have hcj := hDc _ hD9 j _ hDj
                                have hcj2 := hDc _ hD9 j2 _ hDj2
                                simp only at hcj hcj2
                                have hCd := hC9.ext ((Ext.refl _ w9).drew)
                                have hCa := hCd.ext ((Ext.refl _ w9.drew).addNew 149 [.bool false, .int .i64 0])
                                refine V.seq ?_
                                refine V.cut (fun l w' => ∃ bm : Nat, l = [(1, .int .i64 y), (2, .pointer (some ⟨w.heap.size, 0, none⟩)), (4, .pointer (some ⟨w.heap.size + 1, 0, none⟩)), (6, .int .i64 ns.length), (8, .slice (some ⟨w2.heap.size, 0, none⟩) ns.length ns.length), (11, .pointer (some ⟨wr.heap.size + 1, 0, none⟩)), (12, .slice (some ⟨w5.heap.size, 0, none⟩) ns.length ns.length), (13, .pointer (some ⟨w6.heap.size, 0, none⟩)), (14, .int .i64 i), (15, .pointer (some ⟨w8.heap.size, 0, none⟩)), (17, .pointer (some ⟨bm, 0, none⟩))] ∧ CDq (wr.heap.size + 1) wr.heap.size w' (pool ++ [(6, 0, 0, (ps, pi), (true, (j2 : Int)))]) ∧ Bl w' w5.heap.size 149 (Dl.flatMap drE) ∧ Bl w' w6.heap.size 149 [.bool false, .int .i64 (-1)] ∧ Bl w' w8.heap.size 80 [.int .i64 6, .int .i64 v, .int .i64 x, .int .i64 j, .int .i64 j2] ∧ Ext wr.heap.size wr w' ∧ Bl w' bm 149 [.bool false, .int .i64 (pool.length : Int)] ∧ w9.heap.size ≤ bm) ?_ ?_
                                ·
                                  refine V.draw [10, 12] mixed ?_
                                  refine D.takeP 0 [true, false, false, false, false, false, false, false, false, false, false, false, false] (.ct (.sq (.bk (.ct (.bk (.sq (.lp (.bk (.sq .bd))))))))) rfl (fun _ => rd_move rfl) rfl (by kernel_rfl) rfl ?_
                                  refine D.takeP 1 [true, true, false, false, false, false, false, false, false, false, false, false, false] (.ct (.sq (.bk (.ct (.bk (.sq (.lp (.bk (.sq .bd))))))))) rfl (fun _ => rd_move rfl) rfl (by kernel_rfl) rfl ?_
                                  refine D.takeP 2 [true, true, true, false, false, false, false, false, false, false, false, false, false] (.ct (.sq (.bk (.ct (.bk (.sq (.lp (.bk (.sq .bd))))))))) rfl (fun _ => rd_fieldAddr tok rfl rfl rfl rfl rfl rfl) rfl (by kernel_rfl) rfl ?_
                                  refine D.takeW 3 [true, true, true, true, false, false, false, false, false, false, false, false, false] (.ct (.sq (.bk (.ct (.bk (.sq (.lp (.bk (.sq .bd))))))))) rfl (rd_load1 tok rfl rfl rfl (hb9.cell (i := 3) rfl)) rfl (by kernel_rfl) rfl (LeC.drew _) ?_
                                  (refine D.takeP 4 [true, true, true, true, true, false, false, false, false, false, false, false, false] (.ct (.sq (.bk (.ct (.bk (.sq (.lp (.bk (.sq .bd))))))))) rfl (fun _ => rd_indexSlice (sz := 2) tok rfl rfl rfl rfl rfl rfl rfl ?_) rfl (by kernel_rfl) rfl ?_; omega)
                                  refine D.takeW 5 [true, true, true, true, true, true, false, false, false, false, false, false, false] (.ct (.sq (.bk (.ct (.bk (.sq (.lp (.bk (.sq .bd))))))))) rfl (rd_loadN tok rfl rfl rfl hcj rfl) rfl (by kernel_rfl) rfl (LeC.drew _) ?_
                                  refine D.takeP 6 [true, true, true, true, true, true, true, false, false, false, false, false, false] (.ct (.sq (.bk (.ct (.bk (.sq (.lp (.bk (.sq .bd))))))))) rfl (fun _ => rd_fieldAddr tok rfl rfl rfl rfl rfl rfl) rfl (by kernel_rfl) rfl ?_
                                  refine D.takeW 7 [true, true, true, true, true, true, true, true, false, false, false, false, false] (.ct (.sq (.bk (.ct (.bk (.sq (.lp (.bk (.sq .bd))))))))) rfl (rd_load1 tok rfl rfl rfl (hb9.cell (i := 4) rfl)) rfl (by kernel_rfl) rfl (LeC.drew _) ?_
                                  refine D.takeP 8 [true, true, true, true, true, true, true, true, true, false, false, false, false] (.ct (.sq (.bk (.ct (.bk (.sq (.lp (.bk (.sq .bd))))))))) rfl (fun _ => rd_build (out := [_, _]) tok rfl rfl rfl rfl rfl) rfl (by kernel_rfl) rfl ?_
                                  refine D.takeP 9 [true, true, true, true, true, true, true, true, true, true, false, false, false] (.ct (.sq (.bk (.ct (.bk (.sq (.lp (.bk (.sq .bd))))))))) rfl (fun _ => rd_build (out := [_, _, _, _, _, _, _]) tok rfl rfl rfl rfl rfl) rfl (by kernel_rfl) rfl ?_
                                  refine D.twoS 10 11 [true, true, true, true, true, true, true, true, true, true, true, false, false] [true, true, true, true, true, true, true, true, true, true, false, true, false] rfl rfl (by kernel_rfl) rfl rfl (e_call rfl (dadd_ok (6, 0, 0, (ps, pi), (true, (j2 : Int))) _ (by first | exact hCd | exact hCa) (by omega)) rfl ?_) (e_alloc (cs := [_, _]) tok rfl rfl (by first | (simp only [size_addB, size_setB, size_drew]; rfl) | rfl) rfl ?_)
                                  ·
                                    rintro _ w11 ⟨rfl, hC11, hk11⟩
                                    first
                                      | (have hs11 : w9.heap.size ≤ w11.heap.size := hk11.size
                                         have hD11 := hCd.kbl hk11 hD9.drew rfl rfl
                                         have hn11 := hCd.kbl hk11 hn9.drew rfl rfl
                                         have hb11 := hCd.kbl hk11 hb9.drew rfl rfl
                                         have hE11 := hE9.drew.trans (hk11.toExt (Nat.le_refl _))
                                         have hM := Bl.new w11 149 [.bool false, .int .i64 0])
                                      | (have hs11 : w9.heap.size + 1 ≤ w11.heap.size := by have := hk11.size; rw [size_addB] at this; exact this
                                         have hD11 := hCa.kbl hk11 (hD9.drew.add _ _) rfl rfl
                                         have hn11 := hCa.kbl hk11 (hn9.drew.add _ _) rfl rfl
                                         have hb11 := hCa.kbl hk11 (hb9.drew.add _ _) rfl rfl
                                         have hE11 := (hE9.drew.add (by rw [size_drew]; omega) _ _).trans (hk11.toExt (Nat.le_refl _))
                                         have hM := hCa.kbl hk11 (Bl.new w9.drew 149 [.bool false, .int .i64 0]) rfl rfl)
                                    refine ⟨fun h => (by cases h), ?_⟩
                                    refine D.oneS 11 [true, true, true, true, true, true, true, true, true, true, true, true, false] rfl (by kernel_rfl) rfl (e_alloc (cs := [_, _]) tok rfl rfl (by first | (simp only [size_addB, size_setB, size_drew]; rfl) | rfl) rfl ?_)
                                    refine ⟨fun _ hS => (LeC.trans hS ((Ext.refl _ _).addNew _ _).leC), ?_⟩
                                    refine D.oneS 12 [true, true, true, true, true, true, true, true, true, true, true, true, true] rfl (by kernel_rfl) rfl (e_store (vs := [_, _]) tok rfl rfl rfl rfl hM rfl (by simp [Value.oneCell']) (by simp) ?_)
                                    refine ⟨fun h => (by cases h), ?_⟩
                                    refine D.done (by kernel_rfl) ?_
                                    first
                                      | exact X.ct ⟨_, (by repeat' (first | exact trivial | refine ⟨rfl, ?_⟩)), _, rfl, CD.set (hC11.ext ((Ext.refl _ w11).addNew _ _)) hM rfl rfl _, (hD11.add _ _).setNe (by omega) _ _, (hn11.add _ _).setNe (by omega) _ _, (hb11.add _ _).setNe (by omega) _ _, Ext.set (Ext.add hE11 (by omega) _ _) (by omega) _ _, hM.set _ _, by omega⟩
                                      | exact X.ct ⟨_, (by repeat' (first | exact trivial | refine ⟨rfl, ?_⟩)), _, rfl, CD.set hC11 hM rfl rfl _, hD11.setNe (by first | omega | (rw [size_drew]; omega)) _ _, hn11.setNe (by first | omega | (rw [size_drew]; omega)) _ _, hb11.setNe (by first | omega | (rw [size_drew]; omega)) _ _, Ext.set hE11 (by first | omega | (rw [size_drew]; omega)) _ _, hM.set _ _, by first | omega | (rw [size_drew]; omega)⟩
                                  ·
                                    refine ⟨fun _ hS => (LeC.trans hS ((Ext.refl _ _).addNew _ _).leC), ?_⟩
                                    refine D.oneS 10 [true, true, true, true, true, true, true, true, true, true, true, true, false] rfl (by kernel_rfl) rfl (e_call rfl (dadd_ok (6, 0, 0, (ps, pi), (true, (j2 : Int))) _ (by first | exact hCd | exact hCa) (by omega)) rfl ?_)
                                    rintro _ w11 ⟨rfl, hC11, hk11⟩
                                    first
                                      | (have hs11 : w9.heap.size ≤ w11.heap.size := hk11.size
                                         have hD11 := hCd.kbl hk11 hD9.drew rfl rfl
                                         have hn11 := hCd.kbl hk11 hn9.drew rfl rfl
                                         have hb11 := hCd.kbl hk11 hb9.drew rfl rfl
                                         have hE11 := hE9.drew.trans (hk11.toExt (Nat.le_refl _))
                                         have hM := Bl.new w11 149 [.bool false, .int .i64 0])
                                      | (have hs11 : w9.heap.size + 1 ≤ w11.heap.size := by have := hk11.size; rw [size_addB] at this; exact this
                                         have hD11 := hCa.kbl hk11 (hD9.drew.add _ _) rfl rfl
                                         have hn11 := hCa.kbl hk11 (hn9.drew.add _ _) rfl rfl
                                         have hb11 := hCa.kbl hk11 (hb9.drew.add _ _) rfl rfl
                                         have hE11 := (hE9.drew.add (by rw [size_drew]; omega) _ _).trans (hk11.toExt (Nat.le_refl _))
                                         have hM := hCa.kbl hk11 (Bl.new w9.drew 149 [.bool false, .int .i64 0]) rfl rfl)
                                    refine ⟨fun h => (by cases h), ?_⟩
                                    refine D.oneS 12 [true, true, true, true, true, true, true, true, true, true, true, true, true] rfl (by kernel_rfl) rfl (e_store (vs := [_, _]) tok rfl rfl rfl rfl hM rfl (by simp [Value.oneCell']) (by simp) ?_)
                                    refine ⟨fun h => (by cases h), ?_⟩
                                    refine D.done (by kernel_rfl) ?_
                                    first
                                      | exact X.ct ⟨_, (by repeat' (first | exact trivial | refine ⟨rfl, ?_⟩)), _, rfl, CD.set (hC11.ext ((Ext.refl _ w11).addNew _ _)) hM rfl rfl _, (hD11.add _ _).setNe (by omega) _ _, (hn11.add _ _).setNe (by omega) _ _, (hb11.add _ _).setNe (by omega) _ _, Ext.set (Ext.add hE11 (by omega) _ _) (by omega) _ _, hM.set _ _, by omega⟩
                                      | exact X.ct ⟨_, (by repeat' (first | exact trivial | refine ⟨rfl, ?_⟩)), _, rfl, CD.set hC11 hM rfl rfl _, hD11.setNe (by first | omega | (rw [size_drew]; omega)) _ _, hn11.setNe (by first | omega | (rw [size_drew]; omega)) _ _, hb11.setNe (by first | omega | (rw [size_drew]; omega)) _ _, Ext.set hE11 (by first | omega | (rw [size_drew]; omega)) _ _, hM.set _ _, by first | omega | (rw [size_drew]; omega)⟩
                                ·
                                  rintro l wB ⟨bm, rfl, hCB, hDB, hnB, hbB, hEB, hmB, hbm⟩
                                  have hcB2 := hDc _ hDB j2 _ hDj2
                                  simp only at hcB2
                                  have hCBd := hCB.ext ((Ext.refl _ wB).drew)
                                  have hCBa := hCBd.ext ((Ext.refl _ wB.drew).addNew 149 [.bool false, .int .i64 0])
                                  have hlB := hmB.lt
                                  have hn1 : (pool ++ [((6, 0, 0, (ps, pi), (true, (j2 : Int))) : DN)]).length = pool.length + 1 := by simp
                                  refine X.sq ?_
                                  refine V.seq ?_
                                  refine V.cut (fun l w' => ∃ bm2 : Nat, l = [(1, .int .i64 y), (2, .pointer (some ⟨w.heap.size, 0, none⟩)), (4, .pointer (some ⟨w.heap.size + 1, 0, none⟩)), (6, .int .i64 ns.length), (8, .slice (some ⟨w2.heap.size, 0, none⟩) ns.length ns.length), (11, .pointer (some ⟨wr.heap.size + 1, 0, none⟩)), (12, .slice (some ⟨w5.heap.size, 0, none⟩) ns.length ns.length), (13, .pointer (some ⟨w6.heap.size, 0, none⟩)), (14, .int .i64 i), (17, .pointer (some ⟨bm, 0, none⟩)), (18, .pointer (some ⟨bm2, 0, none⟩))] ∧ CDq (wr.heap.size + 1) wr.heap.size w' (pool ++ [(6, 0, 0, (ps, pi), (true, (j2 : Int)))] ++ [(6, 0, 0, (true, (j : Int)), (qs, qi))]) ∧ Bl w' w5.heap.size 149 (Dl.flatMap drE) ∧ Bl w' w6.heap.size 149 [.bool false, .int .i64 (-1)] ∧ Ext wr.heap.size wr w' ∧ Bl w' bm 149 [.bool false, .int .i64 (pool.length : Int)] ∧ Bl w' bm2 149 [.bool false, .int .i64 ((pool.length : Int) + 1)] ∧ w9.heap.size ≤ bm2) ?_ ?_
                                  ·
                                    refine V.draw [10, 12] mixed ?_
                                    refine D.takeP 0 [true, false, false, false, false, false, false, false, false, false, false, false, false] (.ct (.sq (.bk (.ct (.bk (.sq (.lp (.bk (.sq .bd))))))))) rfl (fun _ => rd_move rfl) rfl (by kernel_rfl) rfl ?_
                                    refine D.takeP 1 [true, true, false, false, false, false, false, false, false, false, false, false, false] (.ct (.sq (.bk (.ct (.bk (.sq (.lp (.bk (.sq .bd))))))))) rfl (fun _ => rd_fieldAddr tok rfl rfl rfl rfl rfl rfl) rfl (by kernel_rfl) rfl ?_
                                    refine D.takeW 2 [true, true, true, false, false, false, false, false, false, false, false, false, false] (.ct (.sq (.bk (.ct (.bk (.sq (.lp (.bk (.sq .bd))))))))) rfl (rd_load1 tok rfl rfl rfl (hbB.cell (i := 3) rfl)) rfl (by kernel_rfl) rfl (LeC.drew _) ?_
                                    refine D.takeP 3 [true, true, true, true, false, false, false, false, false, false, false, false, false] (.ct (.sq (.bk (.ct (.bk (.sq (.lp (.bk (.sq .bd))))))))) rfl (fun _ => rd_build (out := [_, _]) tok rfl rfl rfl rfl rfl) rfl (by kernel_rfl) rfl ?_
                                    refine D.takeP 4 [true, true, true, true, true, false, false, false, false, false, false, false, false] (.ct (.sq (.bk (.ct (.bk (.sq (.lp (.bk (.sq .bd))))))))) rfl (fun _ => rd_move rfl) rfl (by kernel_rfl) rfl ?_
                                    refine D.takeP 5 [true, true, true, true, true, true, false, false, false, false, false, false, false] (.ct (.sq (.bk (.ct (.bk (.sq (.lp (.bk (.sq .bd))))))))) rfl (fun _ => rd_fieldAddr tok rfl rfl rfl rfl rfl rfl) rfl (by kernel_rfl) rfl ?_
                                    refine D.takeW 6 [true, true, true, true, true, true, true, false, false, false, false, false, false] (.ct (.sq (.bk (.ct (.bk (.sq (.lp (.bk (.sq .bd))))))))) rfl (rd_load1 tok rfl rfl rfl (hbB.cell (i := 4) rfl)) rfl (by kernel_rfl) rfl (LeC.drew _) ?_
                                    (refine D.takeP 7 [true, true, true, true, true, true, true, true, false, false, false, false, false] (.ct (.sq (.bk (.ct (.bk (.sq (.lp (.bk (.sq .bd))))))))) rfl (fun _ => rd_indexSlice (sz := 2) tok rfl rfl rfl rfl rfl rfl rfl ?_) rfl (by kernel_rfl) rfl ?_; omega)
                                    refine D.takeW 8 [true, true, true, true, true, true, true, true, true, false, false, false, false] (.ct (.sq (.bk (.ct (.bk (.sq (.lp (.bk (.sq .bd))))))))) rfl (rd_loadN tok rfl rfl rfl hcB2 rfl) rfl (by kernel_rfl) rfl (LeC.drew _) ?_
                                    refine D.takeP 9 [true, true, true, true, true, true, true, true, true, true, false, false, false] (.ct (.sq (.bk (.ct (.bk (.sq (.lp (.bk (.sq .bd))))))))) rfl (fun _ => rd_build (out := [_, _, _, _, _, _, _]) tok rfl rfl rfl rfl rfl) rfl (by kernel_rfl) rfl ?_
                                    refine D.twoS 10 11 [true, true, true, true, true, true, true, true, true, true, true, false, false] [true, true, true, true, true, true, true, true, true, true, false, true, false] rfl rfl (by kernel_rfl) rfl rfl (e_call rfl (dadd_ok (6, 0, 0, (true, (j : Int)), (qs, qi)) _ (by first | exact hCBd | exact hCBa) (by rw [hn1]; omega)) rfl ?_) (e_alloc (cs := [_, _]) tok rfl rfl (by first | (simp only [size_addB, size_setB, size_drew]; rfl) | rfl) rfl ?_)
                                    ·
                                      rintro _ w11 ⟨rfl, hC11, hk11⟩
                                      first
                                        | (have hs11 : wB.heap.size ≤ w11.heap.size := hk11.size
                                           have hD11 := hCBd.kbl hk11 hDB.drew rfl rfl
                                           have hn11 := hCBd.kbl hk11 hnB.drew rfl rfl
                                           have hm11 := hCBd.kbl hk11 hmB.drew rfl rfl
                                           have hE11 := hEB.drew.trans (hk11.toExt (Nat.le_refl _))
                                           have hM := Bl.new w11 149 [.bool false, .int .i64 0])
                                        | (have hs11 : wB.heap.size + 1 ≤ w11.heap.size := by have := hk11.size; rw [size_addB] at this; exact this
                                           have hD11 := hCBa.kbl hk11 (hDB.drew.add _ _) rfl rfl
                                           have hn11 := hCBa.kbl hk11 (hnB.drew.add _ _) rfl rfl
                                           have hm11 := hCBa.kbl hk11 (hmB.drew.add _ _) rfl rfl
                                           have hE11 := (hEB.drew.add (by first | omega | (rw [size_drew]; omega)) _ _).trans (hk11.toExt (Nat.le_refl _))
                                           have hM := hCBa.kbl hk11 (Bl.new wB.drew 149 [.bool false, .int .i64 0]) rfl rfl)
                                      refine ⟨fun h => (by cases h), ?_⟩
                                      refine D.oneS 11 [true, true, true, true, true, true, true, true, true, true, true, true, false] rfl (by kernel_rfl) rfl (e_alloc (cs := [_, _]) tok rfl rfl (by first | (simp only [size_addB, size_setB, size_drew]; rfl) | rfl) rfl ?_)
                                      refine ⟨fun _ hS => (LeC.trans hS ((Ext.refl _ _).addNew _ _).leC), ?_⟩
                                      refine D.oneS 12 [true, true, true, true, true, true, true, true, true, true, true, true, true] rfl (by kernel_rfl) rfl (e_store (vs := [_, _]) tok rfl rfl rfl rfl hM rfl (by simp [Value.oneCell']) (by simp) ?_)
                                      refine ⟨fun h => (by cases h), ?_⟩
                                      refine D.done (by kernel_rfl) ?_
                                      have hv2 : ((pool ++ [((6, 0, 0, (ps, pi), (true, (j2 : Int))) : DN)]).length : Int) = (pool.length : Int) + 1 := by rw [hn1]; omega
                                      first
                                        | (refine X.ct ⟨_, (by repeat' (first | exact trivial | refine ⟨rfl, ?_⟩)), _, rfl, CD.set (hC11.ext ((Ext.refl _ w11).addNew _ _)) hM rfl rfl _, (hD11.add _ _).setNe (by omega) _ _, (hn11.add _ _).setNe (by omega) _ _, Ext.set (Ext.add hE11 (by omega) _ _) (by omega) _ _, (hm11.add _ _).setNe (by omega) _ _, ?_, by omega⟩
                                           rw [← hv2]; exact hM.set _ _)
                                        | (refine X.ct ⟨_, (by repeat' (first | exact trivial | refine ⟨rfl, ?_⟩)), _, rfl, CD.set hC11 hM rfl rfl _, hD11.setNe (by first | omega | (rw [size_drew]; omega)) _ _, hn11.setNe (by first | omega | (rw [size_drew]; omega)) _ _, Ext.set hE11 (by first | omega | (rw [size_drew]; omega)) _ _, hm11.setNe (by first | omega | (rw [size_drew]; omega)) _ _, ?_, by first | omega | (rw [size_drew]; omega)⟩
                                           rw [← hv2]; exact hM.set _ _)
                                    ·
                                      refine ⟨fun _ hS => (LeC.trans hS ((Ext.refl _ _).addNew _ _).leC), ?_⟩
                                      refine D.oneS 10 [true, true, true, true, true, true, true, true, true, true, true, true, false] rfl (by kernel_rfl) rfl (e_call rfl (dadd_ok (6, 0, 0, (true, (j : Int)), (qs, qi)) _ (by first | exact hCBd | exact hCBa) (by rw [hn1]; omega)) rfl ?_)
                                      rintro _ w11 ⟨rfl, hC11, hk11⟩
                                      first
                                        | (have hs11 : wB.heap.size ≤ w11.heap.size := hk11.size
                                           have hD11 := hCBd.kbl hk11 hDB.drew rfl rfl
                                           have hn11 := hCBd.kbl hk11 hnB.drew rfl rfl
                                           have hm11 := hCBd.kbl hk11 hmB.drew rfl rfl
                                           have hE11 := hEB.drew.trans (hk11.toExt (Nat.le_refl _))
                                           have hM := Bl.new w11 149 [.bool false, .int .i64 0])
                                        | (have hs11 : wB.heap.size + 1 ≤ w11.heap.size := by have := hk11.size; rw [size_addB] at this; exact this
                                           have hD11 := hCBa.kbl hk11 (hDB.drew.add _ _) rfl rfl
                                           have hn11 := hCBa.kbl hk11 (hnB.drew.add _ _) rfl rfl
                                           have hm11 := hCBa.kbl hk11 (hmB.drew.add _ _) rfl rfl
                                           have hE11 := (hEB.drew.add (by first | omega | (rw [size_drew]; omega)) _ _).trans (hk11.toExt (Nat.le_refl _))
                                           have hM := hCBa.kbl hk11 (Bl.new wB.drew 149 [.bool false, .int .i64 0]) rfl rfl)
                                      refine ⟨fun h => (by cases h), ?_⟩
                                      refine D.oneS 12 [true, true, true, true, true, true, true, true, true, true, true, true, true] rfl (by kernel_rfl) rfl (e_store (vs := [_, _]) tok rfl rfl rfl rfl hM rfl (by simp [Value.oneCell']) (by simp) ?_)
                                      refine ⟨fun h => (by cases h), ?_⟩
                                      refine D.done (by kernel_rfl) ?_
                                      have hv2 : ((pool ++ [((6, 0, 0, (ps, pi), (true, (j2 : Int))) : DN)]).length : Int) = (pool.length : Int) + 1 := by rw [hn1]; omega
                                      first
                                        | (refine X.ct ⟨_, (by repeat' (first | exact trivial | refine ⟨rfl, ?_⟩)), _, rfl, CD.set (hC11.ext ((Ext.refl _ w11).addNew _ _)) hM rfl rfl _, (hD11.add _ _).setNe (by omega) _ _, (hn11.add _ _).setNe (by omega) _ _, Ext.set (Ext.add hE11 (by omega) _ _) (by omega) _ _, (hm11.add _ _).setNe (by omega) _ _, ?_, by omega⟩
                                           rw [← hv2]; exact hM.set _ _)
                                        | (refine X.ct ⟨_, (by repeat' (first | exact trivial | refine ⟨rfl, ?_⟩)), _, rfl, CD.set hC11 hM rfl rfl _, hD11.setNe (by first | omega | (rw [size_drew]; omega)) _ _, hn11.setNe (by first | omega | (rw [size_drew]; omega)) _ _, Ext.set hE11 (by first | omega | (rw [size_drew]; omega)) _ _, hm11.setNe (by first | omega | (rw [size_drew]; omega)) _ _, ?_, by first | omega | (rw [size_drew]; omega)⟩
                                           rw [← hv2]; exact hM.set _ _)
                                  ·
                                    rintro l wE ⟨bm2, rfl, hCE, hDE, hnE, hEE, hmE, hmE2, hbm2⟩
                                    have hn2 : (pool ++ [((6, 0, 0, (ps, pi), (true, (j2 : Int))) : DN)] ++ [((6, 0, 0, (true, (j : Int)), (qs, qi)) : DN)]).length = pool.length + 2 := by simp
                                    have hv3 : ((pool ++ [((6, 0, 0, (ps, pi), (true, (j2 : Int))) : DN)] ++ [((6, 0, 0, (true, (j : Int)), (qs, qi)) : DN)]).length : Int) = (pool.length : Int) + 2 := by rw [hn2]; omega
                                    refine X.sq ?_
                                    refine V.region ?_
                                    refine L.rd (rd_move rfl) rfl ?_
                                    refine L.rd (rd_move rfl) rfl ?_
                                    refine L.rd (rd_move rfl) rfl ?_
                                    refine L.rd (rd_loadN tok rfl rfl rfl hmE.cells rfl) rfl ?_
                                    refine L.rd (rd_loadN tok rfl rfl rfl hmE2.cells rfl) rfl ?_
                                    refine L.rd (rd_build (out := [_, _, _, _, _, _, _]) tok rfl rfl rfl rfl rfl) rfl ?_
                                    refine L.ef (e_call rfl (dadd_ok (4, 0, 0, (false, (pool.length : Int)), (false, (pool.length : Int) + 1)) _ hCE (by rw [hn2]; omega)) rfl ?_)
                                    rintro _ w11 ⟨rfl, hC11, hk11⟩
                                    have hD11 := hCE.kbl hk11 hDE rfl rfl
                                    have hn11 := hCE.kbl hk11 hnE rfl rfl
                                    have hE11 := hEE.trans (hk11.toExt (Nat.le_refl _))
                                    have hR1 : Rf S (pool ++ [(6, 0, 0, (ps, pi), (true, (j2 : Int)))]) (b2 6 (dT y a) b') (false, (pool.length : Int)) := Rf.bin 6 hRj (Rf.src hSj2)
                                    have hR2 := Rf.bin (pool := pool ++ [(6, 0, 0, (ps, pi), (true, (j2 : Int)))]) 6 (Rf.src (S := S) hSj) (Rf.app _ _ hRj2)
                                    have hn1' : ((pool ++ [((6, 0, 0, (ps, pi), (true, (j2 : Int))) : DN)]).length : Int) = (pool.length : Int) + 1 := by rw [hn1]; omega
                                    rw [hn1'] at hR2
                                    have hR3 := Rf.bin 4 (Rf.app _ _ hR1) hR2
                                    rw [hv3] at hR3
                                    (refine L.rd (rd_indexSlice (sz := 2) tok rfl rfl rfl rfl rfl rfl rfl ?_) rfl ?_; omega)
                                    refine L.ef (e_store (vs := [_, _]) tok rfl rfl rfl rfl hD11 rfl (by simp [Value.oneCell']) (by rw [hDfl]; simp; omega) ?_)
                                    (simp only [Nat.zero_add, Int.toNat_natCast])
                                    refine L.nil ?_
                                    refine X.bk ?_
                                    rw [hv3]
                                    have hput := fm_put drE_len [] Dl i (false, (pool.length : Int) + 2) (by omega)
                                    rw [List.append_nil, List.append_nil] at hput
                                    simp only [drE] at hput
                                    rw [hput]
                                    exact X.ct ⟨_, (by repeat' (first | exact trivial | refine ⟨rfl, ?_⟩)), [(6, 0, 0, (ps, pi), (true, (j2 : Int))), (6, 0, 0, (true, (j : Int)), (qs, qi)), (4, 0, 0, (false, (pool.length : Int)), (false, (pool.length : Int) + 1))], (false, (pool.length : Int) + 2), rfl, by simp, (by simpa using CD.set hC11 hD11 rfl rfl _), hD11.set _ _, hn11.setNe (by omega) _ _, Ext.set hE11 (by omega) _ _, (by rw [dT_b6]; simpa using hR3)⟩
                              ·
                                refine V.seq ?_
                                refine V.region ?_
                                refine L.rd (rd_eql rfl rfl) rfl ?_
                                refine L.rd (rd_assign rfl) rfl ?_
                                refine L.nil ?_
                                refine X.sq ?_
                                first | refine V.cond rfl (fun h319 => ?_) (fun h319 => ?_) | refine V.condB rfl (fun h319 => ?_) (fun h319 => ?_)
                                ·
                                  obtain ⟨a, j, rfl, rfl, hj, hSj, hwa, hv0, hv1⟩ := sok7 hok hws h319
                                  obtain ⟨⟨ps, pi⟩, hDj, hRj⟩ := hinv j a hj hSj
                                  refine V.seq ?_
                                  refine V.region ?_
                                  refine L.rd (rd_fieldAddr tok rfl rfl rfl rfl rfl rfl) rfl ?_
                                  refine L.rd (rd_load1 tok rfl rfl rfl (hb9.cell (i := 1) rfl)) rfl ?_
                                  refine L.rd (rd_eql rfl rfl) rfl ?_
                                  refine L.nil ?_
                                  refine X.sq ?_
                                  first | refine V.cond rfl (fun h323 => ?_) (fun h323 => ?_) | refine V.condB rfl (fun h323 => ?_) (fun h323 => ?_)
                                  ·
                                    refine V.region ?_
                                    refine L.rd (rd_move rfl) rfl ?_
                                    refine L.rd (rd_move rfl) rfl ?_
                                    refine L.rd (rd_move rfl) rfl ?_
                                    refine L.ef (e_call rfl (leafD_ok 0 _) rfl ?_)
                                    rintro _ w10 ⟨rfl, he10⟩
                                    have hC10 := hC9.ext he10
                                    refine L.ef (e_call rfl (dadd_ok (1, 0, 0, (false, -1), (false, -1)) _ hC10 (by omega)) rfl ?_)
                                    rintro _ w11 ⟨rfl, hC11, hk11⟩
                                    have hD11 := hC10.kbl hk11 (he10.bl hD9.lt hD9) rfl rfl
                                    have hn11 := hC10.kbl hk11 (he10.bl hn9.lt hn9) rfl rfl
                                    have hb11 := hC10.kbl hk11 (he10.bl hb9.lt hb9) rfl rfl
                                    have hE11 := (hE9.next he10).trans (hk11.toExt (Nat.le_refl _))
                                    have hs11 := hb11.lt
                                    (refine L.rd (rd_indexSlice (sz := 2) tok rfl rfl rfl rfl rfl rfl rfl ?_) rfl ?_; omega)
                                    refine L.ef (e_store (vs := [_, _]) tok rfl rfl rfl rfl hD11 rfl (by simp [Value.oneCell']) (by rw [hDfl]; simp; omega) ?_)
                                    (simp only [Nat.zero_add, Int.toNat_natCast])
                                    refine L.nil ?_
                                    refine X.bk ?_
                                    subst h323
                                    have hput := fm_put drE_len [] Dl i (false, (pool.length : Int)) (by omega)
                                    rw [List.append_nil, List.append_nil] at hput
                                    simp only [drE] at hput
                                    rw [hput]
                                    exact X.ct ⟨_, (by repeat' (first | exact trivial | refine ⟨rfl, ?_⟩)), [(1, 0, 0, (false, -1), (false, -1))], (false, (pool.length : Int)), rfl, by simp, CD.set hC11 hD11 rfl rfl _, hD11.set _ _, hn11.setNe (by omega) _ _, Ext.set hE11 (by omega) _ _, Rf.leaf 1 0 0 _ _⟩
                                  ·
                                    refine V.seq ?_
                                    refine V.region ?_
                                    refine L.rd (rd_move rfl) rfl ?_
                                    refine L.rd (rd_fieldAddr tok rfl rfl rfl rfl rfl rfl) rfl ?_
                                    refine L.rd (rd_load1 tok rfl rfl rfl (hb9.cell (i := 1) rfl)) rfl ?_
                                    refine L.ef (e_call rfl (leafD_ok v _) rfl ?_)
                                    rintro _ w10 ⟨rfl, he10⟩
                                    have hC10 := hC9.ext he10
                                    refine L.ef (e_call rfl (dadd_ok (1, v, 0, (false, -1), (false, -1)) _ hC10 (by omega)) rfl ?_)
                                    rintro _ w11 ⟨rfl, hC11, hk11⟩
                                    have hD11 := hC10.kbl hk11 (he10.bl hD9.lt hD9) rfl rfl
                                    have hn11 := hC10.kbl hk11 (he10.bl hn9.lt hn9) rfl rfl
                                    have hb11 := hC10.kbl hk11 (he10.bl hb9.lt hb9) rfl rfl
                                    have hE11 := (hE9.next he10).trans (hk11.toExt (Nat.le_refl _))
                                    have hs11 := hb11.lt
                                    refine L.ef (e_alloc (cs := [_, _]) tok rfl rfl (by first | (simp only [size_addB, size_setB, size_drew]; rfl) | rfl) rfl ?_)
                                    refine L.ef (e_store (vs := [_, _]) tok rfl rfl rfl rfl (by (repeat (first | assumption | (refine Bl.new' ?_ _ _; first | with_reducible rfl | (simp only [size_addB, size_setB, size_drew]; done)) | apply Bl.add | apply Bl.drew | (apply Bl.setNe; omega) | (refine Bl.set' ?_ _ _; (try simp only [size_addB, size_setB, size_drew]); omega)))) rfl (by simp [Value.oneCell']) (by simp) ?_)
                                    refine L.nil ?_
                                    refine X.sq ?_
                                    refine V.seq ?_
                                    generalize hw12 : setB _ _ _ _ = w12
                                    have hm12 : Bl w12 w11.heap.size 149 [.bool false, .int .i64 (pool.length : Int)] := by rw [← hw12]; refine Bl.set' ?_ _ _; rw [size_addB]; omega
                                    have he12 : Ext w11.heap.size w11 w12 := by rw [← hw12]; exact ((Ext.refl _ _).addNew _ _).set (Nat.le_refl _) _ _
                                    have hC12 := hC11.ext he12
                                    have hD12 := he12.bl hD11.lt hD11
                                    have hn12 := he12.bl hn11.lt hn11
                                    have hb12 := he12.bl hb11.lt hb11
                                    have hE12 := hE11.trans (he12.low (by omega))
                                    have hl12 := hm12.lt
                                    have hn1 : (pool ++ [((1, v, 0, (false, -1), (false, -1)) : DN)]).length = pool.length + 1 := by simp
                                    have hv1' : ((pool ++ [((1, v, 0, (false, -1), (false, -1)) : DN)]).length : Int) = (pool.length : Int) + 1 := by rw [hn1]; omega
                                    refine V.region ?_
                                    refine L.rd (rd_move rfl) rfl ?_
                                    refine L.rd (rd_fieldAddr tok rfl rfl rfl rfl rfl rfl) rfl ?_
                                    refine L.rd (rd_load1 tok rfl rfl rfl (hb12.cell (i := 1) rfl)) rfl ?_
                                    refine L.rd (rd_subE (r := v - 1) rfl rfl (wrap_i64_in (by omega))) rfl ?_
                                    refine L.rd (rd_fieldAddr tok rfl rfl rfl rfl rfl rfl) rfl ?_
                                    refine L.rd (rd_load1 tok rfl rfl rfl (hb12.cell (i := 3) rfl)) rfl ?_
                                    refine L.rd (rd_build (out := [_, _]) tok rfl rfl rfl rfl rfl) rfl ?_
                                    refine L.rd (rd_loadN tok rfl rfl rfl hn12.cells rfl) rfl ?_
                                    refine L.rd (rd_build (out := [_, _, _, _, _, _, _]) tok rfl rfl rfl rfl rfl) rfl ?_
                                    refine L.ef (e_call rfl (dadd_ok (7, v - 1, 0, (true, (j : Int)), (false, -1)) _ hC12 (by rw [hn1]; omega)) rfl ?_)
                                    rintro _ w13 ⟨rfl, hC13, hk13⟩
                                    have hD13 := hC12.kbl hk13 hD12 rfl rfl
                                    have hn13 := hC12.kbl hk13 hn12 rfl rfl
                                    have hb13 := hC12.kbl hk13 hb12 rfl rfl
                                    have hm13 := hC12.kbl hk13 hm12 rfl rfl
                                    have hE13 := hE12.trans (hk13.toExt (Nat.le_refl _))
                                    have hs13 := hm13.lt
                                    refine L.ef (e_alloc (cs := [_, _]) tok rfl rfl (by first | (simp only [size_addB, size_setB, size_drew]; rfl) | rfl) rfl ?_)
                                    refine L.ef (e_store (vs := [_, _]) tok rfl rfl rfl rfl (by (repeat (first | assumption | (refine Bl.new' ?_ _ _; first | with_reducible rfl | (simp only [size_addB, size_setB, size_drew]; done)) | apply Bl.add | apply Bl.drew | (apply Bl.setNe; omega) | (refine Bl.set' ?_ _ _; (try simp only [size_addB, size_setB, size_drew]); omega)))) rfl (by simp [Value.oneCell']) (by simp) ?_)
                                    refine L.nil ?_
                                    refine X.sq ?_
                                    refine V.seq ?_
                                    generalize hw14 : setB _ _ _ _ = w14
                                    have hq14 : Bl w14 w13.heap.size 149 [.bool false, .int .i64 ((pool.length : Int) + 1)] := by rw [← hw14, ← hv1']; refine Bl.set' ?_ _ _; rw [size_addB]; omega
                                    have he14 : Ext w13.heap.size w13 w14 := by rw [← hw14]; exact ((Ext.refl _ _).addNew _ _).set (Nat.le_refl _) _ _
                                    have hC14 := hC13.ext he14
                                    have hD14 := he14.bl hD13.lt hD13
                                    have hn14 := he14.bl hn13.lt hn13
                                    have hb14 := he14.bl hb13.lt hb13
                                    have hm14 := he14.bl hm13.lt hm13
                                    have hE14 := hE13.trans (he14.low (by omega))
                                    have hl14 := hq14.lt
                                    have hn2 : (pool ++ [((1, v, 0, (false, -1), (false, -1)) : DN)] ++ [((7, v - 1, 0, (true, (j : Int)), (false, -1)) : DN)]).length = pool.length + 2 := by simp
                                    have hv2' : ((pool ++ [((1, v, 0, (false, -1), (false, -1)) : DN)] ++ [((7, v - 1, 0, (true, (j : Int)), (false, -1)) : DN)]).length : Int) = (pool.length : Int) + 2 := by rw [hn2]; omega
                                    refine V.region ?_
                                    refine L.rd (rd_move rfl) rfl ?_
                                    refine L.rd (rd_loadN tok rfl rfl rfl hm14.cells rfl) rfl ?_
                                    refine L.rd (rd_loadN tok rfl rfl rfl hq14.cells rfl) rfl ?_
                                    refine L.rd (rd_build (out := [_, _, _, _, _, _, _]) tok rfl rfl rfl rfl rfl) rfl ?_
                                    refine L.ef (e_call rfl (dadd_ok (6, 0, 0, (false, (pool.length : Int)), (false, (pool.length : Int) + 1)) _ hC14 (by rw [hn2]; omega)) rfl ?_)
                                    rintro _ w15 ⟨rfl, hC15, hk15⟩
                                    have hD15 := hC14.kbl hk15 hD14 rfl rfl
                                    have hn15 := hC14.kbl hk15 hn14 rfl rfl
                                    have hb15 := hC14.kbl hk15 hb14 rfl rfl
                                    have hE15 := hE14.trans (hk15.toExt (Nat.le_refl _))
                                    have hs15 := hb15.lt
                                    refine L.ef (e_alloc (cs := [_, _]) tok rfl rfl (by first | (simp only [size_addB, size_setB, size_drew]; rfl) | rfl) rfl ?_)
                                    refine L.ef (e_store (vs := [_, _]) tok rfl rfl rfl rfl (by (repeat (first | assumption | (refine Bl.new' ?_ _ _; first | with_reducible rfl | (simp only [size_addB, size_setB, size_drew]; done)) | apply Bl.add | apply Bl.drew | (apply Bl.setNe; omega) | (refine Bl.set' ?_ _ _; (try simp only [size_addB, size_setB, size_drew]); omega)))) rfl (by simp [Value.oneCell']) (by simp) ?_)
                                    refine L.nil ?_
                                    refine X.sq ?_
                                    generalize hw16 : setB _ _ _ _ = w16
                                    have hm16 : Bl w16 w15.heap.size 149 [.bool false, .int .i64 ((pool.length : Int) + 2)] := by rw [← hw16, ← hv2']; refine Bl.set' ?_ _ _; rw [size_addB]; omega
                                    have he16 : Ext w15.heap.size w15 w16 := by rw [← hw16]; exact ((Ext.refl _ _).addNew _ _).set (Nat.le_refl _) _ _
                                    have hC16 := hC15.ext he16
                                    have hD16 := he16.bl hD15.lt hD15
                                    have hn16 := he16.bl hn15.lt hn15
                                    have hb16 := he16.bl hb15.lt hb15
                                    have hE16 := hE15.trans (he16.low (by omega))
                                    have hC16d := hC16.ext ((Ext.refl _ w16).drew)
                                    have hn3 : (pool ++ [((1, v, 0, (false, -1), (false, -1)) : DN)] ++ [((7, v - 1, 0, (true, (j : Int)), (false, -1)) : DN)] ++ [((6, 0, 0, (false, (pool.length : Int)), (false, (pool.length : Int) + 1)) : DN)]).length = pool.length + 3 := by simp
                                    have hv3' : ((pool ++ [((1, v, 0, (false, -1), (false, -1)) : DN)] ++ [((7, v - 1, 0, (true, (j : Int)), (false, -1)) : DN)] ++ [((6, 0, 0, (false, (pool.length : Int)), (false, (pool.length : Int) + 1)) : DN)]).length : Int) = (pool.length : Int) + 3 := by rw [hn3]; omega
                                    have hcj := hDc _ hD16 j _ hDj
                                    simp only at hcj
                                    have hR1 : Rf S (pool ++ [(1, v, 0, (false, -1), (false, -1))]) (lf 1 v 0) (false, (pool.length : Int)) := Rf.leaf 1 v 0 _ _
                                    have hR2 := Rf.un (pool := pool ++ [(1, v, 0, (false, -1), (false, -1))]) 7 (v - 1) (false, -1) (Rf.src (S := S) hSj)
                                    rw [hv1'] at hR2
                                    have hR3 := Rf.bin 6 (Rf.app _ _ hR1) hR2
                                    rw [hv2'] at hR3
                                    have hR4 := Rf.bin 6 hR3 (Rf.app _ _ (Rf.app _ _ (Rf.app _ _ hRj)))
                                    rw [hv3'] at hR4
                                    refine V.draw [10, 12] mixed ?_
                                    refine D.takeP 0 [true, false, false, false, false, false, false, false, false, false, false, false, false] (.bk (.ct (.bk (.sq (.lp (.bk (.sq .bd))))))) rfl (fun _ => rd_move rfl) rfl (by kernel_rfl) rfl ?_
                                    refine D.takeP 1 [true, true, false, false, false, false, false, false, false, false, false, false, false] (.bk (.ct (.bk (.sq (.lp (.bk (.sq .bd))))))) rfl (fun _ => rd_move rfl) rfl (by kernel_rfl) rfl ?_
                                    refine D.takeP 2 [true, true, true, false, false, false, false, false, false, false, false, false, false] (.bk (.ct (.bk (.sq (.lp (.bk (.sq .bd))))))) rfl (fun _ => rd_move rfl) rfl (by kernel_rfl) rfl ?_
                                    refine D.takeW 3 [true, true, true, true, false, false, false, false, false, false, false, false, false] (.bk (.ct (.bk (.sq (.lp (.bk (.sq .bd))))))) rfl (rd_loadN tok rfl rfl rfl hm16.cells rfl) rfl (by kernel_rfl) rfl (LeC.drew _) ?_
                                    refine D.takeP 4 [true, true, true, true, true, false, false, false, false, false, false, false, false] (.bk (.ct (.bk (.sq (.lp (.bk (.sq .bd))))))) rfl (fun _ => rd_move rfl) rfl (by kernel_rfl) rfl ?_
                                    refine D.takeP 5 [true, true, true, true, true, true, false, false, false, false, false, false, false] (.bk (.ct (.bk (.sq (.lp (.bk (.sq .bd))))))) rfl (fun _ => rd_fieldAddr tok rfl rfl rfl rfl rfl rfl) rfl (by kernel_rfl) rfl ?_
                                    refine D.takeW 6 [true, true, true, true, true, true, true, false, false, false, false, false, false] (.bk (.ct (.bk (.sq (.lp (.bk (.sq .bd))))))) rfl (rd_load1 tok rfl rfl rfl (hb16.cell (i := 3) rfl)) rfl (by kernel_rfl) rfl (LeC.drew _) ?_
                                    (refine D.takeP 7 [true, true, true, true, true, true, true, true, false, false, false, false, false] (.bk (.ct (.bk (.sq (.lp (.bk (.sq .bd))))))) rfl (fun _ => rd_indexSlice (sz := 2) tok rfl rfl rfl rfl rfl rfl rfl ?_) rfl (by kernel_rfl) rfl ?_; omega)
                                    refine D.takeW 8 [true, true, true, true, true, true, true, true, true, false, false, false, false] (.bk (.ct (.bk (.sq (.lp (.bk (.sq .bd))))))) rfl (rd_loadN tok rfl rfl rfl hcj rfl) rfl (by kernel_rfl) rfl (LeC.drew _) ?_
                                    refine D.takeP 9 [true, true, true, true, true, true, true, true, true, true, false, false, false] (.bk (.ct (.bk (.sq (.lp (.bk (.sq .bd))))))) rfl (fun _ => rd_build (out := [_, _, _, _, _, _, _]) tok rfl rfl rfl rfl rfl) rfl (by kernel_rfl) rfl ?_
                                    refine D.one 10 [true, true, true, true, true, true, true, true, true, true, true, false, false] rfl (by kernel_rfl) rfl (e_call rfl (dadd_ok (6, 0, 0, (false, (pool.length : Int) + 2), (ps, pi)) _ hC16d (by rw [hn3]; omega)) rfl ?_)
                                    rintro _ w17 ⟨rfl, hC17, hk17⟩
                                    have hD17 := hC16d.kbl hk17 hD16.drew rfl rfl
                                    have hn17 := hC16d.kbl hk17 hn16.drew rfl rfl
                                    have hE17 := hE16.drew.trans (hk17.toExt (Nat.le_refl _))
                                    refine ⟨fun h => (by cases h), ?_⟩
                                    (refine D.takeP 11 [true, true, true, true, true, true, true, true, true, true, true, true, false] (.bk (.ct (.bk (.sq (.lp (.bk (.sq .bd))))))) rfl (fun _ => rd_indexSlice (sz := 2) tok rfl rfl rfl rfl rfl rfl rfl ?_) rfl (by kernel_rfl) rfl ?_; omega)
                                    refine D.one 12 [true, true, true, true, true, true, true, true, true, true, true, true, true] rfl (by kernel_rfl) rfl (e_store (vs := [_, _]) tok rfl rfl rfl rfl hD17 rfl (by simp [Value.oneCell']) (by rw [hDfl]; simp; omega) ⟨fun h => (by cases h), ?_⟩)
                                    (simp only [Nat.zero_add, Int.toNat_natCast])
                                    refine D.done (by kernel_rfl) ?_
                                    refine X.bk ?_
                                    rw [hv3']
                                    have hput := fm_put drE_len [] Dl i (false, (pool.length : Int) + 3) (by omega)
                                    rw [List.append_nil, List.append_nil] at hput
                                    simp only [drE] at hput
                                    rw [hput]
                                    exact X.ct ⟨_, (by repeat' (first | exact trivial | refine ⟨rfl, ?_⟩)), [(1, v, 0, (false, -1), (false, -1)), (7, v - 1, 0, (true, (j : Int)), (false, -1)), (6, 0, 0, (false, (pool.length : Int)), (false, (pool.length : Int) + 1)), (6, 0, 0, (false, (pool.length : Int) + 2), (ps, pi))], (false, (pool.length : Int) + 3), rfl, by simp, (by simpa using CD.set hC17 hD17 rfl rfl _), hD17.set _ _, hn17.setNe (by omega) _ _, Ext.set hE17 (by omega) _ _, (by rw [dT_u7 _ h323]; simpa using hR4)⟩
                                ·
                                  omega
                  ·
                    rintro l w10 ⟨ex, p, rfl, hex, hC10, hD10, hn10, hE10, hR10⟩
                    refine X.bk ?_
                    refine X.sq ?_
                    refine V.region ?_
                    refine L.rd (rd_move rfl) rfl ?_
                    (refine L.rd (rd_add3 rfl rfl ?_) rfl ?_; omega)
                    refine L.rd (rd_assign rfl) rfl ?_
                    refine L.nil ?_
                    refine X.lp ⟨_, _, by omega, (by repeat' (first | exact trivial | refine ⟨rfl, ?_⟩)), i + 1, pool ++ ex, Dl.set i p, rfl, rfl, by omega, hC10, by rw [List.length_append]; omega, hD10, by simp [hDl], hn10, hE10, fun j2 s2 hj2 hs2 => ?_⟩
                    by_cases hji : j2 = i
                    · subst hji
                      rw [hs] at hs2
                      simp only [Option.some.injEq] at hs2
                      subst hs2
                      exact ⟨p, List.getElem?_set_self (by omega), hR10⟩
                    · obtain ⟨q2, h1, h2⟩ := hinv j2 s2 (by omega) hs2
                      exact ⟨q2, by rw [List.getElem?_set_ne (by omega)]; exact h1, h2.app _ _⟩
                ·
                  refine V.exit ?_
                  refine X.sqExit ?_
                  refine X.lpExit ?_
                  refine X.bkHere ?_
                  refine X.sq ?_
                  refine V.seq ?_
                  obtain rfl : i = ns.length := by omega
                  obtain ⟨⟨rs0, ri0⟩, hDr, hRr⟩ := hinv (tsz t - 1) t (by omega) hroot
                  have hH8 := hE8.bl hH.lt hH
                  have hcr : Cells w8 w5.heap.size (0 + ((ns.length : Int) - 1).toNat * 2) [.bool rs0, .int .i64 ri0] := by
                    rw [hix]
                    exact hD8.cells.sub ((tsz t - 1) * 2) (drE (rs0, ri0)) (fun q u hu => fm_get drE_len Dl _ _ hDr q u hu)
                  refine V.region ?_
                  refine L.rd (rd_move rfl) rfl ?_
                  refine L.rd (rd_move rfl) rfl ?_
                  (refine L.rd (rd_sub3 rfl rfl ?_) rfl ?_; omega)
                  (refine L.rd (rd_indexSlice (sz := 1) tok rfl rfl rfl rfl rfl rfl rfl ?_) rfl ?_; omega)
                  refine L.rd (rd_load1 tok rfl rfl rfl (cell_at (i := ((ns.length : Int) - 1).toNat) hH8 (by rw [hix]; exact iC_get hHr) (by simp))) rfl ?_
                  refine L.rd (rd_assign rfl) rfl ?_
                  refine L.nil ?_
                  refine X.sq ?_
                  refine V.seq ?_
                  rw [hcds]
                  refine V.region ?_
                  refine L.rd (rd_move rfl) rfl ?_
                  refine L.ef (e_make (e := 80) (zs := [_, _, _, _, _]) (m := 0) (c := ds t) tok rfl rfl rfl rfl rfl rfl rfl rfl (by first | (simp only [size_addB, size_setB, size_drew]; rfl) | rfl) rfl (by omega) (by simp only []; omega) (by omega) ?_)
                  refine L.rd (rd_assign rfl) rfl ?_
                  refine L.nil ?_
                  refine X.sq ?_
                  refine V.seq ?_
                  have ho0 := own_made (base := w8.heap.size) (sz := 5) (c := ds t) (Bl.new w8 80 ((List.replicate (ds t) [Value.int .i64 0, .int .i64 0, .int .i64 0, .int .i64 0, .int .i64 0]).flatten)) (by rw [List.length_flatten]; simp) (Nat.le_refl _) (by unfold maxLen; omega)
                  have hEB := (Ext.refl _ w8).addNew 80 ((List.replicate (ds t) [Value.int .i64 0, .int .i64 0, .int .i64 0, .int .i64 0, .int .i64 0]).flatten)
                  generalize addB w8 80 ((List.replicate (ds t) [Value.int .i64 0, .int .i64 0, .int .i64 0, .int .i64 0, .int .i64 0]).flatten) = wB at ho0 hEB ⊢
                  have hst0 := own_empty (sz := 2) (Bl.new wB 149 []) hEB.size
                  have hEC := hEB.addNew 149 []
                  have hoC := own_ext ho0 ((Ext.refl _ wB).addNew 149 [])
                  refine V.region ?_
                  refine L.ef (e_make0 (e := 149) tok rfl rfl rfl rfl rfl rfl rfl (by first | (simp only [size_addB, size_setB, size_drew]; rfl) | rfl) rfl ?_)
                  refine L.rd (rd_assign rfl) rfl ?_
                  refine L.nil ?_
                  refine X.sq ?_
                  refine V.seq ?_
                  generalize addB wB 149 [] = wC at hst0 hEC hoC ⊢
                  have hsC := hEC.size
                  refine V.region ?_
                  refine L.rd (rd_move rfl) rfl ?_
                  refine L.rd (rd_move rfl) rfl ?_
                  refine L.rd (rd_move rfl) rfl ?_
                  (refine L.rd (rd_sub3 rfl rfl ?_) rfl ?_; omega)
                  (refine L.rd (rd_indexSlice (sz := 2) tok rfl rfl rfl rfl rfl rfl rfl ?_) rfl ?_; omega)
                  refine L.rd (rd_loadN tok rfl rfl rfl (hcr.le hEC.leC) rfl) rfl ?_
                  refine L.ef (e_buildSlice1 (e := 149) (cs := [_, _]) tok rfl rfl rfl rfl rfl rfl rfl rfl rfl (by first | (simp only [size_addB, size_setB, size_drew]; rfl) | rfl) rfl ?_)
                  refine L.ef (e_append (m := 1) tok rfl rfl rfl rfl rfl rfl rfl rfl rfl rfl (hst0.alloc _) (Bl.new _ _ _).cells rfl (by simp [Value.oneCell']) (by unfold maxLen; omega) (by simp only []; omega) (by rw [size_addB]; omega) ?_)
                  rintro v6 wD ho6 hg6
                  have he6 := ((Ext.refl _ wC).addNew 149 [.bool rs0, .int .i64 ri0])
                  have hoD := own_apart (own_ext hoC he6) (hst0.alloc _) rfl hg6
                  have hED : Ext w8.heap.size w8 wD := (hEC.addNew _ _).grown hg6 (by rw [size_addB]; omega) (fun q hq => (own_block_lt hst0 hq).1)
                  refine L.rd (rd_assign rfl) rfl ?_
                  refine L.nil ?_
                  refine X.sq ?_
                  refine V.seq ?_
                  refine V.block ?_
                  refine V.loop (fun m l w9 => ∃ (out : List Nd) (I : List DR) (Lq : List Tre) (ov sv : Value), l = [(2, .pointer (some ⟨w.heap.size, 0, none⟩)), (4, .pointer (some ⟨w.heap.size + 1, 0, none⟩)), (11, .pointer (some ⟨wr.heap.size + 1, 0, none⟩)), (13, .pointer (some ⟨w6.heap.size, 0, none⟩)), (22, .int .i64 (ds t : Nat)), (23, ov), (24, sv)] ∧ m = ds t - out.length ∧ w9.ownsRow w8.heap.size 80 5 ov out.length (out.flatMap ndE) ∧ w9.ownsRow w8.heap.size 149 2 sv I.length (I.flatMap drE) ∧ StkD S pool Lq I ∧ (∀ s ∈ Lq, Wt s) ∧ out ++ prS Lq = prR (dT y t) ∧ Ext w8.heap.size w8 w9) ?_ ?_
                  ·
                    exact ⟨_, _, (by repeat' (first | exact trivial | refine ⟨rfl, ?_⟩)), [], [(rs0, ri0)], [dT y t], _, v6, rfl, rfl, hoD, ho6, ⟨hRr, trivial⟩, fun s hs => by simp only [List.mem_cons, List.not_mem_nil, or_false] at hs; subst hs; exact hdw, by simp [prS], hED⟩
                  ·
                    clear ho0 hst0 hoC hoD ho6 hg6 he6 hED hEB hEC
                    rintro m l w9 ⟨out, I, Lq, ov, sv, rfl, rfl, ho, hst, hS, hWL, hpR, hE9⟩
                    obtain ⟨oa, oc, rfl⟩ := own_form ho
                    obtain ⟨sa, sc, rfl⟩ := own_form hst
                    have hC9 := hC8.ext hE9
                    have hn9 := hE9.bl hn8.lt hn8
                    have hEr9 := hEr8.next hE9
                    have hpr9 := hE9.bl hpr8.lt hpr8
                    have hlen : out.length + (prS Lq).length = ds t := by rw [← hdz, ← prR_len, ← hpR, List.length_append]
                    have hge := prS_ge Lq
                    have hSn := hS.len
                    have hs9 := hE9.size
                    refine V.seq ?_
                    refine V.seq ?_
                    refine V.region ?_
                    refine L.rd (rd_move rfl) rfl ?_
                    refine L.rd (rd_lenSlice tok rfl rfl rfl) rfl ?_
                    refine L.rd (rd_gtr rfl rfl) rfl ?_
                    refine L.rd (rd_move rfl) rfl ?_
                    first | refine L.partG rfl rfl (fun g381 => ?_) (fun g381 => ?_) | refine L.partGB rfl rfl (fun g381 => ?_) (fun g381 => ?_)
                    ·
                      refine L.yes rfl rfl ?_
                      refine L.rd (rd_move rfl) rfl ?_
                      refine L.yes rfl rfl ?_
                      refine L.rd (rd_lenSlice tok rfl rfl rfl) rfl ?_
                      refine L.yes rfl rfl ?_
                      refine L.rd (rd_move rfl) rfl ?_
                      refine L.yes rfl rfl ?_
                      refine L.rd (rd_lss rfl rfl) rfl ?_
                      refine L.rd (rd_pickT rfl rfl) rfl ?_
                      refine L.nil ?_
                      refine X.sq ?_
                      first | refine V.cond rfl (fun h386 => ?_) (fun h386 => ?_) | refine V.condB rfl (fun h386 => ?_) (fun h386 => ?_)
                      ·
                        refine V.skip ?_
                        refine X.sq ?_
                        refine V.block ?_
                        refine V.seq ?_
                        obtain ⟨Lq', I', t', ⟨xs, xi⟩, rfl, rfl, hS', hp'⟩ := hS.pop (by rintro rfl; simp at g381)
                        obtain ⟨gs, cs, hvs, hcs, hgs, hcs2⟩ := own_some hst (by simp)
                        simp only [Value.slice.injEq] at hvs
                        obtain ⟨rfl, -, rfl⟩ := hvs
                        have hgl : gs < w9.heap.size := (own_block_lt hst rfl).2
                        have hli : (I' ++ [(xs, xi)]).length = I'.length + 1 := by simp
                        have hst7 := own_shrink hst (m := I'.length) (ys := I'.flatMap drE) (by omega) (fm_cut drE_len _ _) (fm_length drE_len _)
                        rw [prS_snoc] at hlen hpR
                        have hge' := prS_ge Lq'
                        have hSn' := hS'.len
                        rw [List.length_append, prR_len] at hlen
                        obtain ⟨j, k, v, x, l, r, hxj, hcase, hsrc⟩ := hp'.cases hSb (hWL _ (by simp))
                        simp only at hxj hsrc
                        have htp' := tsz_pos t'
                        have hcx := hcs2.sub (I'.length * 2) (drE (xs, xi)) (fun q u hu => fm_get drE_len (I' ++ [(xs, xi)]) I'.length _ (last_get _ _) q u hu)
                        have hcx' : Cells w9 gs (0 + (((I' ++ [(xs, xi)]).length : Int) - 1).toNat * 2) [.bool xs, .int .i64 xi] := by
                          rw [hli, show (((I'.length + 1 : Nat) : Int) - 1).toNat = I'.length by omega]
                          exact hcx
                        refine V.region ?_
                        refine L.rd (rd_move rfl) rfl ?_
                        refine L.rd (rd_move rfl) rfl ?_
                        refine L.rd (rd_lenSlice tok rfl rfl rfl) rfl ?_
                        (refine L.rd (rd_sub3 rfl rfl ?_) rfl ?_; omega)
                        (refine L.rd (rd_indexSlice (sz := 2) tok rfl rfl rfl rfl rfl rfl rfl ?_) rfl ?_; omega)
                        refine L.rd (rd_loadN tok rfl rfl rfl hcx' rfl) rfl ?_
                        refine L.ef (e_alloc (cs := [_, _]) tok rfl rfl (by first | (simp only [size_addB, size_setB, size_drew]; rfl) | rfl) rfl ?_)
                        refine L.ef (e_store (vs := [_, _]) tok rfl rfl rfl rfl (by (repeat (first | assumption | (refine Bl.new' ?_ _ _; first | with_reducible rfl | (simp only [size_addB, size_setB, size_drew]; done)) | apply Bl.add | apply Bl.drew | (apply Bl.setNe; omega) | (refine Bl.set' ?_ _ _; (try simp only [size_addB, size_setB, size_drew]); omega)))) rfl (by simp [Value.oneCell']) (by simp) ?_)
                        refine L.nil ?_
                        refine X.sq ?_
                        refine V.seq ?_
                        generalize hwx : setB _ _ _ _ = wx
                        have hbx : Bl wx w9.heap.size 149 [.bool xs, .int .i64 xi] := by rw [← hwx]; refine Bl.set' ?_ _ _; rw [size_addB]; omega
                        have hex : Ext w9.heap.size w9 wx := by rw [← hwx]; exact ((Ext.refl _ _).addNew _ _).set (Nat.le_refl _) _ _
                        have hnx := hex.bl hn9.lt hn9
                        have hlx := hbx.lt
                        refine V.region ?_
                        refine L.rd (rd_move rfl) rfl ?_
                        refine L.rd (rd_move rfl) rfl ?_
                        refine L.rd (rd_lenSlice tok rfl rfl rfl) rfl ?_
                        refine L.rd (rd_subE (r := (I'.length : Int)) rfl rfl (by rw [wrap_i64_in (by omega)]; omega)) rfl ?_
                        refine L.rd (rd_reslH (sz := 2) tok rfl rfl rfl rfl rfl rfl rfl (by omega)) rfl ?_
                        refine L.rd (rd_assign rfl) rfl ?_
                        refine L.nil ?_
                        refine X.sq ?_
                        refine V.seq ?_
                        refine V.region ?_
                        refine L.rd (rd_assign rfl) rfl ?_
                        refine L.nil ?_
                        refine X.sq ?_
                        refine V.seq ?_
                        refine V.region ?_
                        refine L.rd (rd_assign rfl) rfl ?_
                        refine L.nil ?_
                        refine X.sq ?_
                        refine V.seq ?_
                        refine V.region ?_
                        refine L.rd (rd_assign rfl) rfl ?_
                        refine L.nil ?_
                        refine X.sq ?_
                        refine V.seq ?_
                        refine V.region ?_
                        refine L.rd (rd_loadN tok rfl rfl rfl hnx.cells rfl) rfl ?_
                        refine L.ef (e_alloc (cs := [_, _]) tok rfl rfl (by first | (simp only [size_addB, size_setB, size_drew]; rfl) | rfl) rfl ?_)
                        refine L.ef (e_store (vs := [_, _]) tok rfl rfl rfl rfl (by (repeat (first | assumption | (refine Bl.new' ?_ _ _; first | with_reducible rfl | (simp only [size_addB, size_setB, size_drew]; done)) | apply Bl.add | apply Bl.drew | (apply Bl.setNe; omega) | (refine Bl.set' ?_ _ _; (try simp only [size_addB, size_setB, size_drew]); omega)))) rfl (by simp [Value.oneCell']) (by simp) ?_)
                        refine L.nil ?_
                        refine X.sq ?_
                        refine V.seq ?_
                        generalize hwl : setB _ _ _ _ = wl
                        have hbl : Bl wl wx.heap.size 149 [.bool false, .int .i64 (-1)] := by rw [← hwl]; refine Bl.set' ?_ _ _; rw [size_addB]; omega
                        have hel : Ext wx.heap.size wx wl := by rw [← hwl]; exact ((Ext.refl _ _).addNew _ _).set (Nat.le_refl _) _ _
                        have hnl := hel.bl hnx.lt hnx
                        have hll := hbl.lt
                        refine V.region ?_
                        refine L.rd (rd_loadN tok rfl rfl rfl hnl.cells rfl) rfl ?_
                        refine L.ef (e_alloc (cs := [_, _]) tok rfl rfl (by first | (simp only [size_addB, size_setB, size_drew]; rfl) | rfl) rfl ?_)
                        refine L.ef (e_store (vs := [_, _]) tok rfl rfl rfl rfl (by (repeat (first | assumption | (refine Bl.new' ?_ _ _; first | with_reducible rfl | (simp only [size_addB, size_setB, size_drew]; done)) | apply Bl.add | apply Bl.drew | (apply Bl.setNe; omega) | (refine Bl.set' ?_ _ _; (try simp only [size_addB, size_setB, size_drew]); omega)))) rfl (by simp [Value.oneCell']) (by simp) ?_)
                        refine L.nil ?_
                        refine X.sq ?_
                        refine V.seq ?_
                        refine V.seq ?_
                        generalize hwm : setB _ _ _ _ = wm
                        have hbm : Bl wm wl.heap.size 149 [.bool false, .int .i64 (-1)] := by rw [← hwm]; refine Bl.set' ?_ _ _; rw [size_addB]; omega
                        have hem : Ext wl.heap.size wl wm := by rw [← hwm]; exact ((Ext.refl _ _).addNew _ _).set (Nat.le_refl _) _ _
                        have hbl2 := hem.bl hbl.lt hbl
                        have hbx2 := (hel.next hem).bl hbx.lt hbx
                        have hexm := (hex.next hel).next hem
                        have hprm := hexm.bl hpr9.lt hpr9
                        have hlm := hbm.lt
                        have hCm := hC9.ext hexm
                        have hom := own_ext ho hexm
                        have hsm := own_ext hst7 hexm
                        have hErm := hEr9.next hexm
                        have hEm := hE9.next hexm
                        refine V.region ?_
                        refine L.rd (rd_fieldAddr tok rfl rfl rfl rfl rfl rfl) rfl ?_
                        refine L.rd (rd_load1 tok rfl rfl rfl (hbx2.cell rfl)) rfl ?_
                        refine L.nil ?_
                        refine X.sq ?_
                        refine V.cut (fun ll w' => ll = [(2, .pointer (some ⟨w.heap.size, 0, none⟩)), (4, .pointer (some ⟨w.heap.size + 1, 0, none⟩)), (11, .pointer (some ⟨wr.heap.size + 1, 0, none⟩)), (13, .pointer (some ⟨w6.heap.size, 0, none⟩)), (22, .int .i64 (ds t : Nat)), (23, .slice oa out.length oc), (24, .slice (some ⟨gs, 0, none⟩) I'.length sc), (26, .int .i64 k), (27, .int .i64 v), (28, .int .i64 x), (29, .pointer (some ⟨wx.heap.size, 0, none⟩)), (30, .pointer (some ⟨wl.heap.size, 0, none⟩))] ∧ Ext w9.heap.size w9 w' ∧ Bl w' wx.heap.size 149 [.bool l.1, .int .i64 l.2] ∧ Bl w' wl.heap.size 149 [.bool r.1, .int .i64 r.2]) ?_ ?_
                        ·
                          first | refine V.cond rfl (fun h401 => ?_) (fun h401 => ?_) | refine V.condB rfl (fun h401 => ?_) (fun h401 => ?_)
                          ·
                            obtain ⟨li, ri, hnj, rfl, rfl⟩ : ∃ li ri : Int, ns[j]? = some (k, v, x, li, ri) ∧ l = (true, li) ∧ r = (true, ri) := by
                              rcases hsrc with ⟨-, h⟩ | ⟨h1, -⟩
                              · exact h
                              · rw [h401] at h1; cases h1
                            subst hxj
                            have hjl := (List.getElem?_eq_some_iff.1 hnj).1
                            obtain ⟨b1, o1, rfl, hc1⟩ := hfn.resolve_left (by omega)
                            have hcn := (hc1.le hErm.leC).sub (j * 5) (ndE (k, v, x, li, ri)) (fun q u hu => fm_get ndE_len ns j _ hnj q u hu)
                            refine V.seq ?_
                            refine V.region ?_
                            refine L.rd (rd_fieldAddr tok rfl rfl rfl rfl rfl rfl) rfl ?_
                            refine L.rd (rd_load1 tok rfl rfl rfl (hprm.cell rfl)) rfl ?_
                            refine L.rd (rd_fieldAddr tok rfl rfl rfl rfl rfl rfl) rfl ?_
                            refine L.rd (rd_load1 tok rfl rfl rfl (hbx2.cell (i := 1) rfl)) rfl ?_
                            (refine L.rd (rd_indexSlice (sz := 5) tok rfl rfl rfl rfl rfl rfl rfl ?_) rfl ?_; omega)
                            refine L.rd (rd_loadN tok rfl rfl rfl hcn rfl) rfl ?_
                            refine L.ef (e_alloc (cs := [_, _, _, _, _]) tok rfl rfl (by first | (simp only [size_addB, size_setB, size_drew]; rfl) | rfl) rfl ?_)
                            refine L.ef (e_store (vs := [_, _, _, _, _]) tok rfl rfl rfl rfl (by (repeat (first | assumption | (refine Bl.new' ?_ _ _; first | with_reducible rfl | (simp only [size_addB, size_setB, size_drew]; done)) | apply Bl.add | apply Bl.drew | (apply Bl.setNe; omega) | (refine Bl.set' ?_ _ _; (try simp only [size_addB, size_setB, size_drew]); omega)))) rfl (by simp [Value.oneCell']) (by simp) ?_)
                            refine L.nil ?_
                            refine X.sq ?_
                            refine V.seq ?_
                            generalize hwn : setB _ _ _ _ = wn
                            have hbn : Bl wn wm.heap.size 80 [.int .i64 k, .int .i64 v, .int .i64 x, .int .i64 li, .int .i64 ri] := by rw [← hwn]; refine Bl.set' ?_ _ _; rw [size_addB]; omega
                            have hen : Ext wm.heap.size wm wn := by rw [← hwn]; exact ((Ext.refl _ _).addNew _ _).set (Nat.le_refl _) _ _
                            have hbl3 := hen.bl hbl2.lt hbl2
                            have hbm3 := hen.bl hbm.lt hbm
                            have hEn := hexm.next hen
                            refine V.region ?_
                            refine L.rd (rd_fieldAddr tok rfl rfl rfl rfl rfl rfl) rfl ?_
                            refine L.rd (rd_load1 tok rfl rfl rfl (hbn.cell rfl)) rfl ?_
                            refine L.rd (rd_assign rfl) rfl ?_
                            refine L.nil ?_
                            refine X.sq ?_
                            refine V.seq ?_
                            refine V.region ?_
                            refine L.rd (rd_fieldAddr tok rfl rfl rfl rfl rfl rfl) rfl ?_
                            refine L.rd (rd_load1 tok rfl rfl rfl (hbn.cell (i := 1) rfl)) rfl ?_
                            refine L.rd (rd_assign rfl) rfl ?_
                            refine L.nil ?_
                            refine X.sq ?_
                            refine V.seq ?_
                            refine V.region ?_
                            refine L.rd (rd_fieldAddr tok rfl rfl rfl rfl rfl rfl) rfl ?_
                            refine L.rd (rd_load1 tok rfl rfl rfl (hbn.cell (i := 2) rfl)) rfl ?_
                            refine L.rd (rd_assign rfl) rfl ?_
                            refine L.nil ?_
                            refine X.sq ?_
                            refine V.seq ?_
                            refine V.region ?_
                            refine L.rd (rd_fieldAddr tok rfl rfl rfl rfl rfl rfl) rfl ?_
                            refine L.rd (rd_load1 tok rfl rfl rfl (hbn.cell (i := 3) rfl)) rfl ?_
                            refine L.rd (rd_build (out := [_, _]) tok rfl rfl rfl rfl rfl) rfl ?_
                            refine L.ef (e_store (vs := [_, _]) tok rfl rfl rfl rfl hbl3 rfl (by simp [Value.oneCell']) (by simp) ?_)
                            refine L.nil ?_
                            refine X.sq ?_
                            have hbl4 := hbl3.set 149 (putAt [.bool false, .int .i64 (-1)] 0 [.bool true, .int .i64 li])
                            have hbm4 := hbm3.setNe (b' := wx.heap.size) (by omega) 149 (putAt [.bool false, .int .i64 (-1)] 0 [.bool true, .int .i64 li])
                            have hbn4 := hbn.setNe (b' := wx.heap.size) (by omega) 149 (putAt [.bool false, .int .i64 (-1)] 0 [.bool true, .int .i64 li])
                            have hE4_ : Ext w9.heap.size w9 (setB wn wx.heap.size 149 (putAt [.bool false, .int .i64 (-1)] 0 [.bool true, .int .i64 li])) := hEn.set (by omega) _ _
                            refine V.region ?_
                            refine L.rd (rd_fieldAddr tok rfl rfl rfl rfl rfl rfl) rfl ?_
                            refine L.rd (rd_load1 tok rfl rfl rfl (hbn4.cell (i := 4) rfl)) rfl ?_
                            refine L.rd (rd_build (out := [_, _]) tok rfl rfl rfl rfl rfl) rfl ?_
                            refine L.ef (e_store (vs := [_, _]) tok rfl rfl rfl rfl hbm4 rfl (by simp [Value.oneCell']) (by simp) ?_)
                            refine L.nil ?_
                            exact X.ct ⟨_, (by repeat' (first | exact trivial | refine ⟨rfl, ?_⟩)), rfl, hE4_.set (by omega) _ _, hbl4.setNe (by omega) _ _, hbm4.set _ _⟩
                          ·
                            refine V.seq ?_
                            have hpj : pool[j]? = some (k, v, x, l, r) := by
                              rcases hsrc with ⟨h1, -⟩ | ⟨-, h⟩
                              · rw [h401] at h1; cases h1
                              · exact h
                            subst hxj
                            have hjl := (List.getElem?_eq_some_iff.1 hpj).1
                            obtain ⟨g, c, hpb, hcn⟩ := hCm.get hpj
                            refine V.draw [] mixed ?_
                            refine D.take 0 [true, false, false, false, false, false, false, false, false, false] (.sq (.ct (.sq (.bk (.lp (.bk (.sq .bd))))))) rfl (rd_move rfl) rfl (by kernel_rfl) rfl (LeC.drew _) ?_
                            refine D.take 1 [true, true, false, false, false, false, false, false, false, false] (.sq (.ct (.sq (.bk (.lp (.bk (.sq .bd))))))) rfl (rd_nilCheck rfl) rfl (by kernel_rfl) rfl (LeC.drew _) ?_
                            refine D.take 2 [true, true, true, false, false, false, false, false, false, false] (.sq (.ct (.sq (.bk (.lp (.bk (.sq .bd))))))) rfl (rd_fieldAddr tok rfl rfl rfl rfl rfl rfl) rfl (by kernel_rfl) rfl (LeC.drew _) ?_
                            refine D.take 3 [true, true, true, true, false, false, false, false, false, false] (.sq (.ct (.sq (.bk (.lp (.bk (.sq .bd))))))) rfl (rd_load1 tok rfl rfl rfl (hpb.cell rfl)) rfl (by kernel_rfl) rfl (LeC.drew _) ?_
                            refine D.take 4 [true, true, true, true, true, false, false, false, false, false] (.sq (.ct (.sq (.bk (.lp (.bk (.sq .bd))))))) rfl (rd_fieldAddr tok rfl rfl rfl rfl rfl rfl) rfl (by kernel_rfl) rfl (LeC.drew _) ?_
                            refine D.take 5 [true, true, true, true, true, true, false, false, false, false] (.sq (.ct (.sq (.bk (.lp (.bk (.sq .bd))))))) rfl (rd_load1 tok rfl rfl rfl (hbx2.cell (i := 1) rfl)) rfl (by kernel_rfl) rfl (LeC.drew _) ?_
                            (refine D.take 6 [true, true, true, true, true, true, true, false, false, false] (.sq (.ct (.sq (.bk (.lp (.bk (.sq .bd))))))) rfl (rd_indexSlice (sz := 7) tok rfl rfl rfl rfl rfl rfl rfl ?_) rfl (by kernel_rfl) rfl (LeC.drew _) ?_; omega)
                            refine D.take 7 [true, true, true, true, true, true, true, true, false, false] (.sq (.ct (.sq (.bk (.lp (.bk (.sq .bd))))))) rfl (rd_loadN tok rfl rfl rfl hcn rfl) rfl (by kernel_rfl) rfl (LeC.drew _) ?_
                            refine D.one 8 [true, true, true, true, true, true, true, true, true, false] rfl (by kernel_rfl) rfl (e_alloc (cs := [_, _, _, _, _, _, _]) tok rfl rfl (by first | (simp only [size_addB, size_setB, size_drew]; rfl) | rfl) rfl ?_)
                            have hE82 := ((Ext.refl _ wm).drew).addNew 152 [.int .i64 0, .int .i64 0, .int .i64 0, .bool false, .int .i64 0, .bool false, .int .i64 0]
                            refine ⟨fun _ => hE82.leC, ?_⟩
                            refine D.one 9 [true, true, true, true, true, true, true, true, true, true] rfl (by kernel_rfl) rfl (e_store (vs := [_, _, _, _, _, _, _]) tok rfl rfl rfl rfl (by (repeat (first | assumption | (refine Bl.new' ?_ _ _; first | with_reducible rfl | (simp only [size_addB, size_setB, size_drew]; done)) | apply Bl.add | apply Bl.drew | (apply Bl.setNe; omega) | (refine Bl.set' ?_ _ _; (try simp only [size_addB, size_setB, size_drew]); omega)))) rfl (by simp [Value.oneCell']) (by simp) ?_)
                            have hE829 := hE82.set (b := wm.heap.size) (Nat.le_refl _) 152 (putAt [.int .i64 0, .int .i64 0, .int .i64 0, .bool false, .int .i64 0, .bool false, .int .i64 0] 0 [.int .i64 k, .int .i64 v, .int .i64 x, .bool l.1, .int .i64 l.2, .bool r.1, .int .i64 r.2])
                            refine ⟨fun _ => hE829.leC, ?_⟩
                            refine D.done (by kernel_rfl) ?_
                            refine X.sq ?_
                            refine V.seq ?_
                            generalize hwn : setB _ _ _ _ = wn
                            have hbn : Bl wn wm.heap.size 152 [.int .i64 k, .int .i64 v, .int .i64 x, .bool l.1, .int .i64 l.2, .bool r.1, .int .i64 r.2] := by rw [← hwn]; refine Bl.set' ?_ _ _; rw [size_addB]; exact Nat.lt_succ_self _
                            have hen : Ext wm.heap.size wm wn := by rw [← hwn]; exact (((Ext.refl _ _).drew).addNew _ _).set (Nat.le_refl _) _ _
                            have hbl3 := hen.bl hbl2.lt hbl2
                            have hbm3 := hen.bl hbm.lt hbm
                            have hEn := hexm.next hen
                            refine V.region ?_
                            refine L.rd (rd_fieldAddr tok rfl rfl rfl rfl rfl rfl) rfl ?_
                            refine L.rd (rd_load1 tok rfl rfl rfl (hbn.cell rfl)) rfl ?_
                            refine L.rd (rd_assign rfl) rfl ?_
                            refine L.nil ?_
                            refine X.sq ?_
                            refine V.seq ?_
                            refine V.region ?_
                            refine L.rd (rd_fieldAddr tok rfl rfl rfl rfl rfl rfl) rfl ?_
                            refine L.rd (rd_load1 tok rfl rfl rfl (hbn.cell (i := 1) rfl)) rfl ?_
                            refine L.rd (rd_assign rfl) rfl ?_
                            refine L.nil ?_
                            refine X.sq ?_
                            refine V.seq ?_
                            refine V.region ?_
                            refine L.rd (rd_fieldAddr tok rfl rfl rfl rfl rfl rfl) rfl ?_
                            refine L.rd (rd_load1 tok rfl rfl rfl (hbn.cell (i := 2) rfl)) rfl ?_
                            refine L.rd (rd_assign rfl) rfl ?_
                            refine L.nil ?_
                            refine X.sq ?_
                            refine V.seq ?_
                            refine V.region ?_
                            refine L.rd (rd_fieldAddr tok rfl rfl rfl rfl rfl rfl) rfl ?_
                            refine L.rd (rd_loadN tok rfl rfl rfl (hbn.cells.sub 3 [.bool l.1, .int .i64 l.2] (fun q u hu => by match q, hu with | 0, hu => exact hu | 1, hu => exact hu | q + 2, hu => simp at hu)) rfl) rfl ?_
                            refine L.ef (e_store (vs := [_, _]) tok rfl rfl rfl rfl hbl3 rfl (by simp [Value.oneCell']) (by simp) ?_)
                            refine L.nil ?_
                            refine X.sq ?_
                            have hbl4 := hbl3.set 149 (putAt [.bool false, .int .i64 (-1)] 0 [.bool l.1, .int .i64 l.2])
                            have hbm4 := hbm3.setNe (b' := wx.heap.size) (by omega) 149 (putAt [.bool false, .int .i64 (-1)] 0 [.bool l.1, .int .i64 l.2])
                            have hbn4 := hbn.setNe (b' := wx.heap.size) (by omega) 149 (putAt [.bool false, .int .i64 (-1)] 0 [.bool l.1, .int .i64 l.2])
                            have hE4_ : Ext w9.heap.size w9 (setB wn wx.heap.size 149 (putAt [.bool false, .int .i64 (-1)] 0 [.bool l.1, .int .i64 l.2])) := hEn.set (by omega) _ _
                            refine V.region ?_
                            refine L.rd (rd_fieldAddr tok rfl rfl rfl rfl rfl rfl) rfl ?_
                            refine L.rd (rd_loadN tok rfl rfl rfl (hbn4.cells.sub 5 [.bool r.1, .int .i64 r.2] (fun q u hu => by match q, hu with | 0, hu => exact hu | 1, hu => exact hu | q + 2, hu => simp at hu)) rfl) rfl ?_
                            refine L.ef (e_store (vs := [_, _]) tok rfl rfl rfl rfl hbm4 rfl (by simp [Value.oneCell']) (by simp) ?_)
                            refine L.nil ?_
                            exact X.ct ⟨_, (by repeat' (first | exact trivial | refine ⟨rfl, ?_⟩)), rfl, hE4_.set (by omega) _ _, hbl4.setNe (by omega) _ _, hbm4.set _ _⟩
                        ·
                          rintro ll wq ⟨rfl, heq, hblq, hbmq⟩
                          have hoq := own_ext ho heq
                          have hsq := own_ext hst7 heq
                          have hEq := hE9.next heq
                          have hszq := heq.size
                          have hlq := hbmq.lt
                          refine X.sq ?_
                          refine V.seq ?_
                          refine V.region ?_
                          refine L.rd (rd_move rfl) rfl ?_
                          refine L.rd (rd_move rfl) rfl ?_
                          refine L.rd (rd_move rfl) rfl ?_
                          refine L.rd (rd_move rfl) rfl ?_
                          refine L.rd (rd_build (out := [_, _, _, _, _]) tok rfl rfl rfl rfl rfl) rfl ?_
                          refine L.ef (e_buildSlice1 (e := 80) (cs := [_, _, _, _, _]) tok rfl rfl rfl rfl rfl rfl rfl rfl rfl (by first | (simp only [size_addB, size_setB, size_drew]; rfl) | rfl) rfl ?_)
                          refine L.ef (e_append (m := 1) tok rfl rfl rfl rfl rfl rfl rfl rfl rfl rfl (hoq.alloc _) (Bl.new _ _ _).cells rfl (by simp [Value.oneCell']) (by unfold maxLen; omega) (by simp only []; omega) (by rw [size_addB]; omega) ?_)
                          rintro v10 w10 ho10 hg10
                          have heN := ((Ext.refl _ wq).addNew 80 (ndE (k, v, x, 0, 0)))
                          have hs10 : w10.ownsRow w8.heap.size 149 2 (.slice (some ⟨gs, 0, none⟩) I'.length sc) I'.length (I'.flatMap drE) := own_apart (own_ext hsq heN) (hoq.alloc _) rfl hg10
                          have hE10 : Ext w8.heap.size w8 w10 := (hEq.next heN).grown hg10 (by rw [size_addB]; omega) (fun q hq => (own_block_lt hoq hq).1)
                          have hbl10 : Bl w10 wx.heap.size 149 [.bool l.1, .int .i64 l.2] := (heN.bl hblq.lt hblq).off_own (hoq.alloc _) rfl hg10
                          have hbm10 : Bl w10 wl.heap.size 149 [.bool r.1, .int .i64 r.2] := (heN.bl hbmq.lt hbmq).off_own (hoq.alloc _) rfl hg10
                          have ho10' : w10.ownsRow w8.heap.size 80 5 v10 (out ++ [(k, v, x, 0, 0)]).length ((out ++ [(k, v, x, 0, 0)]).flatMap ndE) := by
                            rw [List.length_append, List.flatMap_append]
                            simpa [ndE] using ho10
                          have hol : (out ++ [(k, v, x, 0, 0)] : List Nd).length = out.length + 1 := by simp
                          have hs10s := hE10.size
                          have hlm10 := hbm10.lt
                          refine L.rd (rd_assign rfl) rfl ?_
                          refine L.nil ?_
                          refine X.sq ?_
                          refine V.seq ?_
                          refine V.region ?_
                          refine L.rd (rd_move rfl) rfl ?_
                          refine L.rd (rd_eql rfl rfl) rfl ?_
                          refine L.rd (rd_move rfl) rfl ?_
                          first | refine L.partG rfl rfl (fun g447 => ?_) (fun g447 => ?_) | refine L.partGB rfl rfl (fun g447 => ?_) (fun g447 => ?_)
                          ·
                            refine L.no rfl rfl rfl rfl ?_
                            refine L.no rfl rfl rfl rfl ?_
                            refine L.rd (rd_pickT rfl rfl) rfl ?_
                            refine L.nil ?_
                            refine X.sq ?_
                            refine V.condT rfl ?_
                            obtain ⟨a, hpra, hpa, hwa⟩ : ∃ a, prR t' = (k, v, x, 0, 0) :: prR a ∧ Rf S pool a l ∧ Wt a := by
                              rcases hcase with ⟨h1, _⟩ | ⟨_, h⟩ | ⟨h1, _⟩
                              · omega
                              · exact h
                              · omega
                            refine V.region ?_
                            refine L.rd (rd_move rfl) rfl ?_
                            refine L.rd (rd_loadN tok rfl rfl rfl hbl10.cells rfl) rfl ?_
                            refine L.ef (e_buildSlice1 (e := 149) (cs := [_, _]) tok rfl rfl rfl rfl rfl rfl rfl rfl rfl (by first | (simp only [size_addB, size_setB, size_drew]; rfl) | rfl) rfl ?_)
                            refine L.ef (e_append (m := 1) tok rfl rfl rfl rfl rfl rfl rfl rfl rfl rfl (hs10.alloc _) (Bl.new _ _ _).cells rfl (by simp [Value.oneCell']) (by unfold maxLen; omega) (by simp only []; omega) (by rw [size_addB]; omega) ?_)
                            rintro v11 w11 ho11 hg11
                            have heM := ((Ext.refl _ w10).addNew 149 [.bool l.1, .int .i64 l.2])
                            have hoo11 := own_apart (own_ext ho10' heM) (hs10.alloc _) rfl hg11
                            have hE11 : Ext w8.heap.size w8 w11 := (hE10.next heM).grown hg11 (by rw [size_addB]; omega) (fun q hq => (own_block_lt hs10 hq).1)
                            refine L.rd (rd_assign rfl) rfl ?_
                            refine L.nil ?_
                            refine X.bk ?_
                            refine X.lp ⟨_, _, by omega, (by repeat' (first | exact trivial | refine ⟨rfl, ?_⟩)), out ++ [(k, v, x, 0, 0)], I' ++ [l], Lq' ++ [a], _, _, rfl, rfl, hoo11, ?_, hS'.snoc hpa, ?_, ?_, hE11⟩
                            · rw [List.length_append, List.flatMap_append]
                              simpa [drE] using ho11
                            · intro s hs
                              rcases List.mem_append.1 hs with hs | hs
                              · exact hWL s (List.mem_append_left _ hs)
                              · simp only [List.mem_cons, List.not_mem_nil, or_false] at hs; subst hs; exact hwa
                            · rw [prS_snoc, ← hpR, hpra]; simp
                          ·
                            refine L.yes rfl rfl ?_
                            refine L.rd (rd_move rfl) rfl ?_
                            refine L.yes rfl rfl ?_
                            refine L.rd (rd_eql rfl rfl) rfl ?_
                            refine L.rd (rd_pickF rfl rfl) rfl ?_
                            refine L.nil ?_
                            refine X.sq ?_
                            first | refine V.cond rfl (fun h450 => ?_) (fun h450 => ?_) | refine V.condB rfl (fun h450 => ?_) (fun h450 => ?_)
                            ·
                              obtain ⟨a, hpra, hpa, hwa⟩ : ∃ a, prR t' = (k, v, x, 0, 0) :: prR a ∧ Rf S pool a l ∧ Wt a := by
                                rcases hcase with ⟨h1, _⟩ | ⟨_, h⟩ | ⟨h1, _⟩
                                · omega
                                · exact h
                                · omega
                              refine V.region ?_
                              refine L.rd (rd_move rfl) rfl ?_
                              refine L.rd (rd_loadN tok rfl rfl rfl hbl10.cells rfl) rfl ?_
                              refine L.ef (e_buildSlice1 (e := 149) (cs := [_, _]) tok rfl rfl rfl rfl rfl rfl rfl rfl rfl (by first | (simp only [size_addB, size_setB, size_drew]; rfl) | rfl) rfl ?_)
                              refine L.ef (e_append (m := 1) tok rfl rfl rfl rfl rfl rfl rfl rfl rfl rfl (hs10.alloc _) (Bl.new _ _ _).cells rfl (by simp [Value.oneCell']) (by unfold maxLen; omega) (by simp only []; omega) (by rw [size_addB]; omega) ?_)
                              rintro v11 w11 ho11 hg11
                              have heM := ((Ext.refl _ w10).addNew 149 [.bool l.1, .int .i64 l.2])
                              have hoo11 := own_apart (own_ext ho10' heM) (hs10.alloc _) rfl hg11
                              have hE11 : Ext w8.heap.size w8 w11 := (hE10.next heM).grown hg11 (by rw [size_addB]; omega) (fun q hq => (own_block_lt hs10 hq).1)
                              refine L.rd (rd_assign rfl) rfl ?_
                              refine L.nil ?_
                              refine X.bk ?_
                              refine X.lp ⟨_, _, by omega, (by repeat' (first | exact trivial | refine ⟨rfl, ?_⟩)), out ++ [(k, v, x, 0, 0)], I' ++ [l], Lq' ++ [a], _, _, rfl, rfl, hoo11, ?_, hS'.snoc hpa, ?_, ?_, hE11⟩
                              · rw [List.length_append, List.flatMap_append]
                                simpa [drE] using ho11
                              · intro s hs
                                rcases List.mem_append.1 hs with hs | hs
                                · exact hWL s (List.mem_append_left _ hs)
                                · simp only [List.mem_cons, List.not_mem_nil, or_false] at hs; subst hs; exact hwa
                              · rw [prS_snoc, ← hpR, hpra]; simp
                            ·
                              refine V.seq ?_
                              refine V.region ?_
                              refine L.rd (rd_move rfl) rfl ?_
                              refine L.rd (rd_eql rfl rfl) rfl ?_
                              refine L.rd (rd_move rfl) rfl ?_
                              first | refine L.partG rfl rfl (fun g457 => ?_) (fun g457 => ?_) | refine L.partGB rfl rfl (fun g457 => ?_) (fun g457 => ?_)
                              ·
                                refine L.no rfl rfl rfl rfl ?_
                                refine L.no rfl rfl rfl rfl ?_
                                refine L.rd (rd_pickT rfl rfl) rfl ?_
                                refine L.rd (rd_move rfl) rfl ?_
                                refine L.no rfl rfl rfl rfl ?_
                                refine L.no rfl rfl rfl rfl ?_
                                refine L.rd (rd_pickT rfl rfl) rfl ?_
                                refine L.nil ?_
                                refine X.sq ?_
                                refine V.condT rfl ?_
                                refine V.seq ?_
                                obtain ⟨a, b, hpra, hpa, hpb2, hwa, hwb⟩ : ∃ a b, prR t' = (k, v, x, 0, 0) :: (prR b ++ prR a) ∧ Rf S pool a l ∧ Rf S pool b r ∧ Wt a ∧ Wt b := by
                                  rcases hcase with ⟨h1, _⟩ | ⟨h1, h⟩ | ⟨h1, h⟩
                                  · omega
                                  · omega
                                  · exact h
                                have hpl2 := congrArg List.length hpra
                                rw [prR_len, List.length_cons, List.length_append, prR_len, prR_len] at hpl2
                                have htpa := tsz_pos a
                                have htpb := tsz_pos b
                                refine V.region ?_
                                refine L.rd (rd_move rfl) rfl ?_
                                refine L.rd (rd_loadN tok rfl rfl rfl hbl10.cells rfl) rfl ?_
                                refine L.ef (e_buildSlice1 (e := 149) (cs := [_, _]) tok rfl rfl rfl rfl rfl rfl rfl rfl rfl (by first | (simp only [size_addB, size_setB, size_drew]; rfl) | rfl) rfl ?_)
                                refine L.ef (e_append (m := 1) tok rfl rfl rfl rfl rfl rfl rfl rfl rfl rfl (hs10.alloc _) (Bl.new _ _ _).cells rfl (by simp [Value.oneCell']) (by unfold maxLen; omega) (by simp only []; omega) (by rw [size_addB]; omega) ?_)
                                rintro v11 w11 ho11 hg11
                                have heM := ((Ext.refl _ w10).addNew 149 [.bool l.1, .int .i64 l.2])
                                have hoo11 := own_apart (own_ext ho10' heM) (hs10.alloc _) rfl hg11
                                have hE11 : Ext w8.heap.size w8 w11 := (hE10.next heM).grown hg11 (by rw [size_addB]; omega) (fun q hq => (own_block_lt hs10 hq).1)
                                have hbm11 : Bl w11 wl.heap.size 149 [.bool r.1, .int .i64 r.2] := ⟨(hg11.block _ (by rw [size_addB]; omega) (fun e => by simp only [Value.ownBlock, Option.some.injEq] at e; have e' : wl.heap.size = gs := e; omega)).trans (hbm10.add _ _).at_⟩
                                have hs11s := hE11.size
                                refine L.rd (rd_assign rfl) rfl ?_
                                refine L.nil ?_
                                refine X.sq ?_
                                refine V.region ?_
                                refine L.rd (rd_move rfl) rfl ?_
                                refine L.rd (rd_loadN tok rfl rfl rfl hbm11.cells rfl) rfl ?_
                                refine L.ef (e_buildSlice1 (e := 149) (cs := [_, _]) tok rfl rfl rfl rfl rfl rfl rfl rfl rfl (by first | (simp only [size_addB, size_setB, size_drew]; rfl) | rfl) rfl ?_)
                                refine L.ef (e_append (m := 1) tok rfl rfl rfl rfl rfl rfl rfl rfl rfl rfl (ho11.alloc _) (Bl.new _ _ _).cells rfl (by simp [Value.oneCell']) (by unfold maxLen; omega) (by simp only []; omega) (by rw [size_addB]; omega) ?_)
                                rintro v12 w12 ho12 hg12
                                have heL := ((Ext.refl _ w11).addNew 149 [.bool r.1, .int .i64 r.2])
                                have hoo12 := own_apart (own_ext hoo11 heL) (ho11.alloc _) rfl hg12
                                have hE12 : Ext w8.heap.size w8 w12 := (hE11.next heL).grown hg12 (by rw [size_addB]; omega) (fun q hq => (own_block_lt ho11 hq).1)
                                refine L.rd (rd_assign rfl) rfl ?_
                                refine L.nil ?_
                                refine X.bk ?_
                                refine X.lp ⟨_, _, by omega, (by repeat' (first | exact trivial | refine ⟨rfl, ?_⟩)), out ++ [(k, v, x, 0, 0)], I' ++ [l] ++ [r], Lq' ++ [a] ++ [b], _, _, rfl, rfl, hoo12, ?_, (hS'.snoc hpa).snoc hpb2, ?_, ?_, hE12⟩
                                · rw [List.length_append, List.length_append, List.flatMap_append, List.flatMap_append]
                                  simpa [drE] using ho12
                                · intro s hs
                                  rcases List.mem_append.1 hs with hs | hs
                                  · rcases List.mem_append.1 hs with hs | hs
                                    · exact hWL s (List.mem_append_left _ hs)
                                    · simp only [List.mem_cons, List.not_mem_nil, or_false] at hs; subst hs; exact hwa
                                  · simp only [List.mem_cons, List.not_mem_nil, or_false] at hs; subst hs; exact hwb
                                · rw [prS_snoc, prS_snoc, ← hpR, hpra]; simp
                              ·
                                refine L.yes rfl rfl ?_
                                refine L.rd (rd_move rfl) rfl ?_
                                refine L.yes rfl rfl ?_
                                refine L.rd (rd_eql rfl rfl) rfl ?_
                                refine L.rd (rd_pickF rfl rfl) rfl ?_
                                refine L.rd (rd_move rfl) rfl ?_
                                first | refine L.partG rfl rfl (fun g461 => ?_) (fun g461 => ?_) | refine L.partGB rfl rfl (fun g461 => ?_) (fun g461 => ?_)
                                ·
                                  refine L.no rfl rfl rfl rfl ?_
                                  refine L.no rfl rfl rfl rfl ?_
                                  refine L.rd (rd_pickT rfl rfl) rfl ?_
                                  refine L.nil ?_
                                  refine X.sq ?_
                                  refine V.condT rfl ?_
                                  refine V.seq ?_
                                  obtain ⟨a, b, hpra, hpa, hpb2, hwa, hwb⟩ : ∃ a b, prR t' = (k, v, x, 0, 0) :: (prR b ++ prR a) ∧ Rf S pool a l ∧ Rf S pool b r ∧ Wt a ∧ Wt b := by
                                    rcases hcase with ⟨h1, _⟩ | ⟨h1, h⟩ | ⟨h1, h⟩
                                    · omega
                                    · omega
                                    · exact h
                                  have hpl2 := congrArg List.length hpra
                                  rw [prR_len, List.length_cons, List.length_append, prR_len, prR_len] at hpl2
                                  have htpa := tsz_pos a
                                  have htpb := tsz_pos b
                                  refine V.region ?_
                                  refine L.rd (rd_move rfl) rfl ?_
                                  refine L.rd (rd_loadN tok rfl rfl rfl hbl10.cells rfl) rfl ?_
                                  refine L.ef (e_buildSlice1 (e := 149) (cs := [_, _]) tok rfl rfl rfl rfl rfl rfl rfl rfl rfl (by first | (simp only [size_addB, size_setB, size_drew]; rfl) | rfl) rfl ?_)
                                  refine L.ef (e_append (m := 1) tok rfl rfl rfl rfl rfl rfl rfl rfl rfl rfl (hs10.alloc _) (Bl.new _ _ _).cells rfl (by simp [Value.oneCell']) (by unfold maxLen; omega) (by simp only []; omega) (by rw [size_addB]; omega) ?_)
                                  rintro v11 w11 ho11 hg11
                                  have heM := ((Ext.refl _ w10).addNew 149 [.bool l.1, .int .i64 l.2])
                                  have hoo11 := own_apart (own_ext ho10' heM) (hs10.alloc _) rfl hg11
                                  have hE11 : Ext w8.heap.size w8 w11 := (hE10.next heM).grown hg11 (by rw [size_addB]; omega) (fun q hq => (own_block_lt hs10 hq).1)
                                  have hbm11 : Bl w11 wl.heap.size 149 [.bool r.1, .int .i64 r.2] := ⟨(hg11.block _ (by rw [size_addB]; omega) (fun e => by simp only [Value.ownBlock, Option.some.injEq] at e; have e' : wl.heap.size = gs := e; omega)).trans (hbm10.add _ _).at_⟩
                                  have hs11s := hE11.size
                                  refine L.rd (rd_assign rfl) rfl ?_
                                  refine L.nil ?_
                                  refine X.sq ?_
                                  refine V.region ?_
                                  refine L.rd (rd_move rfl) rfl ?_
                                  refine L.rd (rd_loadN tok rfl rfl rfl hbm11.cells rfl) rfl ?_
                                  refine L.ef (e_buildSlice1 (e := 149) (cs := [_, _]) tok rfl rfl rfl rfl rfl rfl rfl rfl rfl (by first | (simp only [size_addB, size_setB, size_drew]; rfl) | rfl) rfl ?_)
                                  refine L.ef (e_append (m := 1) tok rfl rfl rfl rfl rfl rfl rfl rfl rfl rfl (ho11.alloc _) (Bl.new _ _ _).cells rfl (by simp [Value.oneCell']) (by unfold maxLen; omega) (by simp only []; omega) (by rw [size_addB]; omega) ?_)
                                  rintro v12 w12 ho12 hg12
                                  have heL := ((Ext.refl _ w11).addNew 149 [.bool r.1, .int .i64 r.2])
                                  have hoo12 := own_apart (own_ext hoo11 heL) (ho11.alloc _) rfl hg12
                                  have hE12 : Ext w8.heap.size w8 w12 := (hE11.next heL).grown hg12 (by rw [size_addB]; omega) (fun q hq => (own_block_lt ho11 hq).1)
                                  refine L.rd (rd_assign rfl) rfl ?_
                                  refine L.nil ?_
                                  refine X.bk ?_
                                  refine X.lp ⟨_, _, by omega, (by repeat' (first | exact trivial | refine ⟨rfl, ?_⟩)), out ++ [(k, v, x, 0, 0)], I' ++ [l] ++ [r], Lq' ++ [a] ++ [b], _, _, rfl, rfl, hoo12, ?_, (hS'.snoc hpa).snoc hpb2, ?_, ?_, hE12⟩
                                  · rw [List.length_append, List.length_append, List.flatMap_append, List.flatMap_append]
                                    simpa [drE] using ho12
                                  · intro s hs
                                    rcases List.mem_append.1 hs with hs | hs
                                    · rcases List.mem_append.1 hs with hs | hs
                                      · exact hWL s (List.mem_append_left _ hs)
                                      · simp only [List.mem_cons, List.not_mem_nil, or_false] at hs; subst hs; exact hwa
                                    · simp only [List.mem_cons, List.not_mem_nil, or_false] at hs; subst hs; exact hwb
                                  · rw [prS_snoc, prS_snoc, ← hpR, hpra]; simp
                                ·
                                  refine L.yes rfl rfl ?_
                                  refine L.rd (rd_move rfl) rfl ?_
                                  refine L.yes rfl rfl ?_
                                  refine L.rd (rd_eql rfl rfl) rfl ?_
                                  refine L.rd (rd_pickF rfl rfl) rfl ?_
                                  refine L.nil ?_
                                  refine X.sq ?_
                                  first | refine V.cond rfl (fun h464 => ?_) (fun h464 => ?_) | refine V.condB rfl (fun h464 => ?_) (fun h464 => ?_)
                                  ·
                                    refine V.seq ?_
                                    obtain ⟨a, b, hpra, hpa, hpb2, hwa, hwb⟩ : ∃ a b, prR t' = (k, v, x, 0, 0) :: (prR b ++ prR a) ∧ Rf S pool a l ∧ Rf S pool b r ∧ Wt a ∧ Wt b := by
                                      rcases hcase with ⟨h1, _⟩ | ⟨h1, h⟩ | ⟨h1, h⟩
                                      · omega
                                      · omega
                                      · exact h
                                    have hpl2 := congrArg List.length hpra
                                    rw [prR_len, List.length_cons, List.length_append, prR_len, prR_len] at hpl2
                                    have htpa := tsz_pos a
                                    have htpb := tsz_pos b
                                    refine V.region ?_
                                    refine L.rd (rd_move rfl) rfl ?_
                                    refine L.rd (rd_loadN tok rfl rfl rfl hbl10.cells rfl) rfl ?_
                                    refine L.ef (e_buildSlice1 (e := 149) (cs := [_, _]) tok rfl rfl rfl rfl rfl rfl rfl rfl rfl (by first | (simp only [size_addB, size_setB, size_drew]; rfl) | rfl) rfl ?_)
                                    refine L.ef (e_append (m := 1) tok rfl rfl rfl rfl rfl rfl rfl rfl rfl rfl (hs10.alloc _) (Bl.new _ _ _).cells rfl (by simp [Value.oneCell']) (by unfold maxLen; omega) (by simp only []; omega) (by rw [size_addB]; omega) ?_)
                                    rintro v11 w11 ho11 hg11
                                    have heM := ((Ext.refl _ w10).addNew 149 [.bool l.1, .int .i64 l.2])
                                    have hoo11 := own_apart (own_ext ho10' heM) (hs10.alloc _) rfl hg11
                                    have hE11 : Ext w8.heap.size w8 w11 := (hE10.next heM).grown hg11 (by rw [size_addB]; omega) (fun q hq => (own_block_lt hs10 hq).1)
                                    have hbm11 : Bl w11 wl.heap.size 149 [.bool r.1, .int .i64 r.2] := ⟨(hg11.block _ (by rw [size_addB]; omega) (fun e => by simp only [Value.ownBlock, Option.some.injEq] at e; have e' : wl.heap.size = gs := e; omega)).trans (hbm10.add _ _).at_⟩
                                    have hs11s := hE11.size
                                    refine L.rd (rd_assign rfl) rfl ?_
                                    refine L.nil ?_
                                    refine X.sq ?_
                                    refine V.region ?_
                                    refine L.rd (rd_move rfl) rfl ?_
                                    refine L.rd (rd_loadN tok rfl rfl rfl hbm11.cells rfl) rfl ?_
                                    refine L.ef (e_buildSlice1 (e := 149) (cs := [_, _]) tok rfl rfl rfl rfl rfl rfl rfl rfl rfl (by first | (simp only [size_addB, size_setB, size_drew]; rfl) | rfl) rfl ?_)
                                    refine L.ef (e_append (m := 1) tok rfl rfl rfl rfl rfl rfl rfl rfl rfl rfl (ho11.alloc _) (Bl.new _ _ _).cells rfl (by simp [Value.oneCell']) (by unfold maxLen; omega) (by simp only []; omega) (by rw [size_addB]; omega) ?_)
                                    rintro v12 w12 ho12 hg12
                                    have heL := ((Ext.refl _ w11).addNew 149 [.bool r.1, .int .i64 r.2])
                                    have hoo12 := own_apart (own_ext hoo11 heL) (ho11.alloc _) rfl hg12
                                    have hE12 : Ext w8.heap.size w8 w12 := (hE11.next heL).grown hg12 (by rw [size_addB]; omega) (fun q hq => (own_block_lt ho11 hq).1)
                                    refine L.rd (rd_assign rfl) rfl ?_
                                    refine L.nil ?_
                                    refine X.bk ?_
                                    refine X.lp ⟨_, _, by omega, (by repeat' (first | exact trivial | refine ⟨rfl, ?_⟩)), out ++ [(k, v, x, 0, 0)], I' ++ [l] ++ [r], Lq' ++ [a] ++ [b], _, _, rfl, rfl, hoo12, ?_, (hS'.snoc hpa).snoc hpb2, ?_, ?_, hE12⟩
                                    · rw [List.length_append, List.length_append, List.flatMap_append, List.flatMap_append]
                                      simpa [drE] using ho12
                                    · intro s hs
                                      rcases List.mem_append.1 hs with hs | hs
                                      · rcases List.mem_append.1 hs with hs | hs
                                        · exact hWL s (List.mem_append_left _ hs)
                                        · simp only [List.mem_cons, List.not_mem_nil, or_false] at hs; subst hs; exact hwa
                                      · simp only [List.mem_cons, List.not_mem_nil, or_false] at hs; subst hs; exact hwb
                                    · rw [prS_snoc, prS_snoc, ← hpR, hpra]; simp
                                  ·
                                    refine V.skip ?_
                                    refine X.bk ?_
                                    have hpra : prR t' = [(k, v, x, 0, 0)] := by
                                      rcases hcase with ⟨_, h⟩ | ⟨h1, _⟩ | ⟨h1, _⟩
                                      · exact h
                                      · omega
                                      · omega
                                    refine X.lp ⟨_, _, by omega, (by repeat' (first | exact trivial | refine ⟨rfl, ?_⟩)), out ++ [(k, v, x, 0, 0)], I', Lq', _, _, rfl, rfl, ho10', hs10, hS', ?_, ?_, hE10⟩
                                    · intro s hs; exact hWL s (List.mem_append_left _ hs)
                                    · rw [← hpR, hpra]; simp
                      ·
                        exfalso
                        have hIz : I.length ≤ 0 := by omega
                        omega
                    ·
                      refine L.no rfl rfl rfl rfl ?_
                      refine L.no rfl rfl rfl rfl ?_
                      refine L.no rfl rfl rfl rfl ?_
                      refine L.no rfl rfl rfl rfl ?_
                      refine L.rd (rd_pickF rfl rfl) rfl ?_
                      refine L.nil ?_
                      refine X.sq ?_
                      refine V.condF rfl ?_
                      refine V.exit ?_
                      refine X.sqExit ?_
                      refine X.lpExit ?_
                      refine X.bkHere ?_
                      refine X.sq ?_
                      refine V.seq ?_
                      have hI0 : I = [] := List.eq_nil_of_length_eq_zero (by omega)
                      subst hI0
                      have hL0 : Lq = [] := List.eq_nil_of_length_eq_zero hSn
                      subst hL0
                      rw [prS_nil, List.append_nil] at hpR
                      have htc := tsz_pos (dT y t)
                      have holn : out.length = tsz (dT y t) := by rw [hpR, prR_len]
                      obtain ⟨g, cap, sp, hv, hob, hBg, hgl, hbl, hsz, hle, hback⟩ := own_put ndE_len ho (k := 0) (by omega)
                      simp only [Value.slice.injEq] at hv
                      obtain ⟨rfl, -, rfl⟩ := hv
                      have hflc := flat_len (dT y t) 0
                      have hr9 := (hE8.next hE9).bl hrr.lt hrr
                      have hrltr := hrr.lt
                      refine V.region ?_
                      refine L.rd (rd_move rfl) rfl ?_
                      refine L.ef (e_call rfl (revN_ok out g oc sp _ hbl (by omega)) rfl ?_)
                      rintro _ w10 ⟨hb10, hR10⟩
                      rw [hpR, prR_rev _ 0] at hb10
                      refine L.nil ?_
                      refine X.sq ?_
                      refine V.seq ?_
                      refine V.region ?_
                      refine L.rd (rd_move rfl) rfl ?_
                      refine L.ef (e_call rfl (layout_ok (dT y t) hdw (by omega) g oc out.length (by omega) sp _ hb10) rfl ?_)
                      rintro _ w11 ⟨hb11, hR11⟩
                      have hs8' := hE8.size
                      have hr11 := (hr9.rg' hR10 (.inl (by omega))).rg' hR11 (.inl (by omega))
                      have hown := hback w11 (flat (dT y t) 0) (by omega) hb11
                      have hE11 : Ext w.heap.size w w11 := (hEr9.nextR hR10 (by omega)).nextR hR11 (by omega)
                      refine L.nil ?_
                      refine X.sq ?_
                      refine V.seq ?_
                      refine V.region ?_
                      refine L.rd (rd_move rfl) rfl ?_
                      refine L.rd (rd_move rfl) rfl ?_
                      refine L.rd (rd_lenSlice tok rfl rfl rfl) rfl ?_
                      (refine L.rd (rd_sub3 rfl rfl ?_) rfl ?_; omega)
                      refine L.rd (rd_build (out := [_, _]) tok rfl rfl rfl rfl rfl) rfl ?_
                      refine L.ef (e_store (vs := [_, _]) tok rfl rfl rfl rfl hr11 rfl (by simp [Value.oneCell']) (by simp) ?_)
                      refine L.rd (rd_assign rfl) rfl ?_
                      refine L.nil ?_
                      refine X.sq ?_
                      refine V.ret ?_
                      refine ret_c1 tok Yaam.results53 rfl rfl rfl rfl (Bl.cells (hr11.set _ _)) rfl ?_
                      refine ⟨_, flat (dT y t) 0, _, rfl, ?_, fun t2 ht2 => ?_, fun hn => (by cases hn), hE11.set (by omega) _ _⟩
                      · rw [hflc, ← holn]
                        refine own_low (own_same hown fun q hq => ?_) (by omega : w.heap.size ≤ w8.heap.size)
                        have := (own_block_lt hown hq).1
                        exact (Rg.set (w := w11) (lo := w.heap.size + 1) (hi := w.heap.size + 2) (by omega) 34 _).block q (own_block_lt hown hq).2 (by omega)
                      · simp only [Option.some.injEq] at ht2
                        subst ht2
                        exact ⟨rfl, by omega⟩
end Go.Proofs.YbxaawGreat
