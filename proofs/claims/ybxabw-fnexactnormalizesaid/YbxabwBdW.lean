/-
  spec.boundsOK, walked.
-/
import Derived.Test.YbxabwNmP
set_option linter.unusedVariables false
set_option linter.unusedSimpArgs false
set_option maxRecDepth 10000
namespace Go.Proofs.Ybxabw
open Go.Mw

theorem boundsOK_ok (R : List MT) (hV : Vl R) (v : Value) (w : World) (hS : Sl w v R) : Ret Yabm.prog 90 [v] w fun r w' => r = .bool (nfOk R) ∧ Ext w.heap.size w w' := by
  obtain ⟨ra, rc, rfl⟩ : ∃ a c, v = .slice a R.length c := by
    rcases hS with ⟨rfl, rfl⟩ | ⟨b, o, c, rfl, -, -⟩
    · exact ⟨_, _, rfl⟩
    · exact ⟨_, _, rfl⟩
  refine enter1 Yabm.func90 Yabm.ntmps90 (by kernel_rfl) rfl rfl ?_
  refine V.seq ?_
  refine V.region ?_
  refine L.rd (rd_assign rfl) rfl ?_
  refine L.nil ?_
  refine X.sq ?_
  refine V.seq ?_
  refine V.seq ?_
  refine V.region ?_
  refine L.rd (rd_move rfl) rfl ?_
  refine L.rd (rd_lenSlice tok rfl rfl rfl) rfl ?_
  refine L.rd (rd_gtr rfl rfl) rfl ?_
  refine L.nil ?_
  refine X.sq ?_
  first | refine V.cond rfl (fun h7 => ?_) (fun h7 => ?_) | refine V.condB rfl (fun h7 => ?_) (fun h7 => ?_)
  ·
    refine V.seq ?_
    refine V.region ?_
    refine L.rd (rd_assign rfl) rfl ?_
    refine L.nil ?_
    refine X.sq ?_
    refine V.ret ?_
    refine X.sqRet ?_
    refine ret_1 Yabm.results90 rfl ?_
    exact ⟨by rw [nfOk_len (by omega)], Ext.refl _ _⟩
  ·
    refine V.skip ?_
    refine X.sq ?_
    refine V.seq ?_
    refine V.seq ?_
    refine V.region ?_
    refine L.rd (rd_move rfl) rfl ?_
    refine L.rd (rd_lenSlice tok rfl rfl rfl) rfl ?_
    refine L.rd (rd_move rfl) rfl ?_
    refine L.nil ?_
    refine X.sq ?_
    refine V.block ?_
    refine V.loop (fun m l wr => ∃ (k : Nat), l = [(8, .slice ra R.length rc), (9, .int .i64 R.length), (10, .int .i64 k)] ∧ m = R.length - k ∧ k ≤ R.length ∧ Ext w.heap.size w wr ∧ (∀ t ∈ R.take k, isum t.2 ≤ 1000000)) ?_ ?_
    ·
      exact ⟨_, _, (by repeat' (first | exact trivial | refine ⟨rfl, ?_⟩)), 0, rfl, rfl, by omega, Ext.refl _ _, fun t ht => by simp at ht⟩
    ·
      rintro m l wr ⟨k, rfl, rfl, hk, hE, hall⟩
      have hwr := hE.size
      refine V.seq ?_
      refine V.region ?_
      refine L.rd (rd_lss rfl rfl) rfl ?_
      refine L.nil ?_
      refine X.sq ?_
      refine V.seq ?_
      first | refine V.cond rfl (fun h11 => ?_) (fun h11 => ?_) | refine V.condB rfl (fun h11 => ?_) (fun h11 => ?_)
      ·
        obtain ⟨rb, ro, rc', hrv, hrc, hcs⟩ := hS.resolve_left (fun h => by rw [h.2] at h11; simp at h11; omega)
        simp only [Value.slice.injEq] at hrv
        obtain ⟨rfl, -, rfl⟩ := hrv
        obtain ⟨⟨c, u⟩, ht⟩ := nth_of_lt R k (by omega)
        have huu := hV _ (List.mem_of_getElem? ht)
        simp only at huu
        have hul := huu.len
        have hcx := mt_at (hcs.le hE.leC) ht
        refine V.skip ?_
        refine X.sq ?_
        refine V.seq ?_
        refine V.block ?_
        refine V.seq ?_
        refine V.region ?_
        (refine L.rd (rd_indexSlice (sz := 27) tok rfl rfl rfl rfl rfl rfl rfl ?_) rfl ?_; omega)
        refine L.rd (rd_loadN tok rfl rfl rfl hcx (mtE_len _).symm) rfl ?_
        refine L.ef (e_alloc (cs := .int .i64 0 :: iC .i32 z26) tok rfl rfl (by first | (simp only [size_addB, size_setB, size_drew]; rfl) | rfl) rfl ?_)
        refine L.ef (e_store (vs := mtE (c, u)) tok rfl rfl rfl rfl (cs := .int .i64 0 :: iC .i32 z26) (by (repeat (first | assumption | (refine Bl.new' ?_ _ _; first | with_reducible rfl | (simp only [size_addB, size_setB, size_drew]; done)) | apply Bl.add | apply Bl.drew | (apply Bl.setNe; omega) | (refine Bl.set' ?_ _ _; (try simp only [size_addB, size_setB, size_drew]); omega)))) (mtE_len _) (mtE_one _) (by rw [mtE_len]; simp [iC, z26]) ?_)
        (rw [putAll _ _ (by rw [mtE_len]; simp [iC, z26])])
        refine L.nil ?_
        refine X.sq ?_
        refine V.seq ?_
        generalize hw5 : setB _ _ _ _ = w5
        have hbt : Bl w5 wr.heap.size 147 (mtE (c, u)) := by rw [← hw5]; refine Bl.set' ?_ _ _; rw [size_addB]; omega
        have hE5 : Ext wr.heap.size wr w5 := by rw [← hw5]; exact ((Ext.refl _ _).addNew _ _).set (Nat.le_refl _) _ _
        replace hE5 := hE.next hE5
        refine V.region ?_
        refine L.rd (rd_fieldAddr tok rfl rfl rfl rfl rfl rfl) rfl ?_
        refine L.rd (rd_loadN tok rfl rfl rfl (mt_cells hbt.cells hul) (huu.c26 _)) rfl ?_
        refine L.ef (e_call rfl (degOf_ok u huu _) rfl ?_)
        rintro _ w6 ⟨rfl, he6⟩
        have hE6 := hE5.next he6
        refine L.rd (rd_gtr rfl rfl) rfl ?_
        refine L.nil ?_
        refine X.sq ?_
        first | refine V.cond rfl (fun h17 => ?_) (fun h17 => ?_) | refine V.condB rfl (fun h17 => ?_) (fun h17 => ?_)
        ·
          refine V.seq ?_
          refine V.region ?_
          refine L.rd (rd_assign rfl) rfl ?_
          refine L.nil ?_
          refine X.sq ?_
          refine V.ret ?_
          refine X.bkRet ?_
          refine X.sqRet ?_
          refine X.lpRet ?_
          refine X.bkRet ?_
          refine X.sqRet ?_
          refine ret_1 Yabm.results90 rfl ?_
          exact ⟨by rw [nfOk_deg ht (by simp only []; omega)], hE6⟩
        ·
          refine V.skip ?_
          refine X.bk ?_
          refine X.sq ?_
          refine V.region ?_
          (refine L.rd (rd_add3 rfl rfl ?_) rfl ?_; omega)
          refine L.rd (rd_move rfl) rfl ?_
          refine L.nil ?_
          refine X.lp ⟨_, _, by omega, (by repeat' (first | exact trivial | refine ⟨rfl, ?_⟩)), k + 1, rfl, rfl, by omega, hE6, fun t htm => ?_⟩
          rw [take_snoc ht] at htm
          rcases List.mem_append.1 htm with htm | htm
          · exact hall t htm
          · simp at htm; subst htm; simp only []; omega
      ·
        refine V.exit ?_
        refine X.sqExit ?_
        refine X.lpExit ?_
        refine X.bkHere ?_
        refine X.sq ?_
        refine V.seq ?_
        refine V.region ?_
        refine L.rd (rd_assign rfl) rfl ?_
        refine L.nil ?_
        refine X.sq ?_
        refine V.ret ?_
        refine ret_1 Yabm.results90 rfl ?_
        refine ⟨?_, hE⟩
        rw [List.take_of_length_le (by omega)] at hall
        rw [nfOk_true (by omega) hall]
end Go.Proofs.Ybxabw
