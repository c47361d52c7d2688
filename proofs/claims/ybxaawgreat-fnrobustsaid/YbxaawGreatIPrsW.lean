/-
  The implementation's parser, walked.
-/
import Derived.Test.YbxaawGreatPrsM
import Derived.Test.YbxaawGreatTermW
set_option linter.unusedVariables false
set_option linter.unusedSimpArgs false
set_option maxRecDepth 10000
namespace Go.Proofs.YbxaawGreat
open Go.Mw
abbrev IPq := IP 70 80
abbrev IPo := IPost 70 80

theorem ikind_ok {bp : Nat} {tv : Value} {ts r : List TK} {nv : Value} {ns : List Nd} {d : Nat} (w : World) (h : IPq bp tv ts w r nv ns d) : Ret Yaam.prog 78 [.pointer (some ⟨bp, 0, none⟩)] w fun v w' => v = .int .i64 (hk r) ∧ Ext w.heap.size w w' := by
  have hb := h.bl
  obtain ⟨ta, tc, rfl, hft⟩ := h.tk.form
  have hl := h.sx.length_le
  refine enter1 Yaam.func78 Yaam.ntmps78 (by kernel_rfl) rfl rfl ?_
  refine V.seq ?_
  refine V.region ?_
  refine L.rd (rd_assign rfl) rfl ?_
  refine L.nil ?_
  refine X.sq ?_
  refine V.seq ?_
  refine V.seq ?_
  refine V.draw [] mixed ?_
  refine D.take 0 [true, false, false, false, false, false, false, false, false, false] (.sq (.sq .bd)) rfl (rd_move rfl) rfl (by kernel_rfl) rfl (LeC.drew _) ?_
  refine D.take 1 [true, true, false, false, false, false, false, false, false, false] (.sq (.sq .bd)) rfl (rd_nilCheck rfl) rfl (by kernel_rfl) rfl (LeC.drew _) ?_
  refine D.take 2 [true, true, true, false, false, false, false, false, false, false] (.sq (.sq .bd)) rfl (rd_fieldAddr tok rfl rfl rfl rfl rfl rfl) rfl (by kernel_rfl) rfl (LeC.drew _) ?_
  refine D.take 3 [true, true, true, true, false, false, false, false, false, false] (.sq (.sq .bd)) rfl (rd_load1 tok rfl rfl rfl (hb.cell (i := 1) rfl)) rfl (by kernel_rfl) rfl (LeC.drew _) ?_
  refine D.take 4 [true, true, true, true, true, false, false, false, false, false] (.sq (.sq .bd)) rfl (rd_move rfl) rfl (by kernel_rfl) rfl (LeC.drew _) ?_
  refine D.take 5 [true, true, true, true, true, true, false, false, false, false] (.sq (.sq .bd)) rfl (rd_nilCheck rfl) rfl (by kernel_rfl) rfl (LeC.drew _) ?_
  refine D.take 6 [true, true, true, true, true, true, true, false, false, false] (.sq (.sq .bd)) rfl (rd_fieldAddr tok rfl rfl rfl rfl rfl rfl) rfl (by kernel_rfl) rfl (LeC.drew _) ?_
  refine D.take 7 [true, true, true, true, true, true, true, true, false, false] (.sq (.sq .bd)) rfl (rd_load1 tok rfl rfl rfl (hb.cell rfl)) rfl (by kernel_rfl) rfl (LeC.drew _) ?_
  refine D.take 8 [true, true, true, true, true, true, true, true, true, false] (.sq (.sq .bd)) rfl (rd_lenSlice tok rfl rfl rfl) rfl (by kernel_rfl) rfl (LeC.drew _) ?_
  refine D.take 9 [true, true, true, true, true, true, true, true, true, true] (.sq (.sq .bd)) rfl (rd_lss rfl rfl) rfl (by kernel_rfl) rfl (LeC.drew _) ?_
  refine D.done (by kernel_rfl) ?_
  refine X.sq ?_
  first | refine V.cond rfl (fun h12 => ?_) (fun h12 => ?_) | refine V.condB rfl (fun h12 => ?_) (fun h12 => ?_)
  ·
    obtain ⟨tb, to, rfl, -, -, hct⟩ := hft.resolve_left (by omega)
    have hg := sx_get h.sx (.inr (by omega))
    have hcf := (hct.le (LeC.drew _)).sub ((ts.length - r.length) * 2) _ (pr_get ts _ _ hg)
    refine V.seq ?_
    refine V.draw [] mixed ?_
    refine D.take 0 [true, false, false, false, false, false, false, false, false, false, false, false] (.sq (.sq .bd)) rfl (rd_move rfl) rfl (by kernel_rfl) rfl (LeC.drew _) ?_
    refine D.take 1 [true, true, false, false, false, false, false, false, false, false, false, false] (.sq (.sq .bd)) rfl (rd_nilCheck rfl) rfl (by kernel_rfl) rfl (LeC.drew _) ?_
    refine D.take 2 [true, true, true, false, false, false, false, false, false, false, false, false] (.sq (.sq .bd)) rfl (rd_fieldAddr tok rfl rfl rfl rfl rfl rfl) rfl (by kernel_rfl) rfl (LeC.drew _) ?_
    refine D.take 3 [true, true, true, true, false, false, false, false, false, false, false, false] (.sq (.sq .bd)) rfl (rd_load1 tok rfl rfl rfl (hb.drew.cell rfl)) rfl (by kernel_rfl) rfl (LeC.drew _) ?_
    refine D.take 4 [true, true, true, true, true, false, false, false, false, false, false, false] (.sq (.sq .bd)) rfl (rd_move rfl) rfl (by kernel_rfl) rfl (LeC.drew _) ?_
    refine D.take 5 [true, true, true, true, true, true, false, false, false, false, false, false] (.sq (.sq .bd)) rfl (rd_nilCheck rfl) rfl (by kernel_rfl) rfl (LeC.drew _) ?_
    refine D.take 6 [true, true, true, true, true, true, true, false, false, false, false, false] (.sq (.sq .bd)) rfl (rd_fieldAddr tok rfl rfl rfl rfl rfl rfl) rfl (by kernel_rfl) rfl (LeC.drew _) ?_
    refine D.take 7 [true, true, true, true, true, true, true, true, false, false, false, false] (.sq (.sq .bd)) rfl (rd_load1 tok rfl rfl rfl (hb.drew.cell (i := 1) rfl)) rfl (by kernel_rfl) rfl (LeC.drew _) ?_
    (refine D.take 8 [true, true, true, true, true, true, true, true, true, false, false, false] (.sq (.sq .bd)) rfl (rd_indexSlice (sz := 2) tok rfl rfl rfl rfl rfl rfl rfl ?_) rfl (by kernel_rfl) rfl (LeC.drew _) ?_; omega)
    refine D.take 9 [true, true, true, true, true, true, true, true, true, true, false, false] (.sq (.sq .bd)) rfl (rd_fieldAddr tok rfl rfl rfl rfl rfl rfl) rfl (by kernel_rfl) rfl (LeC.drew _) ?_
    refine D.take 10 [true, true, true, true, true, true, true, true, true, true, true, false] (.sq (.sq .bd)) rfl (rd_load1 tok rfl rfl rfl (cells_at (i := 0) hcf rfl (by simp))) rfl (by kernel_rfl) rfl (LeC.drew _) ?_
    refine D.take 11 [true, true, true, true, true, true, true, true, true, true, true, true] (.sq (.sq .bd)) rfl (rd_assign rfl) rfl (by kernel_rfl) rfl (LeC.drew _) ?_
    refine D.done (by kernel_rfl) ?_
    refine X.sq ?_
    refine V.ret ?_
    refine X.sqRet ?_
    refine ret_1 Yaam.results78 rfl ?_
    exact ⟨rfl, (Ext.refl _ _).drew.drew⟩
  ·
    refine V.skip ?_
    refine X.sq ?_
    refine V.seq ?_
    refine V.region ?_
    refine L.rd (rd_assign rfl) rfl ?_
    refine L.nil ?_
    refine X.sq ?_
    refine V.ret ?_
    refine ret_1 Yaam.results78 rfl ?_
    have h0 : r = [] := List.eq_nil_of_length_eq_zero (by omega)
    subst h0
    exact ⟨rfl, (Ext.refl _ _).drew⟩

theorem iadd_nd {bp : Nat} {tv : Value} {ts r : List TK} {nv : Value} {ns : List Nd} {d : Nat} (nd : Nd) (w : World) (h : IPq bp tv ts w r nv ns d) : Ret Yaam.prog 79 [.pointer (some ⟨bp, 0, none⟩), .agg (ndE nd).toArray] w (APost 70 80 bp tv ts r ns d nd w) := by
  obtain ⟨k, v, x, l, r2⟩ := nd
  obtain ⟨na, nc, rfl⟩ := own_form h.own
  refine enter2 Yaam.func79 Yaam.ntmps79 (by kernel_rfl) rfl rfl ?_
  refine V.seq ?_
  refine V.region ?_
  refine L.ef (e_box (cs := [_, _, _, _, _]) rfl rfl (by first | (simp only [size_addB, size_setB, size_drew]; rfl) | rfl) rfl ?_)
  refine L.rd (rd_assign rfl) rfl ?_
  refine L.rd (rd_assign rfl) rfl ?_
  refine L.nil ?_
  refine X.sq ?_
  refine V.seq ?_
  refine V.seq ?_
  have hnd := Bl.new w 80 (ndE (k, v, x, l, r2))
  have hE := (Ext.refl _ w).addNew 80 (ndE (k, v, x, l, r2))
  have hnd' : Bl (addB w 80 [.int .i64 k, .int .i64 v, .int .i64 x, .int .i64 l, .int .i64 r2]) w.heap.size 80 (ndE (k, v, x, l, r2)) := hnd
  replace hE : Ext w.heap.size w (addB w 80 [.int .i64 k, .int .i64 v, .int .i64 x, .int .i64 l, .int .i64 r2]) := hE
  clear hnd
  have hbp := h.bl.lt
  generalize addB w 80 [.int .i64 k, .int .i64 v, .int .i64 x, .int .i64 l, .int .i64 r2] = w0 at hnd' hE ⊢
  have h0 := h.ext hE
  have hs0 := hE.size
  have hE0 : Ext bp w w0 := hE.low (by omega)
  refine V.region ?_
  refine L.rd (rd_move rfl) rfl ?_
  refine L.rd (rd_nilCheck rfl) rfl ?_
  refine L.rd (rd_fieldAddr tok rfl rfl rfl rfl rfl rfl) rfl ?_
  refine L.rd (rd_load1 tok rfl rfl rfl (h0.bl.cell (i := 2) rfl)) rfl ?_
  refine L.rd (rd_lenSlice tok rfl rfl rfl) rfl ?_
  refine L.rd (rd_geq rfl rfl) rfl ?_
  refine L.nil ?_
  refine X.sq ?_
  first | refine V.cond rfl (fun h11 => ?_) (fun h11 => ?_) | refine V.condB rfl (fun h11 => ?_) (fun h11 => ?_)
  ·
    refine V.seq ?_
    refine V.region ?_
    refine L.rd (rd_assign rfl) rfl ?_
    refine L.rd (rd_assign rfl) rfl ?_
    refine L.nil ?_
    refine X.sq ?_
    refine V.ret ?_
    refine X.sqRet ?_
    refine ret_2 Yaam.results79 rfl rfl ?_
    exact ⟨_, by rw [decide_eq_false (by omega)], hE0, fun e => by omega⟩
  ·
    refine V.skip ?_
    refine X.sq ?_
    refine V.seq ?_
    refine V.draw [7, 10] mixed ?_
    refine D.takeP 0 [true, false, false, false, false, false, false, false, false, false, false] (.sq .bd) rfl (fun _ => rd_move rfl) rfl (by kernel_rfl) rfl ?_
    refine D.takeP 1 [true, true, false, false, false, false, false, false, false, false, false] (.sq .bd) rfl (fun _ => rd_move rfl) rfl (by kernel_rfl) rfl ?_
    refine D.takeP 2 [true, true, true, false, false, false, false, false, false, false, false] (.sq .bd) rfl (fun _ => rd_nilCheck rfl) rfl (by kernel_rfl) rfl ?_
    refine D.takeP 3 [true, true, true, true, false, false, false, false, false, false, false] (.sq .bd) rfl (fun _ => rd_fieldAddr tok rfl rfl rfl rfl rfl rfl) rfl (by kernel_rfl) rfl ?_
    refine D.takeW 4 [true, true, true, true, true, false, false, false, false, false, false] (.sq .bd) rfl (rd_load1 tok rfl rfl rfl (h0.bl.cell (i := 2) rfl)) rfl (by kernel_rfl) rfl (LeC.drew _) ?_
    refine D.takeW 5 [true, true, true, true, true, true, false, false, false, false, false] (.sq .bd) rfl (rd_loadN tok rfl rfl rfl hnd'.cells rfl) rfl (by kernel_rfl) rfl (LeC.drew _) ?_
    refine D.one 6 [true, true, true, true, true, true, true, false, false, false, false] rfl (by kernel_rfl) rfl (e_buildSlice1 (e := 80) (cs := ndE (k, v, x, l, r2)) tok rfl rfl rfl rfl rfl rfl rfl rfl rfl (by first | (simp only [size_addB, size_setB, size_drew]; rfl) | rfl) rfl ?_)
    have heb := ((Ext.refl _ w0).drew).addNew 80 (ndE (k, v, x, l, r2))
    have hleb := heb.leC
    refine ⟨fun _ => hleb, ?_⟩
    refine D.one 7 [true, true, true, true, true, true, true, true, false, false, false] rfl (by kernel_rfl) rfl (e_append (m := 1) tok rfl rfl rfl rfl rfl rfl rfl rfl rfl rfl (own_ext h0.own heb) (Bl.new _ _ _).cells (ndE_len _) (ndE_one _) (by unfold maxLen; omega) (by simp only []; omega) (by rw [size_addB, size_drew]; omega) ?_)
    rintro v6 w6 ho6 hg6
    have hown := own_ext h0.own heb
    have he6 : Ext (bp + 1) w0 w6 := (heb.low (by omega)).grown hg6 (by rw [size_addB, size_drew]; omega) (fun q hq => (own_block_lt hown hq).1)
    have hb6 := (heb.bl h0.bl.lt h0.bl).off_own hown rfl hg6
    have ht6 : Rr w6 0 bp 2 tv ts.length (prC ts) := h0.tk.low (he6.low (by omega))
    obtain ⟨na6, nc6, rfl⟩ := own_form ho6
    have ho6' : w6.ownsRow (bp + 1) 80 5 (.slice na6 (ns.length + 1) nc6) (ns ++ [(k, v, x, l, r2)]).length ((ns ++ [(k, v, x, l, r2)]).flatMap ndE) := by
      rw [List.length_append, List.flatMap_append]
      simpa using ho6
    refine ⟨fun h => (by cases h), ?_⟩
    refine D.takeP 8 [true, true, true, true, true, true, true, true, true, false, false] (.sq .bd) rfl (fun _ => rd_nilCheck rfl) rfl (by kernel_rfl) rfl ?_
    refine D.takeP 9 [true, true, true, true, true, true, true, true, true, true, false] (.sq .bd) rfl (fun _ => rd_fieldAddr tok rfl rfl rfl rfl rfl rfl) rfl (by kernel_rfl) rfl ?_
    refine D.one 10 [true, true, true, true, true, true, true, true, true, true, true] rfl (by kernel_rfl) rfl (e_store (vs := [_]) tok rfl rfl rfl rfl hb6 rfl (by simp [Value.oneCell']) (by simp) ⟨fun h => (by cases h), ?_⟩)
    refine D.done (by kernel_rfl) ?_
    refine X.sq ?_
    refine V.seq ?_
    generalize hw7 : setB _ _ _ _ = w7
    obtain ⟨hip, he7⟩ : IPq bp tv ts w7 r (.slice na6 (ns.length + 1) nc6) (ns ++ [(k, v, x, l, r2)]) d ∧ Ext bp w6 w7 := IP.made hb6 ho6' ht6 h.sx hw7
    refine V.region ?_
    refine L.rd (rd_move rfl) rfl ?_
    refine L.rd (rd_nilCheck rfl) rfl ?_
    refine L.rd (rd_fieldAddr tok rfl rfl rfl rfl rfl rfl) rfl ?_
    refine L.rd (rd_load1 tok rfl rfl rfl (hip.bl.cell (i := 2) rfl)) rfl ?_
    refine L.rd (rd_lenSlice tok rfl rfl rfl) rfl ?_
    (refine L.rd (rd_sub3 rfl rfl ?_) rfl ?_; omega)
    refine L.rd (rd_assign rfl) rfl ?_
    refine L.rd (rd_assign rfl) rfl ?_
    refine L.nil ?_
    refine X.sq ?_
    refine V.ret ?_
    refine ret_2 Yaam.results79 rfl rfl ?_
    exact ⟨_, by rw [decide_eq_true (by omega)], (hE0.trans (he6.low (by omega))).trans he7, fun _ => ⟨by omega, _, hip⟩⟩
end Go.Proofs.YbxaawGreat
