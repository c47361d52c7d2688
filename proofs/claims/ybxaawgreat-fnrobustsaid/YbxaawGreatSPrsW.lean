/-
  The model's parser, walked.
-/
import Derived.Test.YbxaawGreatPrsM2
import Derived.Test.YbxaawGreatTermW
set_option linter.unusedVariables false
set_option linter.unusedSimpArgs false
set_option maxRecDepth 10000
namespace Go.Proofs.YbxaawGreat
open Go.Mw
abbrev SPq := SP 74
abbrev SPo := SPost 74 119

theorem speek_ok {bp : Nat} {tv : Value} {ts r : List TK} (w : World) (h : SPq bp tv ts w r) : Ret Yaam.prog 81 [.pointer (some ⟨bp, 0, none⟩)] w fun v w' => v = .int .i64 (hk r) ∧ Ext w.heap.size w w' := by
  have hb := h.bl
  obtain ⟨ta, tc, rfl, hft⟩ := h.tk.form
  have hl := h.sx.length_le
  refine enter1 Yaam.func81 Yaam.ntmps81 (by kernel_rfl) rfl rfl ?_
  refine V.seq ?_
  refine V.region ?_
  refine L.rd (rd_assign rfl) rfl ?_
  refine L.nil ?_
  refine X.sq ?_
  refine V.seq ?_
  refine V.seq ?_
  refine V.draw [] mixed ?_
  refine D.take 0 [true, false, false, false, false, false, false, false, false, false] (.sq (.sq .bd)) rfl (rd_move rfl) rfl (by kernel_rfl) rfl (LeC.drew _) ?_
  refine D.take 1 [true, true, false, false, false, false, false, false, false, false] (.sq (.sq .bd)) rfl (rd_nilCheck rfl) rfl (by kernel_rfl) rfl (LeC.drew _) ?_
  refine D.take 2 [true, true, true, false, false, false, false, false, false, false] (.sq (.sq .bd)) rfl (rd_fieldAddr tok rfl rfl rfl rfl rfl rfl) rfl (by kernel_rfl) rfl (LeC.drew _) ?_
  refine D.take 3 [true, true, true, true, false, false, false, false, false, false] (.sq (.sq .bd)) rfl (rd_load1 tok rfl rfl rfl (hb.cell (i := 1) rfl)) rfl (by kernel_rfl) rfl (LeC.drew _) ?_
  refine D.take 4 [true, true, true, true, true, false, false, false, false, false] (.sq (.sq .bd)) rfl (rd_move rfl) rfl (by kernel_rfl) rfl (LeC.drew _) ?_
  refine D.take 5 [true, true, true, true, true, true, false, false, false, false] (.sq (.sq .bd)) rfl (rd_nilCheck rfl) rfl (by kernel_rfl) rfl (LeC.drew _) ?_
  refine D.take 6 [true, true, true, true, true, true, true, false, false, false] (.sq (.sq .bd)) rfl (rd_fieldAddr tok rfl rfl rfl rfl rfl rfl) rfl (by kernel_rfl) rfl (LeC.drew _) ?_
  refine D.take 7 [true, true, true, true, true, true, true, true, false, false] (.sq (.sq .bd)) rfl (rd_load1 tok rfl rfl rfl (hb.cell rfl)) rfl (by kernel_rfl) rfl (LeC.drew _) ?_
  refine D.take 8 [true, true, true, true, true, true, true, true, true, false] (.sq (.sq .bd)) rfl (rd_lenSlice tok rfl rfl rfl) rfl (by kernel_rfl) rfl (LeC.drew _) ?_
  refine D.take 9 [true, true, true, true, true, true, true, true, true, true] (.sq (.sq .bd)) rfl (rd_lss rfl rfl) rfl (by kernel_rfl) rfl (LeC.drew _) ?_
  refine D.done (by kernel_rfl) ?_
  refine X.sq ?_
  first | refine V.cond rfl (fun h12 => ?_) (fun h12 => ?_) | refine V.condB rfl (fun h12 => ?_) (fun h12 => ?_)
  ·
    obtain ⟨tb, to, rfl, -, -, hct⟩ := hft.resolve_left (by omega)
    have hg := sx_get h.sx (.inr (by omega))
    have hcf := (hct.le (LeC.drew _)).sub ((ts.length - r.length) * 2) _ (pr_get ts _ _ hg)
    refine V.seq ?_
    refine V.draw [] mixed ?_
    refine D.take 0 [true, false, false, false, false, false, false, false, false, false, false, false] (.sq (.sq .bd)) rfl (rd_move rfl) rfl (by kernel_rfl) rfl (LeC.drew _) ?_
    refine D.take 1 [true, true, false, false, false, false, false, false, false, false, false, false] (.sq (.sq .bd)) rfl (rd_nilCheck rfl) rfl (by kernel_rfl) rfl (LeC.drew _) ?_
    refine D.take 2 [true, true, true, false, false, false, false, false, false, false, false, false] (.sq (.sq .bd)) rfl (rd_fieldAddr tok rfl rfl rfl rfl rfl rfl) rfl (by kernel_rfl) rfl (LeC.drew _) ?_
    refine D.take 3 [true, true, true, true, false, false, false, false, false, false, false, false] (.sq (.sq .bd)) rfl (rd_load1 tok rfl rfl rfl (hb.drew.cell rfl)) rfl (by kernel_rfl) rfl (LeC.drew _) ?_
    refine D.take 4 [true, true, true, true, true, false, false, false, false, false, false, false] (.sq (.sq .bd)) rfl (rd_move rfl) rfl (by kernel_rfl) rfl (LeC.drew _) ?_
    refine D.take 5 [true, true, true, true, true, true, false, false, false, false, false, false] (.sq (.sq .bd)) rfl (rd_nilCheck rfl) rfl (by kernel_rfl) rfl (LeC.drew _) ?_
    refine D.take 6 [true, true, true, true, true, true, true, false, false, false, false, false] (.sq (.sq .bd)) rfl (rd_fieldAddr tok rfl rfl rfl rfl rfl rfl) rfl (by kernel_rfl) rfl (LeC.drew _) ?_
    refine D.take 7 [true, true, true, true, true, true, true, true, false, false, false, false] (.sq (.sq .bd)) rfl (rd_load1 tok rfl rfl rfl (hb.drew.cell (i := 1) rfl)) rfl (by kernel_rfl) rfl (LeC.drew _) ?_
    (refine D.take 8 [true, true, true, true, true, true, true, true, true, false, false, false] (.sq (.sq .bd)) rfl (rd_indexSlice (sz := 2) tok rfl rfl rfl rfl rfl rfl rfl ?_) rfl (by kernel_rfl) rfl (LeC.drew _) ?_; omega)
    refine D.take 9 [true, true, true, true, true, true, true, true, true, true, false, false] (.sq (.sq .bd)) rfl (rd_fieldAddr tok rfl rfl rfl rfl rfl rfl) rfl (by kernel_rfl) rfl (LeC.drew _) ?_
    refine D.take 10 [true, true, true, true, true, true, true, true, true, true, true, false] (.sq (.sq .bd)) rfl (rd_load1 tok rfl rfl rfl (cells_at (i := 0) hcf rfl (by simp))) rfl (by kernel_rfl) rfl (LeC.drew _) ?_
    refine D.take 11 [true, true, true, true, true, true, true, true, true, true, true, true] (.sq (.sq .bd)) rfl (rd_assign rfl) rfl (by kernel_rfl) rfl (LeC.drew _) ?_
    refine D.done (by kernel_rfl) ?_
    refine X.sq ?_
    refine V.ret ?_
    refine X.sqRet ?_
    refine ret_1 Yaam.results81 rfl ?_
    exact ⟨rfl, (Ext.refl _ _).drew.drew⟩
  ·
    refine V.skip ?_
    refine X.sq ?_
    refine V.seq ?_
    refine V.region ?_
    refine L.rd (rd_assign rfl) rfl ?_
    refine L.nil ?_
    refine X.sq ?_
    refine V.ret ?_
    refine ret_1 Yaam.results81 rfl ?_
    have h0 : r = [] := List.eq_nil_of_length_eq_zero (by omega)
    subst h0
    exact ⟨rfl, (Ext.refl _ _).drew⟩

theorem snum_ok (v : Int) (w : World) : Ret Yaam.prog 122 [.int .i64 v] w fun r w' => r = .pointer (some ⟨w.heap.size, 0, none⟩) ∧ Bl w' w.heap.size 119 [.int .i64 1, .int .i64 v, .int .i64 0, .pointer none, .pointer none] ∧ Ext w.heap.size w w' := by
  refine enter1 Yaam.func122 Yaam.ntmps122 (by kernel_rfl) rfl rfl ?_
  refine V.seq ?_
  refine V.region ?_
  refine L.rd (rd_assign rfl) rfl ?_
  refine L.nil ?_
  refine X.sq ?_
  refine V.seq ?_
  refine V.region ?_
  refine L.rd (rd_move rfl) rfl ?_
  refine L.rd (rd_build (out := [_, _, _, _, _]) tok rfl rfl rfl rfl rfl) rfl ?_
  refine L.ef (e_box (cs := [_, _, _, _, _]) rfl rfl (by first | (simp only [size_addB, size_setB, size_drew]; rfl) | rfl) rfl ?_)
  refine L.rd (rd_assign rfl) rfl ?_
  refine L.nil ?_
  refine X.sq ?_
  refine V.ret ?_
  refine ret_1 Yaam.results122 rfl ?_
  exact ⟨rfl, Bl.new _ _ _, (Ext.refl _ _).addNew _ _⟩
/-- what is known of the inner expression -/
def HS (bp : Nat) (tv : Value) (ts : List TK) (n : Nat) (E : Nat → List TK → PR) : Prop := ∀ (w : World) (r : List TK) (d : Nat), r.length < n → SPq bp tv ts w r → Ret Yaam.prog 40 [.pointer (some ⟨bp, 0, none⟩)] w (SPo bp tv ts (E d r) w)

theorem sprim_ok {bp : Nat} {tv : Value} {ts : List TK} {n : Nat} {E : Nat → List TK → PR} (hE : HS bp tv ts n E) (hts : ts.length ≤ 2000000) (w : World) (r : List TK) (d : Nat) (hr : r.length ≤ n) (h : SPq bp tv ts w r) : Ret Yaam.prog 140 [.pointer (some ⟨bp, 0, none⟩)] w (SPo bp tv ts (prim false E d r) w) := by
  obtain ⟨ta, tc, rfl, hft⟩ := h.tk.form
  have hl := h.sx.length_le
  have hbp := h.bl.lt
  refine enter1 Yaam.func140 Yaam.ntmps140 (by kernel_rfl) rfl rfl ?_
  refine V.seq ?_
  refine V.region ?_
  refine L.rd (rd_assign rfl) rfl ?_
  refine L.nil ?_
  refine X.sq ?_
  refine V.seq ?_
  refine V.region ?_
  refine L.rd (rd_move rfl) rfl ?_
  refine L.ef (e_call rfl (speek_ok _ h) rfl ?_)
  rintro _ w1 ⟨rfl, he1⟩
  have h1 := h.ext he1
  have hR1 : Rg bp (bp + 1) w w1 := Rg.ext he1 _ _
  refine L.rd (rd_assign rfl) rfl ?_
  refine L.nil ?_
  refine X.sq ?_
  refine V.seq ?_
  refine V.seq ?_
  refine V.region ?_
  refine L.rd (rd_move rfl) rfl ?_
  refine L.rd (rd_eql rfl rfl) rfl ?_
  refine L.nil ?_
  refine X.sq ?_
  first | refine V.cond rfl (fun h10 => ?_) (fun h10 => ?_) | refine V.condB rfl (fun h10 => ?_) (fun h10 => ?_)
  ·
    obtain ⟨tb, to, rfl, -, -, hct⟩ := hft.resolve_left (by have := tail_len (r := r) (by omega); omega)
    have hg := sx_get h.sx (.inl (by omega))
    have hcf := (hct.le he1.leC).sub ((ts.length - r.length) * 2) _ (pr_get ts _ _ hg)
    have hlt := tail_len (r := r) (by omega)
    refine V.seq ?_
    refine V.draw [] mixed ?_
    refine D.take 0 [true, false, false, false, false, false, false, false, false, false, false, false] (.sq (.sq .bd)) rfl (rd_move rfl) rfl (by kernel_rfl) rfl (LeC.drew _) ?_
    refine D.take 1 [true, true, false, false, false, false, false, false, false, false, false, false] (.sq (.sq .bd)) rfl (rd_nilCheck rfl) rfl (by kernel_rfl) rfl (LeC.drew _) ?_
    refine D.take 2 [true, true, true, false, false, false, false, false, false, false, false, false] (.sq (.sq .bd)) rfl (rd_fieldAddr tok rfl rfl rfl rfl rfl rfl) rfl (by kernel_rfl) rfl (LeC.drew _) ?_
    refine D.take 3 [true, true, true, true, false, false, false, false, false, false, false, false] (.sq (.sq .bd)) rfl (rd_load1 tok rfl rfl rfl (h1.bl.cell rfl)) rfl (by kernel_rfl) rfl (LeC.drew _) ?_
    refine D.take 4 [true, true, true, true, true, false, false, false, false, false, false, false] (.sq (.sq .bd)) rfl (rd_move rfl) rfl (by kernel_rfl) rfl (LeC.drew _) ?_
    refine D.take 5 [true, true, true, true, true, true, false, false, false, false, false, false] (.sq (.sq .bd)) rfl (rd_nilCheck rfl) rfl (by kernel_rfl) rfl (LeC.drew _) ?_
    refine D.take 6 [true, true, true, true, true, true, true, false, false, false, false, false] (.sq (.sq .bd)) rfl (rd_fieldAddr tok rfl rfl rfl rfl rfl rfl) rfl (by kernel_rfl) rfl (LeC.drew _) ?_
    refine D.take 7 [true, true, true, true, true, true, true, true, false, false, false, false] (.sq (.sq .bd)) rfl (rd_load1 tok rfl rfl rfl (h1.bl.cell (i := 1) rfl)) rfl (by kernel_rfl) rfl (LeC.drew _) ?_
    (refine D.take 8 [true, true, true, true, true, true, true, true, true, false, false, false] (.sq (.sq .bd)) rfl (rd_indexSlice (sz := 2) tok rfl rfl rfl rfl rfl rfl rfl ?_) rfl (by kernel_rfl) rfl (LeC.drew _) ?_; omega)
    refine D.take 9 [true, true, true, true, true, true, true, true, true, true, false, false] (.sq (.sq .bd)) rfl (rd_fieldAddr tok rfl rfl rfl rfl rfl rfl) rfl (by kernel_rfl) rfl (LeC.drew _) ?_
    refine D.take 10 [true, true, true, true, true, true, true, true, true, true, true, false] (.sq (.sq .bd)) rfl (rd_load1 tok rfl rfl rfl (cells_at (i := 1) hcf rfl (by simp))) rfl (by kernel_rfl) rfl (LeC.drew _) ?_
    refine D.take 11 [true, true, true, true, true, true, true, true, true, true, true, true] (.sq (.sq .bd)) rfl (rd_assign rfl) rfl (by kernel_rfl) rfl (LeC.drew _) ?_
    refine D.done (by kernel_rfl) ?_
    refine X.sq ?_
    refine V.seq ?_
    have h1d := h1.ext ((Ext.refl _ w1).drew)
    refine V.region ?_
    refine L.rd (rd_move rfl) rfl ?_
    refine L.rd (rd_nilCheck rfl) rfl ?_
    refine L.rd (rd_fieldAddr tok rfl rfl rfl rfl rfl rfl) rfl ?_
    refine L.rd (rd_load1 tok rfl rfl rfl (h1d.bl.cell (i := 1) rfl)) rfl ?_
    (refine L.rd (rd_add3 rfl rfl ?_) rfl ?_; omega)
    refine L.rd (rd_nilCheck rfl) rfl ?_
    refine L.rd (rd_fieldAddr tok rfl rfl rfl rfl rfl rfl) rfl ?_
    refine L.ef (e_store (vs := [_]) tok rfl rfl rfl rfl h1d.bl rfl (by simp [Value.oneCell']) (by simp) ?_)
    refine L.nil ?_
    refine X.sq ?_
    refine V.seq ?_
    generalize hw4 : setB _ _ _ _ = w4
    obtain ⟨h4, hR4⟩ := h1d.next (by omega) hw4
    have hbp4 := h4.bl.lt
    refine V.region ?_
    refine L.rd (rd_move rfl) rfl ?_
    refine L.ef (e_call rfl (snum_ok (hv r) _) rfl ?_)
    rintro _ w5 ⟨rfl, hb5, he5⟩
    refine L.rd (rd_assign rfl) rfl ?_
    refine L.nil ?_
    refine X.sq ?_
    refine V.ret ?_
    refine X.sqRet ?_
    refine ret_1 Yaam.results140 rfl ?_
    exact SPost.good (o := prim false E d r) (t := lf 1 (hv r) 0) (r1 := r.tail) (by unfold prim; rw [if_pos h10]) ((hR1.drew.trans hR4).trans (Rg.ext he5 _ _)) (h4.ext he5) (Tm.leaf hb5 (by omega))
  ·
    refine V.skip ?_
    refine X.sq ?_
    refine V.seq ?_
    refine V.seq ?_
    refine V.region ?_
    refine L.rd (rd_move rfl) rfl ?_
    refine L.rd (rd_eql rfl rfl) rfl ?_
    refine L.nil ?_
    refine X.sq ?_
    first | refine V.cond rfl (fun h32 => ?_) (fun h32 => ?_) | refine V.condB rfl (fun h32 => ?_) (fun h32 => ?_)
    ·
      obtain ⟨tb, to, rfl, -, -, hct⟩ := hft.resolve_left (by have := tail_len (r := r) (by omega); omega)
      have hg := sx_get h.sx (.inl (by omega))
      have hcf := (hct.le he1.leC).sub ((ts.length - r.length) * 2) _ (pr_get ts _ _ hg)
      have hlt := tail_len (r := r) (by omega)
      refine V.seq ?_
      refine V.draw [] mixed ?_
      refine D.take 0 [true, false, false, false, false, false, false, false, false, false, false, false] (.sq (.sq .bd)) rfl (rd_move rfl) rfl (by kernel_rfl) rfl (LeC.drew _) ?_
      refine D.take 1 [true, true, false, false, false, false, false, false, false, false, false, false] (.sq (.sq .bd)) rfl (rd_nilCheck rfl) rfl (by kernel_rfl) rfl (LeC.drew _) ?_
      refine D.take 2 [true, true, true, false, false, false, false, false, false, false, false, false] (.sq (.sq .bd)) rfl (rd_fieldAddr tok rfl rfl rfl rfl rfl rfl) rfl (by kernel_rfl) rfl (LeC.drew _) ?_
      refine D.take 3 [true, true, true, true, false, false, false, false, false, false, false, false] (.sq (.sq .bd)) rfl (rd_load1 tok rfl rfl rfl (h1.bl.cell rfl)) rfl (by kernel_rfl) rfl (LeC.drew _) ?_
      refine D.take 4 [true, true, true, true, true, false, false, false, false, false, false, false] (.sq (.sq .bd)) rfl (rd_move rfl) rfl (by kernel_rfl) rfl (LeC.drew _) ?_
      refine D.take 5 [true, true, true, true, true, true, false, false, false, false, false, false] (.sq (.sq .bd)) rfl (rd_nilCheck rfl) rfl (by kernel_rfl) rfl (LeC.drew _) ?_
      refine D.take 6 [true, true, true, true, true, true, true, false, false, false, false, false] (.sq (.sq .bd)) rfl (rd_fieldAddr tok rfl rfl rfl rfl rfl rfl) rfl (by kernel_rfl) rfl (LeC.drew _) ?_
      refine D.take 7 [true, true, true, true, true, true, true, true, false, false, false, false] (.sq (.sq .bd)) rfl (rd_load1 tok rfl rfl rfl (h1.bl.cell (i := 1) rfl)) rfl (by kernel_rfl) rfl (LeC.drew _) ?_
      (refine D.take 8 [true, true, true, true, true, true, true, true, true, false, false, false] (.sq (.sq .bd)) rfl (rd_indexSlice (sz := 2) tok rfl rfl rfl rfl rfl rfl rfl ?_) rfl (by kernel_rfl) rfl (LeC.drew _) ?_; omega)
      refine D.take 9 [true, true, true, true, true, true, true, true, true, true, false, false] (.sq (.sq .bd)) rfl (rd_fieldAddr tok rfl rfl rfl rfl rfl rfl) rfl (by kernel_rfl) rfl (LeC.drew _) ?_
      refine D.take 10 [true, true, true, true, true, true, true, true, true, true, true, false] (.sq (.sq .bd)) rfl (rd_load1 tok rfl rfl rfl (cells_at (i := 1) hcf rfl (by simp))) rfl (by kernel_rfl) rfl (LeC.drew _) ?_
      refine D.take 11 [true, true, true, true, true, true, true, true, true, true, true, true] (.sq (.sq .bd)) rfl (rd_assign rfl) rfl (by kernel_rfl) rfl (LeC.drew _) ?_
      refine D.done (by kernel_rfl) ?_
      refine X.sq ?_
      refine V.seq ?_
      have h1d := h1.ext ((Ext.refl _ w1).drew)
      refine V.region ?_
      refine L.rd (rd_move rfl) rfl ?_
      refine L.rd (rd_nilCheck rfl) rfl ?_
      refine L.rd (rd_fieldAddr tok rfl rfl rfl rfl rfl rfl) rfl ?_
      refine L.rd (rd_load1 tok rfl rfl rfl (h1d.bl.cell (i := 1) rfl)) rfl ?_
      (refine L.rd (rd_add3 rfl rfl ?_) rfl ?_; omega)
      refine L.rd (rd_nilCheck rfl) rfl ?_
      refine L.rd (rd_fieldAddr tok rfl rfl rfl rfl rfl rfl) rfl ?_
      refine L.ef (e_store (vs := [_]) tok rfl rfl rfl rfl h1d.bl rfl (by simp [Value.oneCell']) (by simp) ?_)
      refine L.nil ?_
      refine X.sq ?_
      refine V.seq ?_
      generalize hw4 : setB _ _ _ _ = w4
      obtain ⟨h4, hR4⟩ := h1d.next (by omega) hw4
      have hbp4 := h4.bl.lt
      refine V.region ?_
      refine L.rd (rd_move rfl) rfl ?_
      refine L.rd (rd_build (out := [_, _, _, _, _]) tok rfl rfl rfl rfl rfl) rfl ?_
      refine L.ef (e_box (cs := [_, _, _, _, _]) rfl rfl (by first | (simp only [size_addB, size_setB, size_drew]; rfl) | rfl) rfl ?_)
      refine L.rd (rd_assign rfl) rfl ?_
      refine L.nil ?_
      refine X.sq ?_
      refine V.ret ?_
      refine X.sqRet ?_
      refine ret_1 Yaam.results140 rfl ?_
      have he5 := (Ext.refl _ w4).addNew 119 [.int .i64 2, .int .i64 0, .int .i64 (hv r), .pointer none, .pointer none]
      exact SPost.good (o := prim false E d r) (t := lf 2 0 (hv r)) (r1 := r.tail) (by unfold prim; rw [if_neg h10, if_pos h32]) ((hR1.drew.trans hR4).trans (Rg.ext he5 _ _)) (h4.ext he5) (Tm.leaf (Bl.new _ _ _) (by omega))
    ·
      refine V.skip ?_
      refine X.sq ?_
      refine V.seq ?_
      refine V.seq ?_
      refine V.region ?_
      refine L.rd (rd_move rfl) rfl ?_
      refine L.rd (rd_eql rfl rfl) rfl ?_
      refine L.nil ?_
      refine X.sq ?_
      first | refine V.cond rfl (fun h55 => ?_) (fun h55 => ?_) | refine V.condB rfl (fun h55 => ?_) (fun h55 => ?_)
      ·
        have hlt := tail_len (r := r) (by omega)
        have hpr : prim false E d r = match E (d + 1) r.tail with
            | none => none
            | some (t, r2) => if hk r2 = 8 then some (t, r2.tail) else none := by
          unfold prim
          rw [if_neg h10, if_neg h32, if_pos h55, if_neg (by simp)]
          rfl
        refine V.seq ?_
        refine V.region ?_
        refine L.rd (rd_move rfl) rfl ?_
        refine L.rd (rd_nilCheck rfl) rfl ?_
        refine L.rd (rd_fieldAddr tok rfl rfl rfl rfl rfl rfl) rfl ?_
        refine L.rd (rd_load1 tok rfl rfl rfl (h1.bl.cell (i := 1) rfl)) rfl ?_
        (refine L.rd (rd_add3 rfl rfl ?_) rfl ?_; omega)
        refine L.rd (rd_nilCheck rfl) rfl ?_
        refine L.rd (rd_fieldAddr tok rfl rfl rfl rfl rfl rfl) rfl ?_
        refine L.ef (e_store (vs := [_]) tok rfl rfl rfl rfl h1.bl rfl (by simp [Value.oneCell']) (by simp) ?_)
        refine L.nil ?_
        refine X.sq ?_
        refine V.seq ?_
        generalize hw4 : setB _ _ _ _ = w4
        obtain ⟨h4, hR4⟩ := h1.next (by omega) hw4
        have hR14 := hR1.trans hR4
        refine V.region ?_
        refine L.rd (rd_move rfl) rfl ?_
        refine L.ef (e_call rfl (hE _ r.tail (d + 1) (by omega) h4) rfl ?_)
        rintro _ w5 ⟨a5, rfl, hR5, hg5, hb5⟩
        have hR15 := hR14.trans hR5
        obtain ⟨b5, p5, hbl5, hst5⟩ : ∃ (b : Bool) (p : Int), Bl w5 bp 74 [.slice ta ts.length tc, .int .i64 p, .bool b] ∧ ((b = true ∧ E (d + 1) r.tail = none) ∨ (b = false ∧ ∃ t2 r2, E (d + 1) r.tail = some (t2, r2))) := by
          cases ho : E (d + 1) r.tail with
          | none =>
            obtain ⟨p, hp⟩ := hb5 ho
            exact ⟨true, p, hp, .inl ⟨rfl, rfl⟩⟩
          | some q =>
            obtain ⟨t2, r2⟩ := q
            exact ⟨false, _, (hg5 _ _ ho).1.bl, .inr ⟨rfl, t2, r2, rfl⟩⟩
        refine L.rd (rd_assign rfl) rfl ?_
        refine L.nil ?_
        refine X.sq ?_
        refine V.seq ?_
        refine V.seq ?_
        refine V.region ?_
        refine L.rd (rd_move rfl) rfl ?_
        refine L.rd (rd_nilCheck rfl) rfl ?_
        refine L.rd (rd_fieldAddr tok rfl rfl rfl rfl rfl rfl) rfl ?_
        refine L.rd (rd_load1 tok rfl rfl rfl (hbl5.cell (i := 2) rfl)) rfl ?_
        refine L.nil ?_
        refine X.sq ?_
        first | refine V.cond rfl (fun h68 => ?_) (fun h68 => ?_) | refine V.condB rfl (fun h68 => ?_) (fun h68 => ?_)
        ·
          refine V.seq ?_
          refine V.region ?_
          refine L.rd (rd_move rfl) rfl ?_
          refine L.rd (rd_assign rfl) rfl ?_
          refine L.nil ?_
          refine X.sq ?_
          refine V.ret ?_
          refine X.sqRet ?_
          refine X.sqRet ?_
          refine ret_1 Yaam.results140 rfl ?_
          rcases hst5 with ⟨rfl, ho⟩ | ⟨rfl, -⟩
          · exact SPost.bad (by rw [hpr, ho]) hR15 hbl5
          · simp at h68
        ·
          obtain ⟨hbf, t2, r2, ho2⟩ : b5 = false ∧ ∃ t2 r2, E (d + 1) r.tail = some (t2, r2) := by
            rcases hst5 with ⟨rfl, ho⟩ | h
            · simp at h68
            · exact h
          obtain ⟨h5, ht5⟩ := hg5 _ _ ho2
          rw [ho2] at hpr
          simp only [] at hpr
          have hl5 := h5.sx.length_le
          refine V.skip ?_
          refine X.sq ?_
          refine V.seq ?_
          refine V.seq ?_
          refine V.region ?_
          refine L.rd (rd_move rfl) rfl ?_
          refine L.ef (e_call rfl (speek_ok _ h5) rfl ?_)
          rintro _ w6 ⟨rfl, he6⟩
          have h6 := h5.ext he6
          have ht6 := ht5.ext he6
          have hR16 := hR15.trans (Rg.ext he6 _ _)
          refine L.rd (rd_neq rfl rfl) rfl ?_
          refine L.nil ?_
          refine X.sq ?_
          first | refine V.cond rfl (fun h72 => ?_) (fun h72 => ?_) | refine V.condB rfl (fun h72 => ?_) (fun h72 => ?_)
          ·
            refine V.seq ?_
            refine V.region ?_
            refine L.rd (rd_move rfl) rfl ?_
            refine L.rd (rd_nilCheck rfl) rfl ?_
            refine L.rd (rd_fieldAddr tok rfl rfl rfl rfl rfl rfl) rfl ?_
            refine L.ef (e_store (vs := [_]) tok rfl rfl rfl rfl h6.bl rfl (by simp [Value.oneCell']) (by simp) ?_)
            refine L.nil ?_
            refine X.sq ?_
            refine V.seq ?_
            refine V.region ?_
            refine L.rd (rd_move rfl) rfl ?_
            refine L.rd (rd_assign rfl) rfl ?_
            refine L.nil ?_
            refine X.sq ?_
            refine V.ret ?_
            refine X.sqRet ?_
            refine X.sqRet ?_
            refine ret_1 Yaam.results140 rfl ?_
            exact SPost.bad (by rw [hpr, if_neg (by omega)]) (hR16.trans (Rg.set (by omega) _ _)) (h6.bl.set _ _)
          ·
            refine V.skip ?_
            refine X.sq ?_
            refine V.seq ?_
            refine V.region ?_
            refine L.rd (rd_move rfl) rfl ?_
            refine L.rd (rd_nilCheck rfl) rfl ?_
            refine L.rd (rd_fieldAddr tok rfl rfl rfl rfl rfl rfl) rfl ?_
            refine L.rd (rd_load1 tok rfl rfl rfl (h6.bl.cell (i := 1) rfl)) rfl ?_
            (refine L.rd (rd_add3 rfl rfl ?_) rfl ?_; omega)
            refine L.rd (rd_nilCheck rfl) rfl ?_
            refine L.rd (rd_fieldAddr tok rfl rfl rfl rfl rfl rfl) rfl ?_
            refine L.ef (e_store (vs := [_]) tok rfl rfl rfl rfl h6.bl rfl (by simp [Value.oneCell']) (by simp) ?_)
            refine L.nil ?_
            refine X.sq ?_
            refine V.seq ?_
            generalize hw7 : setB _ _ _ _ = w7
            obtain ⟨h7, hR7⟩ := h6.next (by omega) hw7
            refine V.region ?_
            refine L.rd (rd_move rfl) rfl ?_
            refine L.rd (rd_assign rfl) rfl ?_
            refine L.nil ?_
            refine X.sq ?_
            refine V.ret ?_
            refine X.sqRet ?_
            refine ret_1 Yaam.results140 rfl ?_
            exact SPost.good (o := prim false E d r) (t := t2) (r1 := r2.tail) (by rw [hpr, if_pos (by omega)]) (hR16.trans hR7) h7 (Tm.rg hR7 (Nat.le_refl _) _ _ ht6)
      ·
        refine V.skip ?_
        refine X.sq ?_
        refine V.seq ?_
        refine V.region ?_
        refine L.rd (rd_move rfl) rfl ?_
        refine L.rd (rd_nilCheck rfl) rfl ?_
        refine L.rd (rd_fieldAddr tok rfl rfl rfl rfl rfl rfl) rfl ?_
        refine L.ef (e_store (vs := [_]) tok rfl rfl rfl rfl h1.bl rfl (by simp [Value.oneCell']) (by simp) ?_)
        refine L.nil ?_
        refine X.sq ?_
        refine V.seq ?_
        generalize hw4 : setB _ _ _ _ = w4
        have hb4 : Bl w4 bp 74 [.slice ta ts.length tc, .int .i64 ((ts.length - r.length : Nat) : Int), .bool true] := by rw [← hw4]; exact h1.bl.set _ _
        have hR4 : Rg bp (bp + 1) w1 w4 := by rw [← hw4]; exact Rg.set (by omega) _ _
        refine V.region ?_
        refine L.ef (e_call rfl (snum_ok 0 _) rfl ?_)
        rintro _ w5 ⟨rfl, hb5, he5⟩
        refine L.rd (rd_assign rfl) rfl ?_
        refine L.nil ?_
        refine X.sq ?_
        refine V.ret ?_
        refine ret_1 Yaam.results140 rfl ?_
        exact SPost.bad (by unfold prim; rw [if_neg h10, if_neg h32, if_neg h55]) ((hR1.trans hR4).trans (Rg.ext he5 _ _)) (he5.bl hb4.lt hb4)
end Go.Proofs.YbxaawGreat
