/-
  The model's parser, walked, continued.
-/
import Derived.Test.YbxaawGreatSPrsW
set_option linter.unusedVariables false
set_option linter.unusedSimpArgs false
set_option maxRecDepth 10000
namespace Go.Mw
/-- good or bad, as one state -/
theorem SPost.state {eP eM : TypeId} {bp : Nat} {tv : Value} {ts : List TK} {o : PR} {w' : World} {a : Option Addr} (hg : ∀ t r1, o = some (t, r1) → SP eP bp tv ts w' r1 ∧ Tm eM w' (bp + 1) t (.pointer a)) (hb : o = none → ∃ p : Int, Bl w' bp eP [tv, .int .i64 p, .bool true]) :
    ∃ (b : Bool) (p : Int), Bl w' bp eP [tv, .int .i64 p, .bool b] ∧ ((b = true ∧ o = none) ∨ (b = false ∧ ∃ t2 r2, o = some (t2, r2) ∧ SP eP bp tv ts w' r2 ∧ Tm eM w' (bp + 1) t2 (.pointer a) ∧ p = ((ts.length - r2.length : Nat) : Int))) := by
  cases ho : o with
  | none =>
    obtain ⟨p, hp⟩ := hb ho
    exact ⟨true, p, hp, .inl ⟨rfl, rfl⟩⟩
  | some q =>
    obtain ⟨t2, r2⟩ := q
    obtain ⟨h1, h2⟩ := hg _ _ ho
    exact ⟨false, _, h1.bl, .inr ⟨rfl, t2, r2, rfl, h1, h2, rfl⟩⟩
end Go.Mw
namespace Go.Proofs.YbxaawGreat
open Go.Mw

theorem spow_ok {bp : Nat} {tv : Value} {ts : List TK} {n : Nat} {E : Nat → List TK → PR} (hE : HS bp tv ts n E) (hts : ts.length ≤ 2000000) (w : World) (r : List TK) (d : Nat) (hr : r.length ≤ n) (h : SPq bp tv ts w r) : Ret Yaam.prog 136 [.pointer (some ⟨bp, 0, none⟩)] w (SPo bp tv ts (powr false E d r) w) := by
  obtain ⟨ta, tc, rfl, -⟩ := h.tk.form
  refine enter1 Yaam.func136 Yaam.ntmps136 (by kernel_rfl) rfl rfl ?_
  refine V.seq ?_
  refine V.region ?_
  refine L.rd (rd_assign rfl) rfl ?_
  refine L.nil ?_
  refine X.sq ?_
  refine V.seq ?_
  refine V.region ?_
  refine L.rd (rd_move rfl) rfl ?_
  refine L.ef (e_call rfl (sprim_ok hE hts _ r d hr h) rfl ?_)
  rintro _ w1 ⟨a1, rfl, hR1, hg1, hb1⟩
  obtain ⟨b1, p1, hbl1, hst1⟩ := SPost.state hg1 hb1
  refine L.rd (rd_assign rfl) rfl ?_
  refine L.nil ?_
  refine X.sq ?_
  refine V.seq ?_
  refine V.seq ?_
  refine V.region ?_
  refine L.rd (rd_move rfl) rfl ?_
  refine L.rd (rd_nilCheck rfl) rfl ?_
  refine L.rd (rd_fieldAddr tok rfl rfl rfl rfl rfl rfl) rfl ?_
  refine L.rd (rd_load1 tok rfl rfl rfl (hbl1.cell (i := 2) rfl)) rfl ?_
  refine L.rd (rd_move rfl) rfl ?_
  first | refine L.partG rfl rfl (fun g11 => ?_) (fun g11 => ?_) | refine L.partGB rfl rfl (fun g11 => ?_) (fun g11 => ?_)
  ·
    refine L.no rfl rfl rfl rfl ?_
    refine L.no rfl rfl rfl rfl ?_
    refine L.no rfl rfl rfl rfl ?_
    refine L.rd (rd_pickT rfl rfl) rfl ?_
    refine L.nil ?_
    refine X.sq ?_
    refine V.condT rfl ?_
    refine V.seq ?_
    refine V.region ?_
    refine L.rd (rd_move rfl) rfl ?_
    refine L.rd (rd_assign rfl) rfl ?_
    refine L.nil ?_
    refine X.sq ?_
    refine V.ret ?_
    refine X.sqRet ?_
    refine ret_1 Yaam.results136 rfl ?_
    first
      | (rw [if_neg (by omega)] at hpr
         exact SPost.good hpr hR2 h2 ht2)
      | (rcases hst1 with ⟨rfl, ho⟩ | ⟨rfl, -⟩
         · exact SPost.bad (by unfold powr; rw [ho]) hR1 hbl1
         · simp at g11)
  ·
    obtain ⟨hbf, t1, r1, ho1, h1, ht1, hp1⟩ : b1 = false ∧ ∃ t2 r2, prim false E d r = some (t2, r2) ∧ SPq bp (.slice ta ts.length tc) ts w1 r2 ∧ Tm 119 w1 (bp + 1) t2 (.pointer a1) ∧ p1 = ((ts.length - r2.length : Nat) : Int) := by
      rcases hst1 with ⟨rfl, ho⟩ | h
      · simp at g11
      · exact h
    have hpr : powr false E d r = if hk r1 = 6 then (if hk r1.tail = 1 ∧ 0 ≤ hv r1.tail ∧ hv r1.tail ≤ 1000000 then some (u1 7 (hv r1.tail) t1, r1.tail.tail) else none) else some (t1, r1) := by
      unfold powr; rw [ho1]
    have hl := h1.sx.length_le
    refine L.yes rfl rfl ?_
    refine L.rd (rd_move rfl) rfl ?_
    refine L.yes rfl rfl ?_
    refine L.ef (e_call rfl (speek_ok _ h1) rfl ?_)
    rintro _ w2 ⟨rfl, he2⟩
    have h2 := h1.ext he2
    have ht2 := ht1.ext he2
    have hR2 := hR1.trans (Rg.ext he2 _ _)
    refine L.yes rfl rfl ?_
    refine L.rd (rd_neq rfl rfl) rfl ?_
    refine L.rd (rd_pickF rfl rfl) rfl ?_
    refine L.nil ?_
    refine X.sq ?_
    first | refine V.cond rfl (fun h15 => ?_) (fun h15 => ?_) | refine V.condB rfl (fun h15 => ?_) (fun h15 => ?_)
    ·
      refine V.seq ?_
      refine V.region ?_
      refine L.rd (rd_move rfl) rfl ?_
      refine L.rd (rd_assign rfl) rfl ?_
      refine L.nil ?_
      refine X.sq ?_
      refine V.ret ?_
      refine X.sqRet ?_
      refine ret_1 Yaam.results136 rfl ?_
      first
        | (rw [if_neg (by omega)] at hpr
           exact SPost.good hpr hR2 h2 ht2)
        | (rcases hst1 with ⟨rfl, ho⟩ | ⟨rfl, -⟩
           · exact SPost.bad (by unfold powr; rw [ho]) hR1 hbl1
           · simp at g11)
    ·
      refine V.skip ?_
      refine X.sq ?_
      refine V.seq ?_
      have h6 : hk r1 = 6 := by omega
      rw [if_pos h6] at hpr
      have hlt := tail_len (r := r1) (by omega)
      refine V.region ?_
      refine L.rd (rd_move rfl) rfl ?_
      refine L.rd (rd_nilCheck rfl) rfl ?_
      refine L.rd (rd_fieldAddr tok rfl rfl rfl rfl rfl rfl) rfl ?_
      refine L.rd (rd_load1 tok rfl rfl rfl (h2.bl.cell (i := 1) rfl)) rfl ?_
      (refine L.rd (rd_add3 rfl rfl ?_) rfl ?_; omega)
      refine L.rd (rd_nilCheck rfl) rfl ?_
      refine L.rd (rd_fieldAddr tok rfl rfl rfl rfl rfl rfl) rfl ?_
      refine L.ef (e_store (vs := [_]) tok rfl rfl rfl rfl h2.bl rfl (by simp [Value.oneCell']) (by simp) ?_)
      refine L.nil ?_
      refine X.sq ?_
      refine V.seq ?_
      refine V.seq ?_
      generalize hw3 : setB _ _ _ _ = w3
      obtain ⟨h3, hR3⟩ := h2.next (by omega) hw3
      have ht3 := Tm.rg hR3 (Nat.le_refl _) _ _ ht2
      have hR13 := hR2.trans hR3
      refine V.region ?_
      refine L.rd (rd_move rfl) rfl ?_
      refine L.ef (e_call rfl (speek_ok _ h3) rfl ?_)
      rintro _ w4 ⟨rfl, he4⟩
      have h4 := h3.ext he4
      have ht4 := ht3.ext he4
      have hR14 := hR13.trans (Rg.ext he4 _ _)
      refine L.rd (rd_neq rfl rfl) rfl ?_
      refine L.nil ?_
      refine X.sq ?_
      first | refine V.cond rfl (fun h26 => ?_) (fun h26 => ?_) | refine V.condB rfl (fun h26 => ?_) (fun h26 => ?_)
      ·
        refine V.seq ?_
        refine V.region ?_
        refine L.rd (rd_move rfl) rfl ?_
        refine L.rd (rd_nilCheck rfl) rfl ?_
        refine L.rd (rd_fieldAddr tok rfl rfl rfl rfl rfl rfl) rfl ?_
        refine L.ef (e_store (vs := [_]) tok rfl rfl rfl rfl h4.bl rfl (by simp [Value.oneCell']) (by simp) ?_)
        refine L.nil ?_
        refine X.sq ?_
        refine V.seq ?_
        refine V.region ?_
        refine L.rd (rd_move rfl) rfl ?_
        refine L.rd (rd_assign rfl) rfl ?_
        refine L.nil ?_
        refine X.sq ?_
        refine V.ret ?_
        refine X.sqRet ?_
        refine ret_1 Yaam.results136 rfl ?_
        exact SPost.bad (by rw [hpr, if_neg (fun e => by omega)]) (hR14.trans (Rg.set (by omega) _ _)) (h4.bl.set _ _)
      ·
        refine V.skip ?_
        refine X.sq ?_
        refine V.seq ?_
        obtain ⟨ta', tc', htv, hft⟩ := h4.tk.form
        simp only [Value.slice.injEq, true_and] at htv
        obtain ⟨rfl, rfl⟩ := htv
        have h1k : hk r1.tail = 1 := by omega
        have hlt2 := tail_len (r := r1.tail) (by omega)
        obtain ⟨tb, to, rfl, -, -, hct⟩ := hft.resolve_left (by omega)
        have hg := sx_get h4.sx (.inl (by omega))
        have hcf := hct.sub ((ts.length - r1.tail.length) * 2) _ (pr_get ts _ _ hg)
        refine V.draw [] mixed ?_
        refine D.take 0 [true, false, false, false, false, false, false, false, false, false, false, false] (.sq .bd) rfl (rd_move rfl) rfl (by kernel_rfl) rfl (LeC.drew _) ?_
        refine D.take 1 [true, true, false, false, false, false, false, false, false, false, false, false] (.sq .bd) rfl (rd_nilCheck rfl) rfl (by kernel_rfl) rfl (LeC.drew _) ?_
        refine D.take 2 [true, true, true, false, false, false, false, false, false, false, false, false] (.sq .bd) rfl (rd_fieldAddr tok rfl rfl rfl rfl rfl rfl) rfl (by kernel_rfl) rfl (LeC.drew _) ?_
        refine D.take 3 [true, true, true, true, false, false, false, false, false, false, false, false] (.sq .bd) rfl (rd_load1 tok rfl rfl rfl (h4.bl.cell rfl)) rfl (by kernel_rfl) rfl (LeC.drew _) ?_
        refine D.take 4 [true, true, true, true, true, false, false, false, false, false, false, false] (.sq .bd) rfl (rd_move rfl) rfl (by kernel_rfl) rfl (LeC.drew _) ?_
        refine D.take 5 [true, true, true, true, true, true, false, false, false, false, false, false] (.sq .bd) rfl (rd_nilCheck rfl) rfl (by kernel_rfl) rfl (LeC.drew _) ?_
        refine D.take 6 [true, true, true, true, true, true, true, false, false, false, false, false] (.sq .bd) rfl (rd_fieldAddr tok rfl rfl rfl rfl rfl rfl) rfl (by kernel_rfl) rfl (LeC.drew _) ?_
        refine D.take 7 [true, true, true, true, true, true, true, true, false, false, false, false] (.sq .bd) rfl (rd_load1 tok rfl rfl rfl (h4.bl.cell (i := 1) rfl)) rfl (by kernel_rfl) rfl (LeC.drew _) ?_
        (refine D.take 8 [true, true, true, true, true, true, true, true, true, false, false, false] (.sq .bd) rfl (rd_indexSlice (sz := 2) tok rfl rfl rfl rfl rfl rfl rfl ?_) rfl (by kernel_rfl) rfl (LeC.drew _) ?_; omega)
        refine D.take 9 [true, true, true, true, true, true, true, true, true, true, false, false] (.sq .bd) rfl (rd_fieldAddr tok rfl rfl rfl rfl rfl rfl) rfl (by kernel_rfl) rfl (LeC.drew _) ?_
        refine D.take 10 [true, true, true, true, true, true, true, true, true, true, true, false] (.sq .bd) rfl (rd_load1 tok rfl rfl rfl (cells_at (i := 1) hcf rfl (by simp))) rfl (by kernel_rfl) rfl (LeC.drew _) ?_
        refine D.take 11 [true, true, true, true, true, true, true, true, true, true, true, true] (.sq .bd) rfl (rd_assign rfl) rfl (by kernel_rfl) rfl (LeC.drew _) ?_
        refine D.done (by kernel_rfl) ?_
        refine X.sq ?_
        refine V.seq ?_
        have h4d := h4.ext ((Ext.refl _ w4).drew)
        have ht4d := ht4.ext ((Ext.refl _ w4).drew)
        refine V.region ?_
        refine L.rd (rd_move rfl) rfl ?_
        refine L.rd (rd_nilCheck rfl) rfl ?_
        refine L.rd (rd_fieldAddr tok rfl rfl rfl rfl rfl rfl) rfl ?_
        refine L.rd (rd_load1 tok rfl rfl rfl (h4d.bl.cell (i := 1) rfl)) rfl ?_
        (refine L.rd (rd_add3 rfl rfl ?_) rfl ?_; omega)
        refine L.rd (rd_nilCheck rfl) rfl ?_
        refine L.rd (rd_fieldAddr tok rfl rfl rfl rfl rfl rfl) rfl ?_
        refine L.ef (e_store (vs := [_]) tok rfl rfl rfl rfl h4d.bl rfl (by simp [Value.oneCell']) (by simp) ?_)
        refine L.nil ?_
        refine X.sq ?_
        refine V.seq ?_
        refine V.seq ?_
        generalize hw5 : setB _ _ _ _ = w5
        obtain ⟨h5, hR5⟩ := h4d.next (by omega) hw5
        have ht5 := Tm.rg hR5 (Nat.le_refl _) _ _ ht4d
        have hR15 := hR14.drew.trans hR5
        have hbp5 := h5.bl.lt
        refine V.region ?_
        refine L.rd (rd_move rfl) rfl ?_
        refine L.rd (rd_lss rfl rfl) rfl ?_
        refine L.rd (rd_move rfl) rfl ?_
        first | refine L.partG rfl rfl (fun g51 => ?_) (fun g51 => ?_) | refine L.partGB rfl rfl (fun g51 => ?_) (fun g51 => ?_)
        ·
          refine L.no rfl rfl rfl rfl ?_
          refine L.no rfl rfl rfl rfl ?_
          refine L.rd (rd_pickT rfl rfl) rfl ?_
          refine L.nil ?_
          refine X.sq ?_
          refine V.condT rfl ?_
          refine V.seq ?_
          refine V.region ?_
          refine L.rd (rd_move rfl) rfl ?_
          refine L.rd (rd_nilCheck rfl) rfl ?_
          refine L.rd (rd_fieldAddr tok rfl rfl rfl rfl rfl rfl) rfl ?_
          refine L.ef (e_store (vs := [_]) tok rfl rfl rfl rfl h5.bl rfl (by simp [Value.oneCell']) (by simp) ?_)
          refine L.nil ?_
          refine X.sq ?_
          refine V.seq ?_
          refine V.region ?_
          refine L.rd (rd_move rfl) rfl ?_
          refine L.rd (rd_assign rfl) rfl ?_
          refine L.nil ?_
          refine X.sq ?_
          refine V.ret ?_
          refine X.sqRet ?_
          refine ret_1 Yaam.results136 rfl ?_
          exact SPost.bad (by rw [hpr, if_neg (fun e => by omega)]) (hR15.trans (Rg.set (by omega) _ _)) (h5.bl.set _ _)
        ·
          refine L.yes rfl rfl ?_
          refine L.rd (rd_move rfl) rfl ?_
          refine L.yes rfl rfl ?_
          refine L.rd (rd_gtr rfl rfl) rfl ?_
          refine L.rd (rd_pickF rfl rfl) rfl ?_
          refine L.nil ?_
          refine X.sq ?_
          first | refine V.cond rfl (fun h54 => ?_) (fun h54 => ?_) | refine V.condB rfl (fun h54 => ?_) (fun h54 => ?_)
          ·
            refine V.seq ?_
            refine V.region ?_
            refine L.rd (rd_move rfl) rfl ?_
            refine L.rd (rd_nilCheck rfl) rfl ?_
            refine L.rd (rd_fieldAddr tok rfl rfl rfl rfl rfl rfl) rfl ?_
            refine L.ef (e_store (vs := [_]) tok rfl rfl rfl rfl h5.bl rfl (by simp [Value.oneCell']) (by simp) ?_)
            refine L.nil ?_
            refine X.sq ?_
            refine V.seq ?_
            refine V.region ?_
            refine L.rd (rd_move rfl) rfl ?_
            refine L.rd (rd_assign rfl) rfl ?_
            refine L.nil ?_
            refine X.sq ?_
            refine V.ret ?_
            refine X.sqRet ?_
            refine ret_1 Yaam.results136 rfl ?_
            exact SPost.bad (by rw [hpr, if_neg (fun e => by omega)]) (hR15.trans (Rg.set (by omega) _ _)) (h5.bl.set _ _)
          ·
            refine V.skip ?_
            refine X.sq ?_
            refine V.seq ?_
            refine V.region ?_
            refine L.rd (rd_move rfl) rfl ?_
            refine L.rd (rd_move rfl) rfl ?_
            refine L.rd (rd_build (out := [_, _, _, _, _]) tok rfl rfl rfl rfl rfl) rfl ?_
            refine L.ef (e_box (cs := [_, _, _, _, _]) rfl rfl (by first | (simp only [size_addB, size_setB, size_drew]; rfl) | rfl) rfl ?_)
            refine L.rd (rd_assign rfl) rfl ?_
            refine L.nil ?_
            refine X.sq ?_
            refine V.ret ?_
            refine ret_1 Yaam.results136 rfl ?_
            rw [if_pos ⟨h1k, by omega, by omega⟩] at hpr
            have he6 := (Ext.refl _ w5).addNew 119 [.int .i64 7, .int .i64 (hv r1.tail), .int .i64 0, .pointer a1, .pointer none]
            exact SPost.good hpr (hR15.trans (Rg.ext he6 _ _)) (h5.ext he6) (Tm.un (Bl.new _ _ _) (by omega) (ht5.ext he6))

theorem sunry_step {bp : Nat} {tv : Value} {ts : List TK} {n : Nat} {E : Nat → List TK → PR} (hE : HS bp tv ts n E) (hts : ts.length ≤ 2000000) (w : World) (r : List TK) (d : Nat) (hr : r.length ≤ n) (h : SPq bp tv ts w r)
    (ih : hk r = 4 → ∀ w1, SPq bp tv ts w1 r.tail → Ret Yaam.prog 121 [.pointer (some ⟨bp, 0, none⟩)] w1 (SPo bp tv ts (unry false E d r.tail) w1)) : Ret Yaam.prog 121 [.pointer (some ⟨bp, 0, none⟩)] w (SPo bp tv ts (unry false E d r) w) := by
  obtain ⟨ta, tc, rfl, -⟩ := h.tk.form
  have hl := h.sx.length_le
  refine enter1 Yaam.func121 Yaam.ntmps121 (by kernel_rfl) rfl rfl ?_
  refine V.seq ?_
  refine V.region ?_
  refine L.rd (rd_assign rfl) rfl ?_
  refine L.nil ?_
  refine X.sq ?_
  refine V.seq ?_
  refine V.seq ?_
  refine V.region ?_
  refine L.rd (rd_move rfl) rfl ?_
  refine L.ef (e_call rfl (speek_ok _ h) rfl ?_)
  rintro _ w1 ⟨rfl, he1⟩
  have h1 := h.ext he1
  have hR1 : Rg bp (bp + 1) w w1 := Rg.ext he1 _ _
  refine L.rd (rd_eql rfl rfl) rfl ?_
  refine L.nil ?_
  refine X.sq ?_
  first | refine V.cond rfl (fun h6 => ?_) (fun h6 => ?_) | refine V.condB rfl (fun h6 => ?_) (fun h6 => ?_)
  ·
    have hlt := tail_len (r := r) (by omega)
    have hpr := unry_minus (c := false) (E := E) (d := d) h6
    refine V.seq ?_
    refine V.region ?_
    refine L.rd (rd_move rfl) rfl ?_
    refine L.rd (rd_nilCheck rfl) rfl ?_
    refine L.rd (rd_fieldAddr tok rfl rfl rfl rfl rfl rfl) rfl ?_
    refine L.rd (rd_load1 tok rfl rfl rfl (h1.bl.cell (i := 1) rfl)) rfl ?_
    (refine L.rd (rd_add3 rfl rfl ?_) rfl ?_; omega)
    refine L.rd (rd_nilCheck rfl) rfl ?_
    refine L.rd (rd_fieldAddr tok rfl rfl rfl rfl rfl rfl) rfl ?_
    refine L.ef (e_store (vs := [_]) tok rfl rfl rfl rfl h1.bl rfl (by simp [Value.oneCell']) (by simp) ?_)
    refine L.nil ?_
    refine X.sq ?_
    refine V.seq ?_
    generalize hw3 : setB _ _ _ _ = w3
    obtain ⟨h3, hR3⟩ := h1.next (by omega) hw3
    refine V.region ?_
    refine L.rd (rd_move rfl) rfl ?_
    refine L.ef (e_call rfl (ih h6 _ h3) rfl ?_)
    rintro _ w4 ⟨a4, rfl, hR4, hg4, hb4⟩
    have hR14 := (hR1.trans hR3).trans hR4
    refine L.rd (rd_assign rfl) rfl ?_
    refine L.nil ?_
    refine X.sq ?_
    refine V.seq ?_
    refine V.region ?_
    refine L.rd (rd_move rfl) rfl ?_
    refine L.rd (rd_build (out := [_, _, _, _, _]) tok rfl rfl rfl rfl rfl) rfl ?_
    refine L.ef (e_box (cs := [_, _, _, _, _]) rfl rfl (by first | (simp only [size_addB, size_setB, size_drew]; rfl) | rfl) rfl ?_)
    refine L.rd (rd_assign rfl) rfl ?_
    refine L.nil ?_
    refine X.sq ?_
    refine V.ret ?_
    refine X.sqRet ?_
    refine ret_1 Yaam.results121 rfl ?_
    have he6 := (Ext.refl _ w4).addNew 119 [.int .i64 3, .int .i64 0, .int .i64 0, .pointer a4, .pointer none]
    cases ho : unry false E d r.tail with
    | none =>
      obtain ⟨p, hp⟩ := hb4 ho
      exact SPost.bad (by rw [hpr, ho]) (hR14.trans (Rg.ext he6 _ _)) (he6.bl hp.lt hp)
    | some q =>
      obtain ⟨t2, r2⟩ := q
      obtain ⟨h5, h5t⟩ := hg4 _ _ ho
      have hbp5 := h5.bl.lt
      exact SPost.good (by rw [hpr, ho]) (hR14.trans (Rg.ext he6 _ _)) (h5.ext he6) (Tm.un (Bl.new _ _ _) (by omega) (h5t.ext he6))
  ·
    refine V.skip ?_
    refine X.sq ?_
    refine V.seq ?_
    refine V.region ?_
    refine L.rd (rd_move rfl) rfl ?_
    refine L.ef (e_call rfl (spow_ok hE hts _ r d hr h1) rfl ?_)
    rintro _ w4 ⟨a4, rfl, hR4, hg4, hb4⟩
    refine L.rd (rd_assign rfl) rfl ?_
    refine L.nil ?_
    refine X.sq ?_
    refine V.ret ?_
    refine ret_1 Yaam.results121 rfl ?_
    rw [unry_other h6]
    exact ⟨a4, rfl, hR1.trans hR4, hg4, hb4⟩
theorem sunry_ok {bp : Nat} {tv : Value} {ts : List TK} {n : Nat} {E : Nat → List TK → PR} (hE : HS bp tv ts n E) (hts : ts.length ≤ 2000000) (d : Nat) : ∀ (m : Nat) (r : List TK), r.length ≤ m → r.length ≤ n → ∀ w, SPq bp tv ts w r → Ret Yaam.prog 121 [.pointer (some ⟨bp, 0, none⟩)] w (SPo bp tv ts (unry false E d r) w)
  | 0, r, hm, hr, w, h => sunry_step hE hts w r d hr h fun h4 => by have := tail_len (r := r) (by omega); omega
  | m + 1, r, hm, hr, w, h => sunry_step hE hts w r d hr h fun h4 w1 h1 => by
    have := tail_len (r := r) (by omega)
    exact sunry_ok hE hts d m r.tail (by omega) (by omega) w1 h1

theorem strm_ok {bp : Nat} {tv : Value} {ts : List TK} {n : Nat} {E : Nat → List TK → PR} (hE : HS bp tv ts n E) (hSx : Sx E) (hts : ts.length ≤ 2000000) (w : World) (r : List TK) (d : Nat) (hr : r.length ≤ n) (h : SPq bp tv ts w r) : Ret Yaam.prog 80 [.pointer (some ⟨bp, 0, none⟩)] w (SPo bp tv ts (trm false E d r) w) := by
  obtain ⟨ta, tc, rfl, -⟩ := h.tk.form
  refine enter1 Yaam.func80 Yaam.ntmps80 (by kernel_rfl) rfl rfl ?_
  refine V.seq ?_
  refine V.region ?_
  refine L.rd (rd_assign rfl) rfl ?_
  refine L.nil ?_
  refine X.sq ?_
  refine V.seq ?_
  refine V.region ?_
  refine L.rd (rd_move rfl) rfl ?_
  refine L.ef (e_call rfl (sunry_ok hE hts d _ r (Nat.le_refl _) hr _ h) rfl ?_)
  rintro _ w1 ⟨a1, rfl, hR1, hg1, hb1⟩
  obtain ⟨b1, p1, hbl1, hst1⟩ := SPost.state hg1 hb1
  refine L.rd (rd_assign rfl) rfl ?_
  refine L.nil ?_
  refine X.sq ?_
  refine V.seq ?_
  refine V.block ?_
  refine V.loop (fun m l w2 => ∃ (b : Bool) (p : Int) (a : Option Addr), l = [(0, .pointer (some ⟨bp, 0, none⟩)), (3, .pointer a)] ∧ Rg bp (bp + 1) w w2 ∧ Bl w2 bp 74 [.slice ta ts.length tc, .int .i64 p, .bool b] ∧ ((b = true ∧ m = 0 ∧ trm false E d r = none) ∨ (b = false ∧ ∃ lt r2, m = r2.length + 1 ∧ SPq bp (.slice ta ts.length tc) ts w2 r2 ∧ Tm 119 w2 (bp + 1) lt (.pointer a) ∧ trm false E d r = tloop false E d r2.length lt r2 ∧ r2.length ≤ n))) ?_ ?_
  ·
    rcases hst1 with ⟨rfl, ho⟩ | ⟨rfl, t2, r2, ho, h2, ht2, -⟩
    · exact ⟨0, _, (by repeat' (first | exact trivial | refine ⟨rfl, ?_⟩)), true, p1, a1, rfl, hR1, hbl1, .inl ⟨rfl, rfl, by unfold trm; rw [ho]⟩⟩
    · have hlr := (unry_sx hSx _ _ _ _ ho).length_le
      exact ⟨r2.length + 1, _, (by repeat' (first | exact trivial | refine ⟨rfl, ?_⟩)), false, p1, a1, rfl, hR1, hbl1, .inr ⟨rfl, t2, r2, rfl, h2, ht2, by unfold trm; rw [ho], by omega⟩⟩
  ·
    rintro m l w2 ⟨b, p, a, rfl, hR2, hbl2, hst2⟩
    refine V.seq ?_
    refine V.seq ?_
    refine V.region ?_
    refine L.rd (rd_move rfl) rfl ?_
    refine L.rd (rd_nilCheck rfl) rfl ?_
    refine L.rd (rd_fieldAddr tok rfl rfl rfl rfl rfl rfl) rfl ?_
    refine L.rd (rd_load1 tok rfl rfl rfl (hbl2.cell (i := 2) rfl)) rfl ?_
    first | refine L.rd (rd_not rfl) rfl ?_ | refine L.rd (rd_notB rfl) rfl ?_
    refine L.rd (rd_move rfl) rfl ?_
    first | refine L.partG rfl rfl (fun g12 => ?_) (fun g12 => ?_) | refine L.partGB rfl rfl (fun g12 => ?_) (fun g12 => ?_)
    ·
      obtain ⟨hbf, lt, r2, hm, h2, ht2, hpr, hr2⟩ : b = false ∧ ∃ lt r2, m = r2.length + 1 ∧ SPq bp (.slice ta ts.length tc) ts w2 r2 ∧ Tm 119 w2 (bp + 1) lt (.pointer a) ∧ trm false E d r = tloop false E d r2.length lt r2 ∧ r2.length ≤ n := by
        rcases hst2 with ⟨rfl, -⟩ | h
        · simp at g12
        · exact h
      have hl2 := h2.sx.length_le
      rw [tloop_step hSx] at hpr
      refine L.yes rfl rfl ?_
      refine L.rd (rd_move rfl) rfl ?_
      refine L.yes rfl rfl ?_
      refine L.ef (e_call rfl (speek_ok _ h2) rfl ?_)
      rintro _ w3 ⟨rfl, he3⟩
      have h3 := h2.ext he3
      have ht3 := ht2.ext he3
      have hR3 := hR2.trans (Rg.ext he3 _ _)
      refine L.yes rfl rfl ?_
      refine L.rd (rd_eql rfl rfl) rfl ?_
      refine L.rd (rd_pickT rfl rfl) rfl ?_
      refine L.nil ?_
      refine X.sq ?_
      first | refine V.cond rfl (fun h16 => ?_) (fun h16 => ?_) | refine V.condB rfl (fun h16 => ?_) (fun h16 => ?_)
      ·
        rw [if_pos h16] at hpr
        have hlt := tail_len (r := r2) (by omega)
        refine V.skip ?_
        refine X.sq ?_
        refine V.block ?_
        refine V.seq ?_
        refine V.region ?_
        refine L.rd (rd_move rfl) rfl ?_
        refine L.rd (rd_nilCheck rfl) rfl ?_
        refine L.rd (rd_fieldAddr tok rfl rfl rfl rfl rfl rfl) rfl ?_
        refine L.rd (rd_load1 tok rfl rfl rfl (h3.bl.cell (i := 1) rfl)) rfl ?_
        (refine L.rd (rd_add3 rfl rfl ?_) rfl ?_; omega)
        refine L.rd (rd_nilCheck rfl) rfl ?_
        refine L.rd (rd_fieldAddr tok rfl rfl rfl rfl rfl rfl) rfl ?_
        refine L.ef (e_store (vs := [_]) tok rfl rfl rfl rfl h3.bl rfl (by simp [Value.oneCell']) (by simp) ?_)
        refine L.nil ?_
        refine X.sq ?_
        refine V.seq ?_
        generalize hw4 : setB _ _ _ _ = w4
        obtain ⟨h4, hR4⟩ := h3.next (by omega) hw4
        have ht4 := Tm.rg hR4 (Nat.le_refl _) _ _ ht3
        have hR14 := hR3.trans hR4
        refine V.region ?_
        refine L.rd (rd_move rfl) rfl ?_
        refine L.ef (e_call rfl (sunry_ok hE hts d _ r2.tail (Nat.le_refl _) (by omega) _ h4) rfl ?_)
        rintro _ w5 ⟨a5, rfl, hR5, hg5, hb5⟩
        have ht5 := Tm.rg hR5 (Nat.le_refl _) _ _ ht4
        have hR15 := hR14.trans hR5
        refine L.rd (rd_assign rfl) rfl ?_
        refine L.nil ?_
        refine X.sq ?_
        refine V.region ?_
        refine L.rd (rd_move rfl) rfl ?_
        refine L.rd (rd_move rfl) rfl ?_
        refine L.rd (rd_build (out := [_, _, _, _, _]) tok rfl rfl rfl rfl rfl) rfl ?_
        refine L.ef (e_box (cs := [_, _, _, _, _]) rfl rfl (by first | (simp only [size_addB, size_setB, size_drew]; rfl) | rfl) rfl ?_)
        refine L.rd (rd_assign rfl) rfl ?_
        refine L.nil ?_
        refine X.bk ?_
        have he6 := (Ext.refl _ w5).addNew 119 [.int .i64 6, .int .i64 0, .int .i64 0, .pointer a, .pointer a5]
        cases ho : unry false E d r2.tail with
        | none =>
          obtain ⟨p5, hp5⟩ := hb5 ho
          rw [ho] at hpr
          exact X.lp ⟨0, _, by omega, (by repeat' (first | exact trivial | refine ⟨rfl, ?_⟩)), true, p5, _, rfl, hR15.trans (Rg.ext he6 _ _), he6.bl hp5.lt hp5, .inl ⟨rfl, rfl, hpr⟩⟩
        | some q =>
          obtain ⟨x5, r5⟩ := q
          obtain ⟨h5, hx5⟩ := hg5 _ _ ho
          rw [ho] at hpr
          have hbp5 := h5.bl.lt
          have hlr := (unry_sx hSx _ _ _ _ ho).length_le
          exact X.lp ⟨r5.length + 1, _, by omega, (by repeat' (first | exact trivial | refine ⟨rfl, ?_⟩)), false, _, _, rfl, hR15.trans (Rg.ext he6 _ _), (h5.ext he6).bl, .inr ⟨rfl, b2 6 lt x5, r5, rfl, h5.ext he6, Tm.bin (Bl.new _ _ _) (by omega) (ht5.ext he6) (hx5.ext he6), hpr, by omega⟩⟩
      ·
        refine V.exit ?_
        refine X.sqExit ?_
        refine X.lpExit ?_
        refine X.bkHere ?_
        refine X.sq ?_
        refine V.seq ?_
        refine V.region ?_
        refine L.rd (rd_move rfl) rfl ?_
        refine L.rd (rd_assign rfl) rfl ?_
        refine L.nil ?_
        refine X.sq ?_
        refine V.ret ?_
        refine ret_1 Yaam.results80 rfl ?_
        first
          | (rw [if_neg h16] at hpr
             exact SPost.good hpr hR3 h3 ht3)
          | (rcases hst2 with ⟨rfl, -, ho⟩ | ⟨rfl, -⟩
             · exact SPost.bad ho hR2 hbl2
             · simp at g12)
    ·
      refine L.no rfl rfl rfl rfl ?_
      refine L.no rfl rfl rfl rfl ?_
      refine L.no rfl rfl rfl rfl ?_
      refine L.rd (rd_pickF rfl rfl) rfl ?_
      refine L.nil ?_
      refine X.sq ?_
      refine V.condF rfl ?_
      refine V.exit ?_
      refine X.sqExit ?_
      refine X.lpExit ?_
      refine X.bkHere ?_
      refine X.sq ?_
      refine V.seq ?_
      refine V.region ?_
      refine L.rd (rd_move rfl) rfl ?_
      refine L.rd (rd_assign rfl) rfl ?_
      refine L.nil ?_
      refine X.sq ?_
      refine V.ret ?_
      refine ret_1 Yaam.results80 rfl ?_
      first
        | (rw [if_neg h16] at hpr
           exact SPost.good hpr hR3 h3 ht3)
        | (rcases hst2 with ⟨rfl, -, ho⟩ | ⟨rfl, -⟩
           · exact SPost.bad ho hR2 hbl2
           · simp at g12)

theorem sexpr_ok {bp : Nat} {tv : Value} {ts : List TK} {n : Nat} {E : Nat → List TK → PR} (hE : HS bp tv ts n E) (hSx : Sx E) (hts : ts.length ≤ 2000000) (w : World) (r : List TK) (d : Nat) (hr : r.length ≤ n) (h : SPq bp tv ts w r) : Ret Yaam.prog 40 [.pointer (some ⟨bp, 0, none⟩)] w (SPo bp tv ts (expr false E d r) w) := by
  obtain ⟨ta, tc, rfl, -⟩ := h.tk.form
  refine enter1 Yaam.func40 Yaam.ntmps40 (by kernel_rfl) rfl rfl ?_
  refine V.seq ?_
  refine V.region ?_
  refine L.rd (rd_assign rfl) rfl ?_
  refine L.nil ?_
  refine X.sq ?_
  refine V.seq ?_
  refine V.region ?_
  refine L.rd (rd_move rfl) rfl ?_
  refine L.ef (e_call rfl (strm_ok hE hSx hts _ r d hr h) rfl ?_)
  rintro _ w1 ⟨a1, rfl, hR1, hg1, hb1⟩
  obtain ⟨b1, p1, hbl1, hst1⟩ := SPost.state hg1 hb1
  refine L.rd (rd_assign rfl) rfl ?_
  refine L.nil ?_
  refine X.sq ?_
  refine V.seq ?_
  refine V.block ?_
  refine V.loop (fun m l w2 => ∃ (b : Bool) (p : Int) (a : Option Addr), l = [(0, .pointer (some ⟨bp, 0, none⟩)), (3, .pointer a)] ∧ Rg bp (bp + 1) w w2 ∧ Bl w2 bp 74 [.slice ta ts.length tc, .int .i64 p, .bool b] ∧ ((b = true ∧ m = 0 ∧ expr false E d r = none) ∨ (b = false ∧ ∃ lt r2, m = r2.length + 1 ∧ SPq bp (.slice ta ts.length tc) ts w2 r2 ∧ Tm 119 w2 (bp + 1) lt (.pointer a) ∧ expr false E d r = eloop false E d r2.length lt r2 ∧ r2.length ≤ n))) ?_ ?_
  ·
    rcases hst1 with ⟨rfl, ho⟩ | ⟨rfl, t2, r2, ho, h2, ht2, -⟩
    · exact ⟨0, _, (by repeat' (first | exact trivial | refine ⟨rfl, ?_⟩)), true, p1, a1, rfl, hR1, hbl1, .inl ⟨rfl, rfl, by unfold expr; rw [ho]⟩⟩
    · have hlr := (trm_sx hSx _ _ _ _ ho).length_le
      exact ⟨r2.length + 1, _, (by repeat' (first | exact trivial | refine ⟨rfl, ?_⟩)), false, p1, a1, rfl, hR1, hbl1, .inr ⟨rfl, t2, r2, rfl, h2, ht2, by unfold expr; rw [ho], by omega⟩⟩
  ·
    rintro m l w2 ⟨b, p, a, rfl, hR2, hbl2, hst2⟩
    refine V.seq ?_
    refine V.seq ?_
    refine V.region ?_
    refine L.rd (rd_move rfl) rfl ?_
    refine L.rd (rd_nilCheck rfl) rfl ?_
    refine L.rd (rd_fieldAddr tok rfl rfl rfl rfl rfl rfl) rfl ?_
    refine L.rd (rd_load1 tok rfl rfl rfl (hbl2.cell (i := 2) rfl)) rfl ?_
    first | refine L.rd (rd_not rfl) rfl ?_ | refine L.rd (rd_notB rfl) rfl ?_
    refine L.rd (rd_move rfl) rfl ?_
    first | refine L.partG rfl rfl (fun g13 => ?_) (fun g13 => ?_) | refine L.partGB rfl rfl (fun g13 => ?_) (fun g13 => ?_)
    ·
      obtain ⟨hbf, lt, r2, hm, h2, ht2, hpr, hr2⟩ : b = false ∧ ∃ lt r2, m = r2.length + 1 ∧ SPq bp (.slice ta ts.length tc) ts w2 r2 ∧ Tm 119 w2 (bp + 1) lt (.pointer a) ∧ expr false E d r = eloop false E d r2.length lt r2 ∧ r2.length ≤ n := by
        rcases hst2 with ⟨rfl, -⟩ | h
        · simp at g13
        · exact h
      have hl2 := h2.sx.length_le
      rw [eloop_step hSx] at hpr
      refine L.yes rfl rfl ?_
      refine L.rd (rd_move rfl) rfl ?_
      refine L.yes rfl rfl ?_
      refine L.ef (e_call rfl (speek_ok _ h2) rfl ?_)
      rintro _ w3 ⟨rfl, he3⟩
      have h3 := h2.ext he3
      have ht3 := ht2.ext he3
      have hR3 := hR2.trans (Rg.ext he3 _ _)
      refine L.yes rfl rfl ?_
      refine L.rd (rd_eql rfl rfl) rfl ?_
      refine L.yes rfl rfl ?_
      refine L.rd (rd_move rfl) rfl ?_
      first | refine L.partG rfl rfl (fun g17 => ?_) (fun g17 => ?_) | refine L.partGB rfl rfl (fun g17 => ?_) (fun g17 => ?_)
      ·
        refine L.no rfl rfl rfl rfl ?_
        refine L.no rfl rfl rfl rfl ?_
        refine L.no rfl rfl rfl rfl ?_
        refine L.yes rfl rfl ?_
        refine L.rd (rd_pickT rfl rfl) rfl ?_
        refine L.rd (rd_pickT rfl rfl) rfl ?_
        refine L.nil ?_
        refine X.sq ?_
        refine V.condT rfl ?_
        refine V.skip ?_
        refine X.sq ?_
        refine V.block ?_
        refine V.seq ?_
        have hkk : hk r2 = 3 ∨ hk r2 = 4 := by omega
        rw [if_pos hkk] at hpr
        have hlt := tail_len (r := r2) (by omega)
        generalize hnk : (if hk r2 = 4 then (5 : Int) else 4) = nk at hpr
        refine V.region ?_
        refine L.rd (rd_assign rfl) rfl ?_
        refine L.nil ?_
        refine X.sq ?_
        refine V.seq ?_
        refine V.seq ?_
        refine V.region ?_
        refine L.rd (rd_move rfl) rfl ?_
        refine L.ef (e_call rfl (speek_ok _ h3) rfl ?_)
        rintro _ w4 ⟨rfl, he4⟩
        have h4 := h3.ext he4
        have ht4 := ht3.ext he4
        have hR4 := hR3.trans (Rg.ext he4 _ _)
        refine L.rd (rd_eql rfl rfl) rfl ?_
        refine L.nil ?_
        refine X.sq ?_
        refine V.cut (fun l w' => l = [(0, .pointer (some ⟨bp, 0, none⟩)), (3, .pointer a), (4, .int .i64 nk)] ∧ w4 = w') ?_ ?_
        ·
          first | refine V.cond rfl (fun h25 => ?_) (fun h25 => ?_) | refine V.condB rfl (fun h25 => ?_) (fun h25 => ?_)
          ·
            refine V.region ?_
            refine L.rd (rd_assign rfl) rfl ?_
            refine L.nil ?_
            rw [if_pos (by omega)] at hnk
            subst hnk
            exact X.ct ⟨_, (by repeat' (first | exact trivial | refine ⟨rfl, ?_⟩)), rfl, rfl⟩
          ·
            refine V.skip ?_
            rw [if_neg (by omega)] at hnk
            subst hnk
            exact X.ct ⟨_, (by repeat' (first | exact trivial | refine ⟨rfl, ?_⟩)), rfl, rfl⟩
        ·
          rintro l w' ⟨rfl, rfl⟩
          refine X.sq ?_
          refine V.seq ?_
          refine V.region ?_
          refine L.rd (rd_move rfl) rfl ?_
          refine L.rd (rd_nilCheck rfl) rfl ?_
          refine L.rd (rd_fieldAddr tok rfl rfl rfl rfl rfl rfl) rfl ?_
          refine L.rd (rd_load1 tok rfl rfl rfl (h4.bl.cell (i := 1) rfl)) rfl ?_
          (refine L.rd (rd_add3 rfl rfl ?_) rfl ?_; omega)
          refine L.rd (rd_nilCheck rfl) rfl ?_
          refine L.rd (rd_fieldAddr tok rfl rfl rfl rfl rfl rfl) rfl ?_
          refine L.ef (e_store (vs := [_]) tok rfl rfl rfl rfl h4.bl rfl (by simp [Value.oneCell']) (by simp) ?_)
          refine L.nil ?_
          refine X.sq ?_
          refine V.seq ?_
          generalize hw5 : setB _ _ _ _ = w5
          obtain ⟨h5, hR5⟩ := h4.next (by omega) hw5
          have ht5 := Tm.rg hR5 (Nat.le_refl _) _ _ ht4
          have hR15 := hR4.trans hR5
          refine V.region ?_
          refine L.rd (rd_move rfl) rfl ?_
          refine L.ef (e_call rfl (strm_ok hE hSx hts _ r2.tail d (by omega) h5) rfl ?_)
          rintro _ w6 ⟨a6, rfl, hR6, hg6, hb6⟩
          have ht6 := Tm.rg hR6 (Nat.le_refl _) _ _ ht5
          have hR16 := hR15.trans hR6
          refine L.rd (rd_assign rfl) rfl ?_
          refine L.nil ?_
          refine X.sq ?_
          refine V.region ?_
          refine L.rd (rd_move rfl) rfl ?_
          refine L.rd (rd_move rfl) rfl ?_
          refine L.rd (rd_move rfl) rfl ?_
          refine L.rd (rd_build (out := [_, _, _, _, _]) tok rfl rfl rfl rfl rfl) rfl ?_
          refine L.ef (e_box (cs := [_, _, _, _, _]) rfl rfl (by first | (simp only [size_addB, size_setB, size_drew]; rfl) | rfl) rfl ?_)
          refine L.rd (rd_assign rfl) rfl ?_
          refine L.nil ?_
          refine X.bk ?_
          have he7 := (Ext.refl _ w6).addNew 119 [.int .i64 nk, .int .i64 0, .int .i64 0, .pointer a, .pointer a6]
          cases ho : trm false E d r2.tail with
          | none =>
            obtain ⟨p5, hp5⟩ := hb6 ho
            rw [ho] at hpr
            exact X.lp ⟨0, _, by omega, (by repeat' (first | exact trivial | refine ⟨rfl, ?_⟩)), true, p5, _, rfl, hR16.trans (Rg.ext he7 _ _), he7.bl hp5.lt hp5, .inl ⟨rfl, rfl, hpr⟩⟩
          | some q =>
            obtain ⟨x5, r5⟩ := q
            obtain ⟨h6, hx6⟩ := hg6 _ _ ho
            rw [ho] at hpr
            have hbp6 := h6.bl.lt
            have hlr := (trm_sx hSx _ _ _ _ ho).length_le
            exact X.lp ⟨r5.length + 1, _, by omega, (by repeat' (first | exact trivial | refine ⟨rfl, ?_⟩)), false, _, _, rfl, hR16.trans (Rg.ext he7 _ _), (h6.ext he7).bl, .inr ⟨rfl, b2 nk lt x5, r5, rfl, h6.ext he7, Tm.bin (Bl.new _ _ _) (by omega) (ht6.ext he7) (hx6.ext he7), hpr, by omega⟩⟩
      ·
        refine L.yes rfl rfl ?_
        refine L.rd (rd_move rfl) rfl ?_
        refine L.yes rfl rfl ?_
        refine L.ef (e_call rfl (speek_ok _ h3) rfl ?_)
        rintro _ w3' ⟨rfl, he3'⟩
        replace h3 := h3.ext he3'
        replace ht3 := ht3.ext he3'
        replace hR3 := hR3.trans (Rg.ext he3' _ _)
        refine L.yes rfl rfl ?_
        refine L.rd (rd_eql rfl rfl) rfl ?_
        refine L.yes rfl rfl ?_
        refine L.rd (rd_pickF rfl rfl) rfl ?_
        refine L.rd (rd_pickT rfl rfl) rfl ?_
        refine L.nil ?_
        refine X.sq ?_
        first | refine V.cond rfl (fun h22 => ?_) (fun h22 => ?_) | refine V.condB rfl (fun h22 => ?_) (fun h22 => ?_)
        ·
          refine V.skip ?_
          refine X.sq ?_
          refine V.block ?_
          refine V.seq ?_
          have hkk : hk r2 = 3 ∨ hk r2 = 4 := by omega
          rw [if_pos hkk] at hpr
          have hlt := tail_len (r := r2) (by omega)
          generalize hnk : (if hk r2 = 4 then (5 : Int) else 4) = nk at hpr
          refine V.region ?_
          refine L.rd (rd_assign rfl) rfl ?_
          refine L.nil ?_
          refine X.sq ?_
          refine V.seq ?_
          refine V.seq ?_
          refine V.region ?_
          refine L.rd (rd_move rfl) rfl ?_
          refine L.ef (e_call rfl (speek_ok _ h3) rfl ?_)
          rintro _ w4 ⟨rfl, he4⟩
          have h4 := h3.ext he4
          have ht4 := ht3.ext he4
          have hR4 := hR3.trans (Rg.ext he4 _ _)
          refine L.rd (rd_eql rfl rfl) rfl ?_
          refine L.nil ?_
          refine X.sq ?_
          refine V.cut (fun l w' => l = [(0, .pointer (some ⟨bp, 0, none⟩)), (3, .pointer a), (4, .int .i64 nk)] ∧ w4 = w') ?_ ?_
          ·
            first | refine V.cond rfl (fun h25 => ?_) (fun h25 => ?_) | refine V.condB rfl (fun h25 => ?_) (fun h25 => ?_)
            ·
              refine V.region ?_
              refine L.rd (rd_assign rfl) rfl ?_
              refine L.nil ?_
              rw [if_pos (by omega)] at hnk
              subst hnk
              exact X.ct ⟨_, (by repeat' (first | exact trivial | refine ⟨rfl, ?_⟩)), rfl, rfl⟩
            ·
              refine V.skip ?_
              rw [if_neg (by omega)] at hnk
              subst hnk
              exact X.ct ⟨_, (by repeat' (first | exact trivial | refine ⟨rfl, ?_⟩)), rfl, rfl⟩
          ·
            rintro l w' ⟨rfl, rfl⟩
            refine X.sq ?_
            refine V.seq ?_
            refine V.region ?_
            refine L.rd (rd_move rfl) rfl ?_
            refine L.rd (rd_nilCheck rfl) rfl ?_
            refine L.rd (rd_fieldAddr tok rfl rfl rfl rfl rfl rfl) rfl ?_
            refine L.rd (rd_load1 tok rfl rfl rfl (h4.bl.cell (i := 1) rfl)) rfl ?_
            (refine L.rd (rd_add3 rfl rfl ?_) rfl ?_; omega)
            refine L.rd (rd_nilCheck rfl) rfl ?_
            refine L.rd (rd_fieldAddr tok rfl rfl rfl rfl rfl rfl) rfl ?_
            refine L.ef (e_store (vs := [_]) tok rfl rfl rfl rfl h4.bl rfl (by simp [Value.oneCell']) (by simp) ?_)
            refine L.nil ?_
            refine X.sq ?_
            refine V.seq ?_
            generalize hw5 : setB _ _ _ _ = w5
            obtain ⟨h5, hR5⟩ := h4.next (by omega) hw5
            have ht5 := Tm.rg hR5 (Nat.le_refl _) _ _ ht4
            have hR15 := hR4.trans hR5
            refine V.region ?_
            refine L.rd (rd_move rfl) rfl ?_
            refine L.ef (e_call rfl (strm_ok hE hSx hts _ r2.tail d (by omega) h5) rfl ?_)
            rintro _ w6 ⟨a6, rfl, hR6, hg6, hb6⟩
            have ht6 := Tm.rg hR6 (Nat.le_refl _) _ _ ht5
            have hR16 := hR15.trans hR6
            refine L.rd (rd_assign rfl) rfl ?_
            refine L.nil ?_
            refine X.sq ?_
            refine V.region ?_
            refine L.rd (rd_move rfl) rfl ?_
            refine L.rd (rd_move rfl) rfl ?_
            refine L.rd (rd_move rfl) rfl ?_
            refine L.rd (rd_build (out := [_, _, _, _, _]) tok rfl rfl rfl rfl rfl) rfl ?_
            refine L.ef (e_box (cs := [_, _, _, _, _]) rfl rfl (by first | (simp only [size_addB, size_setB, size_drew]; rfl) | rfl) rfl ?_)
            refine L.rd (rd_assign rfl) rfl ?_
            refine L.nil ?_
            refine X.bk ?_
            have he7 := (Ext.refl _ w6).addNew 119 [.int .i64 nk, .int .i64 0, .int .i64 0, .pointer a, .pointer a6]
            cases ho : trm false E d r2.tail with
            | none =>
              obtain ⟨p5, hp5⟩ := hb6 ho
              rw [ho] at hpr
              exact X.lp ⟨0, _, by omega, (by repeat' (first | exact trivial | refine ⟨rfl, ?_⟩)), true, p5, _, rfl, hR16.trans (Rg.ext he7 _ _), he7.bl hp5.lt hp5, .inl ⟨rfl, rfl, hpr⟩⟩
            | some q =>
              obtain ⟨x5, r5⟩ := q
              obtain ⟨h6, hx6⟩ := hg6 _ _ ho
              rw [ho] at hpr
              have hbp6 := h6.bl.lt
              have hlr := (trm_sx hSx _ _ _ _ ho).length_le
              exact X.lp ⟨r5.length + 1, _, by omega, (by repeat' (first | exact trivial | refine ⟨rfl, ?_⟩)), false, _, _, rfl, hR16.trans (Rg.ext he7 _ _), (h6.ext he7).bl, .inr ⟨rfl, b2 nk lt x5, r5, rfl, h6.ext he7, Tm.bin (Bl.new _ _ _) (by omega) (ht6.ext he7) (hx6.ext he7), hpr, by omega⟩⟩
        ·
          refine V.exit ?_
          refine X.sqExit ?_
          refine X.lpExit ?_
          refine X.bkHere ?_
          refine X.sq ?_
          refine V.seq ?_
          refine V.region ?_
          refine L.rd (rd_move rfl) rfl ?_
          refine L.rd (rd_assign rfl) rfl ?_
          refine L.nil ?_
          refine X.sq ?_
          refine V.ret ?_
          refine ret_1 Yaam.results40 rfl ?_
          first
            | (rw [if_neg (by omega)] at hpr
               exact SPost.good hpr hR3 h3 ht3)
            | (rcases hst2 with ⟨rfl, -, ho⟩ | ⟨rfl, -⟩
               · exact SPost.bad ho hR2 hbl2
               · simp at g13)
    ·
      refine L.no rfl rfl rfl rfl ?_
      refine L.no rfl rfl rfl rfl ?_
      refine L.no rfl rfl rfl rfl ?_
      refine L.no rfl rfl rfl rfl ?_
      refine L.noU rfl rfl rfl ?_
      refine L.noU rfl rfl rfl ?_
      refine L.noU rfl rfl rfl ?_
      refine L.no rfl rfl rfl rfl ?_
      refine L.rd (rd_pickF rfl rfl) rfl ?_
      refine L.nil ?_
      refine X.sq ?_
      refine V.condF rfl ?_
      refine V.exit ?_
      refine X.sqExit ?_
      refine X.lpExit ?_
      refine X.bkHere ?_
      refine X.sq ?_
      refine V.seq ?_
      refine V.region ?_
      refine L.rd (rd_move rfl) rfl ?_
      refine L.rd (rd_assign rfl) rfl ?_
      refine L.nil ?_
      refine X.sq ?_
      refine V.ret ?_
      refine ret_1 Yaam.results40 rfl ?_
      first
        | (rw [if_neg (by omega)] at hpr
           exact SPost.good hpr hR3 h3 ht3)
        | (rcases hst2 with ⟨rfl, -, ho⟩ | ⟨rfl, -⟩
           · exact SPost.bad ho hR2 hbl2
           · simp at g13)

theorem sexpr_all {bp : Nat} {tv : Value} {ts : List TK} (hts : ts.length ≤ 2000000) : ∀ n, HS bp tv ts n (pE false n)
  | 0 => fun w r d hr => by omega
  | n + 1 => fun w r d hr h => sexpr_ok (sexpr_all hts n) (pE_sx false n) hts w r d (by omega) h
end Go.Proofs.YbxaawGreat
