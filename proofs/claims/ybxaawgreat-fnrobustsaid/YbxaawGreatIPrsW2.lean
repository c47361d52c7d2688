/-
  The implementation's parser, walked, continued.
-/
import Derived.Test.YbxaawGreatIPrsW
set_option linter.unusedVariables false
set_option linter.unusedSimpArgs false
set_option maxRecDepth 10000
namespace Go.Proofs.YbxaawGreat
open Go.Mw
/-- what is known of the inner expression -/
def HE (bp : Nat) (tv : Value) (ts : List TK) (n : Nat) (E : Nat → List TK → PR) : Prop := ∀ (w : World) (r : List TK) (nv : Value) (ns : List Nd) (d : Nat), r.length < n → d ≤ 5000 → ns.length ≤ 500000 → IPq bp tv ts w r nv ns d → Ret Yaam.prog 39 [.pointer (some ⟨bp, 0, none⟩)] w (IPo bp tv ts ns d (E d r) w)

theorem iprim_ok {bp : Nat} {tv : Value} {ts : List TK} {n : Nat} {E : Nat → List TK → PR} (hE : HE bp tv ts n E) (hts : ts.length ≤ 2000000) (w : World) (r : List TK) (nv : Value) (ns : List Nd) (d : Nat) (hr : r.length ≤ n) (hd : d ≤ 5000) (hn : ns.length ≤ 500000) (h : IPq bp tv ts w r nv ns d) : Ret Yaam.prog 139 [.pointer (some ⟨bp, 0, none⟩)] w (IPo bp tv ts ns d (prim true E d r) w) := by
  obtain ⟨ta, tc, rfl, hft⟩ := h.tk.form
  have hl := h.sx.length_le
  have hbp := h.bl.lt
  refine enter1 Yaam.func139 Yaam.ntmps139 (by kernel_rfl) rfl rfl ?_
  refine V.seq ?_
  refine V.region ?_
  refine L.rd (rd_assign rfl) rfl ?_
  refine L.rd (rd_assign rfl) rfl ?_
  refine L.nil ?_
  refine X.sq ?_
  refine V.seq ?_
  refine V.region ?_
  refine L.rd (rd_move rfl) rfl ?_
  refine L.ef (e_call rfl (ikind_ok _ h) rfl ?_)
  rintro _ w1 ⟨rfl, he1⟩
  have h1 := h.ext he1
  have hE1 : Ext bp w w1 := he1.low (by omega)
  refine L.rd (rd_assign rfl) rfl ?_
  refine L.nil ?_
  refine X.sq ?_
  refine V.seq ?_
  refine V.seq ?_
  refine V.region ?_
  refine L.rd (rd_move rfl) rfl ?_
  refine L.rd (rd_eql rfl rfl) rfl ?_
  refine L.nil ?_
  refine X.sq ?_
  first | refine V.cond rfl (fun h12 => ?_) (fun h12 => ?_) | refine V.condB rfl (fun h12 => ?_) (fun h12 => ?_)
  ·
    obtain ⟨tb, to, rfl, -, -, hct⟩ := hft.resolve_left (by have := tail_len (r := r) (by omega); omega)
    have hg := sx_get h.sx (.inl (by omega))
    have hcf := (hct.le he1.leC).sub ((ts.length - r.length) * 2) _ (pr_get ts _ _ hg)
    have hlt := tail_len (r := r) (by omega)
    refine V.seq ?_
    refine V.draw [] mixed ?_
    refine D.take 0 [true, false, false, false, false, false, false, false, false, false, false, false] (.sq (.sq .bd)) rfl (rd_move rfl) rfl (by kernel_rfl) rfl (LeC.drew _) ?_
    refine D.take 1 [true, true, false, false, false, false, false, false, false, false, false, false] (.sq (.sq .bd)) rfl (rd_nilCheck rfl) rfl (by kernel_rfl) rfl (LeC.drew _) ?_
    refine D.take 2 [true, true, true, false, false, false, false, false, false, false, false, false] (.sq (.sq .bd)) rfl (rd_fieldAddr tok rfl rfl rfl rfl rfl rfl) rfl (by kernel_rfl) rfl (LeC.drew _) ?_
    refine D.take 3 [true, true, true, true, false, false, false, false, false, false, false, false] (.sq (.sq .bd)) rfl (rd_load1 tok rfl rfl rfl (h1.bl.cell rfl)) rfl (by kernel_rfl) rfl (LeC.drew _) ?_
    refine D.take 4 [true, true, true, true, true, false, false, false, false, false, false, false] (.sq (.sq .bd)) rfl (rd_move rfl) rfl (by kernel_rfl) rfl (LeC.drew _) ?_
    refine D.take 5 [true, true, true, true, true, true, false, false, false, false, false, false] (.sq (.sq .bd)) rfl (rd_nilCheck rfl) rfl (by kernel_rfl) rfl (LeC.drew _) ?_
    refine D.take 6 [true, true, true, true, true, true, true, false, false, false, false, false] (.sq (.sq .bd)) rfl (rd_fieldAddr tok rfl rfl rfl rfl rfl rfl) rfl (by kernel_rfl) rfl (LeC.drew _) ?_
    refine D.take 7 [true, true, true, true, true, true, true, true, false, false, false, false] (.sq (.sq .bd)) rfl (rd_load1 tok rfl rfl rfl (h1.bl.cell (i := 1) rfl)) rfl (by kernel_rfl) rfl (LeC.drew _) ?_
    (refine D.take 8 [true, true, true, true, true, true, true, true, true, false, false, false] (.sq (.sq .bd)) rfl (rd_indexSlice (sz := 2) tok rfl rfl rfl rfl rfl rfl rfl ?_) rfl (by kernel_rfl) rfl (LeC.drew _) ?_; omega)
    refine D.take 9 [true, true, true, true, true, true, true, true, true, true, false, false] (.sq (.sq .bd)) rfl (rd_fieldAddr tok rfl rfl rfl rfl rfl rfl) rfl (by kernel_rfl) rfl (LeC.drew _) ?_
    refine D.take 10 [true, true, true, true, true, true, true, true, true, true, true, false] (.sq (.sq .bd)) rfl (rd_load1 tok rfl rfl rfl (cells_at (i := 1) hcf rfl (by simp))) rfl (by kernel_rfl) rfl (LeC.drew _) ?_
    refine D.take 11 [true, true, true, true, true, true, true, true, true, true, true, true] (.sq (.sq .bd)) rfl (rd_assign rfl) rfl (by kernel_rfl) rfl (LeC.drew _) ?_
    refine D.done (by kernel_rfl) ?_
    refine X.sq ?_
    refine V.seq ?_
    have h1d := h1.ext ((Ext.refl _ w1).drew)
    refine V.region ?_
    refine L.rd (rd_move rfl) rfl ?_
    refine L.rd (rd_nilCheck rfl) rfl ?_
    refine L.rd (rd_fieldAddr tok rfl rfl rfl rfl rfl rfl) rfl ?_
    refine L.rd (rd_load1 tok rfl rfl rfl (h1d.bl.cell (i := 1) rfl)) rfl ?_
    (refine L.rd (rd_add3 rfl rfl ?_) rfl ?_; omega)
    refine L.rd (rd_nilCheck rfl) rfl ?_
    refine L.rd (rd_fieldAddr tok rfl rfl rfl rfl rfl rfl) rfl ?_
    refine L.ef (e_store (vs := [_]) tok rfl rfl rfl rfl h1d.bl rfl (by simp [Value.oneCell']) (by simp) ?_)
    refine L.nil ?_
    refine X.sq ?_
    refine V.seq ?_
    generalize hw4 : setB _ _ _ _ = w4
    obtain ⟨h4, he4⟩ := h1d.next (by omega) hw4
    refine V.region ?_
    refine L.rd (rd_move rfl) rfl ?_
    refine L.rd (rd_move rfl) rfl ?_
    refine L.rd (rd_build (out := [_, _, _, _, _]) tok rfl rfl rfl rfl rfl) rfl ?_
    refine L.ef (e_call rfl (iadd_nd (1, hv r, 0, -1, -1) _ h4) rfl ?_)
    rintro _ w5 ⟨i5, rfl, he5, hs5⟩
    refine L.rd (rd_ext0 rfl) rfl ?_
    refine L.rd (rd_ext1 rfl) rfl ?_
    refine L.rd (rd_assign rfl) rfl ?_
    refine L.rd (rd_assign rfl) rfl ?_
    refine L.nil ?_
    refine X.sq ?_
    refine V.ret ?_
    refine X.sqRet ?_
    refine ret_2 Yaam.results139 rfl rfl ?_
    exact IPost.leaf (o := prim true E d r) (nd := (1, hv r, 0, -1, -1)) (t := lf 1 (hv r) 0) (r1 := r.tail) (by unfold prim; rw [if_pos h12]) rfl ((hE1.drew.trans he4).trans he5) hs5
  ·
    refine V.skip ?_
    refine X.sq ?_
    refine V.seq ?_
    refine V.seq ?_
    refine V.region ?_
    refine L.rd (rd_move rfl) rfl ?_
    refine L.rd (rd_eql rfl rfl) rfl ?_
    refine L.nil ?_
    refine X.sq ?_
    first | refine V.cond rfl (fun h38 => ?_) (fun h38 => ?_) | refine V.condB rfl (fun h38 => ?_) (fun h38 => ?_)
    ·
      obtain ⟨tb, to, rfl, -, -, hct⟩ := hft.resolve_left (by have := tail_len (r := r) (by omega); omega)
      have hg := sx_get h.sx (.inl (by omega))
      have hcf := (hct.le he1.leC).sub ((ts.length - r.length) * 2) _ (pr_get ts _ _ hg)
      have hlt := tail_len (r := r) (by omega)
      refine V.seq ?_
      refine V.draw [] mixed ?_
      refine D.take 0 [true, false, false, false, false, false, false, false, false, false, false, false] (.sq (.sq .bd)) rfl (rd_move rfl) rfl (by kernel_rfl) rfl (LeC.drew _) ?_
      refine D.take 1 [true, true, false, false, false, false, false, false, false, false, false, false] (.sq (.sq .bd)) rfl (rd_nilCheck rfl) rfl (by kernel_rfl) rfl (LeC.drew _) ?_
      refine D.take 2 [true, true, true, false, false, false, false, false, false, false, false, false] (.sq (.sq .bd)) rfl (rd_fieldAddr tok rfl rfl rfl rfl rfl rfl) rfl (by kernel_rfl) rfl (LeC.drew _) ?_
      refine D.take 3 [true, true, true, true, false, false, false, false, false, false, false, false] (.sq (.sq .bd)) rfl (rd_load1 tok rfl rfl rfl (h1.bl.cell rfl)) rfl (by kernel_rfl) rfl (LeC.drew _) ?_
      refine D.take 4 [true, true, true, true, true, false, false, false, false, false, false, false] (.sq (.sq .bd)) rfl (rd_move rfl) rfl (by kernel_rfl) rfl (LeC.drew _) ?_
      refine D.take 5 [true, true, true, true, true, true, false, false, false, false, false, false] (.sq (.sq .bd)) rfl (rd_nilCheck rfl) rfl (by kernel_rfl) rfl (LeC.drew _) ?_
      refine D.take 6 [true, true, true, true, true, true, true, false, false, false, false, false] (.sq (.sq .bd)) rfl (rd_fieldAddr tok rfl rfl rfl rfl rfl rfl) rfl (by kernel_rfl) rfl (LeC.drew _) ?_
      refine D.take 7 [true, true, true, true, true, true, true, true, false, false, false, false] (.sq (.sq .bd)) rfl (rd_load1 tok rfl rfl rfl (h1.bl.cell (i := 1) rfl)) rfl (by kernel_rfl) rfl (LeC.drew _) ?_
      (refine D.take 8 [true, true, true, true, true, true, true, true, true, false, false, false] (.sq (.sq .bd)) rfl (rd_indexSlice (sz := 2) tok rfl rfl rfl rfl rfl rfl rfl ?_) rfl (by kernel_rfl) rfl (LeC.drew _) ?_; omega)
      refine D.take 9 [true, true, true, true, true, true, true, true, true, true, false, false] (.sq (.sq .bd)) rfl (rd_fieldAddr tok rfl rfl rfl rfl rfl rfl) rfl (by kernel_rfl) rfl (LeC.drew _) ?_
      refine D.take 10 [true, true, true, true, true, true, true, true, true, true, true, false] (.sq (.sq .bd)) rfl (rd_load1 tok rfl rfl rfl (cells_at (i := 1) hcf rfl (by simp))) rfl (by kernel_rfl) rfl (LeC.drew _) ?_
      refine D.take 11 [true, true, true, true, true, true, true, true, true, true, true, true] (.sq (.sq .bd)) rfl (rd_assign rfl) rfl (by kernel_rfl) rfl (LeC.drew _) ?_
      refine D.done (by kernel_rfl) ?_
      refine X.sq ?_
      refine V.seq ?_
      have h1d := h1.ext ((Ext.refl _ w1).drew)
      refine V.region ?_
      refine L.rd (rd_move rfl) rfl ?_
      refine L.rd (rd_nilCheck rfl) rfl ?_
      refine L.rd (rd_fieldAddr tok rfl rfl rfl rfl rfl rfl) rfl ?_
      refine L.rd (rd_load1 tok rfl rfl rfl (h1d.bl.cell (i := 1) rfl)) rfl ?_
      (refine L.rd (rd_add3 rfl rfl ?_) rfl ?_; omega)
      refine L.rd (rd_nilCheck rfl) rfl ?_
      refine L.rd (rd_fieldAddr tok rfl rfl rfl rfl rfl rfl) rfl ?_
      refine L.ef (e_store (vs := [_]) tok rfl rfl rfl rfl h1d.bl rfl (by simp [Value.oneCell']) (by simp) ?_)
      refine L.nil ?_
      refine X.sq ?_
      refine V.seq ?_
      generalize hw4 : setB _ _ _ _ = w4
      obtain ⟨h4, he4⟩ := h1d.next (by omega) hw4
      refine V.region ?_
      refine L.rd (rd_move rfl) rfl ?_
      refine L.rd (rd_move rfl) rfl ?_
      refine L.rd (rd_build (out := [_, _, _, _, _]) tok rfl rfl rfl rfl rfl) rfl ?_
      refine L.ef (e_call rfl (iadd_nd (2, 0, hv r, -1, -1) _ h4) rfl ?_)
      rintro _ w5 ⟨i5, rfl, he5, hs5⟩
      refine L.rd (rd_ext0 rfl) rfl ?_
      refine L.rd (rd_ext1 rfl) rfl ?_
      refine L.rd (rd_assign rfl) rfl ?_
      refine L.rd (rd_assign rfl) rfl ?_
      refine L.nil ?_
      refine X.sq ?_
      refine V.ret ?_
      refine X.sqRet ?_
      refine ret_2 Yaam.results139 rfl rfl ?_
      exact IPost.leaf (o := prim true E d r) (nd := (2, 0, hv r, -1, -1)) (t := lf 2 0 (hv r)) (r1 := r.tail) (by unfold prim; rw [if_neg h12, if_pos h38]) rfl ((hE1.drew.trans he4).trans he5) hs5
    ·
      refine V.skip ?_
      refine X.sq ?_
      refine V.seq ?_
      refine V.seq ?_
      refine V.region ?_
      refine L.rd (rd_move rfl) rfl ?_
      refine L.rd (rd_eql rfl rfl) rfl ?_
      refine L.nil ?_
      refine X.sq ?_
      first | refine V.cond rfl (fun h64 => ?_) (fun h64 => ?_) | refine V.condB rfl (fun h64 => ?_) (fun h64 => ?_)
      ·
        have hlt := tail_len (r := r) (by omega)
        have hpr : prim true E d r = if 5000 < d + 1 then none else match E (d + 1) r.tail with
            | none => none
            | some (t, r2) => if hk r2 = 8 then some (t, r2.tail) else none := by
          unfold prim
          rw [if_neg h12, if_neg h38, if_pos h64]
          simp only [true_and]
          rfl
        refine V.seq ?_
        refine V.region ?_
        refine L.rd (rd_move rfl) rfl ?_
        refine L.rd (rd_nilCheck rfl) rfl ?_
        refine L.rd (rd_fieldAddr tok rfl rfl rfl rfl rfl rfl) rfl ?_
        refine L.rd (rd_load1 tok rfl rfl rfl (h1.bl.cell (i := 3) rfl)) rfl ?_
        (refine L.rd (rd_add3 rfl rfl ?_) rfl ?_; omega)
        refine L.rd (rd_nilCheck rfl) rfl ?_
        refine L.rd (rd_fieldAddr tok rfl rfl rfl rfl rfl rfl) rfl ?_
        refine L.ef (e_store (vs := [_]) tok rfl rfl rfl rfl h1.bl rfl (by simp [Value.oneCell']) (by simp) ?_)
        refine L.nil ?_
        refine X.sq ?_
        refine V.seq ?_
        refine V.seq ?_
        generalize hw4 : setB _ _ _ _ = w4
        obtain ⟨h4, he4⟩ := h1.deep (d' := d + 1) hw4
        have hE4 := hE1.trans he4
        refine V.region ?_
        refine L.rd (rd_move rfl) rfl ?_
        refine L.rd (rd_nilCheck rfl) rfl ?_
        refine L.rd (rd_fieldAddr tok rfl rfl rfl rfl rfl rfl) rfl ?_
        refine L.rd (rd_load1 tok rfl rfl rfl (h4.bl.cell (i := 3) rfl)) rfl ?_
        refine L.rd (rd_gtr rfl rfl) rfl ?_
        refine L.nil ?_
        refine X.sq ?_
        first | refine V.cond rfl (fun h76 => ?_) (fun h76 => ?_) | refine V.condB rfl (fun h76 => ?_) (fun h76 => ?_)
        ·
          refine V.seq ?_
          refine V.region ?_
          refine L.rd (rd_assign rfl) rfl ?_
          refine L.rd (rd_assign rfl) rfl ?_
          refine L.nil ?_
          refine X.sq ?_
          refine V.ret ?_
          refine X.sqRet ?_
          refine X.sqRet ?_
          refine ret_2 Yaam.results139 rfl rfl ?_
          exact IPost.bad (by rw [hpr, if_pos (by omega)]; rfl) hE4
        ·
          refine V.skip ?_
          refine X.sq ?_
          refine V.seq ?_
          refine V.region ?_
          refine L.rd (rd_move rfl) rfl ?_
          refine L.rd (rd_nilCheck rfl) rfl ?_
          refine L.rd (rd_fieldAddr tok rfl rfl rfl rfl rfl rfl) rfl ?_
          refine L.rd (rd_load1 tok rfl rfl rfl (h4.bl.cell (i := 1) rfl)) rfl ?_
          (refine L.rd (rd_add3 rfl rfl ?_) rfl ?_; omega)
          refine L.rd (rd_nilCheck rfl) rfl ?_
          refine L.rd (rd_fieldAddr tok rfl rfl rfl rfl rfl rfl) rfl ?_
          refine L.ef (e_store (vs := [_]) tok rfl rfl rfl rfl h4.bl rfl (by simp [Value.oneCell']) (by simp) ?_)
          refine L.nil ?_
          refine X.sq ?_
          refine V.seq ?_
          generalize hw5 : setB _ _ _ _ = w5
          obtain ⟨h5, he5⟩ := h4.next (by omega) hw5
          have hE5 := hE4.trans he5
          rw [if_neg (by omega)] at hpr
          refine V.region ?_
          refine L.rd (rd_move rfl) rfl ?_
          refine L.ef (e_call rfl (hE _ r.tail _ ns (d + 1) (by omega) (by omega) hn h5) rfl ?_)
          rintro _ w6 ⟨i6, rfl, he6, hs6⟩
          have hE6 := hE5.trans he6
          refine L.rd (rd_move rfl) rfl ?_
          refine L.rd (rd_ext0 rfl) rfl ?_
          refine L.rd (rd_ext1 rfl) rfl ?_
          refine L.rd (rd_assign rfl) rfl ?_
          refine L.rd (rd_assign rfl) rfl ?_
          refine L.nil ?_
          refine X.sq ?_
          refine V.seq ?_
          refine V.seq ?_
          refine V.region ?_
          refine L.rd (rd_move rfl) rfl ?_
          first | refine L.rd (rd_not rfl) rfl ?_ | refine L.rd (rd_notB rfl) rfl ?_
          refine L.nil ?_
          refine X.sq ?_
          first | refine V.cond rfl (fun h90 => ?_) (fun h90 => ?_) | refine V.condB rfl (fun h90 => ?_) (fun h90 => ?_)
          ·
            refine V.seq ?_
            refine V.region ?_
            refine L.rd (rd_assign rfl) rfl ?_
            refine L.rd (rd_assign rfl) rfl ?_
            refine L.nil ?_
            refine X.sq ?_
            refine V.ret ?_
            refine X.sqRet ?_
            refine X.sqRet ?_
            refine ret_2 Yaam.results139 rfl rfl ?_
            refine IPost.bad ?_ hE6
            have hno : lim ns.length (E (d + 1) r.tail) = none := by simpa using h90
            rw [hpr]
            rcases lim_out hno with h0 | ⟨t, r2, h0, hb⟩
            · rw [h0]; rfl
            · rw [h0]
              simp only []
              split
              · exact lim_no hb
              · rfl
          ·
            obtain ⟨⟨t2, r2⟩, hl2⟩ := Option.isSome_iff_exists.1 (by simpa using h90)
            obtain ⟨rfl, nv6, h6⟩ := hs6 _ _ hl2
            obtain ⟨ho2, hb2⟩ := lim_some hl2
            rw [ho2] at hpr
            simp only [] at hpr
            refine V.skip ?_
            refine X.sq ?_
            refine V.seq ?_
            refine V.seq ?_
            refine V.region ?_
            refine L.rd (rd_move rfl) rfl ?_
            refine L.ef (e_call rfl (ikind_ok _ h6) rfl ?_)
            rintro _ w7 ⟨rfl, he7⟩
            have h7 := h6.ext he7
            have hE7 := hE6.trans (he7.low (by have := h6.bl.lt; omega))
            refine L.rd (rd_neq rfl rfl) rfl ?_
            refine L.nil ?_
            refine X.sq ?_
            first | refine V.cond rfl (fun h93 => ?_) (fun h93 => ?_) | refine V.condB rfl (fun h93 => ?_) (fun h93 => ?_)
            ·
              refine V.seq ?_
              refine V.region ?_
              refine L.rd (rd_assign rfl) rfl ?_
              refine L.rd (rd_assign rfl) rfl ?_
              refine L.nil ?_
              refine X.sq ?_
              refine V.ret ?_
              refine X.sqRet ?_
              refine X.sqRet ?_
              refine ret_2 Yaam.results139 rfl rfl ?_
              exact IPost.bad (by rw [hpr, if_neg (by omega)]; rfl) hE7
            ·
              refine V.skip ?_
              refine X.sq ?_
              refine V.seq ?_
              have hl2 := h7.sx.length_le
              refine V.region ?_
              refine L.rd (rd_move rfl) rfl ?_
              refine L.rd (rd_nilCheck rfl) rfl ?_
              refine L.rd (rd_fieldAddr tok rfl rfl rfl rfl rfl rfl) rfl ?_
              refine L.rd (rd_load1 tok rfl rfl rfl (h7.bl.cell (i := 1) rfl)) rfl ?_
              (refine L.rd (rd_add3 rfl rfl ?_) rfl ?_; omega)
              refine L.rd (rd_nilCheck rfl) rfl ?_
              refine L.rd (rd_fieldAddr tok rfl rfl rfl rfl rfl rfl) rfl ?_
              refine L.ef (e_store (vs := [_]) tok rfl rfl rfl rfl h7.bl rfl (by simp [Value.oneCell']) (by simp) ?_)
              refine L.nil ?_
              refine X.sq ?_
              refine V.seq ?_
              generalize hw8 : setB _ _ _ _ = w8
              obtain ⟨h8, he8⟩ := h7.next (by omega) hw8
              have hE8 := hE7.trans he8
              refine V.region ?_
              refine L.rd (rd_move rfl) rfl ?_
              refine L.rd (rd_nilCheck rfl) rfl ?_
              refine L.rd (rd_fieldAddr tok rfl rfl rfl rfl rfl rfl) rfl ?_
              refine L.rd (rd_load1 tok rfl rfl rfl (h8.bl.cell (i := 3) rfl)) rfl ?_
              (refine L.rd (rd_sub3 rfl rfl ?_) rfl ?_; omega)
              refine L.rd (rd_nilCheck rfl) rfl ?_
              refine L.rd (rd_fieldAddr tok rfl rfl rfl rfl rfl rfl) rfl ?_
              refine L.ef (e_store (vs := [_]) tok rfl rfl rfl rfl h8.bl rfl (by simp [Value.oneCell']) (by simp) ?_)
              refine L.nil ?_
              refine X.sq ?_
              refine V.seq ?_
              generalize hw9 : setB _ _ _ _ = w9
              have e9 : ((d + 1 : Nat) : Int) - 1 = (d : Int) := by omega
              rw [e9] at hw9
              obtain ⟨h9, he9⟩ := h8.deep (d' := d) hw9
              refine V.region ?_
              refine L.rd (rd_move rfl) rfl ?_
              refine L.rd (rd_assign rfl) rfl ?_
              refine L.rd (rd_assign rfl) rfl ?_
              refine L.nil ?_
              refine X.sq ?_
              refine V.ret ?_
              refine X.sqRet ?_
              refine ret_2 Yaam.results139 rfl rfl ?_
              refine IPost.same (t := t2) (r1 := r2.tail) ?_ (hE8.trans he9) rfl h9
              rw [hpr, if_pos (by omega)]
              exact lim_yes hb2
      ·
        refine V.skip ?_
        refine X.sq ?_
        refine V.seq ?_
        refine V.region ?_
        refine L.rd (rd_assign rfl) rfl ?_
        refine L.rd (rd_assign rfl) rfl ?_
        refine L.nil ?_
        refine X.sq ?_
        refine V.ret ?_
        refine ret_2 Yaam.results139 rfl rfl ?_
        exact IPost.bad (by unfold prim; rw [if_neg h12, if_neg h38, if_neg h64]; rfl) hE1

theorem ipow_ok {bp : Nat} {tv : Value} {ts : List TK} {n : Nat} {E : Nat → List TK → PR} (hE : HE bp tv ts n E) (hSx : Sx E) (hts : ts.length ≤ 2000000) (w : World) (r : List TK) (nv : Value) (ns : List Nd) (d : Nat) (hr : r.length ≤ n) (hd : d ≤ 5000) (hn : ns.length ≤ 500000) (h : IPq bp tv ts w r nv ns d) : Ret Yaam.prog 135 [.pointer (some ⟨bp, 0, none⟩)] w (IPo bp tv ts ns d (powr true E d r) w) := by
  obtain ⟨ta, tc, rfl, -⟩ := h.tk.form
  have hbp := h.bl.lt
  refine enter1 Yaam.func135 Yaam.ntmps135 (by kernel_rfl) rfl rfl ?_
  refine V.seq ?_
  refine V.region ?_
  refine L.rd (rd_assign rfl) rfl ?_
  refine L.rd (rd_assign rfl) rfl ?_
  refine L.nil ?_
  refine X.sq ?_
  refine V.seq ?_
  refine V.region ?_
  refine L.rd (rd_move rfl) rfl ?_
  refine L.ef (e_call rfl (iprim_ok hE hts _ r _ ns d hr hd hn h) rfl ?_)
  rintro _ w1 ⟨i1, rfl, hE1, hs1⟩
  refine L.rd (rd_move rfl) rfl ?_
  refine L.rd (rd_ext0 rfl) rfl ?_
  refine L.rd (rd_ext1 rfl) rfl ?_
  refine L.rd (rd_assign rfl) rfl ?_
  refine L.rd (rd_assign rfl) rfl ?_
  refine L.nil ?_
  refine X.sq ?_
  refine V.seq ?_
  refine V.seq ?_
  refine V.region ?_
  refine L.rd (rd_move rfl) rfl ?_
  first | refine L.rd (rd_not rfl) rfl ?_ | refine L.rd (rd_notB rfl) rfl ?_
  refine L.nil ?_
  refine X.sq ?_
  first | refine V.cond rfl (fun h13 => ?_) (fun h13 => ?_) | refine V.condB rfl (fun h13 => ?_) (fun h13 => ?_)
  ·
    refine V.seq ?_
    refine V.region ?_
    refine L.rd (rd_assign rfl) rfl ?_
    refine L.rd (rd_assign rfl) rfl ?_
    refine L.nil ?_
    refine X.sq ?_
    refine V.ret ?_
    refine X.sqRet ?_
    refine ret_2 Yaam.results135 rfl rfl ?_
    refine IPost.bad ?_ hE1
    have hno : lim ns.length (prim true E d r) = none := by simpa using h13
    unfold powr
    rcases lim_out hno with h0 | ⟨t, r2, h0, hb⟩
    · rw [h0]; rfl
    · rw [h0]
      simp only []
      refine lim_big fun t3 r3 h3 => ?_
      split at h3
      · split at h3
        · simp only [Option.some.injEq, Prod.mk.injEq] at h3
          rw [← h3.1, tsz_u1]; omega
        · cases h3
      · simp only [Option.some.injEq, Prod.mk.injEq] at h3
        rw [← h3.1]; exact hb
  ·
    obtain ⟨⟨t1, r1⟩, hl1⟩ := Option.isSome_iff_exists.1 (by simpa using h13)
    obtain ⟨rfl, nv1, h1⟩ := hs1 _ _ hl1
    obtain ⟨ho1, hb1⟩ := lim_some hl1
    have hpr : powr true E d r = if hk r1 = 6 then (if hk r1.tail = 1 ∧ 0 ≤ hv r1.tail ∧ hv r1.tail ≤ 1000000 then some (u1 7 (hv r1.tail) t1, r1.tail.tail) else none) else some (t1, r1) := by
      unfold powr; rw [ho1]
    have hl := h1.sx.length_le
    refine V.skip ?_
    refine X.sq ?_
    refine V.seq ?_
    refine V.seq ?_
    refine V.region ?_
    refine L.rd (rd_move rfl) rfl ?_
    refine L.ef (e_call rfl (ikind_ok _ h1) rfl ?_)
    rintro _ w2 ⟨rfl, he2⟩
    have h2 := h1.ext he2
    have hE2 := hE1.trans (he2.low (by have := h1.bl.lt; omega))
    refine L.rd (rd_eql rfl rfl) rfl ?_
    refine L.nil ?_
    refine X.sq ?_
    first | refine V.cond rfl (fun h16 => ?_) (fun h16 => ?_) | refine V.condB rfl (fun h16 => ?_) (fun h16 => ?_)
    ·
      rw [if_pos h16] at hpr
      have hlt := tail_len (r := r1) (by omega)
      refine V.seq ?_
      refine V.region ?_
      refine L.rd (rd_move rfl) rfl ?_
      refine L.rd (rd_nilCheck rfl) rfl ?_
      refine L.rd (rd_fieldAddr tok rfl rfl rfl rfl rfl rfl) rfl ?_
      refine L.rd (rd_load1 tok rfl rfl rfl (h2.bl.cell (i := 1) rfl)) rfl ?_
      (refine L.rd (rd_add3 rfl rfl ?_) rfl ?_; omega)
      refine L.rd (rd_nilCheck rfl) rfl ?_
      refine L.rd (rd_fieldAddr tok rfl rfl rfl rfl rfl rfl) rfl ?_
      refine L.ef (e_store (vs := [_]) tok rfl rfl rfl rfl h2.bl rfl (by simp [Value.oneCell']) (by simp) ?_)
      refine L.nil ?_
      refine X.sq ?_
      refine V.seq ?_
      refine V.seq ?_
      generalize hw3 : setB _ _ _ _ = w3
      obtain ⟨h3, he3⟩ := h2.next (by omega) hw3
      have hE3 := hE2.trans he3
      refine V.region ?_
      refine L.rd (rd_move rfl) rfl ?_
      refine L.ef (e_call rfl (ikind_ok _ h3) rfl ?_)
      rintro _ w4 ⟨rfl, he4⟩
      have h4 := h3.ext he4
      have hE4 := hE3.trans (he4.low (by have := h3.bl.lt; omega))
      refine L.rd (rd_neq rfl rfl) rfl ?_
      refine L.nil ?_
      refine X.sq ?_
      first | refine V.cond rfl (fun h26 => ?_) (fun h26 => ?_) | refine V.condB rfl (fun h26 => ?_) (fun h26 => ?_)
      ·
        refine V.seq ?_
        refine V.region ?_
        refine L.rd (rd_assign rfl) rfl ?_
        refine L.rd (rd_assign rfl) rfl ?_
        refine L.nil ?_
        refine X.sq ?_
        refine V.ret ?_
        refine X.sqRet ?_
        refine X.sqRet ?_
        refine ret_2 Yaam.results135 rfl rfl ?_
        exact IPost.bad (by rw [hpr, if_neg (fun e => by omega)]; rfl) hE4
      ·
        refine V.skip ?_
        refine X.sq ?_
        refine V.seq ?_
        obtain ⟨ta', tc', htv, hft⟩ := h4.tk.form
        simp only [Value.slice.injEq, true_and] at htv
        obtain ⟨rfl, rfl⟩ := htv
        have h1k : hk r1.tail = 1 := by omega
        have hlt2 := tail_len (r := r1.tail) (by omega)
        obtain ⟨tb, to, rfl, -, -, hct⟩ := hft.resolve_left (by omega)
        have hg := sx_get h4.sx (.inl (by omega))
        have hcf := hct.sub ((ts.length - r1.tail.length) * 2) _ (pr_get ts _ _ hg)
        refine V.draw [] mixed ?_
        refine D.take 0 [true, false, false, false, false, false, false, false, false, false, false, false] (.sq (.sq .bd)) rfl (rd_move rfl) rfl (by kernel_rfl) rfl (LeC.drew _) ?_
        refine D.take 1 [true, true, false, false, false, false, false, false, false, false, false, false] (.sq (.sq .bd)) rfl (rd_nilCheck rfl) rfl (by kernel_rfl) rfl (LeC.drew _) ?_
        refine D.take 2 [true, true, true, false, false, false, false, false, false, false, false, false] (.sq (.sq .bd)) rfl (rd_fieldAddr tok rfl rfl rfl rfl rfl rfl) rfl (by kernel_rfl) rfl (LeC.drew _) ?_
        refine D.take 3 [true, true, true, true, false, false, false, false, false, false, false, false] (.sq (.sq .bd)) rfl (rd_load1 tok rfl rfl rfl (h4.bl.cell rfl)) rfl (by kernel_rfl) rfl (LeC.drew _) ?_
        refine D.take 4 [true, true, true, true, true, false, false, false, false, false, false, false] (.sq (.sq .bd)) rfl (rd_move rfl) rfl (by kernel_rfl) rfl (LeC.drew _) ?_
        refine D.take 5 [true, true, true, true, true, true, false, false, false, false, false, false] (.sq (.sq .bd)) rfl (rd_nilCheck rfl) rfl (by kernel_rfl) rfl (LeC.drew _) ?_
        refine D.take 6 [true, true, true, true, true, true, true, false, false, false, false, false] (.sq (.sq .bd)) rfl (rd_fieldAddr tok rfl rfl rfl rfl rfl rfl) rfl (by kernel_rfl) rfl (LeC.drew _) ?_
        refine D.take 7 [true, true, true, true, true, true, true, true, false, false, false, false] (.sq (.sq .bd)) rfl (rd_load1 tok rfl rfl rfl (h4.bl.cell (i := 1) rfl)) rfl (by kernel_rfl) rfl (LeC.drew _) ?_
        (refine D.take 8 [true, true, true, true, true, true, true, true, true, false, false, false] (.sq (.sq .bd)) rfl (rd_indexSlice (sz := 2) tok rfl rfl rfl rfl rfl rfl rfl ?_) rfl (by kernel_rfl) rfl (LeC.drew _) ?_; omega)
        refine D.take 9 [true, true, true, true, true, true, true, true, true, true, false, false] (.sq (.sq .bd)) rfl (rd_fieldAddr tok rfl rfl rfl rfl rfl rfl) rfl (by kernel_rfl) rfl (LeC.drew _) ?_
        refine D.take 10 [true, true, true, true, true, true, true, true, true, true, true, false] (.sq (.sq .bd)) rfl (rd_load1 tok rfl rfl rfl (cells_at (i := 1) hcf rfl (by simp))) rfl (by kernel_rfl) rfl (LeC.drew _) ?_
        refine D.take 11 [true, true, true, true, true, true, true, true, true, true, true, true] (.sq (.sq .bd)) rfl (rd_assign rfl) rfl (by kernel_rfl) rfl (LeC.drew _) ?_
        refine D.done (by kernel_rfl) ?_
        refine X.sq ?_
        refine V.seq ?_
        refine V.seq ?_
        refine V.region ?_
        refine L.rd (rd_move rfl) rfl ?_
        refine L.rd (rd_lss rfl rfl) rfl ?_
        refine L.rd (rd_move rfl) rfl ?_
        first | refine L.partG rfl rfl (fun g40 => ?_) (fun g40 => ?_) | refine L.partGB rfl rfl (fun g40 => ?_) (fun g40 => ?_)
        ·
          refine L.no rfl rfl rfl rfl ?_
          refine L.no rfl rfl rfl rfl ?_
          refine L.rd (rd_pickT rfl rfl) rfl ?_
          refine L.nil ?_
          refine X.sq ?_
          refine V.condT rfl ?_
          refine V.seq ?_
          refine V.region ?_
          refine L.rd (rd_assign rfl) rfl ?_
          refine L.rd (rd_assign rfl) rfl ?_
          refine L.nil ?_
          refine X.sq ?_
          refine V.ret ?_
          refine X.sqRet ?_
          refine X.sqRet ?_
          refine ret_2 Yaam.results135 rfl rfl ?_
          exact IPost.bad (by rw [hpr, if_neg (fun e => by omega)]; rfl) hE4.drew
        ·
          refine L.yes rfl rfl ?_
          refine L.rd (rd_move rfl) rfl ?_
          refine L.yes rfl rfl ?_
          refine L.rd (rd_gtr rfl rfl) rfl ?_
          refine L.rd (rd_pickF rfl rfl) rfl ?_
          refine L.nil ?_
          refine X.sq ?_
          first | refine V.cond rfl (fun h43 => ?_) (fun h43 => ?_) | refine V.condB rfl (fun h43 => ?_) (fun h43 => ?_)
          ·
            refine V.seq ?_
            refine V.region ?_
            refine L.rd (rd_assign rfl) rfl ?_
            refine L.rd (rd_assign rfl) rfl ?_
            refine L.nil ?_
            refine X.sq ?_
            refine V.ret ?_
            refine X.sqRet ?_
            refine X.sqRet ?_
            refine ret_2 Yaam.results135 rfl rfl ?_
            exact IPost.bad (by rw [hpr, if_neg (fun e => by omega)]; rfl) hE4.drew
          ·
            refine V.skip ?_
            refine X.sq ?_
            refine V.seq ?_
            have h4d := h4.ext ((Ext.refl _ w4).drew)
            rw [if_pos ⟨h1k, by omega, by omega⟩] at hpr
            refine V.region ?_
            refine L.rd (rd_move rfl) rfl ?_
            refine L.rd (rd_nilCheck rfl) rfl ?_
            refine L.rd (rd_fieldAddr tok rfl rfl rfl rfl rfl rfl) rfl ?_
            refine L.rd (rd_load1 tok rfl rfl rfl (h4d.bl.cell (i := 1) rfl)) rfl ?_
            (refine L.rd (rd_add3 rfl rfl ?_) rfl ?_; omega)
            refine L.rd (rd_nilCheck rfl) rfl ?_
            refine L.rd (rd_fieldAddr tok rfl rfl rfl rfl rfl rfl) rfl ?_
            refine L.ef (e_store (vs := [_]) tok rfl rfl rfl rfl h4d.bl rfl (by simp [Value.oneCell']) (by simp) ?_)
            refine L.nil ?_
            refine X.sq ?_
            refine V.seq ?_
            generalize hw5 : setB _ _ _ _ = w5
            obtain ⟨h5, he5⟩ := h4d.next (by omega) hw5
            refine V.region ?_
            refine L.rd (rd_move rfl) rfl ?_
            refine L.rd (rd_move rfl) rfl ?_
            refine L.rd (rd_move rfl) rfl ?_
            refine L.rd (rd_build (out := [_, _, _, _, _]) tok rfl rfl rfl rfl rfl) rfl ?_
            refine L.ef (e_call rfl (iadd_nd (7, hv r1.tail, 0, (ns.length : Int) + tsz t1 - 1, -1) _ h5) rfl ?_)
            rintro _ w6 ⟨i6, rfl, he6, hs6⟩
            refine L.rd (rd_ext0 rfl) rfl ?_
            refine L.rd (rd_ext1 rfl) rfl ?_
            refine L.rd (rd_assign rfl) rfl ?_
            refine L.rd (rd_assign rfl) rfl ?_
            refine L.nil ?_
            refine X.sq ?_
            refine V.ret ?_
            refine X.sqRet ?_
            refine ret_2 Yaam.results135 rfl rfl ?_
            exact IPost.add (o := powr true E d r) (pre := flat t1 ns.length) (nd := (7, hv r1.tail, 0, (ns.length : Int) + tsz t1 - 1, -1)) (t := u1 7 (hv r1.tail) t1) (r1 := r1.tail.tail) hpr rfl ((hE4.drew.trans he5).trans he6) hs6
    ·
      refine V.skip ?_
      refine X.sq ?_
      refine V.seq ?_
      refine V.region ?_
      refine L.rd (rd_move rfl) rfl ?_
      refine L.rd (rd_assign rfl) rfl ?_
      refine L.rd (rd_assign rfl) rfl ?_
      refine L.nil ?_
      refine X.sq ?_
      refine V.ret ?_
      refine ret_2 Yaam.results135 rfl rfl ?_
      rw [if_neg h16] at hpr
      exact IPost.same (by rw [hpr]; exact lim_yes hb1) hE2 rfl h2

theorem iunry_ok {bp : Nat} {tv : Value} {ts : List TK} {n : Nat} {E : Nat → List TK → PR} (hE : HE bp tv ts n E) (hSx : Sx E) (hts : ts.length ≤ 2000000) (w : World) (r : List TK) (nv : Value) (ns : List Nd) (d : Nat) (hr : r.length ≤ n) (hd : d ≤ 5000) (hn : ns.length ≤ 500000) (h : IPq bp tv ts w r nv ns d) : Ret Yaam.prog 120 [.pointer (some ⟨bp, 0, none⟩)] w (IPo bp tv ts ns d (unry true E d r) w) := by
  obtain ⟨ta, tc, rfl, -⟩ := h.tk.form
  have hbp := h.bl.lt
  have hl := h.sx.length_le
  refine enter1 Yaam.func120 Yaam.ntmps120 (by kernel_rfl) rfl rfl ?_
  refine V.seq ?_
  refine V.region ?_
  refine L.rd (rd_assign rfl) rfl ?_
  refine L.rd (rd_assign rfl) rfl ?_
  refine L.nil ?_
  refine X.sq ?_
  refine V.seq ?_
  refine V.region ?_
  refine L.rd (rd_assign rfl) rfl ?_
  refine L.nil ?_
  refine X.sq ?_
  refine V.seq ?_
  refine V.block ?_
  refine V.loop (fun m l w1 => ∃ (c : Nat), l = [(0, .pointer (some ⟨bp, 0, none⟩)), (4, .int .i64 c)] ∧ m = (r.drop c).length ∧ c ≤ r.length ∧ Ext bp w w1 ∧ IPq bp (.slice ta ts.length tc) ts w1 (r.drop c) nv ns d ∧ lead r = c + lead (r.drop c)) ?_ ?_
  ·
    exact ⟨_, _, (by repeat' (first | exact trivial | refine ⟨rfl, ?_⟩)), 0, rfl, rfl, by omega, Ext.refl _ _, h, by simp⟩
  ·
    clear h
    rintro m l w1 ⟨c, rfl, rfl, hc, hE1, h, hld⟩
    have hl1 := h.sx.length_le
    refine V.seq ?_
    refine V.seq ?_
    refine V.region ?_
    refine L.rd (rd_move rfl) rfl ?_
    refine L.ef (e_call rfl (ikind_ok _ h) rfl ?_)
    rintro _ w2 ⟨rfl, he2⟩
    have h2 := h.ext he2
    have hE2 := hE1.trans (he2.low (by have := h.bl.lt; omega))
    refine L.rd (rd_eql rfl rfl) rfl ?_
    refine L.nil ?_
    refine X.sq ?_
    first | refine V.cond rfl (fun h10 => ?_) (fun h10 => ?_) | refine V.condB rfl (fun h10 => ?_) (fun h10 => ?_)
    ·
      have hlt := tail_len (r := r.drop c) (by omega)
      rw [List.length_drop] at hlt
      have htl : (r.drop c).tail = r.drop (c + 1) := by rw [List.tail_drop]
      have hld2 : lead (r.drop c) = lead (r.drop (c + 1)) + 1 := by
        rw [← htl]
        cases hrc : r.drop c with
        | nil => rw [hrc] at h10; simp [hk] at h10
        | cons t r' =>
          rw [hrc] at h10
          have h10' : t.1 = 4 := h10
          rw [lead, if_pos h10']; rfl
      refine V.skip ?_
      refine X.sq ?_
      refine V.block ?_
      refine V.seq ?_
      refine V.region ?_
      refine L.rd (rd_move rfl) rfl ?_
      (refine L.rd (rd_add3 rfl rfl ?_) rfl ?_; omega)
      refine L.rd (rd_assign rfl) rfl ?_
      refine L.nil ?_
      refine X.sq ?_
      refine V.region ?_
      refine L.rd (rd_move rfl) rfl ?_
      refine L.rd (rd_nilCheck rfl) rfl ?_
      refine L.rd (rd_fieldAddr tok rfl rfl rfl rfl rfl rfl) rfl ?_
      refine L.rd (rd_load1 tok rfl rfl rfl (h2.bl.cell (i := 1) rfl)) rfl ?_
      (refine L.rd (rd_add3 rfl rfl ?_) rfl ?_; omega)
      refine L.rd (rd_nilCheck rfl) rfl ?_
      refine L.rd (rd_fieldAddr tok rfl rfl rfl rfl rfl rfl) rfl ?_
      refine L.ef (e_store (vs := [_]) tok rfl rfl rfl rfl h2.bl rfl (by simp [Value.oneCell']) (by simp) ?_)
      refine L.nil ?_
      refine X.bk ?_
      generalize hw3 : setB _ _ _ _ = w3
      obtain ⟨h3, he3⟩ := h2.next (by omega) hw3
      rw [htl] at h3
      exact X.lp ⟨_, _, by rw [List.length_drop, List.length_drop]; omega, (by repeat' (first | exact trivial | refine ⟨rfl, ?_⟩)), c + 1, rfl, rfl, by omega, hE2.trans he3, h3, by omega⟩
    ·
      refine V.exit ?_
      refine X.sqExit ?_
      refine X.lpExit ?_
      refine X.bkHere ?_
      refine X.sq ?_
      refine V.seq ?_
      have h0 : lead (r.drop c) = 0 := by
        cases hrc : r.drop c with
        | nil => rfl
        | cons t r' =>
          rw [hrc] at h10
          have h10' : ¬ t.1 = 4 := h10
          rw [lead, if_neg h10']
      obtain rfl : c = lead r := by omega
      have hpr : unry true E d r = match powr true E d (r.drop (lead r)) with
          | none => none
          | some (t, r1) => some (negs (lead r) t, r1) := rfl
      refine V.region ?_
      refine L.rd (rd_move rfl) rfl ?_
      refine L.ef (e_call rfl (ipow_ok hE hSx hts _ (r.drop (lead r)) _ ns d (by rw [List.length_drop]; omega) hd hn h2) rfl ?_)
      rintro _ w3 ⟨i3, rfl, he3, hs3⟩
      have hE3 := hE2.trans he3
      refine L.rd (rd_move rfl) rfl ?_
      refine L.rd (rd_ext0 rfl) rfl ?_
      refine L.rd (rd_ext1 rfl) rfl ?_
      refine L.rd (rd_assign rfl) rfl ?_
      refine L.rd (rd_assign rfl) rfl ?_
      refine L.nil ?_
      refine X.sq ?_
      refine V.seq ?_
      refine V.seq ?_
      refine V.region ?_
      refine L.rd (rd_move rfl) rfl ?_
      first | refine L.rd (rd_not rfl) rfl ?_ | refine L.rd (rd_notB rfl) rfl ?_
      refine L.nil ?_
      refine X.sq ?_
      first | refine V.cond rfl (fun h26 => ?_) (fun h26 => ?_) | refine V.condB rfl (fun h26 => ?_) (fun h26 => ?_)
      ·
        refine V.seq ?_
        refine V.region ?_
        refine L.rd (rd_assign rfl) rfl ?_
        refine L.rd (rd_assign rfl) rfl ?_
        refine L.nil ?_
        refine X.sq ?_
        refine V.ret ?_
        refine X.sqRet ?_
        refine ret_2 Yaam.results120 rfl rfl ?_
        refine IPost.bad ?_ hE3
        have hno : lim ns.length (powr true E d (r.drop (lead r))) = none := by simpa using h26
        rw [hpr]
        rcases lim_out hno with h0 | ⟨t, r2, h0, hb⟩
        · rw [h0]; rfl
        · rw [h0]
          exact lim_no (by rw [tsz_negs]; omega)
      ·
        obtain ⟨⟨t1, r1⟩, hl1⟩ := Option.isSome_iff_exists.1 (by simpa using h26)
        obtain ⟨rfl, nv1, h3⟩ := hs3 _ _ hl1
        obtain ⟨ho1, hb1⟩ := lim_some hl1
        rw [ho1] at hpr
        simp only [] at hpr
        generalize hm : lead r = M at *
        refine V.skip ?_
        refine X.sq ?_
        refine V.seq ?_
        refine V.seq ?_
        refine V.region ?_
        refine L.rd (rd_assign rfl) rfl ?_
        refine L.nil ?_
        refine X.sq ?_
        refine V.block ?_
        refine V.loop (fun m l w4 => ∃ (c : Nat) (nv' : Value), l = [(0, .pointer (some ⟨bp, 0, none⟩)), (4, .int .i64 M), (5, .int .i64 ((ns.length : Int) + tsz (negs c t1) - 1)), (7, .int .i64 c)] ∧ m = M - c ∧ c ≤ M ∧ Ext bp w w4 ∧ IPq bp (.slice ta ts.length tc) ts w4 r1 nv' (ns ++ flat (negs c t1) ns.length) d ∧ ns.length + tsz (negs c t1) ≤ 500000) ?_ ?_
        ·
          exact ⟨_, _, (by repeat' (first | exact trivial | refine ⟨rfl, ?_⟩)), 0, _, rfl, rfl, by omega, hE3, h3, hb1⟩
        ·
          rintro m l w4 ⟨c, nv', rfl, rfl, hc, hE4, h4, hb4⟩
          have hz := tsz_negs c t1
          have hfl := flat_len (negs c t1) ns.length
          refine V.seq ?_
          refine V.seq ?_
          refine V.region ?_
          refine L.rd (rd_move rfl) rfl ?_
          refine L.rd (rd_move rfl) rfl ?_
          refine L.rd (rd_lss rfl rfl) rfl ?_
          refine L.nil ?_
          refine X.sq ?_
          first | refine V.cond rfl (fun h29 => ?_) (fun h29 => ?_) | refine V.condB rfl (fun h29 => ?_) (fun h29 => ?_)
          ·
            refine V.skip ?_
            refine X.sq ?_
            refine V.seq ?_
            refine V.block ?_
            refine V.seq ?_
            refine V.region ?_
            refine L.rd (rd_move rfl) rfl ?_
            refine L.rd (rd_move rfl) rfl ?_
            refine L.rd (rd_build (out := [_, _, _, _, _]) tok rfl rfl rfl rfl rfl) rfl ?_
            refine L.ef (e_call rfl (iadd_nd (3, 0, 0, (ns.length : Int) + tsz (negs c t1) - 1, -1) _ h4) rfl ?_)
            rintro _ w5 ⟨i5, rfl, he5, hs5⟩
            have hE5 := hE4.trans he5
            rw [List.length_append, hfl] at hs5 ⊢
            refine L.rd (rd_move rfl) rfl ?_
            refine L.rd (rd_ext0 rfl) rfl ?_
            refine L.rd (rd_ext1 rfl) rfl ?_
            refine L.rd (rd_assign rfl) rfl ?_
            refine L.rd (rd_assign rfl) rfl ?_
            refine L.nil ?_
            refine X.sq ?_
            refine V.seq ?_
            refine V.region ?_
            refine L.rd (rd_move rfl) rfl ?_
            first | refine L.rd (rd_not rfl) rfl ?_ | refine L.rd (rd_notB rfl) rfl ?_
            refine L.nil ?_
            refine X.sq ?_
            first | refine V.cond rfl (fun h40 => ?_) (fun h40 => ?_) | refine V.condB rfl (fun h40 => ?_) (fun h40 => ?_)
            ·
              refine V.seq ?_
              refine V.region ?_
              refine L.rd (rd_assign rfl) rfl ?_
              refine L.rd (rd_assign rfl) rfl ?_
              refine L.nil ?_
              refine X.sq ?_
              refine V.ret ?_
              refine X.bkRet ?_
              refine X.sqRet ?_
              refine X.lpRet ?_
              refine X.bkRet ?_
              refine X.sqRet ?_
              refine ret_2 Yaam.results120 rfl rfl ?_
              refine IPost.bad ?_ hE5
              rw [hpr]
              exact lim_no (by rw [tsz_negs]; have : ¬ ns.length + tsz (negs c t1) < 500000 := by simpa using h40
                               omega)
            ·
              refine V.skip ?_
              refine X.bk ?_
              refine X.sq ?_
              refine V.region ?_
              refine L.rd (rd_move rfl) rfl ?_
              (refine L.rd (rd_add3 rfl rfl ?_) rfl ?_; omega)
              refine L.rd (rd_assign rfl) rfl ?_
              refine L.nil ?_
              have hlt : ns.length + tsz (negs c t1) < 500000 := by simpa using h40
              obtain ⟨rfl, nv5, h5⟩ := hs5 hlt
              rw [List.append_assoc] at h5
              refine X.lp ⟨_, _, by omega, ?_, c + 1, nv5, rfl, rfl, by omega, hE5, h5, by rw [negs, tsz_u1]; omega⟩
              rw [negs, tsz_u1]
              have e : ((ns.length : Int) + ((1 + tsz (negs c t1) : Nat) : Int) - 1) = ((ns.length + tsz (negs c t1) : Nat) : Int) := by omega
              rw [e]
              exact (by repeat' (first | exact trivial | refine ⟨rfl, ?_⟩))
          ·
            refine V.exit ?_
            refine X.sqExit ?_
            refine X.lpExit ?_
            refine X.bkHere ?_
            refine X.sq ?_
            refine V.seq ?_
            refine V.region ?_
            refine L.rd (rd_move rfl) rfl ?_
            refine L.rd (rd_assign rfl) rfl ?_
            refine L.rd (rd_assign rfl) rfl ?_
            refine L.nil ?_
            refine X.sq ?_
            refine V.ret ?_
            refine ret_2 Yaam.results120 rfl rfl ?_
            obtain rfl : c = M := by omega
            exact IPost.same (by rw [hpr]; exact lim_yes hb4) hE4 rfl h4
end Go.Proofs.YbxaawGreat
