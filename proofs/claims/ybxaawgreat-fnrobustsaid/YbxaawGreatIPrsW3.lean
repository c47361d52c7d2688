/-
  The implementation's parser, walked, continued: term and expression.
-/
import Derived.Test.YbxaawGreatIPrsW2
set_option linter.unusedVariables false
set_option linter.unusedSimpArgs false
set_option maxRecDepth 10000
namespace Go.Proofs.YbxaawGreat
open Go.Mw

theorem itrm_ok {bp : Nat} {tv : Value} {ts : List TK} {n : Nat} {E : Nat → List TK → PR} (hE : HE bp tv ts n E) (hSx : Sx E) (hts : ts.length ≤ 2000000) (w : World) (r : List TK) (nv : Value) (ns : List Nd) (d : Nat) (hr : r.length ≤ n) (hd : d ≤ 5000) (hn : ns.length ≤ 500000) (h : IPq bp tv ts w r nv ns d) : Ret Yaam.prog 77 [.pointer (some ⟨bp, 0, none⟩)] w (IPo bp tv ts ns d (trm true E d r) w) := by
  obtain ⟨ta, tc, rfl, -⟩ := h.tk.form
  have hbp := h.bl.lt
  refine enter1 Yaam.func77 Yaam.ntmps77 (by kernel_rfl) rfl rfl ?_
  refine V.seq ?_
  refine V.region ?_
  refine L.rd (rd_assign rfl) rfl ?_
  refine L.rd (rd_assign rfl) rfl ?_
  refine L.nil ?_
  refine X.sq ?_
  refine V.seq ?_
  refine V.region ?_
  refine L.rd (rd_move rfl) rfl ?_
  refine L.ef (e_call rfl (iunry_ok hE hSx hts _ r _ ns d hr hd hn h) rfl ?_)
  rintro _ w1 ⟨i1, rfl, hE1, hs1⟩
  refine L.rd (rd_move rfl) rfl ?_
  refine L.rd (rd_ext0 rfl) rfl ?_
  refine L.rd (rd_ext1 rfl) rfl ?_
  refine L.rd (rd_assign rfl) rfl ?_
  refine L.rd (rd_assign rfl) rfl ?_
  refine L.nil ?_
  refine X.sq ?_
  refine V.seq ?_
  refine V.seq ?_
  refine V.region ?_
  refine L.rd (rd_move rfl) rfl ?_
  first | refine L.rd (rd_not rfl) rfl ?_ | refine L.rd (rd_notB rfl) rfl ?_
  refine L.nil ?_
  refine X.sq ?_
  first | refine V.cond rfl (fun h14 => ?_) (fun h14 => ?_) | refine V.condB rfl (fun h14 => ?_) (fun h14 => ?_)
  ·
    refine V.seq ?_
    refine V.region ?_
    refine L.rd (rd_assign rfl) rfl ?_
    refine L.rd (rd_assign rfl) rfl ?_
    refine L.nil ?_
    refine X.sq ?_
    refine V.ret ?_
    refine X.sqRet ?_
    refine ret_2 Yaam.results77 rfl rfl ?_
    refine IPost.bad ?_ hE1
    have hno : lim ns.length (unry true E d r) = none := by simpa using h14
    unfold trm
    rcases lim_out hno with h0 | ⟨t, r2, h0, hb⟩
    · rw [h0]; rfl
    · rw [h0]
      exact lim_big fun t3 r3 h3 => by have := tloop_size _ _ _ _ _ _ h3; omega
  ·
    obtain ⟨⟨t1, r1⟩, hl1⟩ := Option.isSome_iff_exists.1 (by simpa using h14)
    obtain ⟨rfl, nv1, h1⟩ := hs1 _ _ hl1
    obtain ⟨ho1, hb1⟩ := lim_some hl1
    have hpr : trm true E d r = tloop true E d r1.length t1 r1 := by unfold trm; rw [ho1]
    have hlr := (unry_sx hSx _ _ _ _ ho1).length_le
    refine V.skip ?_
    refine X.sq ?_
    refine V.seq ?_
    refine V.block ?_
    refine V.loop (fun m l w2 => ∃ (lt : Tre) (r2 : List TK) (nv2 : Value), l = [(0, .pointer (some ⟨bp, 0, none⟩)), (4, .int .i64 ((ns.length : Int) + tsz lt - 1))] ∧ m = r2.length ∧ Ext bp w w2 ∧ IPq bp (.slice ta ts.length tc) ts w2 r2 nv2 (ns ++ flat lt ns.length) d ∧ ns.length + tsz lt ≤ 500000 ∧ trm true E d r = tloop true E d r2.length lt r2 ∧ r2.length ≤ n) ?_ ?_
    ·
      exact ⟨_, _, (by repeat' (first | exact trivial | refine ⟨rfl, ?_⟩)), t1, r1, _, rfl, rfl, hE1, h1, hb1, hpr, by omega⟩
    ·
      clear h1 hpr hb1
      rintro m l w2 ⟨lt, r2, nv2, rfl, rfl, hE2, h2, hb2, hpr, hr2⟩
      have hl2 := h2.sx.length_le
      have hfl := flat_len lt ns.length
      rw [tloop_step hSx] at hpr
      refine V.seq ?_
      refine V.seq ?_
      refine V.region ?_
      refine L.rd (rd_move rfl) rfl ?_
      refine L.ef (e_call rfl (ikind_ok _ h2) rfl ?_)
      rintro _ w3 ⟨rfl, he3⟩
      have h3 := h2.ext he3
      have hE3 := hE2.trans (he3.low (by have := h2.bl.lt; omega))
      refine L.rd (rd_eql rfl rfl) rfl ?_
      refine L.nil ?_
      refine X.sq ?_
      first | refine V.cond rfl (fun h17 => ?_) (fun h17 => ?_) | refine V.condB rfl (fun h17 => ?_) (fun h17 => ?_)
      ·
        have hlt := tail_len (r := r2) (by omega)
        rw [if_pos h17] at hpr
        refine V.skip ?_
        refine X.sq ?_
        refine V.block ?_
        refine V.seq ?_
        refine V.region ?_
        refine L.rd (rd_move rfl) rfl ?_
        refine L.rd (rd_nilCheck rfl) rfl ?_
        refine L.rd (rd_fieldAddr tok rfl rfl rfl rfl rfl rfl) rfl ?_
        refine L.rd (rd_load1 tok rfl rfl rfl (h3.bl.cell (i := 1) rfl)) rfl ?_
        (refine L.rd (rd_add3 rfl rfl ?_) rfl ?_; omega)
        refine L.rd (rd_nilCheck rfl) rfl ?_
        refine L.rd (rd_fieldAddr tok rfl rfl rfl rfl rfl rfl) rfl ?_
        refine L.ef (e_store (vs := [_]) tok rfl rfl rfl rfl h3.bl rfl (by simp [Value.oneCell']) (by simp) ?_)
        refine L.nil ?_
        refine X.sq ?_
        refine V.seq ?_
        generalize hw4 : setB _ _ _ _ = w4
        obtain ⟨h4, he4⟩ := h3.next (by omega) hw4
        have hE4 := hE3.trans he4
        have hlen : (ns ++ flat lt ns.length).length = ns.length + tsz lt := by rw [List.length_append, hfl]
        refine V.region ?_
        refine L.rd (rd_move rfl) rfl ?_
        refine L.ef (e_call rfl (iunry_ok hE hSx hts _ r2.tail _ (ns ++ flat lt ns.length) d (by omega) hd (by omega) h4) rfl ?_)
        rintro _ w5 ⟨i5, rfl, he5, hs5⟩
        have hE5 := hE4.trans he5
        rw [hlen] at hs5 ⊢
        refine L.rd (rd_move rfl) rfl ?_
        refine L.rd (rd_ext0 rfl) rfl ?_
        refine L.rd (rd_ext1 rfl) rfl ?_
        refine L.rd (rd_assign rfl) rfl ?_
        refine L.rd (rd_assign rfl) rfl ?_
        refine L.nil ?_
        refine X.sq ?_
        refine V.seq ?_
        refine V.seq ?_
        refine V.region ?_
        refine L.rd (rd_move rfl) rfl ?_
        first | refine L.rd (rd_not rfl) rfl ?_ | refine L.rd (rd_notB rfl) rfl ?_
        refine L.nil ?_
        refine X.sq ?_
        first | refine V.cond rfl (fun h31 => ?_) (fun h31 => ?_) | refine V.condB rfl (fun h31 => ?_) (fun h31 => ?_)
        ·
          refine V.seq ?_
          refine V.region ?_
          refine L.rd (rd_assign rfl) rfl ?_
          refine L.rd (rd_assign rfl) rfl ?_
          refine L.nil ?_
          refine X.sq ?_
          refine V.ret ?_
          refine X.sqRet ?_
          refine X.bkRet ?_
          refine X.lpRet ?_
          refine X.bkRet ?_
          refine X.sqRet ?_
          refine ret_2 Yaam.results77 rfl rfl ?_
          refine IPost.bad ?_ hE5
          have hno : lim (ns.length + tsz lt) (unry true E d r2.tail) = none := by simpa using h31
          rw [hpr]
          rcases lim_out hno with h0 | ⟨t, r3, h0, hb⟩
          · rw [h0]; rfl
          · rw [h0]
            exact lim_big fun t3 r4 h3 => by have := tloop_size _ _ _ _ _ _ h3; rw [tsz_b2] at this; omega
        ·
          obtain ⟨⟨x5, r5⟩, hl5⟩ := Option.isSome_iff_exists.1 (by simpa using h31)
          obtain ⟨rfl, nv5, h5⟩ := hs5 _ _ hl5
          obtain ⟨ho5, hb5⟩ := lim_some hl5
          rw [ho5] at hpr
          simp only [] at hpr
          have hlr5 := (unry_sx hSx _ _ _ _ ho5).length_le
          have hfx := flat_len x5 (ns.length + tsz lt)
          have hlen5 : (ns ++ flat lt ns.length ++ flat x5 (ns.length + tsz lt)).length = ns.length + tsz lt + tsz x5 := by rw [List.length_append, hlen, hfx]
          refine V.skip ?_
          refine X.sq ?_
          refine V.seq ?_
          refine V.region ?_
          refine L.rd (rd_move rfl) rfl ?_
          refine L.rd (rd_move rfl) rfl ?_
          refine L.rd (rd_move rfl) rfl ?_
          refine L.rd (rd_build (out := [_, _, _, _, _]) tok rfl rfl rfl rfl rfl) rfl ?_
          refine L.ef (e_call rfl (iadd_nd (6, 0, 0, (ns.length : Int) + tsz lt - 1, ((ns.length + tsz lt : Nat) : Int) + tsz x5 - 1) _ h5) rfl ?_)
          rintro _ w6 ⟨i6, rfl, he6, hs6⟩
          have hE6 := hE5.trans he6
          rw [hlen5] at hs6 ⊢
          refine L.rd (rd_move rfl) rfl ?_
          refine L.rd (rd_ext0 rfl) rfl ?_
          refine L.rd (rd_ext1 rfl) rfl ?_
          refine L.rd (rd_assign rfl) rfl ?_
          refine L.rd (rd_assign rfl) rfl ?_
          refine L.nil ?_
          refine X.sq ?_
          refine V.seq ?_
          refine V.region ?_
          refine L.rd (rd_move rfl) rfl ?_
          first | refine L.rd (rd_not rfl) rfl ?_ | refine L.rd (rd_notB rfl) rfl ?_
          refine L.nil ?_
          refine X.sq ?_
          first | refine V.cond rfl (fun h41 => ?_) (fun h41 => ?_) | refine V.condB rfl (fun h41 => ?_) (fun h41 => ?_)
          ·
            refine V.seq ?_
            refine V.region ?_
            refine L.rd (rd_assign rfl) rfl ?_
            refine L.rd (rd_assign rfl) rfl ?_
            refine L.nil ?_
            refine X.sq ?_
            refine V.ret ?_
            refine X.bkRet ?_
            refine X.lpRet ?_
            refine X.bkRet ?_
            refine X.sqRet ?_
            refine ret_2 Yaam.results77 rfl rfl ?_
            refine IPost.bad ?_ hE6
            have hge : ¬ ns.length + tsz lt + tsz x5 < 500000 := by simpa using h41
            rw [hpr]
            exact lim_big fun t3 r4 h3 => by have := tloop_size _ _ _ _ _ _ h3; rw [tsz_b2] at this; omega
          ·
            refine V.skip ?_
            refine X.bk ?_
            have hlt6 : ns.length + tsz lt + tsz x5 < 500000 := by simpa using h41
            obtain ⟨rfl, nv6, h6⟩ := hs6 hlt6
            have hfe : ns ++ flat lt ns.length ++ flat x5 (ns.length + tsz lt) ++ [(6, 0, 0, (ns.length : Int) + tsz lt - 1, ((ns.length + tsz lt : Nat) : Int) + tsz x5 - 1)] = ns ++ flat (b2 6 lt x5) ns.length := by
              rw [flat_b2, Int.natCast_add]; simp only [List.append_assoc]
            rw [hfe] at h6
            refine X.lp ⟨_, _, by omega, ?_, b2 6 lt x5, r5, nv6, rfl, rfl, hE6, h6, by rw [tsz_b2]; omega, hpr, by omega⟩
            rw [tsz_b2]
            have e : ((ns.length : Int) + ((1 + tsz lt + tsz x5 : Nat) : Int) - 1) = ((ns.length + tsz lt + tsz x5 : Nat) : Int) := by omega
            rw [e]
            exact (by repeat' (first | exact trivial | refine ⟨rfl, ?_⟩))
      ·
        refine V.exit ?_
        refine X.sqExit ?_
        refine X.lpExit ?_
        refine X.bkHere ?_
        refine X.sq ?_
        refine V.seq ?_
        refine V.region ?_
        refine L.rd (rd_move rfl) rfl ?_
        refine L.rd (rd_assign rfl) rfl ?_
        refine L.rd (rd_assign rfl) rfl ?_
        refine L.nil ?_
        refine X.sq ?_
        refine V.ret ?_
        refine ret_2 Yaam.results77 rfl rfl ?_
        rw [if_neg h17] at hpr
        exact IPost.same (by rw [hpr]; exact lim_yes hb2) hE3 rfl h3

theorem iexpr_ok {bp : Nat} {tv : Value} {ts : List TK} {n : Nat} {E : Nat → List TK → PR} (hE : HE bp tv ts n E) (hSx : Sx E) (hts : ts.length ≤ 2000000) (w : World) (r : List TK) (nv : Value) (ns : List Nd) (d : Nat) (hr : r.length ≤ n) (hd : d ≤ 5000) (hn : ns.length ≤ 500000) (h : IPq bp tv ts w r nv ns d) : Ret Yaam.prog 39 [.pointer (some ⟨bp, 0, none⟩)] w (IPo bp tv ts ns d (expr true E d r) w) := by
  obtain ⟨ta, tc, rfl, -⟩ := h.tk.form
  have hbp := h.bl.lt
  refine enter1 Yaam.func39 Yaam.ntmps39 (by kernel_rfl) rfl rfl ?_
  refine V.seq ?_
  refine V.region ?_
  refine L.rd (rd_assign rfl) rfl ?_
  refine L.rd (rd_assign rfl) rfl ?_
  refine L.nil ?_
  refine X.sq ?_
  refine V.seq ?_
  refine V.region ?_
  refine L.rd (rd_move rfl) rfl ?_
  refine L.ef (e_call rfl (itrm_ok hE hSx hts _ r _ ns d hr hd hn h) rfl ?_)
  rintro _ w1 ⟨i1, rfl, hE1, hs1⟩
  refine L.rd (rd_move rfl) rfl ?_
  refine L.rd (rd_ext0 rfl) rfl ?_
  refine L.rd (rd_ext1 rfl) rfl ?_
  refine L.rd (rd_assign rfl) rfl ?_
  refine L.rd (rd_assign rfl) rfl ?_
  refine L.nil ?_
  refine X.sq ?_
  refine V.seq ?_
  refine V.seq ?_
  refine V.region ?_
  refine L.rd (rd_move rfl) rfl ?_
  first | refine L.rd (rd_not rfl) rfl ?_ | refine L.rd (rd_notB rfl) rfl ?_
  refine L.nil ?_
  refine X.sq ?_
  first | refine V.cond rfl (fun h16 => ?_) (fun h16 => ?_) | refine V.condB rfl (fun h16 => ?_) (fun h16 => ?_)
  ·
    refine V.seq ?_
    refine V.region ?_
    refine L.rd (rd_assign rfl) rfl ?_
    refine L.rd (rd_assign rfl) rfl ?_
    refine L.nil ?_
    refine X.sq ?_
    refine V.ret ?_
    refine X.sqRet ?_
    refine ret_2 Yaam.results39 rfl rfl ?_
    refine IPost.bad ?_ hE1
    have hno : lim ns.length (trm true E d r) = none := by simpa using h16
    unfold expr
    rcases lim_out hno with h0 | ⟨t, r2, h0, hb⟩
    · rw [h0]; rfl
    · rw [h0]
      exact lim_big fun t3 r3 h3 => by have := eloop_size _ _ _ _ _ _ h3; omega
  ·
    obtain ⟨⟨t1, r1⟩, hl1⟩ := Option.isSome_iff_exists.1 (by simpa using h16)
    obtain ⟨rfl, nv1, h1⟩ := hs1 _ _ hl1
    obtain ⟨ho1, hb1⟩ := lim_some hl1
    have hpr : expr true E d r = eloop true E d r1.length t1 r1 := by unfold expr; rw [ho1]
    have hlr := (trm_sx hSx _ _ _ _ ho1).length_le
    refine V.skip ?_
    refine X.sq ?_
    refine V.block ?_
    refine V.loop (fun m l w2 => ∃ (lt : Tre) (r2 : List TK) (nv2 : Value), l = [(0, .pointer (some ⟨bp, 0, none⟩)), (4, .int .i64 ((ns.length : Int) + tsz lt - 1))] ∧ m = r2.length ∧ Ext bp w w2 ∧ IPq bp (.slice ta ts.length tc) ts w2 r2 nv2 (ns ++ flat lt ns.length) d ∧ ns.length + tsz lt ≤ 500000 ∧ expr true E d r = eloop true E d r2.length lt r2 ∧ r2.length ≤ n) ?_ ?_
    ·
      exact ⟨_, _, (by repeat' (first | exact trivial | refine ⟨rfl, ?_⟩)), t1, r1, _, rfl, rfl, hE1, h1, hb1, hpr, by omega⟩
    ·
      clear h1 hpr hb1
      rintro m l w2 ⟨lt, r2, nv2, rfl, rfl, hE2, h2, hb2, hpr, hr2⟩
      have hl2 := h2.sx.length_le
      have hfl := flat_len lt ns.length
      rw [eloop_step hSx] at hpr
      refine V.block ?_
      refine V.seq ?_
      refine V.region ?_
      refine L.rd (rd_move rfl) rfl ?_
      refine L.ef (e_call rfl (ikind_ok _ h2) rfl ?_)
      rintro _ w3 ⟨rfl, he3⟩
      have h3 := h2.ext he3
      have hE3 := hE2.trans (he3.low (by have := h2.bl.lt; omega))
      refine L.rd (rd_assign rfl) rfl ?_
      refine L.nil ?_
      refine X.sq ?_
      refine V.seq ?_
      refine V.seq ?_
      refine V.region ?_
      refine L.rd (rd_move rfl) rfl ?_
      refine L.rd (rd_neq rfl rfl) rfl ?_
      refine L.rd (rd_move rfl) rfl ?_
      first | refine L.partG rfl rfl (fun g21 => ?_) (fun g21 => ?_) | refine L.partGB rfl rfl (fun g21 => ?_) (fun g21 => ?_)
      ·
        refine L.yes rfl rfl ?_
        refine L.rd (rd_move rfl) rfl ?_
        refine L.yes rfl rfl ?_
        refine L.rd (rd_neq rfl rfl) rfl ?_
        refine L.rd (rd_pickT rfl rfl) rfl ?_
        refine L.nil ?_
        refine X.sq ?_
        first | refine V.cond rfl (fun h24 => ?_) (fun h24 => ?_) | refine V.condB rfl (fun h24 => ?_) (fun h24 => ?_)
        ·
          refine V.seq ?_
          refine V.region ?_
          refine L.rd (rd_move rfl) rfl ?_
          refine L.rd (rd_assign rfl) rfl ?_
          refine L.rd (rd_assign rfl) rfl ?_
          refine L.nil ?_
          refine X.sq ?_
          refine V.ret ?_
          refine X.sqRet ?_
          refine X.bkRet ?_
          refine X.lpRet ?_
          refine X.bkRet ?_
          refine ret_2 Yaam.results39 rfl rfl ?_
          rw [if_neg (by omega)] at hpr
          exact IPost.same (by rw [hpr]; exact lim_yes hb2) hE3 rfl h3
        ·
          refine V.skip ?_
          refine X.sq ?_
          refine V.seq ?_
          have hkk : hk r2 = 3 ∨ hk r2 = 4 := by omega
          have hlt := tail_len (r := r2) (by omega)
          rw [if_pos hkk] at hpr
          refine V.region ?_
          refine L.rd (rd_move rfl) rfl ?_
          refine L.rd (rd_nilCheck rfl) rfl ?_
          refine L.rd (rd_fieldAddr tok rfl rfl rfl rfl rfl rfl) rfl ?_
          refine L.rd (rd_load1 tok rfl rfl rfl (h3.bl.cell (i := 1) rfl)) rfl ?_
          (refine L.rd (rd_add3 rfl rfl ?_) rfl ?_; omega)
          refine L.rd (rd_nilCheck rfl) rfl ?_
          refine L.rd (rd_fieldAddr tok rfl rfl rfl rfl rfl rfl) rfl ?_
          refine L.ef (e_store (vs := [_]) tok rfl rfl rfl rfl h3.bl rfl (by simp [Value.oneCell']) (by simp) ?_)
          refine L.nil ?_
          refine X.sq ?_
          refine V.seq ?_
          generalize hw4 : setB _ _ _ _ = w4
          obtain ⟨h4, he4⟩ := h3.next (by omega) hw4
          have hE4 := hE3.trans he4
          have hlen : (ns ++ flat lt ns.length).length = ns.length + tsz lt := by rw [List.length_append, hfl]
          refine V.region ?_
          refine L.rd (rd_move rfl) rfl ?_
          refine L.ef (e_call rfl (itrm_ok hE hSx hts _ r2.tail _ (ns ++ flat lt ns.length) d (by omega) hd (by omega) h4) rfl ?_)
          rintro _ w5 ⟨i5, rfl, he5, hs5⟩
          have hE5 := hE4.trans he5
          rw [hlen] at hs5 ⊢
          refine L.rd (rd_move rfl) rfl ?_
          refine L.rd (rd_ext0 rfl) rfl ?_
          refine L.rd (rd_ext1 rfl) rfl ?_
          refine L.rd (rd_assign rfl) rfl ?_
          refine L.rd (rd_assign rfl) rfl ?_
          refine L.nil ?_
          refine X.sq ?_
          refine V.seq ?_
          refine V.seq ?_
          refine V.region ?_
          refine L.rd (rd_move rfl) rfl ?_
          first | refine L.rd (rd_not rfl) rfl ?_ | refine L.rd (rd_notB rfl) rfl ?_
          refine L.nil ?_
          refine X.sq ?_
          first | refine V.cond rfl (fun h39 => ?_) (fun h39 => ?_) | refine V.condB rfl (fun h39 => ?_) (fun h39 => ?_)
          ·
            refine V.seq ?_
            refine V.region ?_
            refine L.rd (rd_assign rfl) rfl ?_
            refine L.rd (rd_assign rfl) rfl ?_
            refine L.nil ?_
            refine X.sq ?_
            refine V.ret ?_
            refine X.sqRet ?_
            refine X.bkRet ?_
            refine X.lpRet ?_
            refine X.bkRet ?_
            refine ret_2 Yaam.results39 rfl rfl ?_
            refine IPost.bad ?_ hE5
            have hno : lim (ns.length + tsz lt) (trm true E d r2.tail) = none := by simpa using h39
            rw [hpr]
            rcases lim_out hno with h0 | ⟨t, r3, h0, hb⟩
            · rw [h0]; rfl
            · rw [h0]
              exact lim_big fun t3 r4 h3 => by have := eloop_size _ _ _ _ _ _ h3; rw [tsz_b2] at this; omega
          ·
            obtain ⟨⟨x5, r5⟩, hl5⟩ := Option.isSome_iff_exists.1 (by simpa using h39)
            obtain ⟨rfl, nv5, h5⟩ := hs5 _ _ hl5
            obtain ⟨ho5, hb5⟩ := lim_some hl5
            rw [ho5] at hpr
            simp only [] at hpr
            have hlr5 := (trm_sx hSx _ _ _ _ ho5).length_le
            have hfx := flat_len x5 (ns.length + tsz lt)
            have hlen5 : (ns ++ flat lt ns.length ++ flat x5 (ns.length + tsz lt)).length = ns.length + tsz lt + tsz x5 := by rw [List.length_append, hlen, hfx]
            generalize hnk : (if hk r2 = 4 then (5 : Int) else 4) = nk at hpr
            refine V.skip ?_
            refine X.sq ?_
            refine V.seq ?_
            refine V.region ?_
            refine L.rd (rd_assign rfl) rfl ?_
            refine L.nil ?_
            refine X.sq ?_
            refine V.seq ?_
            refine V.seq ?_
            refine V.region ?_
            refine L.rd (rd_move rfl) rfl ?_
            refine L.rd (rd_eql rfl rfl) rfl ?_
            refine L.nil ?_
            refine X.sq ?_
            refine V.cut (fun l w' => l = [(0, .pointer (some ⟨bp, 0, none⟩)), (4, .int .i64 ((ns.length : Int) + tsz lt - 1)), (7, .int .i64 (((ns.length + tsz lt : Nat) : Int) + tsz x5 - 1)), (9, .int .i64 nk)] ∧ w5 = w') ?_ ?_
            ·
              first | refine V.cond rfl (fun h41 => ?_) (fun h41 => ?_) | refine V.condB rfl (fun h41 => ?_) (fun h41 => ?_)
              ·
                refine V.region ?_
                refine L.rd (rd_assign rfl) rfl ?_
                refine L.nil ?_
                rw [if_pos (by omega)] at hnk
                subst hnk
                exact X.ct ⟨_, (by repeat' (first | exact trivial | refine ⟨rfl, ?_⟩)), rfl, rfl⟩
              ·
                refine V.skip ?_
                rw [if_neg (by omega)] at hnk
                subst hnk
                exact X.ct ⟨_, (by repeat' (first | exact trivial | refine ⟨rfl, ?_⟩)), rfl, rfl⟩
            ·
              rintro l w' ⟨rfl, rfl⟩
              refine X.sq ?_
              refine V.seq ?_
              refine V.region ?_
              refine L.rd (rd_move rfl) rfl ?_
              refine L.rd (rd_move rfl) rfl ?_
              refine L.rd (rd_move rfl) rfl ?_
              refine L.rd (rd_move rfl) rfl ?_
              refine L.rd (rd_build (out := [_, _, _, _, _]) tok rfl rfl rfl rfl rfl) rfl ?_
              refine L.ef (e_call rfl (iadd_nd (nk, 0, 0, (ns.length : Int) + tsz lt - 1, ((ns.length + tsz lt : Nat) : Int) + tsz x5 - 1) _ h5) rfl ?_)
              rintro _ w6 ⟨i6, rfl, he6, hs6⟩
              have hE6 := hE5.trans he6
              rw [hlen5] at hs6 ⊢
              refine L.rd (rd_move rfl) rfl ?_
              refine L.rd (rd_ext0 rfl) rfl ?_
              refine L.rd (rd_ext1 rfl) rfl ?_
              refine L.rd (rd_assign rfl) rfl ?_
              refine L.rd (rd_assign rfl) rfl ?_
              refine L.nil ?_
              refine X.sq ?_
              refine V.seq ?_
              refine V.region ?_
              refine L.rd (rd_move rfl) rfl ?_
              first | refine L.rd (rd_not rfl) rfl ?_ | refine L.rd (rd_notB rfl) rfl ?_
              refine L.nil ?_
              refine X.sq ?_
              first | refine V.cond rfl (fun h52 => ?_) (fun h52 => ?_) | refine V.condB rfl (fun h52 => ?_) (fun h52 => ?_)
              ·
                refine V.seq ?_
                refine V.region ?_
                refine L.rd (rd_assign rfl) rfl ?_
                refine L.rd (rd_assign rfl) rfl ?_
                refine L.nil ?_
                refine X.sq ?_
                refine V.ret ?_
                refine X.bkRet ?_
                refine X.lpRet ?_
                refine X.bkRet ?_
                refine ret_2 Yaam.results39 rfl rfl ?_
                refine IPost.bad ?_ hE6
                have hge : ¬ ns.length + tsz lt + tsz x5 < 500000 := by simpa using h52
                rw [hpr]
                exact lim_big fun t3 r4 h3 => by have := eloop_size _ _ _ _ _ _ h3; rw [tsz_b2] at this; omega
              ·
                refine V.skip ?_
                refine X.bk ?_
                have hlt6 : ns.length + tsz lt + tsz x5 < 500000 := by simpa using h52
                obtain ⟨rfl, nv6, h6⟩ := hs6 hlt6
                have hfe : ns ++ flat lt ns.length ++ flat x5 (ns.length + tsz lt) ++ [(nk, 0, 0, (ns.length : Int) + tsz lt - 1, ((ns.length + tsz lt : Nat) : Int) + tsz x5 - 1)] = ns ++ flat (b2 nk lt x5) ns.length := by
                  rw [flat_b2, Int.natCast_add]; simp only [List.append_assoc]
                rw [hfe] at h6
                refine X.lp ⟨_, _, by omega, ?_, b2 nk lt x5, r5, nv6, rfl, rfl, hE6, h6, by rw [tsz_b2]; omega, hpr, by omega⟩
                rw [tsz_b2]
                have e : ((ns.length : Int) + ((1 + tsz lt + tsz x5 : Nat) : Int) - 1) = ((ns.length + tsz lt + tsz x5 : Nat) : Int) := by omega
                rw [e]
                exact (by repeat' (first | exact trivial | refine ⟨rfl, ?_⟩))
      ·
        refine L.no rfl rfl rfl rfl ?_
        refine L.no rfl rfl rfl rfl ?_
        refine L.rd (rd_pickF rfl rfl) rfl ?_
        refine L.nil ?_
        refine X.sq ?_
        refine V.condF rfl ?_
        refine V.skip ?_
        refine X.sq ?_
        refine V.seq ?_
        have hkk : hk r2 = 3 ∨ hk r2 = 4 := by omega
        have hlt := tail_len (r := r2) (by omega)
        rw [if_pos hkk] at hpr
        refine V.region ?_
        refine L.rd (rd_move rfl) rfl ?_
        refine L.rd (rd_nilCheck rfl) rfl ?_
        refine L.rd (rd_fieldAddr tok rfl rfl rfl rfl rfl rfl) rfl ?_
        refine L.rd (rd_load1 tok rfl rfl rfl (h3.bl.cell (i := 1) rfl)) rfl ?_
        (refine L.rd (rd_add3 rfl rfl ?_) rfl ?_; omega)
        refine L.rd (rd_nilCheck rfl) rfl ?_
        refine L.rd (rd_fieldAddr tok rfl rfl rfl rfl rfl rfl) rfl ?_
        refine L.ef (e_store (vs := [_]) tok rfl rfl rfl rfl h3.bl rfl (by simp [Value.oneCell']) (by simp) ?_)
        refine L.nil ?_
        refine X.sq ?_
        refine V.seq ?_
        generalize hw4 : setB _ _ _ _ = w4
        obtain ⟨h4, he4⟩ := h3.next (by omega) hw4
        have hE4 := hE3.trans he4
        have hlen : (ns ++ flat lt ns.length).length = ns.length + tsz lt := by rw [List.length_append, hfl]
        refine V.region ?_
        refine L.rd (rd_move rfl) rfl ?_
        refine L.ef (e_call rfl (itrm_ok hE hSx hts _ r2.tail _ (ns ++ flat lt ns.length) d (by omega) hd (by omega) h4) rfl ?_)
        rintro _ w5 ⟨i5, rfl, he5, hs5⟩
        have hE5 := hE4.trans he5
        rw [hlen] at hs5 ⊢
        refine L.rd (rd_move rfl) rfl ?_
        refine L.rd (rd_ext0 rfl) rfl ?_
        refine L.rd (rd_ext1 rfl) rfl ?_
        refine L.rd (rd_assign rfl) rfl ?_
        refine L.rd (rd_assign rfl) rfl ?_
        refine L.nil ?_
        refine X.sq ?_
        refine V.seq ?_
        refine V.seq ?_
        refine V.region ?_
        refine L.rd (rd_move rfl) rfl ?_
        first | refine L.rd (rd_not rfl) rfl ?_ | refine L.rd (rd_notB rfl) rfl ?_
        refine L.nil ?_
        refine X.sq ?_
        first | refine V.cond rfl (fun h39 => ?_) (fun h39 => ?_) | refine V.condB rfl (fun h39 => ?_) (fun h39 => ?_)
        ·
          refine V.seq ?_
          refine V.region ?_
          refine L.rd (rd_assign rfl) rfl ?_
          refine L.rd (rd_assign rfl) rfl ?_
          refine L.nil ?_
          refine X.sq ?_
          refine V.ret ?_
          refine X.sqRet ?_
          refine X.bkRet ?_
          refine X.lpRet ?_
          refine X.bkRet ?_
          refine ret_2 Yaam.results39 rfl rfl ?_
          refine IPost.bad ?_ hE5
          have hno : lim (ns.length + tsz lt) (trm true E d r2.tail) = none := by simpa using h39
          rw [hpr]
          rcases lim_out hno with h0 | ⟨t, r3, h0, hb⟩
          · rw [h0]; rfl
          · rw [h0]
            exact lim_big fun t3 r4 h3 => by have := eloop_size _ _ _ _ _ _ h3; rw [tsz_b2] at this; omega
        ·
          obtain ⟨⟨x5, r5⟩, hl5⟩ := Option.isSome_iff_exists.1 (by simpa using h39)
          obtain ⟨rfl, nv5, h5⟩ := hs5 _ _ hl5
          obtain ⟨ho5, hb5⟩ := lim_some hl5
          rw [ho5] at hpr
          simp only [] at hpr
          have hlr5 := (trm_sx hSx _ _ _ _ ho5).length_le
          have hfx := flat_len x5 (ns.length + tsz lt)
          have hlen5 : (ns ++ flat lt ns.length ++ flat x5 (ns.length + tsz lt)).length = ns.length + tsz lt + tsz x5 := by rw [List.length_append, hlen, hfx]
          generalize hnk : (if hk r2 = 4 then (5 : Int) else 4) = nk at hpr
          refine V.skip ?_
          refine X.sq ?_
          refine V.seq ?_
          refine V.region ?_
          refine L.rd (rd_assign rfl) rfl ?_
          refine L.nil ?_
          refine X.sq ?_
          refine V.seq ?_
          refine V.seq ?_
          refine V.region ?_
          refine L.rd (rd_move rfl) rfl ?_
          refine L.rd (rd_eql rfl rfl) rfl ?_
          refine L.nil ?_
          refine X.sq ?_
          refine V.cut (fun l w' => l = [(0, .pointer (some ⟨bp, 0, none⟩)), (4, .int .i64 ((ns.length : Int) + tsz lt - 1)), (7, .int .i64 (((ns.length + tsz lt : Nat) : Int) + tsz x5 - 1)), (9, .int .i64 nk)] ∧ w5 = w') ?_ ?_
          ·
            first | refine V.cond rfl (fun h41 => ?_) (fun h41 => ?_) | refine V.condB rfl (fun h41 => ?_) (fun h41 => ?_)
            ·
              refine V.region ?_
              refine L.rd (rd_assign rfl) rfl ?_
              refine L.nil ?_
              rw [if_pos (by omega)] at hnk
              subst hnk
              exact X.ct ⟨_, (by repeat' (first | exact trivial | refine ⟨rfl, ?_⟩)), rfl, rfl⟩
            ·
              refine V.skip ?_
              rw [if_neg (by omega)] at hnk
              subst hnk
              exact X.ct ⟨_, (by repeat' (first | exact trivial | refine ⟨rfl, ?_⟩)), rfl, rfl⟩
          ·
            rintro l w' ⟨rfl, rfl⟩
            refine X.sq ?_
            refine V.seq ?_
            refine V.region ?_
            refine L.rd (rd_move rfl) rfl ?_
            refine L.rd (rd_move rfl) rfl ?_
            refine L.rd (rd_move rfl) rfl ?_
            refine L.rd (rd_move rfl) rfl ?_
            refine L.rd (rd_build (out := [_, _, _, _, _]) tok rfl rfl rfl rfl rfl) rfl ?_
            refine L.ef (e_call rfl (iadd_nd (nk, 0, 0, (ns.length : Int) + tsz lt - 1, ((ns.length + tsz lt : Nat) : Int) + tsz x5 - 1) _ h5) rfl ?_)
            rintro _ w6 ⟨i6, rfl, he6, hs6⟩
            have hE6 := hE5.trans he6
            rw [hlen5] at hs6 ⊢
            refine L.rd (rd_move rfl) rfl ?_
            refine L.rd (rd_ext0 rfl) rfl ?_
            refine L.rd (rd_ext1 rfl) rfl ?_
            refine L.rd (rd_assign rfl) rfl ?_
            refine L.rd (rd_assign rfl) rfl ?_
            refine L.nil ?_
            refine X.sq ?_
            refine V.seq ?_
            refine V.region ?_
            refine L.rd (rd_move rfl) rfl ?_
            first | refine L.rd (rd_not rfl) rfl ?_ | refine L.rd (rd_notB rfl) rfl ?_
            refine L.nil ?_
            refine X.sq ?_
            first | refine V.cond rfl (fun h52 => ?_) (fun h52 => ?_) | refine V.condB rfl (fun h52 => ?_) (fun h52 => ?_)
            ·
              refine V.seq ?_
              refine V.region ?_
              refine L.rd (rd_assign rfl) rfl ?_
              refine L.rd (rd_assign rfl) rfl ?_
              refine L.nil ?_
              refine X.sq ?_
              refine V.ret ?_
              refine X.bkRet ?_
              refine X.lpRet ?_
              refine X.bkRet ?_
              refine ret_2 Yaam.results39 rfl rfl ?_
              refine IPost.bad ?_ hE6
              have hge : ¬ ns.length + tsz lt + tsz x5 < 500000 := by simpa using h52
              rw [hpr]
              exact lim_big fun t3 r4 h3 => by have := eloop_size _ _ _ _ _ _ h3; rw [tsz_b2] at this; omega
            ·
              refine V.skip ?_
              refine X.bk ?_
              have hlt6 : ns.length + tsz lt + tsz x5 < 500000 := by simpa using h52
              obtain ⟨rfl, nv6, h6⟩ := hs6 hlt6
              have hfe : ns ++ flat lt ns.length ++ flat x5 (ns.length + tsz lt) ++ [(nk, 0, 0, (ns.length : Int) + tsz lt - 1, ((ns.length + tsz lt : Nat) : Int) + tsz x5 - 1)] = ns ++ flat (b2 nk lt x5) ns.length := by
                rw [flat_b2, Int.natCast_add]; simp only [List.append_assoc]
              rw [hfe] at h6
              refine X.lp ⟨_, _, by omega, ?_, b2 nk lt x5, r5, nv6, rfl, rfl, hE6, h6, by rw [tsz_b2]; omega, hpr, by omega⟩
              rw [tsz_b2]
              have e : ((ns.length : Int) + ((1 + tsz lt + tsz x5 : Nat) : Int) - 1) = ((ns.length + tsz lt + tsz x5 : Nat) : Int) := by omega
              rw [e]
              exact (by repeat' (first | exact trivial | refine ⟨rfl, ?_⟩))

theorem iexpr_all {bp : Nat} {tv : Value} {ts : List TK} (hts : ts.length ≤ 2000000) : ∀ n, HE bp tv ts n (pE true n)
  | 0 => fun w r nv ns d hr => by omega
  | n + 1 => fun w r nv ns d hr hd hn h => iexpr_ok (iexpr_all hts n) (pE_sx true n) hts w r nv ns d (by omega) hd hn h
end Go.Proofs.YbxaawGreat
