/-
  The model's trees counted and laid out, walked.
-/
import Derived.Test.YbxaawSPrsW2
set_option linter.unusedVariables false
set_option linter.unusedSimpArgs false
set_option maxRecDepth 10000
namespace Go.Mw
theorem Tm.low {eM : TypeId} {w : World} {lo lo' : Nat} (hl : lo' ≤ lo) : ∀ (t : Tre) (v : Value), Tm eM w lo t v → Tm eM w lo' t v := by
  refine Tre.ind (fun k v x c p h => ?_) (fun k v x c ih p h => ?_) (fun k v x n c ih1 ih2 p h => ?_)
  · obtain ⟨b1, hp, h1, hb⟩ := h
    exact ⟨b1, hp, by omega, hb⟩
  · obtain ⟨b1, q, hp, h1, hb, ht⟩ := h
    exact ⟨b1, q, hp, by omega, hb, ih _ ht⟩
  · obtain ⟨b1, q, q2, hp, h1, hb, ht, ht2⟩ := h
    exact ⟨b1, q, q2, hp, by omega, hb, ih1 _ ht, ih2 _ ht2⟩
/-- what laying out a tree gives back -/
def LPost (eN : TypeId) (B : Nat) (ns : List Nd) (t : Tre) (w : World) (v : Value) (w' : World) : Prop :=
  w'.ownsRow B eN 5 v (ns.length + tsz t) ((ns ++ flat t ns.length).flatMap ndE) ∧ Ext B w w'
end Go.Mw
namespace Go.Proofs.Ybxaaw
open Go.Mw

theorem count_ok (lo : Nat) : ∀ (t : Tre) (v : Value) (w : World), Wt t → tsz t ≤ 1000000000 → Tm 172 w lo t v → Ret Yaam.prog 82 [v] w fun r w' => r = .int .i64 (tsz t) ∧ Ext w.heap.size w w' := by
  refine Tre.ind (fun k vv x c v w hw hz h => ?_) (fun k vv x c ih v w hw hz h => ?_) (fun k vv x n c ih1 ih2 v w hw hz h => ?_)
  · obtain ⟨b, rfl, -, hb⟩ := h
    have hk : k = 1 ∨ k = 2 := by rcases hw with h | h; exact .inl h.1; exact .inr h.1
    refine enter1 Yaam.func82 Yaam.ntmps82 (by kernel_rfl) rfl rfl ?_
    refine V.seq ?_
    refine V.region ?_
    refine L.rd (rd_assign rfl) rfl ?_
    refine L.nil ?_
    refine X.sq ?_
    refine V.seq ?_
    refine V.seq ?_
    refine V.region ?_
    refine L.rd (rd_move rfl) rfl ?_
    refine L.rd (rd_nilCheck rfl) rfl ?_
    refine L.rd (rd_fieldAddr tok rfl rfl rfl rfl rfl rfl) rfl ?_
    refine L.rd (rd_load1 tok rfl rfl rfl (hb.cell rfl)) rfl ?_
    refine L.nil ?_
    refine X.sq ?_
    refine V.block ?_
    refine V.seq ?_
    refine V.seq ?_
    refine V.region ?_
    refine L.rd (rd_eql rfl rfl) rfl ?_
    refine L.rd (rd_assign rfl) rfl ?_
    refine L.nil ?_
    refine X.sq ?_
    first | refine V.cond rfl (fun h7 => ?_) (fun h7 => ?_) | refine V.condB rfl (fun h7 => ?_) (fun h7 => ?_)
    ·
      refine V.skip ?_
      refine X.sq ?_
      first | refine V.cond rfl (fun h7_ => ?_) (fun h7_ => ?_) | refine V.condB rfl (fun h7_ => ?_) (fun h7_ => ?_)
      ·
        refine V.seq ?_
        refine V.region ?_
        refine L.rd (rd_assign rfl) rfl ?_
        refine L.nil ?_
        refine X.sq ?_
        refine V.ret ?_
        refine X.bkRet ?_
        refine X.sqRet ?_
        refine ret_1 Yaam.results82 rfl ?_
        exact ⟨rfl, Ext.refl _ _⟩
      ·
        exact absurd h7 h7_
    ·
      refine V.region ?_
      refine L.rd (rd_eql rfl rfl) rfl ?_
      refine L.rd (rd_assign rfl) rfl ?_
      refine L.nil ?_
      refine X.sq ?_
      first | refine V.cond rfl (fun h7 => ?_) (fun h7 => ?_) | refine V.condB rfl (fun h7 => ?_) (fun h7 => ?_)
      ·
        refine V.seq ?_
        refine V.region ?_
        refine L.rd (rd_assign rfl) rfl ?_
        refine L.nil ?_
        refine X.sq ?_
        refine V.ret ?_
        refine X.bkRet ?_
        refine X.sqRet ?_
        refine ret_1 Yaam.results82 rfl ?_
        exact ⟨rfl, Ext.refl _ _⟩
      ·
        refine V.seq ?_
        refine V.seq ?_
        omega
  · obtain ⟨b, q, rfl, -, hb, ht⟩ := h
    obtain ⟨-, hk, hw1⟩ := hw
    have hk : k = 3 ∨ k = 7 := by rcases hk with h | h; exact .inl h.1; exact .inr h.1
    rw [tsz] at hz ⊢
    refine enter1 Yaam.func82 Yaam.ntmps82 (by kernel_rfl) rfl rfl ?_
    refine V.seq ?_
    refine V.region ?_
    refine L.rd (rd_assign rfl) rfl ?_
    refine L.nil ?_
    refine X.sq ?_
    refine V.seq ?_
    refine V.seq ?_
    refine V.region ?_
    refine L.rd (rd_move rfl) rfl ?_
    refine L.rd (rd_nilCheck rfl) rfl ?_
    refine L.rd (rd_fieldAddr tok rfl rfl rfl rfl rfl rfl) rfl ?_
    refine L.rd (rd_load1 tok rfl rfl rfl (hb.cell rfl)) rfl ?_
    refine L.nil ?_
    refine X.sq ?_
    refine V.block ?_
    refine V.seq ?_
    refine V.seq ?_
    refine V.region ?_
    refine L.rd (rd_eql rfl rfl) rfl ?_
    refine L.rd (rd_assign rfl) rfl ?_
    refine L.nil ?_
    refine X.sq ?_
    first | refine V.cond rfl (fun h7 => ?_) (fun h7 => ?_) | refine V.condB rfl (fun h7 => ?_) (fun h7 => ?_)
    ·
      refine V.skip ?_
      refine X.sq ?_
      first | refine V.cond rfl (fun h7_ => ?_) (fun h7_ => ?_) | refine V.condB rfl (fun h7_ => ?_) (fun h7_ => ?_)
      ·
        refine V.seq ?_
        omega
      ·
        exact absurd h7 h7_
    ·
      refine V.region ?_
      refine L.rd (rd_eql rfl rfl) rfl ?_
      refine L.rd (rd_assign rfl) rfl ?_
      refine L.nil ?_
      refine X.sq ?_
      first | refine V.cond rfl (fun h7 => ?_) (fun h7 => ?_) | refine V.condB rfl (fun h7 => ?_) (fun h7 => ?_)
      ·
        refine V.seq ?_
        omega
      ·
        refine V.seq ?_
        refine V.seq ?_
        refine V.region ?_
        refine L.rd (rd_eql rfl rfl) rfl ?_
        refine L.rd (rd_assign rfl) rfl ?_
        refine L.nil ?_
        refine X.sq ?_
        first | refine V.cond rfl (fun h10 => ?_) (fun h10 => ?_) | refine V.condB rfl (fun h10 => ?_) (fun h10 => ?_)
        ·
          refine V.skip ?_
          refine X.sq ?_
          first | refine V.cond rfl (fun h10_ => ?_) (fun h10_ => ?_) | refine V.condB rfl (fun h10_ => ?_) (fun h10_ => ?_)
          ·
            refine V.seq ?_
            refine V.region ?_
            refine L.rd (rd_move rfl) rfl ?_
            refine L.rd (rd_nilCheck rfl) rfl ?_
            refine L.rd (rd_fieldAddr tok rfl rfl rfl rfl rfl rfl) rfl ?_
            refine L.rd (rd_load1 tok rfl rfl rfl (hb.cell (i := 3) rfl)) rfl ?_
            refine L.ef (e_call rfl (ih _ _ hw1 (by omega) ht) rfl ?_)
            rintro _ w1 ⟨rfl, he1⟩
            (refine L.rd (rd_add3 rfl rfl ?_) rfl ?_; omega)
            refine L.rd (rd_assign rfl) rfl ?_
            refine L.nil ?_
            refine X.sq ?_
            refine V.ret ?_
            refine X.bkRet ?_
            refine X.sqRet ?_
            refine ret_1 Yaam.results82 rfl ?_
            exact ⟨rfl, he1⟩
          ·
            exact absurd h10 h10_
        ·
          refine V.region ?_
          refine L.rd (rd_eql rfl rfl) rfl ?_
          refine L.rd (rd_assign rfl) rfl ?_
          refine L.nil ?_
          refine X.sq ?_
          first | refine V.cond rfl (fun h10 => ?_) (fun h10 => ?_) | refine V.condB rfl (fun h10 => ?_) (fun h10 => ?_)
          ·
            refine V.seq ?_
            refine V.region ?_
            refine L.rd (rd_move rfl) rfl ?_
            refine L.rd (rd_nilCheck rfl) rfl ?_
            refine L.rd (rd_fieldAddr tok rfl rfl rfl rfl rfl rfl) rfl ?_
            refine L.rd (rd_load1 tok rfl rfl rfl (hb.cell (i := 3) rfl)) rfl ?_
            refine L.ef (e_call rfl (ih _ _ hw1 (by omega) ht) rfl ?_)
            rintro _ w1 ⟨rfl, he1⟩
            (refine L.rd (rd_add3 rfl rfl ?_) rfl ?_; omega)
            refine L.rd (rd_assign rfl) rfl ?_
            refine L.nil ?_
            refine X.sq ?_
            refine V.ret ?_
            refine X.bkRet ?_
            refine X.sqRet ?_
            refine ret_1 Yaam.results82 rfl ?_
            exact ⟨rfl, he1⟩
          ·
            refine V.skip ?_
            refine X.bk ?_
            refine X.sq ?_
            refine V.seq ?_
            omega
  · obtain ⟨b, q, q2, rfl, -, hb, ht, ht2⟩ := h
    obtain ⟨rfl, -, -, hk, hw1, hw2⟩ := hw
    rw [tsz] at hz ⊢
    refine enter1 Yaam.func82 Yaam.ntmps82 (by kernel_rfl) rfl rfl ?_
    refine V.seq ?_
    refine V.region ?_
    refine L.rd (rd_assign rfl) rfl ?_
    refine L.nil ?_
    refine X.sq ?_
    refine V.seq ?_
    refine V.seq ?_
    refine V.region ?_
    refine L.rd (rd_move rfl) rfl ?_
    refine L.rd (rd_nilCheck rfl) rfl ?_
    refine L.rd (rd_fieldAddr tok rfl rfl rfl rfl rfl rfl) rfl ?_
    refine L.rd (rd_load1 tok rfl rfl rfl (hb.cell rfl)) rfl ?_
    refine L.nil ?_
    refine X.sq ?_
    refine V.block ?_
    refine V.seq ?_
    refine V.seq ?_
    refine V.region ?_
    refine L.rd (rd_eql rfl rfl) rfl ?_
    refine L.rd (rd_assign rfl) rfl ?_
    refine L.nil ?_
    refine X.sq ?_
    first | refine V.cond rfl (fun h7 => ?_) (fun h7 => ?_) | refine V.condB rfl (fun h7 => ?_) (fun h7 => ?_)
    ·
      refine V.skip ?_
      refine X.sq ?_
      first | refine V.cond rfl (fun h7_ => ?_) (fun h7_ => ?_) | refine V.condB rfl (fun h7_ => ?_) (fun h7_ => ?_)
      ·
        refine V.seq ?_
        omega
      ·
        exact absurd h7 h7_
    ·
      refine V.region ?_
      refine L.rd (rd_eql rfl rfl) rfl ?_
      refine L.rd (rd_assign rfl) rfl ?_
      refine L.nil ?_
      refine X.sq ?_
      first | refine V.cond rfl (fun h7 => ?_) (fun h7 => ?_) | refine V.condB rfl (fun h7 => ?_) (fun h7 => ?_)
      ·
        refine V.seq ?_
        omega
      ·
        refine V.seq ?_
        refine V.seq ?_
        refine V.region ?_
        refine L.rd (rd_eql rfl rfl) rfl ?_
        refine L.rd (rd_assign rfl) rfl ?_
        refine L.nil ?_
        refine X.sq ?_
        first | refine V.cond rfl (fun h10 => ?_) (fun h10 => ?_) | refine V.condB rfl (fun h10 => ?_) (fun h10 => ?_)
        ·
          refine V.skip ?_
          refine X.sq ?_
          first | refine V.cond rfl (fun h10_ => ?_) (fun h10_ => ?_) | refine V.condB rfl (fun h10_ => ?_) (fun h10_ => ?_)
          ·
            refine V.seq ?_
            omega
          ·
            exact absurd h10 h10_
        ·
          refine V.region ?_
          refine L.rd (rd_eql rfl rfl) rfl ?_
          refine L.rd (rd_assign rfl) rfl ?_
          refine L.nil ?_
          refine X.sq ?_
          first | refine V.cond rfl (fun h10 => ?_) (fun h10 => ?_) | refine V.condB rfl (fun h10 => ?_) (fun h10 => ?_)
          ·
            refine V.seq ?_
            omega
          ·
            refine V.skip ?_
            refine X.bk ?_
            refine X.sq ?_
            refine V.seq ?_
            refine V.draw [] mixed ?_
            refine D.take 0 [true, false, false, false, false, false, false, false, false, false, false, false, false] (.sq .bd) rfl (rd_move rfl) rfl (by kernel_rfl) rfl (LeC.drew _) ?_
            refine D.take 1 [true, true, false, false, false, false, false, false, false, false, false, false, false] (.sq .bd) rfl (rd_nilCheck rfl) rfl (by kernel_rfl) rfl (LeC.drew _) ?_
            refine D.take 2 [true, true, true, false, false, false, false, false, false, false, false, false, false] (.sq .bd) rfl (rd_fieldAddr tok rfl rfl rfl rfl rfl rfl) rfl (by kernel_rfl) rfl (LeC.drew _) ?_
            refine D.take 3 [true, true, true, true, false, false, false, false, false, false, false, false, false] (.sq .bd) rfl (rd_load1 tok rfl rfl rfl (hb.cell (i := 3) rfl)) rfl (by kernel_rfl) rfl (LeC.drew _) ?_
            refine D.take 6 [true, true, true, true, false, false, true, false, false, false, false, false, false] (.sq .bd) rfl (rd_move rfl) rfl (by kernel_rfl) rfl (LeC.drew _) ?_
            refine D.take 7 [true, true, true, true, false, false, true, true, false, false, false, false, false] (.sq .bd) rfl (rd_nilCheck rfl) rfl (by kernel_rfl) rfl (LeC.drew _) ?_
            refine D.take 8 [true, true, true, true, false, false, true, true, true, false, false, false, false] (.sq .bd) rfl (rd_fieldAddr tok rfl rfl rfl rfl rfl rfl) rfl (by kernel_rfl) rfl (LeC.drew _) ?_
            refine D.take 9 [true, true, true, true, false, false, true, true, true, true, false, false, false] (.sq .bd) rfl (rd_load1 tok rfl rfl rfl (hb.cell (i := 4) rfl)) rfl (by kernel_rfl) rfl (LeC.drew _) ?_
            refine D.one 4 [true, true, true, true, true, false, true, true, true, true, false, false, false] rfl (by kernel_rfl) rfl (e_call rfl (ih1 _ _ hw1 (by omega) (ht.ext ((Ext.refl _ _).drew))) rfl ?_)
            rintro _ w1 ⟨rfl, he1⟩
            have hE1 : Ext w.heap.size w w1 := (Ext.refl _ w).drew.trans he1
            refine ⟨fun _ => hE1.leC, ?_⟩
            (refine D.take 5 [true, true, true, true, true, true, true, true, true, true, false, false, false] (.sq .bd) rfl (rd_add3 rfl rfl ?_) rfl (by kernel_rfl) rfl hE1.leC ?_; omega)
            refine D.one 10 [true, true, true, true, true, true, true, true, true, true, true, false, false] rfl (by kernel_rfl) rfl (e_call rfl (ih2 _ _ hw2 (by omega) (ht2.ext hE1)) rfl ?_)
            rintro _ w2 ⟨rfl, he2⟩
            have hE2 := hE1.next he2
            refine ⟨fun _ => hE2.leC, ?_⟩
            (refine D.take 11 [true, true, true, true, true, true, true, true, true, true, true, true, false] (.sq .bd) rfl (rd_add3 rfl rfl ?_) rfl (by kernel_rfl) rfl hE2.leC ?_; omega)
            refine D.take 12 [true, true, true, true, true, true, true, true, true, true, true, true, true] (.sq .bd) rfl (rd_assign rfl) rfl (by kernel_rfl) rfl hE2.leC ?_
            refine D.done (by kernel_rfl) ?_
            refine X.sq ?_
            refine V.ret ?_
            refine ret_1 Yaam.results82 rfl ?_
            exact ⟨rfl, hE2⟩

theorem flatten_ok (w0 : World) (lo : Nat) : ∀ (t : Tre) (v ov : Value) (ns : List Nd) (w : World), Wt t → ns.length + tsz t ≤ 10000000 → Tm 172 w0 lo t v → Ext w0.heap.size w0 w → w.ownsRow w0.heap.size 107 5 ov ns.length (ns.flatMap ndE) → Ret Yaam.prog 108 [v, ov] w (LPost 107 w0.heap.size ns t w) := by
  refine Tre.ind (fun k vv x c v ov ns w hw hz h hE ho => ?_) (fun k vv x c ih v ov ns w hw hz h hE ho => ?_) (fun k vv x n c ih1 ih2 v ov ns w hw hz h hE ho => ?_)
  · obtain ⟨b, rfl, -, hb⟩ := h.ext hE
    obtain ⟨oa, oc, rfl⟩ := own_form ho
    have hs := hE.size
    rw [tsz] at hz
    refine enter2 Yaam.func108 Yaam.ntmps108 (by kernel_rfl) rfl rfl ?_
    refine V.seq ?_
    refine V.region ?_
    refine L.rd (rd_assign rfl) rfl ?_
    refine L.nil ?_
    refine X.sq ?_
    refine V.seq ?_
    refine V.seq ?_
    refine V.region ?_
    refine L.rd (rd_move rfl) rfl ?_
    refine L.rd (rd_nilCheck rfl) rfl ?_
    refine L.rd (rd_fieldAddr tok rfl rfl rfl rfl rfl rfl) rfl ?_
    refine L.rd (rd_load1 tok rfl rfl rfl (hb.cell rfl)) rfl ?_
    refine L.nil ?_
    refine X.sq ?_
    refine V.block ?_
    refine V.seq ?_
    refine V.region ?_
    refine L.rd (rd_eql rfl rfl) rfl ?_
    refine L.rd (rd_assign rfl) rfl ?_
    refine L.nil ?_
    refine X.sq ?_
    first | refine V.cond rfl (fun h11 => ?_) (fun h11 => ?_) | refine V.condB rfl (fun h11 => ?_) (fun h11 => ?_)
    ·
      refine V.seq ?_
      refine V.region ?_
      refine L.rd (rd_move rfl) rfl ?_
      refine L.rd (rd_move rfl) rfl ?_
      refine L.rd (rd_nilCheck rfl) rfl ?_
      refine L.rd (rd_fieldAddr tok rfl rfl rfl rfl rfl rfl) rfl ?_
      refine L.rd (rd_load1 tok rfl rfl rfl (hb.cell (i := 1) rfl)) rfl ?_
      refine L.rd (rd_build (out := [_, _, _, _, _]) tok rfl rfl rfl rfl rfl) rfl ?_
      refine L.ef (e_buildSlice1 (e := 107) (cs := ndE (1, vv, 0, -1, -1)) tok rfl rfl rfl rfl rfl rfl rfl rfl rfl (by first | (simp only [size_addB, size_setB, size_drew]; rfl) | rfl) rfl ?_)
      refine L.ef (e_append (m := 1) tok rfl rfl rfl rfl rfl rfl rfl rfl rfl rfl (ho.alloc _) (Bl.new _ _ _).cells (ndE_len _) (ndE_one _) (by unfold maxLen; omega) (by simp only []; omega) (by rw [size_addB]; omega) ?_)
      rintro v6 w6 ho6 hg6
      refine L.rd (rd_assign rfl) rfl ?_
      refine L.nil ?_
      refine X.sq ?_
      refine V.ret ?_
      refine X.bkRet ?_
      refine X.sqRet ?_
      refine ret_1 Yaam.results108 rfl ?_
      have hx : x = 0 := by rcases hw with h | h; exact h.2; omega
      subst hx
      have hk1 : k = 1 := h11
      subst hk1
      refine ⟨?_, (((Ext.refl _ w).addNew 107 (ndE (1, vv, 0, -1, -1))).low (by omega)).grown hg6 (by rw [size_addB]; omega) (fun q hq => (own_block_lt ho hq).1)⟩
      rw [List.flatMap_append]
      exact ho6
    ·
      refine V.seq ?_
      refine V.region ?_
      refine L.rd (rd_eql rfl rfl) rfl ?_
      refine L.rd (rd_assign rfl) rfl ?_
      refine L.nil ?_
      refine X.sq ?_
      first | refine V.cond rfl (fun h21 => ?_) (fun h21 => ?_) | refine V.condB rfl (fun h21 => ?_) (fun h21 => ?_)
      ·
        refine V.seq ?_
        refine V.region ?_
        refine L.rd (rd_move rfl) rfl ?_
        refine L.rd (rd_move rfl) rfl ?_
        refine L.rd (rd_nilCheck rfl) rfl ?_
        refine L.rd (rd_fieldAddr tok rfl rfl rfl rfl rfl rfl) rfl ?_
        refine L.rd (rd_load1 tok rfl rfl rfl (hb.cell (i := 2) rfl)) rfl ?_
        refine L.rd (rd_build (out := [_, _, _, _, _]) tok rfl rfl rfl rfl rfl) rfl ?_
        refine L.ef (e_buildSlice1 (e := 107) (cs := ndE (2, 0, x, -1, -1)) tok rfl rfl rfl rfl rfl rfl rfl rfl rfl (by first | (simp only [size_addB, size_setB, size_drew]; rfl) | rfl) rfl ?_)
        refine L.ef (e_append (m := 1) tok rfl rfl rfl rfl rfl rfl rfl rfl rfl rfl (ho.alloc _) (Bl.new _ _ _).cells (ndE_len _) (ndE_one _) (by unfold maxLen; omega) (by simp only []; omega) (by rw [size_addB]; omega) ?_)
        rintro v6 w6 ho6 hg6
        refine L.rd (rd_assign rfl) rfl ?_
        refine L.nil ?_
        refine X.sq ?_
        refine V.ret ?_
        refine X.bkRet ?_
        refine X.sqRet ?_
        refine ret_1 Yaam.results108 rfl ?_
        have hx : vv = 0 := by rcases hw with h | h; omega; exact h.2.1
        subst hx
        have hk1 : k = 2 := h21
        subst hk1
        refine ⟨?_, (((Ext.refl _ w).addNew 107 (ndE (2, 0, x, -1, -1))).low (by omega)).grown hg6 (by rw [size_addB]; omega) (fun q hq => (own_block_lt ho hq).1)⟩
        rw [List.flatMap_append]
        exact ho6
      ·
        refine V.seq ?_
        refine V.seq ?_
        exfalso
        rcases hw with h | h <;> omega
  · obtain ⟨b, q, rfl, -, hb0, ht⟩ := h
    obtain ⟨rfl, hk, hw1⟩ := hw
    have hk' : k = 3 ∨ k = 7 := by rcases hk with h | h; exact .inl h.1; exact .inr h.1
    have hb := hE.bl hb0.lt hb0
    have hs := hE.size
    rw [tsz] at hz
    obtain ⟨oa, oc, rfl⟩ := own_form ho
    refine enter2 Yaam.func108 Yaam.ntmps108 (by kernel_rfl) rfl rfl ?_
    refine V.seq ?_
    refine V.region ?_
    refine L.rd (rd_assign rfl) rfl ?_
    refine L.nil ?_
    refine X.sq ?_
    refine V.seq ?_
    refine V.seq ?_
    refine V.region ?_
    refine L.rd (rd_move rfl) rfl ?_
    refine L.rd (rd_nilCheck rfl) rfl ?_
    refine L.rd (rd_fieldAddr tok rfl rfl rfl rfl rfl rfl) rfl ?_
    refine L.rd (rd_load1 tok rfl rfl rfl (hb.cell rfl)) rfl ?_
    refine L.nil ?_
    refine X.sq ?_
    refine V.block ?_
    refine V.seq ?_
    refine V.region ?_
    refine L.rd (rd_eql rfl rfl) rfl ?_
    refine L.rd (rd_assign rfl) rfl ?_
    refine L.nil ?_
    refine X.sq ?_
    first | refine V.cond rfl (fun h11 => ?_) (fun h11 => ?_) | refine V.condB rfl (fun h11 => ?_) (fun h11 => ?_)
    ·
      refine V.seq ?_
      omega
    ·
      refine V.seq ?_
      refine V.region ?_
      refine L.rd (rd_eql rfl rfl) rfl ?_
      refine L.rd (rd_assign rfl) rfl ?_
      refine L.nil ?_
      refine X.sq ?_
      first | refine V.cond rfl (fun h21 => ?_) (fun h21 => ?_) | refine V.condB rfl (fun h21 => ?_) (fun h21 => ?_)
      ·
        refine V.seq ?_
        omega
      ·
        refine V.seq ?_
        refine V.seq ?_
        refine V.region ?_
        refine L.rd (rd_eql rfl rfl) rfl ?_
        refine L.rd (rd_assign rfl) rfl ?_
        refine L.nil ?_
        refine X.sq ?_
        first | refine V.cond rfl (fun h31 => ?_) (fun h31 => ?_) | refine V.condB rfl (fun h31 => ?_) (fun h31 => ?_)
        ·
          refine V.skip ?_
          refine X.sq ?_
          first | refine V.cond rfl (fun h31_ => ?_) (fun h31_ => ?_) | refine V.condB rfl (fun h31_ => ?_) (fun h31_ => ?_)
          ·
            refine V.seq ?_
            refine V.region ?_
            refine L.rd (rd_move rfl) rfl ?_
            refine L.rd (rd_nilCheck rfl) rfl ?_
            refine L.rd (rd_fieldAddr tok rfl rfl rfl rfl rfl rfl) rfl ?_
            refine L.rd (rd_load1 tok rfl rfl rfl (hb.cell (i := 3) rfl)) rfl ?_
            refine L.rd (rd_move rfl) rfl ?_
            refine L.ef (e_call rfl (ih _ _ ns _ hw1 (by omega) ht hE ho) rfl ?_)
            rintro v1 w1 ⟨ho1, he1⟩
            have hE1 : Ext w0.heap.size w0 w1 := hE.trans he1
            have hb1 := hE1.bl hb0.lt hb0
            have hs1 := hE1.size
            obtain ⟨oa1, oc1, rfl⟩ := own_form ho1
            have hfl := flat_len (c 0) ns.length
            refine L.rd (rd_assign rfl) rfl ?_
            refine L.nil ?_
            refine X.sq ?_
            refine V.seq ?_
            refine V.draw [14] mixed ?_
            refine D.takeP 0 [true, false, false, false, false, false, false, false, false, false, false, false, false, false, false, false] (.sq (.bk (.sq .bd))) rfl (fun _ => rd_move rfl) rfl (by kernel_rfl) rfl ?_
            refine D.takeP 1 [true, true, false, false, false, false, false, false, false, false, false, false, false, false, false, false] (.sq (.bk (.sq .bd))) rfl (fun _ => rd_move rfl) rfl (by kernel_rfl) rfl ?_
            refine D.takeP 2 [true, true, true, false, false, false, false, false, false, false, false, false, false, false, false, false] (.sq (.bk (.sq .bd))) rfl (fun _ => rd_nilCheck rfl) rfl (by kernel_rfl) rfl ?_
            refine D.takeP 3 [true, true, true, true, false, false, false, false, false, false, false, false, false, false, false, false] (.sq (.bk (.sq .bd))) rfl (fun _ => rd_fieldAddr tok rfl rfl rfl rfl rfl rfl) rfl (by kernel_rfl) rfl ?_
            refine D.takeW 4 [true, true, true, true, true, false, false, false, false, false, false, false, false, false, false, false] (.sq (.bk (.sq .bd))) rfl (rd_load1 tok rfl rfl rfl (hb1.cell rfl)) rfl (by kernel_rfl) rfl (LeC.drew _) ?_
            refine D.takeP 5 [true, true, true, true, true, true, false, false, false, false, false, false, false, false, false, false] (.sq (.bk (.sq .bd))) rfl (fun _ => rd_move rfl) rfl (by kernel_rfl) rfl ?_
            refine D.takeP 6 [true, true, true, true, true, true, true, false, false, false, false, false, false, false, false, false] (.sq (.bk (.sq .bd))) rfl (fun _ => rd_nilCheck rfl) rfl (by kernel_rfl) rfl ?_
            refine D.takeP 7 [true, true, true, true, true, true, true, true, false, false, false, false, false, false, false, false] (.sq (.bk (.sq .bd))) rfl (fun _ => rd_fieldAddr tok rfl rfl rfl rfl rfl rfl) rfl (by kernel_rfl) rfl ?_
            refine D.takeW 8 [true, true, true, true, true, true, true, true, true, false, false, false, false, false, false, false] (.sq (.bk (.sq .bd))) rfl (rd_load1 tok rfl rfl rfl (hb1.cell (i := 1) rfl)) rfl (by kernel_rfl) rfl (LeC.drew _) ?_
            refine D.takeP 9 [true, true, true, true, true, true, true, true, true, true, false, false, false, false, false, false] (.sq (.bk (.sq .bd))) rfl (fun _ => rd_move rfl) rfl (by kernel_rfl) rfl ?_
            refine D.takeP 10 [true, true, true, true, true, true, true, true, true, true, true, false, false, false, false, false] (.sq (.bk (.sq .bd))) rfl (fun _ => rd_lenSlice tok rfl rfl rfl) rfl (by kernel_rfl) rfl ?_
            (refine D.takeP 11 [true, true, true, true, true, true, true, true, true, true, true, true, false, false, false, false] (.sq (.bk (.sq .bd))) rfl (fun _ => rd_sub3 rfl rfl ?_) rfl (by kernel_rfl) rfl ?_; omega)
            refine D.takeP 12 [true, true, true, true, true, true, true, true, true, true, true, true, true, false, false, false] (.sq (.bk (.sq .bd))) rfl (fun _ => rd_build (out := [_, _, _, _, _]) tok rfl rfl rfl rfl rfl) rfl (by kernel_rfl) rfl ?_
            refine D.one 13 [true, true, true, true, true, true, true, true, true, true, true, true, true, true, false, false] rfl (by kernel_rfl) rfl (e_buildSlice1 (e := 107) (cs := ndE (k, vv, 0, ((ns.length + tsz (c 0) : Nat) : Int) - 1, -1)) tok rfl rfl rfl rfl rfl rfl rfl rfl rfl (by first | (simp only [size_addB, size_setB, size_drew]; rfl) | rfl) rfl ?_)
            have heb := ((Ext.refl _ w1).drew).addNew 107 (ndE (k, vv, 0, ((ns.length + tsz (c 0) : Nat) : Int) - 1, -1))
            have hleb := heb.leC
            refine ⟨fun _ => hleb, ?_⟩
            refine D.one 14 [true, true, true, true, true, true, true, true, true, true, true, true, true, true, true, false] rfl (by kernel_rfl) rfl (e_append (m := 1) tok rfl rfl rfl rfl rfl rfl rfl rfl rfl rfl (own_ext ho1 heb) (Bl.new _ _ _).cells (ndE_len _) (ndE_one _) (by unfold maxLen; omega) (by simp only []; omega) (by rw [size_addB, size_drew]; omega) ?_)
            rintro v6 w6 ho6 hg6
            refine ⟨fun h => (by cases h), ?_⟩
            refine D.takeP 15 [true, true, true, true, true, true, true, true, true, true, true, true, true, true, true, true] (.sq (.bk (.sq .bd))) rfl (fun _ => rd_assign rfl) rfl (by kernel_rfl) rfl ?_
            refine D.done (by kernel_rfl) ?_
            refine X.sq ?_
            refine V.ret ?_
            refine X.bkRet ?_
            refine X.sqRet ?_
            refine ret_1 Yaam.results108 rfl ?_
            have hfe : ns ++ flat ⟨k, vv, 0, 1, c⟩ ns.length = ns ++ flat (c 0) ns.length ++ [(k, vv, 0, ((ns.length + tsz (c 0) : Nat) : Int) - 1, -1)] := by
              rw [flat, Int.natCast_add, List.append_assoc]
            refine ⟨?_, he1.trans (((heb.low (by omega)).grown hg6 (by rw [size_addB, size_drew]; omega) (fun q hq => (own_block_lt ho1 hq).1)))⟩
            rw [hfe, List.flatMap_append, tsz, show ns.length + (1 + tsz (c 0)) = ns.length + tsz (c 0) + 1 by omega]
            simpa using ho6
          ·
            exact absurd h31 h31_
        ·
          refine V.region ?_
          refine L.rd (rd_eql rfl rfl) rfl ?_
          refine L.rd (rd_assign rfl) rfl ?_
          refine L.nil ?_
          refine X.sq ?_
          first | refine V.cond rfl (fun h31 => ?_) (fun h31 => ?_) | refine V.condB rfl (fun h31 => ?_) (fun h31 => ?_)
          ·
            refine V.seq ?_
            refine V.region ?_
            refine L.rd (rd_move rfl) rfl ?_
            refine L.rd (rd_nilCheck rfl) rfl ?_
            refine L.rd (rd_fieldAddr tok rfl rfl rfl rfl rfl rfl) rfl ?_
            refine L.rd (rd_load1 tok rfl rfl rfl (hb.cell (i := 3) rfl)) rfl ?_
            refine L.rd (rd_move rfl) rfl ?_
            refine L.ef (e_call rfl (ih _ _ ns _ hw1 (by omega) ht hE ho) rfl ?_)
            rintro v1 w1 ⟨ho1, he1⟩
            have hE1 : Ext w0.heap.size w0 w1 := hE.trans he1
            have hb1 := hE1.bl hb0.lt hb0
            have hs1 := hE1.size
            obtain ⟨oa1, oc1, rfl⟩ := own_form ho1
            have hfl := flat_len (c 0) ns.length
            refine L.rd (rd_assign rfl) rfl ?_
            refine L.nil ?_
            refine X.sq ?_
            refine V.seq ?_
            refine V.draw [14] mixed ?_
            refine D.takeP 0 [true, false, false, false, false, false, false, false, false, false, false, false, false, false, false, false] (.sq (.bk (.sq .bd))) rfl (fun _ => rd_move rfl) rfl (by kernel_rfl) rfl ?_
            refine D.takeP 1 [true, true, false, false, false, false, false, false, false, false, false, false, false, false, false, false] (.sq (.bk (.sq .bd))) rfl (fun _ => rd_move rfl) rfl (by kernel_rfl) rfl ?_
            refine D.takeP 2 [true, true, true, false, false, false, false, false, false, false, false, false, false, false, false, false] (.sq (.bk (.sq .bd))) rfl (fun _ => rd_nilCheck rfl) rfl (by kernel_rfl) rfl ?_
            refine D.takeP 3 [true, true, true, true, false, false, false, false, false, false, false, false, false, false, false, false] (.sq (.bk (.sq .bd))) rfl (fun _ => rd_fieldAddr tok rfl rfl rfl rfl rfl rfl) rfl (by kernel_rfl) rfl ?_
            refine D.takeW 4 [true, true, true, true, true, false, false, false, false, false, false, false, false, false, false, false] (.sq (.bk (.sq .bd))) rfl (rd_load1 tok rfl rfl rfl (hb1.cell rfl)) rfl (by kernel_rfl) rfl (LeC.drew _) ?_
            refine D.takeP 5 [true, true, true, true, true, true, false, false, false, false, false, false, false, false, false, false] (.sq (.bk (.sq .bd))) rfl (fun _ => rd_move rfl) rfl (by kernel_rfl) rfl ?_
            refine D.takeP 6 [true, true, true, true, true, true, true, false, false, false, false, false, false, false, false, false] (.sq (.bk (.sq .bd))) rfl (fun _ => rd_nilCheck rfl) rfl (by kernel_rfl) rfl ?_
            refine D.takeP 7 [true, true, true, true, true, true, true, true, false, false, false, false, false, false, false, false] (.sq (.bk (.sq .bd))) rfl (fun _ => rd_fieldAddr tok rfl rfl rfl rfl rfl rfl) rfl (by kernel_rfl) rfl ?_
            refine D.takeW 8 [true, true, true, true, true, true, true, true, true, false, false, false, false, false, false, false] (.sq (.bk (.sq .bd))) rfl (rd_load1 tok rfl rfl rfl (hb1.cell (i := 1) rfl)) rfl (by kernel_rfl) rfl (LeC.drew _) ?_
            refine D.takeP 9 [true, true, true, true, true, true, true, true, true, true, false, false, false, false, false, false] (.sq (.bk (.sq .bd))) rfl (fun _ => rd_move rfl) rfl (by kernel_rfl) rfl ?_
            refine D.takeP 10 [true, true, true, true, true, true, true, true, true, true, true, false, false, false, false, false] (.sq (.bk (.sq .bd))) rfl (fun _ => rd_lenSlice tok rfl rfl rfl) rfl (by kernel_rfl) rfl ?_
            (refine D.takeP 11 [true, true, true, true, true, true, true, true, true, true, true, true, false, false, false, false] (.sq (.bk (.sq .bd))) rfl (fun _ => rd_sub3 rfl rfl ?_) rfl (by kernel_rfl) rfl ?_; omega)
            refine D.takeP 12 [true, true, true, true, true, true, true, true, true, true, true, true, true, false, false, false] (.sq (.bk (.sq .bd))) rfl (fun _ => rd_build (out := [_, _, _, _, _]) tok rfl rfl rfl rfl rfl) rfl (by kernel_rfl) rfl ?_
            refine D.one 13 [true, true, true, true, true, true, true, true, true, true, true, true, true, true, false, false] rfl (by kernel_rfl) rfl (e_buildSlice1 (e := 107) (cs := ndE (k, vv, 0, ((ns.length + tsz (c 0) : Nat) : Int) - 1, -1)) tok rfl rfl rfl rfl rfl rfl rfl rfl rfl (by first | (simp only [size_addB, size_setB, size_drew]; rfl) | rfl) rfl ?_)
            have heb := ((Ext.refl _ w1).drew).addNew 107 (ndE (k, vv, 0, ((ns.length + tsz (c 0) : Nat) : Int) - 1, -1))
            have hleb := heb.leC
            refine ⟨fun _ => hleb, ?_⟩
            refine D.one 14 [true, true, true, true, true, true, true, true, true, true, true, true, true, true, true, false] rfl (by kernel_rfl) rfl (e_append (m := 1) tok rfl rfl rfl rfl rfl rfl rfl rfl rfl rfl (own_ext ho1 heb) (Bl.new _ _ _).cells (ndE_len _) (ndE_one _) (by unfold maxLen; omega) (by simp only []; omega) (by rw [size_addB, size_drew]; omega) ?_)
            rintro v6 w6 ho6 hg6
            refine ⟨fun h => (by cases h), ?_⟩
            refine D.takeP 15 [true, true, true, true, true, true, true, true, true, true, true, true, true, true, true, true] (.sq (.bk (.sq .bd))) rfl (fun _ => rd_assign rfl) rfl (by kernel_rfl) rfl ?_
            refine D.done (by kernel_rfl) ?_
            refine X.sq ?_
            refine V.ret ?_
            refine X.bkRet ?_
            refine X.sqRet ?_
            refine ret_1 Yaam.results108 rfl ?_
            have hfe : ns ++ flat ⟨k, vv, 0, 1, c⟩ ns.length = ns ++ flat (c 0) ns.length ++ [(k, vv, 0, ((ns.length + tsz (c 0) : Nat) : Int) - 1, -1)] := by
              rw [flat, Int.natCast_add, List.append_assoc]
            refine ⟨?_, he1.trans (((heb.low (by omega)).grown hg6 (by rw [size_addB, size_drew]; omega) (fun q hq => (own_block_lt ho1 hq).1)))⟩
            rw [hfe, List.flatMap_append, tsz, show ns.length + (1 + tsz (c 0)) = ns.length + tsz (c 0) + 1 by omega]
            simpa using ho6
          ·
            refine V.skip ?_
            refine X.bk ?_
            refine X.sq ?_
            refine V.seq ?_
            omega
  · obtain ⟨b, q, q2, rfl, -, hb0, ht, ht2⟩ := h
    obtain ⟨rfl, rfl, rfl, hk, hw1, hw2⟩ := hw
    have hb := hE.bl hb0.lt hb0
    have hs := hE.size
    rw [tsz] at hz
    obtain ⟨oa, oc, rfl⟩ := own_form ho
    refine enter2 Yaam.func108 Yaam.ntmps108 (by kernel_rfl) rfl rfl ?_
    refine V.seq ?_
    refine V.region ?_
    refine L.rd (rd_assign rfl) rfl ?_
    refine L.nil ?_
    refine X.sq ?_
    refine V.seq ?_
    refine V.seq ?_
    refine V.region ?_
    refine L.rd (rd_move rfl) rfl ?_
    refine L.rd (rd_nilCheck rfl) rfl ?_
    refine L.rd (rd_fieldAddr tok rfl rfl rfl rfl rfl rfl) rfl ?_
    refine L.rd (rd_load1 tok rfl rfl rfl (hb.cell rfl)) rfl ?_
    refine L.nil ?_
    refine X.sq ?_
    refine V.block ?_
    refine V.seq ?_
    refine V.region ?_
    refine L.rd (rd_eql rfl rfl) rfl ?_
    refine L.rd (rd_assign rfl) rfl ?_
    refine L.nil ?_
    refine X.sq ?_
    first | refine V.cond rfl (fun h11 => ?_) (fun h11 => ?_) | refine V.condB rfl (fun h11 => ?_) (fun h11 => ?_)
    ·
      refine V.seq ?_
      omega
    ·
      refine V.seq ?_
      refine V.region ?_
      refine L.rd (rd_eql rfl rfl) rfl ?_
      refine L.rd (rd_assign rfl) rfl ?_
      refine L.nil ?_
      refine X.sq ?_
      first | refine V.cond rfl (fun h21 => ?_) (fun h21 => ?_) | refine V.condB rfl (fun h21 => ?_) (fun h21 => ?_)
      ·
        refine V.seq ?_
        omega
      ·
        refine V.seq ?_
        refine V.seq ?_
        refine V.region ?_
        refine L.rd (rd_eql rfl rfl) rfl ?_
        refine L.rd (rd_assign rfl) rfl ?_
        refine L.nil ?_
        refine X.sq ?_
        first | refine V.cond rfl (fun h31 => ?_) (fun h31 => ?_) | refine V.condB rfl (fun h31 => ?_) (fun h31 => ?_)
        ·
          refine V.skip ?_
          refine X.sq ?_
          first | refine V.cond rfl (fun h31_ => ?_) (fun h31_ => ?_) | refine V.condB rfl (fun h31_ => ?_) (fun h31_ => ?_)
          ·
            refine V.seq ?_
            omega
          ·
            exact absurd h31 h31_
        ·
          refine V.region ?_
          refine L.rd (rd_eql rfl rfl) rfl ?_
          refine L.rd (rd_assign rfl) rfl ?_
          refine L.nil ?_
          refine X.sq ?_
          first | refine V.cond rfl (fun h31 => ?_) (fun h31 => ?_) | refine V.condB rfl (fun h31 => ?_) (fun h31 => ?_)
          ·
            refine V.seq ?_
            omega
          ·
            refine V.skip ?_
            refine X.bk ?_
            refine X.sq ?_
            refine V.seq ?_
            refine V.region ?_
            refine L.rd (rd_move rfl) rfl ?_
            refine L.rd (rd_nilCheck rfl) rfl ?_
            refine L.rd (rd_fieldAddr tok rfl rfl rfl rfl rfl rfl) rfl ?_
            refine L.rd (rd_load1 tok rfl rfl rfl (hb.cell (i := 3) rfl)) rfl ?_
            refine L.rd (rd_move rfl) rfl ?_
            refine L.ef (e_call rfl (ih1 _ _ ns _ hw1 (by omega) ht hE ho) rfl ?_)
            rintro v1 w1 ⟨ho1, he1⟩
            have hE1 : Ext w0.heap.size w0 w1 := hE.trans he1
            have hb1 := hE1.bl hb0.lt hb0
            have hfl := flat_len (c 0) ns.length
            have hlen : (ns ++ flat (c 0) ns.length).length = ns.length + tsz (c 0) := by rw [List.length_append, hfl]
            rw [← hlen] at ho1
            obtain ⟨oa1, oc1, rfl⟩ := own_form ho1
            refine L.rd (rd_assign rfl) rfl ?_
            refine L.nil ?_
            refine X.sq ?_
            refine V.seq ?_
            refine V.region ?_
            refine L.rd (rd_move rfl) rfl ?_
            refine L.rd (rd_lenSlice tok rfl rfl rfl) rfl ?_
            (refine L.rd (rd_sub3 rfl rfl ?_) rfl ?_; omega)
            refine L.rd (rd_assign rfl) rfl ?_
            refine L.nil ?_
            refine X.sq ?_
            refine V.seq ?_
            refine V.region ?_
            refine L.rd (rd_move rfl) rfl ?_
            refine L.rd (rd_nilCheck rfl) rfl ?_
            refine L.rd (rd_fieldAddr tok rfl rfl rfl rfl rfl rfl) rfl ?_
            refine L.rd (rd_load1 tok rfl rfl rfl (hb1.cell (i := 4) rfl)) rfl ?_
            refine L.rd (rd_move rfl) rfl ?_
            refine L.ef (e_call rfl (ih2 _ _ (ns ++ flat (c 0) ns.length) _ hw2 (by rw [hlen]; omega) ht2 hE1 ho1) rfl ?_)
            rintro v2 w2 ⟨ho2, he2⟩
            have hE2 : Ext w0.heap.size w0 w2 := hE1.trans he2
            have hb2 := hE2.bl hb0.lt hb0
            have hs2 := hE2.size
            rw [hlen] at ho2
            obtain ⟨oa2, oc2, rfl⟩ := own_form ho2
            refine L.rd (rd_assign rfl) rfl ?_
            refine L.nil ?_
            refine X.sq ?_
            refine V.seq ?_
            refine V.region ?_
            refine L.rd (rd_move rfl) rfl ?_
            refine L.rd (rd_lenSlice tok rfl rfl rfl) rfl ?_
            (refine L.rd (rd_sub3 rfl rfl ?_) rfl ?_; omega)
            refine L.rd (rd_assign rfl) rfl ?_
            refine L.nil ?_
            refine X.sq ?_
            refine V.seq ?_
            refine V.region ?_
            refine L.rd (rd_move rfl) rfl ?_
            refine L.rd (rd_move rfl) rfl ?_
            refine L.rd (rd_nilCheck rfl) rfl ?_
            refine L.rd (rd_fieldAddr tok rfl rfl rfl rfl rfl rfl) rfl ?_
            refine L.rd (rd_load1 tok rfl rfl rfl (hb2.cell rfl)) rfl ?_
            refine L.rd (rd_move rfl) rfl ?_
            refine L.rd (rd_move rfl) rfl ?_
            refine L.rd (rd_build (out := [_, _, _, _, _]) tok rfl rfl rfl rfl rfl) rfl ?_
            refine L.ef (e_buildSlice1 (e := 107) (cs := ndE (k, 0, 0, ((ns ++ flat (c 0) ns.length).length : Int) - 1, ((ns.length + tsz (c 0) + tsz (c 1) : Nat) : Int) - 1)) tok rfl rfl rfl rfl rfl rfl rfl rfl rfl (by first | (simp only [size_addB, size_setB, size_drew]; rfl) | rfl) rfl ?_)
            refine L.ef (e_append (m := 1) tok rfl rfl rfl rfl rfl rfl rfl rfl rfl rfl (ho2.alloc _) (Bl.new _ _ _).cells (ndE_len _) (ndE_one _) (by unfold maxLen; omega) (by simp only []; omega) (by rw [size_addB]; omega) ?_)
            rintro v6 w6 ho6 hg6
            refine L.rd (rd_assign rfl) rfl ?_
            refine L.nil ?_
            refine X.sq ?_
            refine V.ret ?_
            refine ret_1 Yaam.results108 rfl ?_
            have hfe : ns ++ flat ⟨k, 0, 0, 2, c⟩ ns.length = ns ++ flat (c 0) ns.length ++ flat (c 1) (ns.length + tsz (c 0)) ++ [(k, 0, 0, ((ns ++ flat (c 0) ns.length).length : Int) - 1, ((ns.length + tsz (c 0) + tsz (c 1) : Nat) : Int) - 1)] := by
              rw [flat, hlen]
              simp only [Int.natCast_add, List.append_assoc]
            refine ⟨?_, (he1.trans he2).trans ((((Ext.refl _ w2).addNew 107 (ndE (k, 0, 0, ((ns ++ flat (c 0) ns.length).length : Int) - 1, ((ns.length + tsz (c 0) + tsz (c 1) : Nat) : Int) - 1))).low (by omega)).grown hg6 (by rw [size_addB]; omega) (fun q hq => (own_block_lt ho2 hq).1))⟩
            rw [hfe, List.flatMap_append, tsz, show ns.length + (1 + tsz (c 0) + tsz (c 1)) = ns.length + tsz (c 0) + tsz (c 1) + 1 by omega]
            simpa using ho6

theorem toExpr_ok (t : Tre) (v : Value) (w : World) (lo : Nat) (hw : Wt t) (hz : tsz t ≤ 10000000) (h : Tm 172 w lo t v) : Ret Yaam.prog 63 [v] w fun r w' => ∃ nv, r = .agg #[nv, .int .i64 ((tsz t : Int) - 1)] ∧ w'.ownsRow w.heap.size 107 5 nv (flat t 0).length ((flat t 0).flatMap ndE) ∧ Ext w.heap.size w w' := by
  refine enter1 Yaam.func63 Yaam.ntmps63 (by kernel_rfl) rfl rfl ?_
  refine V.seq ?_
  refine V.region ?_
  refine L.ef (e_alloc (cs := [_, _]) tok rfl rfl (by first | (simp only [size_addB, size_setB, size_drew]; rfl) | rfl) rfl ?_)
  refine L.nil ?_
  refine X.sq ?_
  refine V.seq ?_
  have hr := Bl.new w 28 [.slice none 0 0, .int .i64 0]
  have hE := (Ext.refl _ w).addNew 28 [.slice none 0 0, .int .i64 0]
  have hs := size_addB w 28 [.slice none 0 0, .int .i64 0]
  generalize addB w 28 [.slice none 0 0, .int .i64 0] = w0 at hr hE hs ⊢
  refine V.region ?_
  refine L.rd (rd_move rfl) rfl ?_
  refine L.ef (e_call rfl (flatten_ok w0 lo t v _ [] w0 hw (by simpa using hz) (h.ext hE) (Ext.refl _ _) (World.ownsRow_nil _ _ _ _)) rfl ?_)
  rintro v1 w1 ⟨ho1, he1⟩
  rw [List.nil_append, List.length_nil, Nat.zero_add] at ho1
  obtain ⟨oa, oc, rfl⟩ := own_form ho1
  have hr1 := he1.bl hr.lt hr
  have hE1 := hE.next he1
  refine L.rd (rd_assign rfl) rfl ?_
  refine L.nil ?_
  refine X.sq ?_
  refine V.seq ?_
  refine V.region ?_
  refine L.rd (rd_move rfl) rfl ?_
  refine L.rd (rd_move rfl) rfl ?_
  refine L.rd (rd_lenSlice tok rfl rfl rfl) rfl ?_
  (refine L.rd (rd_sub3 rfl rfl ?_) rfl ?_; omega)
  refine L.rd (rd_build (out := [_, _]) tok rfl rfl rfl rfl rfl) rfl ?_
  refine L.ef (e_store (vs := [_, _]) tok rfl rfl rfl rfl hr1 rfl (by simp [Value.oneCell']) (by simp) ?_)
  refine L.nil ?_
  refine X.sq ?_
  refine V.ret ?_
  refine ret_c tok Yaam.results63 rfl rfl rfl (Bl.cells (hr1.set _ _)) rfl ?_
  refine ⟨_, rfl, ?_, hE1.set (by omega) _ _⟩
  rw [flat_len]
  refine own_low (own_same ho1 fun k hk => ?_) (by omega)
  have := (own_block_lt ho1 hk).1
  exact (Rg.set (w := w1) (lo := w.heap.size) (hi := w.heap.size + 1) (by omega) 28 _).block k (own_block_lt ho1 hk).2 (by omega)
end Go.Proofs.Ybxaaw
