/-
  spec.dsizes, spec.dnode, spec.Diff, walked.
-/
import Derived.Test.YbxaawGreatDfP
import Derived.Test.YbxaawGreatCnW2
set_option linter.unusedVariables false
set_option linter.unusedSimpArgs false
set_option maxRecDepth 10000
set_option maxHeartbeats 4000000
namespace Go.Proofs.YbxaawGreat
open Go.Mw

theorem dsizes_ok : ∀ (t : Tre) (p : Value) (w : World), Wt t → tsz t ≤ 500000 → Tm 119 w 0 t p → Ret Yaam.prog 101 [p] w fun r w' => r = .tuple #[.int .i64 (tsz t : Nat), .int .i64 (ds t : Nat)] ∧ w = w' := by
  refine Tre.ind (fun k v x c p w hw hz h => ?_) (fun k v x c ih p w hw hz h => ?_) (fun k v x n c ih1 ih2 p w hw hz h => ?_)
  · obtain ⟨b, rfl, -, hb⟩ := h
    have hA : (k = 1 ∧ x = 0) ∨ (k = 2 ∧ v = 0 ∧ 0 ≤ x ∧ x ≤ 25) := hw
    refine enter1 Yaam.func101 Yaam.ntmps101 (by kernel_rfl) rfl rfl ?_
    refine V.seq ?_
    refine V.region ?_
    refine L.rd (rd_assign rfl) rfl ?_
    refine L.rd (rd_assign rfl) rfl ?_
    refine L.nil ?_
    refine X.sq ?_
    refine V.seq ?_
    refine V.seq ?_
    refine V.region ?_
    refine L.rd (rd_move rfl) rfl ?_
    refine L.rd (rd_nilCheck rfl) rfl ?_
    refine L.rd (rd_fieldAddr tok rfl rfl rfl rfl rfl rfl) rfl ?_
    refine L.rd (rd_load1 tok rfl rfl rfl (hb.cell rfl)) rfl ?_
    refine L.nil ?_
    refine X.sq ?_
    refine V.block ?_
    refine V.seq ?_
    refine V.seq ?_
    refine V.region ?_
    refine L.rd (rd_eql rfl rfl) rfl ?_
    refine L.rd (rd_assign rfl) rfl ?_
    refine L.nil ?_
    refine X.sq ?_
    first | refine V.cond rfl (fun h16 => ?_) (fun h16 => ?_) | refine V.condB rfl (fun h16 => ?_) (fun h16 => ?_)
    ·
      refine V.skip ?_
      refine X.sq ?_
      first | refine V.cond rfl (fun h16_ => ?_) (fun h16_ => ?_) | refine V.condB rfl (fun h16_ => ?_) (fun h16_ => ?_)
      ·
        refine V.seq ?_
        refine V.region ?_
        refine L.rd (rd_assign rfl) rfl ?_
        refine L.rd (rd_assign rfl) rfl ?_
        refine L.nil ?_
        refine X.sq ?_
        refine V.ret ?_
        refine X.bkRet ?_
        refine X.sqRet ?_
        refine ret_2 Yaam.results101 rfl rfl ?_
        exact ⟨rfl, rfl⟩
      ·
        exact absurd h16 h16_
    ·
      refine V.region ?_
      refine L.rd (rd_eql rfl rfl) rfl ?_
      refine L.rd (rd_assign rfl) rfl ?_
      refine L.nil ?_
      refine X.sq ?_
      first | refine V.cond rfl (fun h16 => ?_) (fun h16 => ?_) | refine V.condB rfl (fun h16 => ?_) (fun h16 => ?_)
      ·
        refine V.seq ?_
        refine V.region ?_
        refine L.rd (rd_assign rfl) rfl ?_
        refine L.rd (rd_assign rfl) rfl ?_
        refine L.nil ?_
        refine X.sq ?_
        refine V.ret ?_
        refine X.bkRet ?_
        refine X.sqRet ?_
        refine ret_2 Yaam.results101 rfl rfl ?_
        exact ⟨rfl, rfl⟩
      ·
        refine V.seq ?_
        exfalso
        omega
  · obtain ⟨b, q, rfl, -, hb, ht⟩ := h
    obtain ⟨b1, q1, q2, rfl, -⟩ := ht.node
    obtain ⟨hx0, hA, hw1⟩ := hw
    have hkk : k = 3 ∨ k = 7 := by rcases hA with h | h; exact .inl h.1; exact .inr h.1
    rw [tsz] at hz
    have hd := ds_small (t := c 0) (by omega)
    have ih' := fun p w => ih p w hw1 (by omega)
    rw [tsz, ds]
    refine enter1 Yaam.func101 Yaam.ntmps101 (by kernel_rfl) rfl rfl ?_
    refine V.seq ?_
    refine V.region ?_
    refine L.rd (rd_assign rfl) rfl ?_
    refine L.rd (rd_assign rfl) rfl ?_
    refine L.nil ?_
    refine X.sq ?_
    refine V.seq ?_
    refine V.seq ?_
    refine V.region ?_
    refine L.rd (rd_move rfl) rfl ?_
    refine L.rd (rd_nilCheck rfl) rfl ?_
    refine L.rd (rd_fieldAddr tok rfl rfl rfl rfl rfl rfl) rfl ?_
    refine L.rd (rd_load1 tok rfl rfl rfl (hb.cell rfl)) rfl ?_
    refine L.nil ?_
    refine X.sq ?_
    refine V.block ?_
    refine V.seq ?_
    refine V.seq ?_
    refine V.region ?_
    refine L.rd (rd_eql rfl rfl) rfl ?_
    refine L.rd (rd_assign rfl) rfl ?_
    refine L.nil ?_
    refine X.sq ?_
    first | refine V.cond rfl (fun h16 => ?_) (fun h16 => ?_) | refine V.condB rfl (fun h16 => ?_) (fun h16 => ?_)
    ·
      refine V.skip ?_
      refine X.sq ?_
      first | refine V.cond rfl (fun h16_ => ?_) (fun h16_ => ?_) | refine V.condB rfl (fun h16_ => ?_) (fun h16_ => ?_)
      ·
        refine V.seq ?_
        exfalso
        omega
      ·
        exact absurd h16 h16_
    ·
      refine V.region ?_
      refine L.rd (rd_eql rfl rfl) rfl ?_
      refine L.rd (rd_assign rfl) rfl ?_
      refine L.nil ?_
      refine X.sq ?_
      first | refine V.cond rfl (fun h16 => ?_) (fun h16 => ?_) | refine V.condB rfl (fun h16 => ?_) (fun h16 => ?_)
      ·
        refine V.seq ?_
        exfalso
        omega
      ·
        refine V.seq ?_
        refine V.region ?_
        refine L.rd (rd_eql rfl rfl) rfl ?_
        refine L.rd (rd_assign rfl) rfl ?_
        refine L.nil ?_
        refine X.sq ?_
        first | refine V.cond rfl (fun h19 => ?_) (fun h19 => ?_) | refine V.condB rfl (fun h19 => ?_) (fun h19 => ?_)
        ·
          refine V.seq ?_
          refine V.region ?_
          refine L.rd (rd_move rfl) rfl ?_
          refine L.rd (rd_nilCheck rfl) rfl ?_
          refine L.rd (rd_fieldAddr tok rfl rfl rfl rfl rfl rfl) rfl ?_
          refine L.rd (rd_load1 tok rfl rfl rfl (hb.cell (i := 3) rfl)) rfl ?_
          refine L.ef (e_call rfl (ih' _ _ ht) rfl ?_)
          rintro _ _ ⟨rfl, rfl⟩
          refine L.rd (rd_move rfl) rfl ?_
          refine L.rd (rd_ext0 rfl) rfl ?_
          refine L.rd (rd_ext1 rfl) rfl ?_
          refine L.rd (rd_assign rfl) rfl ?_
          refine L.rd (rd_assign rfl) rfl ?_
          refine L.nil ?_
          refine X.sq ?_
          refine V.seq ?_
          refine V.region ?_
          refine L.rd (rd_move rfl) rfl ?_
          (refine L.rd (rd_add3 rfl rfl ?_) rfl ?_; omega)
          refine L.rd (rd_move rfl) rfl ?_
          (refine L.rd (rd_add3 rfl rfl ?_) rfl ?_; omega)
          refine L.rd (rd_assign rfl) rfl ?_
          refine L.rd (rd_assign rfl) rfl ?_
          refine L.nil ?_
          refine X.sq ?_
          refine V.ret ?_
          refine X.bkRet ?_
          refine X.sqRet ?_
          refine ret_2 Yaam.results101 rfl rfl ?_
          exact ⟨tup2 (by omega) (by rw [if_pos (by omega)]; omega), rfl⟩
        ·
          refine V.seq ?_
          refine V.region ?_
          refine L.rd (rd_eql rfl rfl) rfl ?_
          refine L.rd (rd_assign rfl) rfl ?_
          refine L.nil ?_
          refine X.sq ?_
          first | refine V.cond rfl (fun h33 => ?_) (fun h33 => ?_) | refine V.condB rfl (fun h33 => ?_) (fun h33 => ?_)
          ·
            refine V.seq ?_
            refine V.region ?_
            refine L.rd (rd_move rfl) rfl ?_
            refine L.rd (rd_nilCheck rfl) rfl ?_
            refine L.rd (rd_fieldAddr tok rfl rfl rfl rfl rfl rfl) rfl ?_
            refine L.rd (rd_load1 tok rfl rfl rfl (hb.cell (i := 3) rfl)) rfl ?_
            refine L.ef (e_call rfl (ih' _ _ ht) rfl ?_)
            rintro _ _ ⟨rfl, rfl⟩
            refine L.rd (rd_move rfl) rfl ?_
            refine L.rd (rd_ext0 rfl) rfl ?_
            refine L.rd (rd_ext1 rfl) rfl ?_
            refine L.rd (rd_assign rfl) rfl ?_
            refine L.rd (rd_assign rfl) rfl ?_
            refine L.nil ?_
            refine X.sq ?_
            refine V.seq ?_
            refine V.seq ?_
            refine V.region ?_
            refine L.rd (rd_move rfl) rfl ?_
            refine L.rd (rd_nilCheck rfl) rfl ?_
            refine L.rd (rd_fieldAddr tok rfl rfl rfl rfl rfl rfl) rfl ?_
            refine L.rd (rd_load1 tok rfl rfl rfl (hb.cell (i := 1) rfl)) rfl ?_
            refine L.rd (rd_eql rfl rfl) rfl ?_
            refine L.nil ?_
            refine X.sq ?_
            first | refine V.cond rfl (fun h47 => ?_) (fun h47 => ?_) | refine V.condB rfl (fun h47 => ?_) (fun h47 => ?_)
            ·
              refine V.seq ?_
              refine V.region ?_
              refine L.rd (rd_move rfl) rfl ?_
              (refine L.rd (rd_add3 rfl rfl ?_) rfl ?_; omega)
              refine L.rd (rd_assign rfl) rfl ?_
              refine L.rd (rd_assign rfl) rfl ?_
              refine L.nil ?_
              refine X.sq ?_
              refine V.ret ?_
              refine X.sqRet ?_
              refine X.bkRet ?_
              refine X.sqRet ?_
              refine ret_2 Yaam.results101 rfl rfl ?_
              exact ⟨tup2 (by omega) (by rw [if_neg (by omega), if_pos h47]; rfl), rfl⟩
            ·
              refine V.skip ?_
              refine X.sq ?_
              refine V.seq ?_
              refine V.region ?_
              refine L.rd (rd_move rfl) rfl ?_
              (refine L.rd (rd_add3 rfl rfl ?_) rfl ?_; omega)
              refine L.rd (rd_move rfl) rfl ?_
              (refine L.rd (rd_add3 rfl rfl ?_) rfl ?_; omega)
              refine L.rd (rd_move rfl) rfl ?_
              (refine L.rd (rd_add3 rfl rfl ?_) rfl ?_; omega)
              refine L.rd (rd_assign rfl) rfl ?_
              refine L.rd (rd_assign rfl) rfl ?_
              refine L.nil ?_
              refine X.sq ?_
              refine V.ret ?_
              refine X.bkRet ?_
              refine X.sqRet ?_
              refine ret_2 Yaam.results101 rfl rfl ?_
              exact ⟨tup2 (by omega) (by rw [if_neg (by omega), if_neg h47]; omega), rfl⟩
          ·
            refine V.skip ?_
            refine X.bk ?_
            refine X.sq ?_
            refine V.seq ?_
            exfalso
            omega
  · obtain ⟨b, q, q2, rfl, -, hb, ht, ht2⟩ := h
    obtain ⟨b1, q1, q1', rfl, -⟩ := ht.node
    obtain ⟨b2, q2, q2', rfl, -⟩ := ht2.node
    obtain ⟨rfl, hv0, hx0, hkk, hw1, hw2⟩ := hw
    rw [tsz] at hz
    have hd := ds_small (t := c 0) (by omega)
    have hd2 := ds_small (t := c 1) (by omega)
    have ih1' := fun p w => ih1 p w hw1 (by omega)
    have ih2' := fun p w => ih2 p w hw2 (by omega)
    rw [tsz, ds]
    refine enter1 Yaam.func101 Yaam.ntmps101 (by kernel_rfl) rfl rfl ?_
    refine V.seq ?_
    refine V.region ?_
    refine L.rd (rd_assign rfl) rfl ?_
    refine L.rd (rd_assign rfl) rfl ?_
    refine L.nil ?_
    refine X.sq ?_
    refine V.seq ?_
    refine V.seq ?_
    refine V.region ?_
    refine L.rd (rd_move rfl) rfl ?_
    refine L.rd (rd_nilCheck rfl) rfl ?_
    refine L.rd (rd_fieldAddr tok rfl rfl rfl rfl rfl rfl) rfl ?_
    refine L.rd (rd_load1 tok rfl rfl rfl (hb.cell rfl)) rfl ?_
    refine L.nil ?_
    refine X.sq ?_
    refine V.block ?_
    refine V.seq ?_
    refine V.seq ?_
    refine V.region ?_
    refine L.rd (rd_eql rfl rfl) rfl ?_
    refine L.rd (rd_assign rfl) rfl ?_
    refine L.nil ?_
    refine X.sq ?_
    first | refine V.cond rfl (fun h16 => ?_) (fun h16 => ?_) | refine V.condB rfl (fun h16 => ?_) (fun h16 => ?_)
    ·
      refine V.skip ?_
      refine X.sq ?_
      first | refine V.cond rfl (fun h16_ => ?_) (fun h16_ => ?_) | refine V.condB rfl (fun h16_ => ?_) (fun h16_ => ?_)
      ·
        refine V.seq ?_
        exfalso
        omega
      ·
        exact absurd h16 h16_
    ·
      refine V.region ?_
      refine L.rd (rd_eql rfl rfl) rfl ?_
      refine L.rd (rd_assign rfl) rfl ?_
      refine L.nil ?_
      refine X.sq ?_
      first | refine V.cond rfl (fun h16 => ?_) (fun h16 => ?_) | refine V.condB rfl (fun h16 => ?_) (fun h16 => ?_)
      ·
        refine V.seq ?_
        exfalso
        omega
      ·
        refine V.seq ?_
        refine V.region ?_
        refine L.rd (rd_eql rfl rfl) rfl ?_
        refine L.rd (rd_assign rfl) rfl ?_
        refine L.nil ?_
        refine X.sq ?_
        first | refine V.cond rfl (fun h19 => ?_) (fun h19 => ?_) | refine V.condB rfl (fun h19 => ?_) (fun h19 => ?_)
        ·
          refine V.seq ?_
          exfalso
          omega
        ·
          refine V.seq ?_
          refine V.region ?_
          refine L.rd (rd_eql rfl rfl) rfl ?_
          refine L.rd (rd_assign rfl) rfl ?_
          refine L.nil ?_
          refine X.sq ?_
          first | refine V.cond rfl (fun h33 => ?_) (fun h33 => ?_) | refine V.condB rfl (fun h33 => ?_) (fun h33 => ?_)
          ·
            refine V.seq ?_
            exfalso
            omega
          ·
            refine V.skip ?_
            refine X.bk ?_
            refine X.sq ?_
            refine V.seq ?_
            refine V.region ?_
            refine L.rd (rd_move rfl) rfl ?_
            refine L.rd (rd_nilCheck rfl) rfl ?_
            refine L.rd (rd_fieldAddr tok rfl rfl rfl rfl rfl rfl) rfl ?_
            refine L.rd (rd_load1 tok rfl rfl rfl (hb.cell (i := 3) rfl)) rfl ?_
            refine L.ef (e_call rfl (ih1' _ _ ht) rfl ?_)
            rintro _ _ ⟨rfl, rfl⟩
            refine L.rd (rd_move rfl) rfl ?_
            refine L.rd (rd_ext0 rfl) rfl ?_
            refine L.rd (rd_ext1 rfl) rfl ?_
            refine L.rd (rd_assign rfl) rfl ?_
            refine L.rd (rd_assign rfl) rfl ?_
            refine L.nil ?_
            refine X.sq ?_
            refine V.seq ?_
            refine V.region ?_
            refine L.rd (rd_move rfl) rfl ?_
            refine L.rd (rd_nilCheck rfl) rfl ?_
            refine L.rd (rd_fieldAddr tok rfl rfl rfl rfl rfl rfl) rfl ?_
            refine L.rd (rd_load1 tok rfl rfl rfl (hb.cell (i := 4) rfl)) rfl ?_
            refine L.ef (e_call rfl (ih2' _ _ ht2) rfl ?_)
            rintro _ _ ⟨rfl, rfl⟩
            refine L.rd (rd_move rfl) rfl ?_
            refine L.rd (rd_ext0 rfl) rfl ?_
            refine L.rd (rd_ext1 rfl) rfl ?_
            refine L.rd (rd_assign rfl) rfl ?_
            refine L.rd (rd_assign rfl) rfl ?_
            refine L.nil ?_
            refine X.sq ?_
            refine V.seq ?_
            refine V.seq ?_
            refine V.region ?_
            refine L.rd (rd_move rfl) rfl ?_
            refine L.rd (rd_nilCheck rfl) rfl ?_
            refine L.rd (rd_fieldAddr tok rfl rfl rfl rfl rfl rfl) rfl ?_
            refine L.rd (rd_load1 tok rfl rfl rfl (hb.cell rfl)) rfl ?_
            refine L.rd (rd_eql rfl rfl) rfl ?_
            refine L.nil ?_
            refine X.sq ?_
            first | refine V.cond rfl (fun h76 => ?_) (fun h76 => ?_) | refine V.condB rfl (fun h76 => ?_) (fun h76 => ?_)
            ·
              refine V.seq ?_
              refine V.region ?_
              refine L.rd (rd_move rfl) rfl ?_
              (refine L.rd (rd_add3 rfl rfl ?_) rfl ?_; omega)
              refine L.rd (rd_move rfl) rfl ?_
              (refine L.rd (rd_add3 rfl rfl ?_) rfl ?_; omega)
              refine L.rd (rd_move rfl) rfl ?_
              (refine L.rd (rd_add3 rfl rfl ?_) rfl ?_; omega)
              refine L.rd (rd_move rfl) rfl ?_
              (refine L.rd (rd_add3 rfl rfl ?_) rfl ?_; omega)
              refine L.rd (rd_move rfl) rfl ?_
              (refine L.rd (rd_add3 rfl rfl ?_) rfl ?_; omega)
              refine L.rd (rd_move rfl) rfl ?_
              (refine L.rd (rd_add3 rfl rfl ?_) rfl ?_; omega)
              refine L.rd (rd_assign rfl) rfl ?_
              refine L.rd (rd_assign rfl) rfl ?_
              refine L.nil ?_
              refine X.sq ?_
              refine V.ret ?_
              refine X.sqRet ?_
              refine ret_2 Yaam.results101 rfl rfl ?_
              exact ⟨tup2 (by omega) (by rw [if_pos h76]; omega), rfl⟩
            ·
              refine V.skip ?_
              refine X.sq ?_
              refine V.seq ?_
              refine V.region ?_
              refine L.rd (rd_move rfl) rfl ?_
              (refine L.rd (rd_add3 rfl rfl ?_) rfl ?_; omega)
              refine L.rd (rd_move rfl) rfl ?_
              (refine L.rd (rd_add3 rfl rfl ?_) rfl ?_; omega)
              refine L.rd (rd_move rfl) rfl ?_
              (refine L.rd (rd_add3 rfl rfl ?_) rfl ?_; omega)
              refine L.rd (rd_move rfl) rfl ?_
              (refine L.rd (rd_add3 rfl rfl ?_) rfl ?_; omega)
              refine L.rd (rd_assign rfl) rfl ?_
              refine L.rd (rd_assign rfl) rfl ?_
              refine L.nil ?_
              refine X.sq ?_
              refine V.ret ?_
              refine ret_2 Yaam.results101 rfl rfl ?_
              exact ⟨tup2 (by omega) (by rw [if_neg h76]; omega), rfl⟩

theorem dnode_ok (y : Int) : ∀ (t : Tre) (p : Value) (w : World), Wt t → Tm 119 w 0 t p → Ret Yaam.prog 102 [p, .int .i64 y] w (CPo 0 (dT y t) w) := by
  refine Tre.ind (fun k v x c p w hw h => ?_) (fun k v x c ih p w hw h => ?_) (fun k v x n c ih1 ih2 p w hw h => ?_)
  · obtain ⟨b, rfl, -, hb⟩ := h
    have hA : (k = 1 ∧ x = 0) ∨ (k = 2 ∧ v = 0 ∧ 0 ≤ x ∧ x ≤ 25) := hw
    rw [dT]
    refine enter2 Yaam.func102 Yaam.ntmps102 (by kernel_rfl) rfl rfl ?_
    refine V.seq ?_
    refine V.region ?_
    refine L.rd (rd_assign rfl) rfl ?_
    refine L.nil ?_
    refine X.sq ?_
    refine V.seq ?_
    refine V.seq ?_
    refine V.region ?_
    refine L.rd (rd_move rfl) rfl ?_
    refine L.rd (rd_nilCheck rfl) rfl ?_
    refine L.rd (rd_fieldAddr tok rfl rfl rfl rfl rfl rfl) rfl ?_
    refine L.rd (rd_load1 tok rfl rfl rfl (hb.cell rfl)) rfl ?_
    refine L.nil ?_
    refine X.sq ?_
    refine V.block ?_
    refine V.seq ?_
    refine V.region ?_
    refine L.rd (rd_eql rfl rfl) rfl ?_
    refine L.rd (rd_assign rfl) rfl ?_
    refine L.nil ?_
    refine X.sq ?_
    first | refine V.cond rfl (fun h19 => ?_) (fun h19 => ?_) | refine V.condB rfl (fun h19 => ?_) (fun h19 => ?_)
    ·
      refine V.seq ?_
      refine V.seq ?_
      refine V.region ?_
      refine L.rd (rd_move rfl) rfl ?_
      refine L.rd (rd_nilCheck rfl) rfl ?_
      refine L.rd (rd_fieldAddr tok rfl rfl rfl rfl rfl rfl) rfl ?_
      refine L.rd (rd_load1 tok rfl rfl rfl (hb.cell (i := 2) rfl)) rfl ?_
      refine L.rd (rd_move rfl) rfl ?_
      refine L.rd (rd_eql rfl rfl) rfl ?_
      refine L.nil ?_
      refine X.sq ?_
      first | refine V.cond rfl (fun h26 => ?_) (fun h26 => ?_) | refine V.condB rfl (fun h26 => ?_) (fun h26 => ?_)
      ·
        refine V.seq ?_
        refine V.region ?_
        refine L.ef (e_call rfl (snum_ok 1 _) rfl ?_)
        rintro _ w4 ⟨rfl, hb4, he4⟩
        refine L.rd (rd_assign rfl) rfl ?_
        refine L.nil ?_
        refine X.sq ?_
        refine V.ret ?_
        refine X.sqRet ?_
        refine X.bkRet ?_
        refine X.sqRet ?_
        refine ret_1 Yaam.results102 rfl ?_
        rw [if_pos h19, if_pos h26]
        exact ⟨_, rfl, Tm.leaf hb4 (Nat.zero_le _), he4⟩
      ·
        refine V.skip ?_
        refine X.sq ?_
        refine V.seq ?_
        refine V.region ?_
        refine L.ef (e_call rfl (snum_ok 0 _) rfl ?_)
        rintro _ w4 ⟨rfl, hb4, he4⟩
        refine L.rd (rd_assign rfl) rfl ?_
        refine L.nil ?_
        refine X.sq ?_
        refine V.ret ?_
        refine X.bkRet ?_
        refine X.sqRet ?_
        refine ret_1 Yaam.results102 rfl ?_
        rw [if_pos h19, if_neg h26]
        exact ⟨_, rfl, Tm.leaf hb4 (Nat.zero_le _), he4⟩
    ·
      refine V.seq ?_
      refine V.region ?_
      refine L.rd (rd_eql rfl rfl) rfl ?_
      refine L.rd (rd_assign rfl) rfl ?_
      refine L.nil ?_
      refine X.sq ?_
      first | refine V.cond rfl (fun h29 => ?_) (fun h29 => ?_) | refine V.condB rfl (fun h29 => ?_) (fun h29 => ?_)
      ·
        refine V.seq ?_
        exfalso
        omega
      ·
        refine V.seq ?_
        refine V.seq ?_
        refine V.region ?_
        refine L.rd (rd_eql rfl rfl) rfl ?_
        refine L.rd (rd_assign rfl) rfl ?_
        refine L.nil ?_
        refine X.sq ?_
        first | refine V.cond rfl (fun h40 => ?_) (fun h40 => ?_) | refine V.condB rfl (fun h40 => ?_) (fun h40 => ?_)
        ·
          refine V.skip ?_
          refine X.sq ?_
          first | refine V.cond rfl (fun h40_ => ?_) (fun h40_ => ?_) | refine V.condB rfl (fun h40_ => ?_) (fun h40_ => ?_)
          ·
            refine V.seq ?_
            exfalso
            omega
          ·
            exact absurd h40 h40_
        ·
          refine V.region ?_
          refine L.rd (rd_eql rfl rfl) rfl ?_
          refine L.rd (rd_assign rfl) rfl ?_
          refine L.nil ?_
          refine X.sq ?_
          first | refine V.cond rfl (fun h40 => ?_) (fun h40 => ?_) | refine V.condB rfl (fun h40 => ?_) (fun h40 => ?_)
          ·
            refine V.seq ?_
            exfalso
            omega
          ·
            refine V.seq ?_
            refine V.region ?_
            refine L.rd (rd_eql rfl rfl) rfl ?_
            refine L.rd (rd_assign rfl) rfl ?_
            refine L.nil ?_
            refine X.sq ?_
            first | refine V.cond rfl (fun h63 => ?_) (fun h63 => ?_) | refine V.condB rfl (fun h63 => ?_) (fun h63 => ?_)
            ·
              refine V.seq ?_
              exfalso
              omega
            ·
              refine V.seq ?_
              refine V.region ?_
              refine L.rd (rd_eql rfl rfl) rfl ?_
              refine L.rd (rd_assign rfl) rfl ?_
              refine L.nil ?_
              refine X.sq ?_
              first | refine V.cond rfl (fun h95 => ?_) (fun h95 => ?_) | refine V.condB rfl (fun h95 => ?_) (fun h95 => ?_)
              ·
                refine V.seq ?_
                refine V.seq ?_
                exfalso
                omega
              ·
                refine V.skip ?_
                refine X.bk ?_
                refine X.sq ?_
                refine V.seq ?_
                refine V.region ?_
                refine L.ef (e_call rfl (snum_ok 0 _) rfl ?_)
                rintro _ w4 ⟨rfl, hb4, he4⟩
                refine L.rd (rd_assign rfl) rfl ?_
                refine L.nil ?_
                refine X.sq ?_
                refine V.ret ?_
                refine ret_1 Yaam.results102 rfl ?_
                rw [if_neg h19]
                exact ⟨_, rfl, Tm.leaf hb4 (Nat.zero_le _), he4⟩
  · obtain ⟨b, q, rfl, -, hb, ht⟩ := h
    obtain ⟨b1, q1, q2, rfl, -⟩ := id ht.node
    obtain ⟨hx0, hA, hw1⟩ := hw
    have hkk : k = 3 ∨ k = 7 := by rcases hA with h | h; exact .inl h.1; exact .inr h.1
    rw [dT]
    refine enter2 Yaam.func102 Yaam.ntmps102 (by kernel_rfl) rfl rfl ?_
    refine V.seq ?_
    refine V.region ?_
    refine L.rd (rd_assign rfl) rfl ?_
    refine L.nil ?_
    refine X.sq ?_
    refine V.seq ?_
    refine V.seq ?_
    refine V.region ?_
    refine L.rd (rd_move rfl) rfl ?_
    refine L.rd (rd_nilCheck rfl) rfl ?_
    refine L.rd (rd_fieldAddr tok rfl rfl rfl rfl rfl rfl) rfl ?_
    refine L.rd (rd_load1 tok rfl rfl rfl (hb.cell rfl)) rfl ?_
    refine L.nil ?_
    refine X.sq ?_
    refine V.block ?_
    refine V.seq ?_
    refine V.region ?_
    refine L.rd (rd_eql rfl rfl) rfl ?_
    refine L.rd (rd_assign rfl) rfl ?_
    refine L.nil ?_
    refine X.sq ?_
    first | refine V.cond rfl (fun h19 => ?_) (fun h19 => ?_) | refine V.condB rfl (fun h19 => ?_) (fun h19 => ?_)
    ·
      refine V.seq ?_
      refine V.seq ?_
      exfalso
      omega
    ·
      refine V.seq ?_
      refine V.region ?_
      refine L.rd (rd_eql rfl rfl) rfl ?_
      refine L.rd (rd_assign rfl) rfl ?_
      refine L.nil ?_
      refine X.sq ?_
      first | refine V.cond rfl (fun h29 => ?_) (fun h29 => ?_) | refine V.condB rfl (fun h29 => ?_) (fun h29 => ?_)
      ·
        refine V.seq ?_
        refine V.region ?_
        refine L.rd (rd_move rfl) rfl ?_
        refine L.rd (rd_nilCheck rfl) rfl ?_
        refine L.rd (rd_fieldAddr tok rfl rfl rfl rfl rfl rfl) rfl ?_
        refine L.rd (rd_load1 tok rfl rfl rfl (hb.cell (i := 3) rfl)) rfl ?_
        refine L.rd (rd_move rfl) rfl ?_
        refine L.ef (e_call rfl (ih _ _ hw1 ht) rfl ?_)
        rintro _ w4 ⟨a4, rfl, ht4, he4⟩
        refine L.rd (rd_assign rfl) rfl ?_
        refine L.nil ?_
        refine X.sq ?_
        refine V.seq ?_
        refine V.region ?_
        refine L.rd (rd_move rfl) rfl ?_
        refine L.rd (rd_build (out := [_, _, _, _, _]) tok rfl rfl rfl rfl rfl) rfl ?_
        refine L.ef (e_box (cs := [_, _, _, _, _]) rfl rfl (by first | (simp only [size_addB, size_setB, size_drew]; rfl) | rfl) rfl ?_)
        refine L.rd (rd_assign rfl) rfl ?_
        refine L.nil ?_
        refine X.sq ?_
        refine V.ret ?_
        refine X.bkRet ?_
        refine X.sqRet ?_
        refine ret_1 Yaam.results102 rfl ?_
        rw [if_pos h29]
        have he5 := (Ext.refl _ w4).addNew 119 [.int .i64 3, .int .i64 0, .int .i64 0, .pointer a4, .pointer none]
        exact ⟨_, rfl, Tm.un (Bl.new _ _ _) (Nat.zero_le _) (ht4.ext he5), he4.next he5⟩
      ·
        refine V.seq ?_
        refine V.seq ?_
        refine V.region ?_
        refine L.rd (rd_eql rfl rfl) rfl ?_
        refine L.rd (rd_assign rfl) rfl ?_
        refine L.nil ?_
        refine X.sq ?_
        first | refine V.cond rfl (fun h40 => ?_) (fun h40 => ?_) | refine V.condB rfl (fun h40 => ?_) (fun h40 => ?_)
        ·
          refine V.skip ?_
          refine X.sq ?_
          first | refine V.cond rfl (fun h40_ => ?_) (fun h40_ => ?_) | refine V.condB rfl (fun h40_ => ?_) (fun h40_ => ?_)
          ·
            refine V.seq ?_
            exfalso
            omega
          ·
            exact absurd h40 h40_
        ·
          refine V.region ?_
          refine L.rd (rd_eql rfl rfl) rfl ?_
          refine L.rd (rd_assign rfl) rfl ?_
          refine L.nil ?_
          refine X.sq ?_
          first | refine V.cond rfl (fun h40 => ?_) (fun h40 => ?_) | refine V.condB rfl (fun h40 => ?_) (fun h40 => ?_)
          ·
            refine V.seq ?_
            exfalso
            omega
          ·
            refine V.seq ?_
            refine V.region ?_
            refine L.rd (rd_eql rfl rfl) rfl ?_
            refine L.rd (rd_assign rfl) rfl ?_
            refine L.nil ?_
            refine X.sq ?_
            first | refine V.cond rfl (fun h63 => ?_) (fun h63 => ?_) | refine V.condB rfl (fun h63 => ?_) (fun h63 => ?_)
            ·
              refine V.seq ?_
              exfalso
              omega
            ·
              refine V.seq ?_
              refine V.region ?_
              refine L.rd (rd_eql rfl rfl) rfl ?_
              refine L.rd (rd_assign rfl) rfl ?_
              refine L.nil ?_
              refine X.sq ?_
              first | refine V.cond rfl (fun h95 => ?_) (fun h95 => ?_) | refine V.condB rfl (fun h95 => ?_) (fun h95 => ?_)
              ·
                refine V.seq ?_
                refine V.seq ?_
                refine V.region ?_
                refine L.rd (rd_move rfl) rfl ?_
                refine L.rd (rd_nilCheck rfl) rfl ?_
                refine L.rd (rd_fieldAddr tok rfl rfl rfl rfl rfl rfl) rfl ?_
                refine L.rd (rd_load1 tok rfl rfl rfl (hb.cell (i := 1) rfl)) rfl ?_
                refine L.rd (rd_eql rfl rfl) rfl ?_
                refine L.nil ?_
                refine X.sq ?_
                first | refine V.cond rfl (fun h101 => ?_) (fun h101 => ?_) | refine V.condB rfl (fun h101 => ?_) (fun h101 => ?_)
                ·
                  refine V.seq ?_
                  refine V.region ?_
                  refine L.ef (e_call rfl (snum_ok 0 _) rfl ?_)
                  rintro _ w4 ⟨rfl, hb4, he4⟩
                  refine L.rd (rd_assign rfl) rfl ?_
                  refine L.nil ?_
                  refine X.sq ?_
                  refine V.ret ?_
                  refine X.sqRet ?_
                  refine X.bkRet ?_
                  refine X.sqRet ?_
                  refine ret_1 Yaam.results102 rfl ?_
                  rw [if_neg h29, if_pos h101]
                  exact ⟨_, rfl, Tm.leaf hb4 (Nat.zero_le _), he4⟩
                ·
                  refine V.skip ?_
                  refine X.sq ?_
                  refine V.seq ?_
                  refine V.region ?_
                  refine L.rd (rd_move rfl) rfl ?_
                  refine L.rd (rd_nilCheck rfl) rfl ?_
                  refine L.rd (rd_fieldAddr tok rfl rfl rfl rfl rfl rfl) rfl ?_
                  refine L.rd (rd_load1 tok rfl rfl rfl (hb.cell (i := 3) rfl)) rfl ?_
                  refine L.rd (rd_move rfl) rfl ?_
                  refine L.ef (e_call rfl (ih _ _ hw1 ht) rfl ?_)
                  rintro _ w4 ⟨a4, rfl, ht4, he4⟩
                  have hb4 := he4.bl hb.lt hb
                  have ht4' := ht.ext he4
                  refine L.rd (rd_assign rfl) rfl ?_
                  refine L.nil ?_
                  refine X.sq ?_
                  refine V.seq ?_
                  refine V.draw [] mixed ?_
                  refine D.take 0 [true, false, false, false, false, false, false, false, false, false, false, false] (.sq (.bk (.sq .bd))) rfl (rd_move rfl) rfl (by kernel_rfl) rfl (LeC.drew _) ?_
                  refine D.take 1 [true, true, false, false, false, false, false, false, false, false, false, false] (.sq (.bk (.sq .bd))) rfl (rd_nilCheck rfl) rfl (by kernel_rfl) rfl (LeC.drew _) ?_
                  refine D.take 2 [true, true, true, false, false, false, false, false, false, false, false, false] (.sq (.bk (.sq .bd))) rfl (rd_fieldAddr tok rfl rfl rfl rfl rfl rfl) rfl (by kernel_rfl) rfl (LeC.drew _) ?_
                  refine D.take 3 [true, true, true, true, false, false, false, false, false, false, false, false] (.sq (.bk (.sq .bd))) rfl (rd_load1 tok rfl rfl rfl (hb4.cell (i := 1) rfl)) rfl (by kernel_rfl) rfl (LeC.drew _) ?_
                  refine D.take 4 [true, true, true, true, true, false, false, false, false, false, false, false] (.sq (.bk (.sq .bd))) rfl (rd_subE (r := v - 1) rfl rfl (wrap_i64_in (by omega))) rfl (by kernel_rfl) rfl (LeC.drew _) ?_
                  refine D.take 5 [true, true, true, true, true, true, false, false, false, false, false, false] (.sq (.bk (.sq .bd))) rfl (rd_move rfl) rfl (by kernel_rfl) rfl (LeC.drew _) ?_
                  refine D.take 6 [true, true, true, true, true, true, true, false, false, false, false, false] (.sq (.bk (.sq .bd))) rfl (rd_nilCheck rfl) rfl (by kernel_rfl) rfl (LeC.drew _) ?_
                  refine D.take 7 [true, true, true, true, true, true, true, true, false, false, false, false] (.sq (.bk (.sq .bd))) rfl (rd_fieldAddr tok rfl rfl rfl rfl rfl rfl) rfl (by kernel_rfl) rfl (LeC.drew _) ?_
                  refine D.take 8 [true, true, true, true, true, true, true, true, true, false, false, false] (.sq (.bk (.sq .bd))) rfl (rd_load1 tok rfl rfl rfl (hb4.cell (i := 3) rfl)) rfl (by kernel_rfl) rfl (LeC.drew _) ?_
                  refine D.take 9 [true, true, true, true, true, true, true, true, true, true, false, false] (.sq (.bk (.sq .bd))) rfl (rd_build (out := [_, _, _, _, _]) tok rfl rfl rfl rfl rfl) rfl (by kernel_rfl) rfl (LeC.drew _) ?_
                  refine D.one 10 [true, true, true, true, true, true, true, true, true, true, true, false] rfl (by kernel_rfl) rfl (e_box (cs := [_, _, _, _, _]) rfl rfl (by first | (simp only [size_addB, size_setB, size_drew]; rfl) | rfl) rfl ?_)
                  have hE5 : Ext w4.heap.size w4 (addB w4.drew 119 [.int .i64 7, .int .i64 (v - 1), .int .i64 0, .pointer (some ⟨b1, 0, none⟩), .pointer none]) := ((Ext.refl _ w4).drew).addNew _ _
                  refine ⟨fun _ => hE5.leC, ?_⟩
                  refine D.take 11 [true, true, true, true, true, true, true, true, true, true, true, true] (.sq (.bk (.sq .bd))) rfl (rd_assign rfl) rfl (by kernel_rfl) rfl hE5.leC ?_
                  refine D.done (by kernel_rfl) ?_
                  refine X.sq ?_
                  refine V.seq ?_
                  have hbp := Bl.new w4.drew 119 [.int .i64 7, .int .i64 (v - 1), .int .i64 0, .pointer (some ⟨b1, 0, none⟩), .pointer none]
                  generalize addB w4.drew 119 [.int .i64 7, .int .i64 (v - 1), .int .i64 0, .pointer (some ⟨b1, 0, none⟩), .pointer none] = w5 at hE5 hbp ⊢
                  have hb5 := hE5.bl hb4.lt hb4
                  have htp : Tm 119 w5 0 (u1 7 (v - 1) (c 0)) (.pointer (some ⟨w4.heap.size, 0, none⟩)) := Tm.un hbp (Nat.zero_le _) (ht4'.ext hE5)
                  refine V.region ?_
                  refine L.rd (rd_move rfl) rfl ?_
                  refine L.rd (rd_nilCheck rfl) rfl ?_
                  refine L.rd (rd_fieldAddr tok rfl rfl rfl rfl rfl rfl) rfl ?_
                  refine L.rd (rd_load1 tok rfl rfl rfl (hb5.cell (i := 1) rfl)) rfl ?_
                  refine L.ef (e_call rfl (snum_ok v _) rfl ?_)
                  rintro _ w6 ⟨rfl, hb6, he6⟩
                  have htn : Tm 119 w6 0 (lf 1 v 0) (.pointer (some ⟨w5.heap.size, 0, none⟩)) := Tm.leaf hb6 (Nat.zero_le _)
                  have htp6 := htp.ext he6
                  refine L.rd (rd_move rfl) rfl ?_
                  refine L.rd (rd_build (out := [_, _, _, _, _]) tok rfl rfl rfl rfl rfl) rfl ?_
                  refine L.ef (e_box (cs := [_, _, _, _, _]) rfl rfl (by first | (simp only [size_addB, size_setB, size_drew]; rfl) | rfl) rfl ?_)
                  refine L.rd (rd_assign rfl) rfl ?_
                  refine L.nil ?_
                  refine X.sq ?_
                  refine V.seq ?_
                  have hbm := Bl.new w6 119 [.int .i64 6, .int .i64 0, .int .i64 0, .pointer (some ⟨w5.heap.size, 0, none⟩), .pointer (some ⟨w4.heap.size, 0, none⟩)]
                  have he7 := (Ext.refl _ w6).addNew 119 [.int .i64 6, .int .i64 0, .int .i64 0, .pointer (some ⟨w5.heap.size, 0, none⟩), .pointer (some ⟨w4.heap.size, 0, none⟩)]
                  generalize addB w6 119 [.int .i64 6, .int .i64 0, .int .i64 0, .pointer (some ⟨w5.heap.size, 0, none⟩), .pointer (some ⟨w4.heap.size, 0, none⟩)] = w7 at hbm he7 ⊢
                  have htm : Tm 119 w7 0 (b2 6 (lf 1 v 0) (u1 7 (v - 1) (c 0))) (.pointer (some ⟨w6.heap.size, 0, none⟩)) := Tm.bin hbm (Nat.zero_le _) (htn.ext he7) (htp6.ext he7)
                  have ht7 := ((ht4.ext hE5).ext he6).ext he7
                  refine V.region ?_
                  refine L.rd (rd_move rfl) rfl ?_
                  refine L.rd (rd_move rfl) rfl ?_
                  refine L.rd (rd_build (out := [_, _, _, _, _]) tok rfl rfl rfl rfl rfl) rfl ?_
                  refine L.ef (e_box (cs := [_, _, _, _, _]) rfl rfl (by first | (simp only [size_addB, size_setB, size_drew]; rfl) | rfl) rfl ?_)
                  refine L.rd (rd_assign rfl) rfl ?_
                  refine L.nil ?_
                  refine X.sq ?_
                  refine V.ret ?_
                  refine X.bkRet ?_
                  refine X.sqRet ?_
                  refine ret_1 Yaam.results102 rfl ?_
                  rw [if_neg h29, if_neg h101]
                  have he8 := (Ext.refl _ w7).addNew 119 [.int .i64 6, .int .i64 0, .int .i64 0, .pointer (some ⟨w6.heap.size, 0, none⟩), .pointer a4]
                  exact ⟨_, rfl, Tm.bin (Bl.new _ _ _) (Nat.zero_le _) (htm.ext he8) (ht7.ext he8), (((he4.next hE5).next he6).next he7).next he8⟩
              ·
                refine V.skip ?_
                refine X.bk ?_
                refine X.sq ?_
                refine V.seq ?_
                exfalso
                omega
  · obtain ⟨b, q, q2, rfl, -, hb, ht, ht2⟩ := h
    obtain ⟨b1, q1, q1', rfl, -⟩ := id ht.node
    obtain ⟨b2', q2, q2', rfl, -⟩ := id ht2.node
    obtain ⟨rfl, hv0, hx0, hkk, hw1, hw2⟩ := hw
    rw [dT]
    refine enter2 Yaam.func102 Yaam.ntmps102 (by kernel_rfl) rfl rfl ?_
    refine V.seq ?_
    refine V.region ?_
    refine L.rd (rd_assign rfl) rfl ?_
    refine L.nil ?_
    refine X.sq ?_
    refine V.seq ?_
    refine V.seq ?_
    refine V.region ?_
    refine L.rd (rd_move rfl) rfl ?_
    refine L.rd (rd_nilCheck rfl) rfl ?_
    refine L.rd (rd_fieldAddr tok rfl rfl rfl rfl rfl rfl) rfl ?_
    refine L.rd (rd_load1 tok rfl rfl rfl (hb.cell rfl)) rfl ?_
    refine L.nil ?_
    refine X.sq ?_
    refine V.block ?_
    refine V.seq ?_
    refine V.region ?_
    refine L.rd (rd_eql rfl rfl) rfl ?_
    refine L.rd (rd_assign rfl) rfl ?_
    refine L.nil ?_
    refine X.sq ?_
    first | refine V.cond rfl (fun h19 => ?_) (fun h19 => ?_) | refine V.condB rfl (fun h19 => ?_) (fun h19 => ?_)
    ·
      refine V.seq ?_
      refine V.seq ?_
      exfalso
      omega
    ·
      refine V.seq ?_
      refine V.region ?_
      refine L.rd (rd_eql rfl rfl) rfl ?_
      refine L.rd (rd_assign rfl) rfl ?_
      refine L.nil ?_
      refine X.sq ?_
      first | refine V.cond rfl (fun h29 => ?_) (fun h29 => ?_) | refine V.condB rfl (fun h29 => ?_) (fun h29 => ?_)
      ·
        refine V.seq ?_
        exfalso
        omega
      ·
        refine V.seq ?_
        refine V.seq ?_
        refine V.region ?_
        refine L.rd (rd_eql rfl rfl) rfl ?_
        refine L.rd (rd_assign rfl) rfl ?_
        refine L.nil ?_
        refine X.sq ?_
        first | refine V.cond rfl (fun h40 => ?_) (fun h40 => ?_) | refine V.condB rfl (fun h40 => ?_) (fun h40 => ?_)
        ·
          refine V.skip ?_
          refine X.sq ?_
          first | refine V.cond rfl (fun h40_ => ?_) (fun h40_ => ?_) | refine V.condB rfl (fun h40_ => ?_) (fun h40_ => ?_)
          ·
            refine V.seq ?_
            refine V.region ?_
            refine L.rd (rd_move rfl) rfl ?_
            refine L.rd (rd_nilCheck rfl) rfl ?_
            refine L.rd (rd_fieldAddr tok rfl rfl rfl rfl rfl rfl) rfl ?_
            refine L.rd (rd_load1 tok rfl rfl rfl (hb.cell (i := 3) rfl)) rfl ?_
            refine L.rd (rd_move rfl) rfl ?_
            refine L.ef (e_call rfl (ih1 _ _ hw1 ht) rfl ?_)
            rintro _ w4 ⟨a4, rfl, ht4, he4⟩
            have hb4 := he4.bl hb.lt hb
            refine L.rd (rd_assign rfl) rfl ?_
            refine L.nil ?_
            refine X.sq ?_
            refine V.seq ?_
            refine V.region ?_
            refine L.rd (rd_move rfl) rfl ?_
            refine L.rd (rd_nilCheck rfl) rfl ?_
            refine L.rd (rd_fieldAddr tok rfl rfl rfl rfl rfl rfl) rfl ?_
            refine L.rd (rd_load1 tok rfl rfl rfl (hb4.cell (i := 4) rfl)) rfl ?_
            refine L.rd (rd_move rfl) rfl ?_
            refine L.ef (e_call rfl (ih2 _ _ hw2 (ht2.ext he4)) rfl ?_)
            rintro _ w5 ⟨a5, rfl, ht5, he5⟩
            have hb5 := he5.bl hb4.lt hb4
            refine L.rd (rd_assign rfl) rfl ?_
            refine L.nil ?_
            refine X.sq ?_
            refine V.seq ?_
            refine V.region ?_
            refine L.rd (rd_move rfl) rfl ?_
            refine L.rd (rd_nilCheck rfl) rfl ?_
            refine L.rd (rd_fieldAddr tok rfl rfl rfl rfl rfl rfl) rfl ?_
            refine L.rd (rd_load1 tok rfl rfl rfl (hb5.cell rfl)) rfl ?_
            refine L.rd (rd_move rfl) rfl ?_
            refine L.rd (rd_move rfl) rfl ?_
            refine L.rd (rd_build (out := [_, _, _, _, _]) tok rfl rfl rfl rfl rfl) rfl ?_
            refine L.ef (e_box (cs := [_, _, _, _, _]) rfl rfl (by first | (simp only [size_addB, size_setB, size_drew]; rfl) | rfl) rfl ?_)
            refine L.rd (rd_assign rfl) rfl ?_
            refine L.nil ?_
            refine X.sq ?_
            refine V.ret ?_
            refine X.bkRet ?_
            refine X.sqRet ?_
            refine ret_1 Yaam.results102 rfl ?_
            rw [if_neg (by omega)]
            have he8 := (Ext.refl _ w5).addNew 119 [.int .i64 k, .int .i64 0, .int .i64 0, .pointer a4, .pointer a5]
            exact ⟨_, rfl, Tm.bin (Bl.new _ _ _) (Nat.zero_le _) ((ht4.ext he5).ext he8) (ht5.ext he8), (he4.next he5).next he8⟩
          ·
            exact absurd h40 h40_
        ·
          refine V.region ?_
          refine L.rd (rd_eql rfl rfl) rfl ?_
          refine L.rd (rd_assign rfl) rfl ?_
          refine L.nil ?_
          refine X.sq ?_
          first | refine V.cond rfl (fun h40 => ?_) (fun h40 => ?_) | refine V.condB rfl (fun h40 => ?_) (fun h40 => ?_)
          ·
            refine V.seq ?_
            refine V.region ?_
            refine L.rd (rd_move rfl) rfl ?_
            refine L.rd (rd_nilCheck rfl) rfl ?_
            refine L.rd (rd_fieldAddr tok rfl rfl rfl rfl rfl rfl) rfl ?_
            refine L.rd (rd_load1 tok rfl rfl rfl (hb.cell (i := 3) rfl)) rfl ?_
            refine L.rd (rd_move rfl) rfl ?_
            refine L.ef (e_call rfl (ih1 _ _ hw1 ht) rfl ?_)
            rintro _ w4 ⟨a4, rfl, ht4, he4⟩
            have hb4 := he4.bl hb.lt hb
            refine L.rd (rd_assign rfl) rfl ?_
            refine L.nil ?_
            refine X.sq ?_
            refine V.seq ?_
            refine V.region ?_
            refine L.rd (rd_move rfl) rfl ?_
            refine L.rd (rd_nilCheck rfl) rfl ?_
            refine L.rd (rd_fieldAddr tok rfl rfl rfl rfl rfl rfl) rfl ?_
            refine L.rd (rd_load1 tok rfl rfl rfl (hb4.cell (i := 4) rfl)) rfl ?_
            refine L.rd (rd_move rfl) rfl ?_
            refine L.ef (e_call rfl (ih2 _ _ hw2 (ht2.ext he4)) rfl ?_)
            rintro _ w5 ⟨a5, rfl, ht5, he5⟩
            have hb5 := he5.bl hb4.lt hb4
            refine L.rd (rd_assign rfl) rfl ?_
            refine L.nil ?_
            refine X.sq ?_
            refine V.seq ?_
            refine V.region ?_
            refine L.rd (rd_move rfl) rfl ?_
            refine L.rd (rd_nilCheck rfl) rfl ?_
            refine L.rd (rd_fieldAddr tok rfl rfl rfl rfl rfl rfl) rfl ?_
            refine L.rd (rd_load1 tok rfl rfl rfl (hb5.cell rfl)) rfl ?_
            refine L.rd (rd_move rfl) rfl ?_
            refine L.rd (rd_move rfl) rfl ?_
            refine L.rd (rd_build (out := [_, _, _, _, _]) tok rfl rfl rfl rfl rfl) rfl ?_
            refine L.ef (e_box (cs := [_, _, _, _, _]) rfl rfl (by first | (simp only [size_addB, size_setB, size_drew]; rfl) | rfl) rfl ?_)
            refine L.rd (rd_assign rfl) rfl ?_
            refine L.nil ?_
            refine X.sq ?_
            refine V.ret ?_
            refine X.bkRet ?_
            refine X.sqRet ?_
            refine ret_1 Yaam.results102 rfl ?_
            rw [if_neg (by omega)]
            have he8 := (Ext.refl _ w5).addNew 119 [.int .i64 k, .int .i64 0, .int .i64 0, .pointer a4, .pointer a5]
            exact ⟨_, rfl, Tm.bin (Bl.new _ _ _) (Nat.zero_le _) ((ht4.ext he5).ext he8) (ht5.ext he8), (he4.next he5).next he8⟩
          ·
            refine V.seq ?_
            refine V.region ?_
            refine L.rd (rd_eql rfl rfl) rfl ?_
            refine L.rd (rd_assign rfl) rfl ?_
            refine L.nil ?_
            refine X.sq ?_
            first | refine V.cond rfl (fun h63 => ?_) (fun h63 => ?_) | refine V.condB rfl (fun h63 => ?_) (fun h63 => ?_)
            ·
              refine V.seq ?_
              refine V.region ?_
              refine L.rd (rd_move rfl) rfl ?_
              refine L.rd (rd_nilCheck rfl) rfl ?_
              refine L.rd (rd_fieldAddr tok rfl rfl rfl rfl rfl rfl) rfl ?_
              refine L.rd (rd_load1 tok rfl rfl rfl (hb.cell (i := 3) rfl)) rfl ?_
              refine L.rd (rd_move rfl) rfl ?_
              refine L.ef (e_call rfl (ih1 _ _ hw1 ht) rfl ?_)
              rintro _ w4 ⟨a4, rfl, ht4, he4⟩
              have hb4 := he4.bl hb.lt hb
              refine L.rd (rd_assign rfl) rfl ?_
              refine L.nil ?_
              refine X.sq ?_
              refine V.seq ?_
              refine V.region ?_
              refine L.rd (rd_move rfl) rfl ?_
              refine L.rd (rd_nilCheck rfl) rfl ?_
              refine L.rd (rd_fieldAddr tok rfl rfl rfl rfl rfl rfl) rfl ?_
              refine L.rd (rd_load1 tok rfl rfl rfl (hb4.cell (i := 4) rfl)) rfl ?_
              refine L.rd (rd_move rfl) rfl ?_
              refine L.ef (e_call rfl (ih2 _ _ hw2 (ht2.ext he4)) rfl ?_)
              rintro _ w5 ⟨a5, rfl, ht5, he5⟩
              have hb5 := he5.bl hb4.lt hb4
              have hE5 := he4.next he5
              refine L.rd (rd_assign rfl) rfl ?_
              refine L.nil ?_
              refine X.sq ?_
              refine V.seq ?_
              refine V.region ?_
              refine L.rd (rd_move rfl) rfl ?_
              refine L.rd (rd_move rfl) rfl ?_
              refine L.rd (rd_nilCheck rfl) rfl ?_
              refine L.rd (rd_fieldAddr tok rfl rfl rfl rfl rfl rfl) rfl ?_
              refine L.rd (rd_load1 tok rfl rfl rfl (hb5.cell (i := 4) rfl)) rfl ?_
              refine L.rd (rd_build (out := [_, _, _, _, _]) tok rfl rfl rfl rfl rfl) rfl ?_
              refine L.ef (e_box (cs := [_, _, _, _, _]) rfl rfl (by first | (simp only [size_addB, size_setB, size_drew]; rfl) | rfl) rfl ?_)
              refine L.rd (rd_assign rfl) rfl ?_
              refine L.nil ?_
              refine X.sq ?_
              refine V.seq ?_
              have hbl := Bl.new w5 119 [.int .i64 6, .int .i64 0, .int .i64 0, .pointer a4, .pointer (some ⟨b2', 0, none⟩)]
              have he6 := (Ext.refl _ w5).addNew 119 [.int .i64 6, .int .i64 0, .int .i64 0, .pointer a4, .pointer (some ⟨b2', 0, none⟩)]
              generalize addB w5 119 [.int .i64 6, .int .i64 0, .int .i64 0, .pointer a4, .pointer (some ⟨b2', 0, none⟩)] = w6 at hbl he6 ⊢
              have hE6 := hE5.next he6
              have htl : Tm 119 w6 0 (b2 6 (dT y (c 0)) (c 1)) (.pointer (some ⟨w5.heap.size, 0, none⟩)) := Tm.bin hbl (Nat.zero_le _) ((ht4.ext he5).ext he6) (ht2.ext hE6)
              have hb6 := he6.bl hb5.lt hb5
              refine V.region ?_
              refine L.rd (rd_move rfl) rfl ?_
              refine L.rd (rd_nilCheck rfl) rfl ?_
              refine L.rd (rd_fieldAddr tok rfl rfl rfl rfl rfl rfl) rfl ?_
              refine L.rd (rd_load1 tok rfl rfl rfl (hb6.cell (i := 3) rfl)) rfl ?_
              refine L.rd (rd_move rfl) rfl ?_
              refine L.rd (rd_build (out := [_, _, _, _, _]) tok rfl rfl rfl rfl rfl) rfl ?_
              refine L.ef (e_box (cs := [_, _, _, _, _]) rfl rfl (by first | (simp only [size_addB, size_setB, size_drew]; rfl) | rfl) rfl ?_)
              refine L.rd (rd_assign rfl) rfl ?_
              refine L.nil ?_
              refine X.sq ?_
              refine V.seq ?_
              have hbr := Bl.new w6 119 [.int .i64 6, .int .i64 0, .int .i64 0, .pointer (some ⟨b1, 0, none⟩), .pointer a5]
              have he7 := (Ext.refl _ w6).addNew 119 [.int .i64 6, .int .i64 0, .int .i64 0, .pointer (some ⟨b1, 0, none⟩), .pointer a5]
              generalize addB w6 119 [.int .i64 6, .int .i64 0, .int .i64 0, .pointer (some ⟨b1, 0, none⟩), .pointer a5] = w7 at hbr he7 ⊢
              have hE7 := hE6.next he7
              have htr : Tm 119 w7 0 (b2 6 (c 0) (dT y (c 1))) (.pointer (some ⟨w6.heap.size, 0, none⟩)) := Tm.bin hbr (Nat.zero_le _) (ht.ext hE7) ((ht5.ext he6).ext he7)
              refine V.region ?_
              refine L.rd (rd_move rfl) rfl ?_
              refine L.rd (rd_move rfl) rfl ?_
              refine L.rd (rd_build (out := [_, _, _, _, _]) tok rfl rfl rfl rfl rfl) rfl ?_
              refine L.ef (e_box (cs := [_, _, _, _, _]) rfl rfl (by first | (simp only [size_addB, size_setB, size_drew]; rfl) | rfl) rfl ?_)
              refine L.rd (rd_assign rfl) rfl ?_
              refine L.nil ?_
              refine X.sq ?_
              refine V.ret ?_
              refine X.bkRet ?_
              refine X.sqRet ?_
              refine ret_1 Yaam.results102 rfl ?_
              rw [if_pos h63]
              have he8 := (Ext.refl _ w7).addNew 119 [.int .i64 4, .int .i64 0, .int .i64 0, .pointer (some ⟨w5.heap.size, 0, none⟩), .pointer (some ⟨w6.heap.size, 0, none⟩)]
              exact ⟨_, rfl, Tm.bin (Bl.new _ _ _) (Nat.zero_le _) ((htl.ext he7).ext he8) (htr.ext he8), hE7.next he8⟩
            ·
              refine V.seq ?_
              refine V.region ?_
              refine L.rd (rd_eql rfl rfl) rfl ?_
              refine L.rd (rd_assign rfl) rfl ?_
              refine L.nil ?_
              refine X.sq ?_
              first | refine V.cond rfl (fun h95 => ?_) (fun h95 => ?_) | refine V.condB rfl (fun h95 => ?_) (fun h95 => ?_)
              ·
                refine V.seq ?_
                refine V.seq ?_
                exfalso
                omega
              ·
                refine V.skip ?_
                refine X.bk ?_
                refine X.sq ?_
                refine V.seq ?_
                exfalso
                omega

theorem sdiff_ok (y : Int) (t : Tre) (hw : Wt t) (hz : tsz t ≤ 500000) (nv : Value) (w : World) (hN : Rs w 5 nv (flat t 0).length ((flat t 0).flatMap ndE)) : Ret Yaam.prog 54 [.agg #[nv, .int .i64 ((tsz t : Int) - 1)], .int .i64 y] w (XPost 80 (difT y t) w) := by
  obtain ⟨na, nc, rfl, hfn⟩ := id hN.form
  have hfl := flat_len t 0
  have hdz := tsz_dT y t
  refine enter2 Yaam.func54 Yaam.ntmps54 (by kernel_rfl) rfl rfl ?_
  refine V.seq ?_
  refine V.region ?_
  refine L.ef (e_box (cs := [_, _]) rfl rfl (by first | (simp only [size_addB, size_setB, size_drew]; rfl) | rfl) rfl ?_)
  refine L.ef (e_alloc (cs := [_, _]) tok rfl rfl (by first | (simp only [size_addB, size_setB, size_drew]; rfl) | rfl) rfl ?_)
  refine L.rd (rd_assign rfl) rfl ?_
  refine L.nil ?_
  refine X.sq ?_
  refine V.seq ?_
  refine V.seq ?_
  have hp := (Bl.new w 34 [.slice na (flat t 0).length nc, .int .i64 ((tsz t : Int) - 1)]).add 34 [.slice none 0 0, .int .i64 0]
  have hr := Bl.new' (w := addB w 34 [.slice na (flat t 0).length nc, .int .i64 ((tsz t : Int) - 1)]) (b := w.heap.size + 1) (by rw [size_addB]) 34 [.slice none 0 0, .int .i64 0]
  have hE := ((Ext.refl _ w).addNew 34 [.slice na (flat t 0).length nc, .int .i64 ((tsz t : Int) - 1)]).addNew 34 [.slice none 0 0, .int .i64 0]
  generalize addB (addB w 34 [.slice na (flat t 0).length nc, .int .i64 ((tsz t : Int) - 1)]) 34 [.slice none 0 0, .int .i64 0] = w0 at hp hr hE ⊢
  have hrl := hr.lt
  refine V.region ?_
  refine L.rd (rd_loadN tok rfl rfl rfl hp.cells rfl) rfl ?_
  refine L.ef (e_call rfl (swf_ok t hw hz _ _ (hN.le hE.leC)) rfl ?_)
  rintro _ w1 ⟨rfl, he1⟩
  have hp1 := he1.bl hp.lt hp
  have hr1 := he1.bl hr.lt hr
  have hE1 := hE.next he1
  have hs1 := he1.size
  first | refine L.rd (rd_not rfl) rfl ?_ | refine L.rd (rd_notB rfl) rfl ?_
  refine L.rd (rd_move rfl) rfl ?_
  first | refine L.partG rfl rfl (fun g12 => ?_) (fun g12 => ?_) | refine L.partGB rfl rfl (fun g12 => ?_) (fun g12 => ?_)
  ·
    cases g12
  ·
    refine L.yes rfl rfl ?_
    refine L.rd (rd_move rfl) rfl ?_
    refine L.yes rfl rfl ?_
    refine L.rd (rd_lss rfl rfl) rfl ?_
    refine L.rd (rd_pickF rfl rfl) rfl ?_
    refine L.rd (rd_move rfl) rfl ?_
    first | refine L.partG rfl rfl (fun g16 => ?_) (fun g16 => ?_) | refine L.partGB rfl rfl (fun g16 => ?_) (fun g16 => ?_)
    ·
      refine L.no rfl rfl rfl rfl ?_
      refine L.no rfl rfl rfl rfl ?_
      refine L.rd (rd_pickT rfl rfl) rfl ?_
      refine L.nil ?_
      refine X.sq ?_
      refine V.condT rfl ?_
      refine V.seq ?_
      refine V.region ?_
      refine L.rd (rd_build (out := [_, _]) tok rfl rfl rfl rfl rfl) rfl ?_
      refine L.ef (e_store (vs := [_, _]) tok rfl rfl rfl rfl hr1 rfl (by simp [Value.oneCell']) (by simp) ?_)
      refine L.rd (rd_assign rfl) rfl ?_
      refine L.nil ?_
      refine X.sq ?_
      refine V.ret ?_
      refine X.sqRet ?_
      refine ret_c1 tok Yaam.results54 rfl rfl rfl rfl (Bl.cells (hr1.set _ _)) rfl ?_
      exact XPost.bad (by unfold difT; rw [if_neg (by omega)]) (hE1.set (by omega) _ _)
    ·
      refine L.yes rfl rfl ?_
      refine L.rd (rd_move rfl) rfl ?_
      refine L.yes rfl rfl ?_
      refine L.rd (rd_geq rfl rfl) rfl ?_
      refine L.rd (rd_pickF rfl rfl) rfl ?_
      refine L.nil ?_
      refine X.sq ?_
      first | refine V.cond rfl (fun h19 => ?_) (fun h19 => ?_) | refine V.condB rfl (fun h19 => ?_) (fun h19 => ?_)
      ·
        refine V.seq ?_
        refine V.region ?_
        refine L.rd (rd_build (out := [_, _]) tok rfl rfl rfl rfl rfl) rfl ?_
        refine L.ef (e_store (vs := [_, _]) tok rfl rfl rfl rfl hr1 rfl (by simp [Value.oneCell']) (by simp) ?_)
        refine L.rd (rd_assign rfl) rfl ?_
        refine L.nil ?_
        refine X.sq ?_
        refine V.ret ?_
        refine X.sqRet ?_
        refine ret_c1 tok Yaam.results54 rfl rfl rfl rfl (Bl.cells (hr1.set _ _)) rfl ?_
        exact XPost.bad (by unfold difT; rw [if_neg (by omega)]) (hE1.set (by omega) _ _)
      ·
        refine V.skip ?_
        refine X.sq ?_
        refine V.seq ?_
        refine V.region ?_
        refine L.rd (rd_fieldAddr tok rfl rfl rfl rfl rfl rfl) rfl ?_
        refine L.rd (rd_load1 tok rfl rfl rfl (hp1.cell rfl)) rfl ?_
        refine L.rd (rd_fieldAddr tok rfl rfl rfl rfl rfl rfl) rfl ?_
        refine L.rd (rd_load1 tok rfl rfl rfl (hp1.cell (i := 1) rfl)) rfl ?_
        refine L.ef (e_call rfl (toTree_ok (flat t 0) _ w hN (by omega) t 0 _ _ hw (fun j nd h => by rw [Nat.zero_add]; exact h) (by omega) hE1) rfl ?_)
        rintro _ w2 ⟨a2, rfl, ht2, he2⟩
        have hr2 := he2.bl hr1.lt hr1
        have hE2 := hE1.next he2
        refine L.rd (rd_assign rfl) rfl ?_
        refine L.nil ?_
        refine X.sq ?_
        refine V.seq ?_
        refine V.region ?_
        refine L.rd (rd_move rfl) rfl ?_
        refine L.ef (e_call rfl (dsizes_ok t _ _ hw hz ht2) rfl ?_)
        rintro _ _ ⟨rfl, rfl⟩
        refine L.rd (rd_move rfl) rfl ?_
        refine L.rd (rd_ext0 rfl) rfl ?_
        refine L.rd (rd_ext1 rfl) rfl ?_
        refine L.rd (rd_assign rfl) rfl ?_
        refine L.rd (rd_assign rfl) rfl ?_
        refine L.nil ?_
        refine X.sq ?_
        refine V.seq ?_
        refine V.seq ?_
        refine V.region ?_
        refine L.rd (rd_move rfl) rfl ?_
        refine L.rd (rd_gtr rfl rfl) rfl ?_
        refine L.nil ?_
        refine X.sq ?_
        first | refine V.cond rfl (fun h32 => ?_) (fun h32 => ?_) | refine V.condB rfl (fun h32 => ?_) (fun h32 => ?_)
        ·
          refine V.seq ?_
          refine V.region ?_
          refine L.rd (rd_build (out := [_, _]) tok rfl rfl rfl rfl rfl) rfl ?_
          refine L.ef (e_store (vs := [_, _]) tok rfl rfl rfl rfl hr2 rfl (by simp [Value.oneCell']) (by simp) ?_)
          refine L.rd (rd_assign rfl) rfl ?_
          refine L.nil ?_
          refine X.sq ?_
          refine V.ret ?_
          refine X.sqRet ?_
          refine ret_c1 tok Yaam.results54 rfl rfl rfl rfl (Bl.cells (hr2.set _ _)) rfl ?_
          exact XPost.bad (by unfold difT; rw [if_neg (by omega)]) (hE2.set (by omega) _ _)
        ·
          refine V.skip ?_
          refine X.sq ?_
          refine V.seq ?_
          refine V.region ?_
          refine L.rd (rd_move rfl) rfl ?_
          refine L.rd (rd_move rfl) rfl ?_
          refine L.ef (e_call rfl (dnode_ok y t _ _ hw ht2) rfl ?_)
          rintro _ w3 ⟨a3, rfl, ht3, he3⟩
          refine L.ef (e_call rfl (toExpr_ok (dT y t) _ _ 0 (dT_wt y t hw) (by omega) ht3) rfl ?_)
          rintro _ w4 ⟨nv4, rfl, ho4, he4⟩
          obtain ⟨oa, oc, rfl⟩ := own_form ho4
          have he14 := he3.next he4
          have hr4 := he14.bl hr2.lt hr2
          have hE4 := hE2.next he14
          have hs2 := hE2.size
          have hs3 := he3.size
          have hrl2 := hr2.lt
          refine L.ef (e_store (vs := [_, _]) tok rfl rfl rfl rfl hr4 rfl (by simp [Value.oneCell']) (by simp) ?_)
          refine L.rd (rd_assign rfl) rfl ?_
          refine L.nil ?_
          refine X.sq ?_
          refine V.ret ?_
          refine ret_c1 tok Yaam.results54 rfl rfl rfl rfl (Bl.cells (hr4.set _ _)) rfl ?_
          have hdf : difT y t = some (dT y t) := by unfold difT; rw [if_pos (by omega)]
          rw [hdf]
          refine ⟨_, flat (dT y t) 0, _, rfl, ?_, fun t2 ht2 => ?_, fun hn => (by cases hn), hE4.set (by omega) _ _⟩
          · refine own_low (own_same ho4 fun q hq => ?_) (by omega)
            have := (own_block_lt ho4 hq).1
            exact (Rg.set (w := w4) (lo := w.heap.size + 1) (hi := w.heap.size + 2) (by omega) 34 _).block q (own_block_lt ho4 hq).2 (by omega)
          · simp only [Option.some.injEq] at ht2
            subst ht2
            exact ⟨rfl, rfl⟩
end Go.Proofs.YbxaawGreat
