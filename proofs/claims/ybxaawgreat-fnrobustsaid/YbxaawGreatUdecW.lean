/-
  Decimals, walked.
-/
import Derived.Test.YbxaawGreatBufW
import Derived.Test.YbxaawGreatPrintP
import Derived.Test.YbxaawGreatTypes
set_option linter.unusedVariables false
set_option linter.unusedSimpArgs false
set_option maxRecDepth 10000
namespace Go.Mw
theorem drop_set_here {α : Type} (a : List α) (k : Nat) (x : α) (h : k < a.length) : (a.set k x).drop k = x :: a.drop (k + 1) := by
  rw [drop_cons (List.getElem?_set_self h)]
  congr 1
  rw [List.drop_set_of_lt (by omega)]
theorem bC_put (xs : List Nat) (i n : Nat) (h : i < xs.length) : putAt (bC xs) i [.int .u8 (n : Int)] = bC (xs.set i n) := by
  rw [putAt_one _ _ _ (by simp [bC, h])]; simp [bC, List.map_set]
end Go.Mw
namespace Go.Proofs.YbxaawGreat
open Go.Mw
theorem uns_wrap (v : Int) : IntKind.u64.wrap v = (uns v : Int) := by rw [wrap_u64_eq]; unfold uns; omega

theorem udec_ok (v : Int) (w : World) : Ret Yaam.prog 103 [.int .i64 v] w fun r w' => r = .string (mkS (udec v)) ∧ Ext w.heap.size w w' := by
  refine enter1 Yaam.func103 Yaam.ntmps103 (by kernel_rfl) rfl rfl ?_
  refine V.seq ?_
  refine V.region ?_
  refine L.rd (rd_assign rfl) rfl ?_
  refine L.nil ?_
  refine X.sq ?_
  refine V.seq ?_
  refine V.region ?_
  refine L.rd (rd_move rfl) rfl ?_
  refine L.rd (rd_convE (r := (uns v : Int)) tok rfl rfl rfl rfl rfl (uns_wrap v)) rfl ?_
  refine L.rd (rd_assign rfl) rfl ?_
  refine L.nil ?_
  refine X.sq ?_
  refine V.seq ?_
  refine V.seq ?_
  refine V.region ?_
  refine L.rd (rd_move rfl) rfl ?_
  refine L.rd (rd_eql rfl rfl) rfl ?_
  refine L.nil ?_
  refine X.sq ?_
  first | refine V.cond rfl (fun h9 => ?_) (fun h9 => ?_) | refine V.condB rfl (fun h9 => ?_) (fun h9 => ?_)
  ·
    refine V.seq ?_
    refine V.region ?_
    refine L.rd (rd_assign rfl) rfl ?_
    refine L.nil ?_
    refine X.sq ?_
    refine V.ret ?_
    refine X.sqRet ?_
    refine ret_1 Yaam.results103 rfl ?_
    refine ⟨?_, Ext.refl _ _⟩
    unfold udec
    rw [if_pos (by omega)]
    rfl
  ·
    refine V.skip ?_
    refine X.sq ?_
    refine V.seq ?_
    refine V.region ?_
    refine L.ef (e_alloc (cs := bC (List.replicate 20 0)) tok rfl rfl (by first | (simp only [size_addB, size_setB, size_drew]; rfl) | rfl) rfl ?_)
    refine L.nil ?_
    refine X.sq ?_
    refine V.seq ?_
    refine V.region ?_
    refine L.rd (rd_assign rfl) rfl ?_
    refine L.nil ?_
    refine X.sq ?_
    refine V.seq ?_
    refine V.block ?_
    refine V.loop (fun m l wr => ∃ (k u : Nat) (bs : List Nat), l = [(3, .int .u64 u), (4, .pointer (some ⟨w.heap.size, 0, none⟩)), (5, .int .i64 k)] ∧ m = u ∧ k ≤ 20 ∧ u < 10 ^ k ∧ (k = 20 → u ≠ 0) ∧ bs.length = 20 ∧ udec v = dgsF k u (bs.drop k) ∧ Ext w.heap.size w wr ∧ Bl wr w.heap.size 182 (bC bs) ∧ u < 18446744073709551616) ?_ ?_
    ·
      refine ⟨_, _, (by repeat' (first | exact trivial | refine ⟨rfl, ?_⟩)), 20, uns v, List.replicate 20 0, rfl, rfl, by omega, ?_, by omega, by simp, ?_, (Ext.refl _ _).addNew _ _, Bl.new _ _ _, uns_lt v⟩
      · have := uns_lt v
        have h1 : (10 : Nat) ^ 20 = 100000000000000000000 := by decide
        omega
      · unfold udec
        rw [if_neg (by omega)]
        rfl
    ·
      rintro m l wr ⟨k, u, bs, rfl, hm, hk, hu, hk20, hbs, hud, hE, hbl, hu64⟩
      obtain rfl : u = m := hm.symm
      refine V.seq ?_
      refine V.seq ?_
      refine V.region ?_
      refine L.rd (rd_move rfl) rfl ?_
      refine L.rd (rd_gtr rfl rfl) rfl ?_
      refine L.nil ?_
      refine X.sq ?_
      first | refine V.cond rfl (fun h11 => ?_) (fun h11 => ?_) | refine V.condB rfl (fun h11 => ?_) (fun h11 => ?_)
      ·
        obtain ⟨k', rfl⟩ : ∃ k', k = k' + 1 := by
          cases k with
          | zero => simp at hu; omega
          | succ k' => exact ⟨k', rfl⟩
        have hpow : (10 : Nat) ^ (k' + 1) = 10 ^ k' * 10 := Nat.pow_succ _ _
        refine V.skip ?_
        refine X.sq ?_
        refine V.block ?_
        refine V.seq ?_
        refine V.region ?_
        refine L.rd (rd_move rfl) rfl ?_
        refine L.rd (rd_subE (r := (k' : Int)) rfl rfl (by rw [wrap_i64_in (by omega)]; omega)) rfl ?_
        refine L.rd (rd_assign rfl) rfl ?_
        refine L.nil ?_
        refine X.sq ?_
        refine V.seq ?_
        refine V.region ?_
        refine L.rd (rd_move rfl) rfl ?_
        refine L.rd (rd_move rfl) rfl ?_
        refine L.rd (rd_remE (r := ((u % 10 : Nat) : Int)) rfl rfl (by decide) (by rw [Int.tmod_eq_emod_of_nonneg (by omega)]; omega)) rfl ?_
        refine L.rd (rd_addE (r := ((48 + u % 10 : Nat) : Int)) rfl rfl (by rw [wrap_u64_in (by omega)]; omega)) rfl ?_
        refine L.rd (rd_convE (r := ((48 + u % 10 : Nat) : Int)) tok rfl rfl rfl rfl rfl (wrap_u8_in (by omega))) rfl ?_
        (refine L.rd (rd_indexArr (n := 20) (sz := 1) tok rfl rfl rfl rfl rfl rfl rfl rfl ?_) rfl ?_; omega)
        refine L.ef (e_store (vs := [_]) tok rfl rfl rfl rfl hbl rfl (by simp [Value.oneCell']) (by simp only [bC_len, List.length_cons, List.length_nil]; omega) ?_)
        (simp only [Nat.zero_add, Int.toNat_natCast, Nat.mul_one])
        rw [bC_put _ _ _ (by omega)]
        refine L.nil ?_
        refine X.sq ?_
        refine V.region ?_
        refine L.rd (rd_move rfl) rfl ?_
        refine L.rd (rd_quoE (r := ((u / 10 : Nat) : Int)) rfl rfl (by decide) (by rw [Int.tdiv_eq_ediv_of_nonneg (by omega), wrap_u64_in (by omega)]; omega)) rfl ?_
        refine L.rd (rd_assign rfl) rfl ?_
        refine L.nil ?_
        refine X.bk ?_
        refine X.lp ⟨_, _, ?_, (by repeat' (first | exact trivial | refine ⟨rfl, ?_⟩)), k', u / 10, bs.set k' (48 + u % 10), rfl, rfl, by omega, by omega, by omega, by simpa using hbs, ?_, hE.set (Nat.le_refl _) _ _, hbl.set _ _, by omega⟩
        · omega
        · rw [hud, dgsF_step _ _ _ (by omega), drop_set_here _ _ _ (by omega)]
      ·
        refine V.exit ?_
        refine X.sqExit ?_
        refine X.lpExit ?_
        refine X.bkHere ?_
        refine X.sq ?_
        refine V.seq ?_
        refine V.region ?_
        refine L.rd (rd_move rfl) rfl ?_
        refine L.rd (rd_arrsL (sz := 1) (m := 20) tok rfl rfl rfl rfl rfl rfl rfl rfl (by omega)) rfl ?_
        refine L.rd (rd_bytesStr (xs := bs.drop k) tok rfl rfl rfl rfl rfl rfl rfl rfl rfl (hbl.cells.sub (k * 1) _ (fun j v hv => by rw [Nat.mul_one]; simpa [bC, List.getElem?_drop] using hv)) (by simp [hbs])) rfl ?_
        refine L.rd (rd_assign rfl) rfl ?_
        refine L.nil ?_
        refine X.sq ?_
        refine V.ret ?_
        refine ret_1 Yaam.results103 rfl ?_
        refine ⟨?_, hE⟩
        have hu0 : u = 0 := by omega
        subst hu0
        rw [hud, dgsF_zero]

theorem UDec_ok (v : Int) (w : World) : Ret Yaam.prog 118 [.int .i64 v] w fun r w' => r = .string (mkS (udec v)) ∧ Ext w.heap.size w w' := by
  refine enter1 Yaam.func118 Yaam.ntmps118 (by kernel_rfl) rfl rfl ?_
  refine V.seq ?_
  refine V.region ?_
  refine L.rd (rd_assign rfl) rfl ?_
  refine L.nil ?_
  refine X.sq ?_
  refine V.seq ?_
  refine V.region ?_
  refine L.rd (rd_move rfl) rfl ?_
  refine L.rd (rd_convE (r := (uns v : Int)) tok rfl rfl rfl rfl rfl (uns_wrap v)) rfl ?_
  refine L.rd (rd_assign rfl) rfl ?_
  refine L.nil ?_
  refine X.sq ?_
  refine V.seq ?_
  refine V.seq ?_
  refine V.region ?_
  refine L.rd (rd_move rfl) rfl ?_
  refine L.rd (rd_eql rfl rfl) rfl ?_
  refine L.nil ?_
  refine X.sq ?_
  first | refine V.cond rfl (fun h9 => ?_) (fun h9 => ?_) | refine V.condB rfl (fun h9 => ?_) (fun h9 => ?_)
  ·
    refine V.seq ?_
    refine V.region ?_
    refine L.rd (rd_assign rfl) rfl ?_
    refine L.nil ?_
    refine X.sq ?_
    refine V.ret ?_
    refine X.sqRet ?_
    refine ret_1 Yaam.results118 rfl ?_
    refine ⟨?_, Ext.refl _ _⟩
    unfold udec
    rw [if_pos (by omega)]
    rfl
  ·
    refine V.skip ?_
    refine X.sq ?_
    refine V.seq ?_
    refine V.region ?_
    refine L.ef (e_alloc (cs := bC (List.replicate 20 0)) tok rfl rfl (by first | (simp only [size_addB, size_setB, size_drew]; rfl) | rfl) rfl ?_)
    refine L.nil ?_
    refine X.sq ?_
    refine V.seq ?_
    refine V.region ?_
    refine L.rd (rd_assign rfl) rfl ?_
    refine L.nil ?_
    refine X.sq ?_
    refine V.seq ?_
    refine V.block ?_
    refine V.loop (fun m l wr => ∃ (k u : Nat) (bs : List Nat), l = [(3, .int .u64 u), (4, .pointer (some ⟨w.heap.size, 0, none⟩)), (5, .int .i64 k)] ∧ m = u ∧ k ≤ 20 ∧ u < 10 ^ k ∧ (k = 20 → u ≠ 0) ∧ bs.length = 20 ∧ udec v = dgsF k u (bs.drop k) ∧ Ext w.heap.size w wr ∧ Bl wr w.heap.size 182 (bC bs) ∧ u < 18446744073709551616) ?_ ?_
    ·
      refine ⟨_, _, (by repeat' (first | exact trivial | refine ⟨rfl, ?_⟩)), 20, uns v, List.replicate 20 0, rfl, rfl, by omega, ?_, by omega, by simp, ?_, (Ext.refl _ _).addNew _ _, Bl.new _ _ _, uns_lt v⟩
      · have := uns_lt v
        have h1 : (10 : Nat) ^ 20 = 100000000000000000000 := by decide
        omega
      · unfold udec
        rw [if_neg (by omega)]
        rfl
    ·
      rintro m l wr ⟨k, u, bs, rfl, hm, hk, hu, hk20, hbs, hud, hE, hbl, hu64⟩
      obtain rfl : u = m := hm.symm
      refine V.seq ?_
      refine V.seq ?_
      refine V.region ?_
      refine L.rd (rd_move rfl) rfl ?_
      refine L.rd (rd_gtr rfl rfl) rfl ?_
      refine L.nil ?_
      refine X.sq ?_
      first | refine V.cond rfl (fun h11 => ?_) (fun h11 => ?_) | refine V.condB rfl (fun h11 => ?_) (fun h11 => ?_)
      ·
        obtain ⟨k', rfl⟩ : ∃ k', k = k' + 1 := by
          cases k with
          | zero => simp at hu; omega
          | succ k' => exact ⟨k', rfl⟩
        have hpow : (10 : Nat) ^ (k' + 1) = 10 ^ k' * 10 := Nat.pow_succ _ _
        refine V.skip ?_
        refine X.sq ?_
        refine V.block ?_
        refine V.seq ?_
        refine V.region ?_
        refine L.rd (rd_move rfl) rfl ?_
        refine L.rd (rd_subE (r := (k' : Int)) rfl rfl (by rw [wrap_i64_in (by omega)]; omega)) rfl ?_
        refine L.rd (rd_assign rfl) rfl ?_
        refine L.nil ?_
        refine X.sq ?_
        refine V.seq ?_
        refine V.region ?_
        refine L.rd (rd_move rfl) rfl ?_
        refine L.rd (rd_move rfl) rfl ?_
        refine L.rd (rd_remE (r := ((u % 10 : Nat) : Int)) rfl rfl (by decide) (by rw [Int.tmod_eq_emod_of_nonneg (by omega)]; omega)) rfl ?_
        refine L.rd (rd_addE (r := ((48 + u % 10 : Nat) : Int)) rfl rfl (by rw [wrap_u64_in (by omega)]; omega)) rfl ?_
        refine L.rd (rd_convE (r := ((48 + u % 10 : Nat) : Int)) tok rfl rfl rfl rfl rfl (wrap_u8_in (by omega))) rfl ?_
        (refine L.rd (rd_indexArr (n := 20) (sz := 1) tok rfl rfl rfl rfl rfl rfl rfl rfl ?_) rfl ?_; omega)
        refine L.ef (e_store (vs := [_]) tok rfl rfl rfl rfl hbl rfl (by simp [Value.oneCell']) (by simp only [bC_len, List.length_cons, List.length_nil]; omega) ?_)
        (simp only [Nat.zero_add, Int.toNat_natCast, Nat.mul_one])
        rw [bC_put _ _ _ (by omega)]
        refine L.nil ?_
        refine X.sq ?_
        refine V.region ?_
        refine L.rd (rd_move rfl) rfl ?_
        refine L.rd (rd_quoE (r := ((u / 10 : Nat) : Int)) rfl rfl (by decide) (by rw [Int.tdiv_eq_ediv_of_nonneg (by omega), wrap_u64_in (by omega)]; omega)) rfl ?_
        refine L.rd (rd_assign rfl) rfl ?_
        refine L.nil ?_
        refine X.bk ?_
        refine X.lp ⟨_, _, ?_, (by repeat' (first | exact trivial | refine ⟨rfl, ?_⟩)), k', u / 10, bs.set k' (48 + u % 10), rfl, rfl, by omega, by omega, by omega, by simpa using hbs, ?_, hE.set (Nat.le_refl _) _ _, hbl.set _ _, by omega⟩
        · omega
        · rw [hud, dgsF_step _ _ _ (by omega), drop_set_here _ _ _ (by omega)]
      ·
        refine V.exit ?_
        refine X.sqExit ?_
        refine X.lpExit ?_
        refine X.bkHere ?_
        refine X.sq ?_
        refine V.seq ?_
        refine V.region ?_
        refine L.rd (rd_move rfl) rfl ?_
        refine L.rd (rd_arrsL (sz := 1) (m := 20) tok rfl rfl rfl rfl rfl rfl rfl rfl (by omega)) rfl ?_
        refine L.rd (rd_bytesStr (xs := bs.drop k) tok rfl rfl rfl rfl rfl rfl rfl rfl rfl (hbl.cells.sub (k * 1) _ (fun j v hv => by rw [Nat.mul_one]; simpa [bC, List.getElem?_drop] using hv)) (by simp [hbs])) rfl ?_
        refine L.rd (rd_assign rfl) rfl ?_
        refine L.nil ?_
        refine X.sq ?_
        refine V.ret ?_
        refine ret_1 Yaam.results118 rfl ?_
        refine ⟨?_, hE⟩
        have hu0 : u = 0 := by omega
        subst hu0
        rw [hud, dgsF_zero]
end Go.Proofs.YbxaawGreat
