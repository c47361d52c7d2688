/-
  Powers and evaluation, walked.
-/
import Derived.Test.YbxacwEvalP
import Derived.Test.YbxacwMtW
import Derived.Test.YbxacwCanW3
set_option linter.unusedVariables false
set_option linter.unusedSimpArgs false
set_option maxRecDepth 10000
namespace Go.Proofs.Ybxacw
open Go.Mw

theorem powMod_step (b : Int) (n : Nat) (hn : n ≤ 4611686018427387904) (ih : ∀ m, m < n → ∀ w, Ret Yacm.prog 118 [.int .i64 b, .int .i64 (m : Nat)] w fun r w' => r = .int .i64 (pw b m) ∧ w = w') (w : World) :
    Ret Yacm.prog 118 [.int .i64 b, .int .i64 (n : Nat)] w fun r w' => r = .int .i64 (pw b n) ∧ w = w' := by
  refine enter2 Yacm.func118 Yacm.ntmps118 (by kernel_rfl) rfl rfl ?_
  refine V.seq ?_
  refine V.region ?_
  refine L.rd (rd_assign rfl) rfl ?_
  refine L.nil ?_
  refine X.sq ?_
  refine V.seq ?_
  refine V.seq ?_
  refine V.region ?_
  refine L.rd (rd_move rfl) rfl ?_
  refine L.rd (rd_leq rfl rfl) rfl ?_
  refine L.nil ?_
  refine X.sq ?_
  first | refine V.cond rfl (fun h10 => ?_) (fun h10 => ?_) | refine V.condB rfl (fun h10 => ?_) (fun h10 => ?_)
  ·
    refine V.seq ?_
    refine V.region ?_
    refine L.rd (rd_assign rfl) rfl ?_
    refine L.nil ?_
    refine X.sq ?_
    refine V.ret ?_
    refine X.sqRet ?_
    refine ret_1 Yacm.results118 rfl ?_
    have h0 : n = 0 := by omega
    subst h0
    exact ⟨by rw [pw_zero], rfl⟩
  ·
    refine V.skip ?_
    refine X.sq ?_
    refine V.seq ?_
    refine V.seq ?_
    refine V.region ?_
    refine L.rd (rd_move rfl) rfl ?_
    refine L.rd (rd_leq rfl rfl) rfl ?_
    refine L.nil ?_
    refine X.sq ?_
    first | refine V.cond rfl (fun h12 => ?_) (fun h12 => ?_) | refine V.condB rfl (fun h12 => ?_) (fun h12 => ?_)
    ·
      refine V.seq ?_
      refine V.region ?_
      refine L.rd (rd_assign rfl) rfl ?_
      refine L.nil ?_
      refine X.sq ?_
      refine V.seq ?_
      refine V.seq ?_
      refine V.region ?_
      refine L.rd (rd_assign rfl) rfl ?_
      refine L.nil ?_
      refine X.sq ?_
      refine V.block ?_
      refine V.loop (fun m l w1 => ∃ (k : Nat), l = [(0, .int .i64 b), (1, .int .i64 n), (5, .int .i64 (pw b k)), (6, .int .i64 k)] ∧ m = n - k ∧ k ≤ n ∧ w = w1) ?_ ?_
      ·
        exact ⟨_, _, by exact ⟨rfl, rfl, by rw [pw_zero]; rfl, rfl, trivial⟩, 0, rfl, rfl, by omega, rfl⟩
      ·
        rintro m l w1 ⟨k, rfl, rfl, hk, rfl⟩
        refine V.seq ?_
        refine V.seq ?_
        refine V.region ?_
        refine L.rd (rd_move rfl) rfl ?_
        refine L.rd (rd_move rfl) rfl ?_
        refine L.rd (rd_lss rfl rfl) rfl ?_
        refine L.nil ?_
        refine X.sq ?_
        first | refine V.cond rfl (fun h15 => ?_) (fun h15 => ?_) | refine V.condB rfl (fun h15 => ?_) (fun h15 => ?_)
        ·
          refine V.skip ?_
          refine X.sq ?_
          refine V.seq ?_
          refine V.block ?_
          refine V.region ?_
          refine L.rd (rd_move rfl) rfl ?_
          refine L.rd (rd_move rfl) rfl ?_
          refine L.rd (rd_mulE (r := pw b (k + 1)) rfl rfl (pw_step b k)) rfl ?_
          refine L.rd (rd_assign rfl) rfl ?_
          refine L.nil ?_
          refine X.bk ?_
          refine X.sq ?_
          refine V.region ?_
          refine L.rd (rd_move rfl) rfl ?_
          refine L.rd (rd_addE (r := ((k + 1 : Nat) : Int)) rfl rfl (by rw [wrap_i64_in (by omega)]; omega)) rfl ?_
          refine L.rd (rd_assign rfl) rfl ?_
          refine L.nil ?_
          exact X.lp ⟨_, _, by omega, (by repeat' (first | exact trivial | refine ⟨rfl, ?_⟩)), k + 1, rfl, rfl, by omega, rfl⟩
        ·
          refine V.exit ?_
          refine X.sqExit ?_
          refine X.lpExit ?_
          refine X.bkHere ?_
          refine X.sq ?_
          refine V.seq ?_
          refine V.region ?_
          refine L.rd (rd_move rfl) rfl ?_
          refine L.rd (rd_assign rfl) rfl ?_
          refine L.nil ?_
          refine X.sq ?_
          refine V.ret ?_
          refine X.sqRet ?_
          refine ret_1 Yacm.results118 rfl ?_
          have hk2 : k = n := by omega
          subst hk2
          exact ⟨rfl, rfl⟩
    ·
      refine V.skip ?_
      refine X.sq ?_
      refine V.seq ?_
      refine V.region ?_
      refine L.rd (rd_move rfl) rfl ?_
      refine L.rd (rd_move rfl) rfl ?_
      refine L.rd (rd_quoE (r := ((n / 2 : Nat) : Int)) rfl rfl (by decide) (by rw [Int.tdiv_eq_ediv_of_nonneg (by omega), wrap_i64_in (by omega)]; omega)) rfl ?_
      refine L.ef (e_call rfl (ih (n / 2) (by omega) _) rfl ?_)
      rintro _ _ ⟨rfl, rfl⟩
      refine L.rd (rd_assign rfl) rfl ?_
      refine L.nil ?_
      refine X.sq ?_
      refine V.seq ?_
      refine V.region ?_
      refine L.rd (rd_move rfl) rfl ?_
      refine L.rd (rd_move rfl) rfl ?_
      refine L.rd (rd_mulE (r := w64 (pw b (n / 2) * pw b (n / 2))) rfl rfl rfl) rfl ?_
      refine L.rd (rd_assign rfl) rfl ?_
      refine L.nil ?_
      refine X.sq ?_
      refine V.seq ?_
      refine V.seq ?_
      refine V.region ?_
      refine L.rd (rd_move rfl) rfl ?_
      refine L.rd (rd_remE (r := ((n % 2 : Nat) : Int)) rfl rfl (by decide) (by rw [Int.tmod_eq_emod_of_nonneg (by omega)]; omega)) rfl ?_
      refine L.rd (rd_eql rfl rfl) rfl ?_
      refine L.nil ?_
      refine X.sq ?_
      first | refine V.cond rfl (fun h31 => ?_) (fun h31 => ?_) | refine V.condB rfl (fun h31 => ?_) (fun h31 => ?_)
      ·
        refine V.region ?_
        refine L.rd (rd_move rfl) rfl ?_
        refine L.rd (rd_move rfl) rfl ?_
        refine L.rd (rd_mulE (r := pw b n) rfl rfl (pw_half1 b n (by omega))) rfl ?_
        refine L.rd (rd_assign rfl) rfl ?_
        refine L.nil ?_
        refine X.sq ?_
        refine V.seq ?_
        refine V.region ?_
        refine L.rd (rd_move rfl) rfl ?_
        refine L.rd (rd_assign rfl) rfl ?_
        refine L.nil ?_
        refine X.sq ?_
        refine V.ret ?_
        refine ret_1 Yacm.results118 rfl ?_
        first | exact ⟨rfl, rfl⟩ | exact ⟨congrArg _ (pw_half b n (by omega)), rfl⟩
      ·
        refine V.skip ?_
        refine X.sq ?_
        refine V.seq ?_
        refine V.region ?_
        refine L.rd (rd_move rfl) rfl ?_
        refine L.rd (rd_assign rfl) rfl ?_
        refine L.nil ?_
        refine X.sq ?_
        refine V.ret ?_
        refine ret_1 Yacm.results118 rfl ?_
        first | exact ⟨rfl, rfl⟩ | exact ⟨congrArg _ (pw_half b n (by omega)), rfl⟩
theorem powMod_ok (b : Int) : ∀ (n : Nat), n ≤ 4611686018427387904 → ∀ w, Ret Yacm.prog 118 [.int .i64 b, .int .i64 (n : Nat)] w fun r w' => r = .int .i64 (pw b n) ∧ w = w' := by
  intro n
  induction n using Nat.strongRecOn with
  | _ n ih => exact fun hn w => powMod_step b n hn (fun m hm => ih m hm (by omega)) w

theorem powWrap_ok (b : Int) (n : Nat) (hn : n ≤ 4611686018427387904) (w : World) : Ret Yacm.prog 93 [.int .i64 b, .int .i64 (n : Nat)] w fun r w' => r = .int .i64 (pw b n) ∧ w = w' := by
  refine enter2 Yacm.func93 Yacm.ntmps93 (by kernel_rfl) rfl rfl ?_
  refine V.seq ?_
  refine V.region ?_
  refine L.rd (rd_assign rfl) rfl ?_
  refine L.nil ?_
  refine X.sq ?_
  refine V.seq ?_
  refine V.region ?_
  refine L.rd (rd_assign rfl) rfl ?_
  refine L.nil ?_
  refine X.sq ?_
  refine V.seq ?_
  refine V.block ?_
  refine V.loop (fun m l w1 => ∃ (r b' : Int) (n' : Nat), l = [(0, .int .i64 b'), (1, .int .i64 n'), (5, .int .i64 r)] ∧ m = n' ∧ n' ≤ n ∧ Pl b n r b' n' ∧ w = w1) ?_ ?_
  ·
    exact ⟨_, _, (by repeat' (first | exact trivial | refine ⟨rfl, ?_⟩)), 1, b, n, rfl, rfl, Nat.le_refl _, Pl.start b n, rfl⟩
  ·
    rintro m l w1 ⟨r, b', n', rfl, hm, hn', hP, rfl⟩
    obtain rfl : n' = m := hm.symm
    refine V.seq ?_
    refine V.seq ?_
    refine V.region ?_
    refine L.rd (rd_move rfl) rfl ?_
    refine L.rd (rd_gtr rfl rfl) rfl ?_
    refine L.nil ?_
    refine X.sq ?_
    first | refine V.cond rfl (fun h7 => ?_) (fun h7 => ?_) | refine V.condB rfl (fun h7 => ?_) (fun h7 => ?_)
    ·
      refine V.skip ?_
      refine X.sq ?_
      refine V.block ?_
      refine V.seq ?_
      refine V.seq ?_
      refine V.region ?_
      refine L.rd (rd_move rfl) rfl ?_
      refine L.rd (rd_remE (r := ((n' % 2 : Nat) : Int)) rfl rfl (by decide) (by rw [Int.tmod_eq_emod_of_nonneg (by omega)]; omega)) rfl ?_
      refine L.rd (rd_eql rfl rfl) rfl ?_
      refine L.nil ?_
      refine X.sq ?_
      first | refine V.cond rfl (fun h10 => ?_) (fun h10 => ?_) | refine V.condB rfl (fun h10 => ?_) (fun h10 => ?_)
      ·
        refine V.region ?_
        refine L.rd (rd_move rfl) rfl ?_
        refine L.rd (rd_move rfl) rfl ?_
        refine L.rd (rd_mulE (r := w64 (r * b')) rfl rfl rfl) rfl ?_
        refine L.rd (rd_assign rfl) rfl ?_
        refine L.nil ?_
        refine X.sq ?_
        refine V.seq ?_
        refine V.region ?_
        refine L.rd (rd_move rfl) rfl ?_
        refine L.rd (rd_move rfl) rfl ?_
        refine L.rd (rd_mulE (r := w64 (b' * b')) rfl rfl rfl) rfl ?_
        refine L.rd (rd_assign rfl) rfl ?_
        refine L.nil ?_
        refine X.sq ?_
        refine V.region ?_
        refine L.rd (rd_move rfl) rfl ?_
        refine L.rd (rd_quoE (r := ((n' / 2 : Nat) : Int)) rfl rfl (by decide) (by rw [Int.tdiv_eq_ediv_of_nonneg (by omega), wrap_i64_in (by omega)]; omega)) rfl ?_
        refine L.rd (rd_assign rfl) rfl ?_
        refine L.nil ?_
        refine X.bk ?_
        first
          | exact X.lp ⟨n' / 2, _, by omega, (by repeat' (first | exact trivial | refine ⟨rfl, ?_⟩)), w64 (r * b'), w64 (b' * b'), n' / 2, rfl, rfl, by omega, hP.odd (by omega), rfl⟩
          | exact X.lp ⟨n' / 2, _, by omega, (by repeat' (first | exact trivial | refine ⟨rfl, ?_⟩)), r, w64 (b' * b'), n' / 2, rfl, rfl, by omega, hP.even (by omega), rfl⟩
      ·
        refine V.skip ?_
        refine X.sq ?_
        refine V.seq ?_
        refine V.region ?_
        refine L.rd (rd_move rfl) rfl ?_
        refine L.rd (rd_move rfl) rfl ?_
        refine L.rd (rd_mulE (r := w64 (b' * b')) rfl rfl rfl) rfl ?_
        refine L.rd (rd_assign rfl) rfl ?_
        refine L.nil ?_
        refine X.sq ?_
        refine V.region ?_
        refine L.rd (rd_move rfl) rfl ?_
        refine L.rd (rd_quoE (r := ((n' / 2 : Nat) : Int)) rfl rfl (by decide) (by rw [Int.tdiv_eq_ediv_of_nonneg (by omega), wrap_i64_in (by omega)]; omega)) rfl ?_
        refine L.rd (rd_assign rfl) rfl ?_
        refine L.nil ?_
        refine X.bk ?_
        first
          | exact X.lp ⟨n' / 2, _, by omega, (by repeat' (first | exact trivial | refine ⟨rfl, ?_⟩)), w64 (r * b'), w64 (b' * b'), n' / 2, rfl, rfl, by omega, hP.odd (by omega), rfl⟩
          | exact X.lp ⟨n' / 2, _, by omega, (by repeat' (first | exact trivial | refine ⟨rfl, ?_⟩)), r, w64 (b' * b'), n' / 2, rfl, rfl, by omega, hP.even (by omega), rfl⟩
    ·
      refine V.exit ?_
      refine X.sqExit ?_
      refine X.lpExit ?_
      refine X.bkHere ?_
      refine X.sq ?_
      refine V.seq ?_
      refine V.region ?_
      refine L.rd (rd_move rfl) rfl ?_
      refine L.rd (rd_assign rfl) rfl ?_
      refine L.nil ?_
      refine X.sq ?_
      refine V.ret ?_
      refine ret_1 Yacm.results93 rfl ?_
      have h0 : n' = 0 := by omega
      subst h0
      exact ⟨by rw [hP.done], rfl⟩

/-- what EvalPoly is to answer -/
def EPost (q : List PT) (pt : List Int) (w : World) (r : Value) (w' : World) : Prop := r = .tuple #[.int .i64 (if evOk q pt = true then evalP q pt else 0), .bool (evOk q pt)] ∧ Ext w.heap.size w w'
theorem EPost.bad {q : List PT} {pt : List Int} {w w' : World} (h : evOk q pt = false) (he : Ext w.heap.size w w') : EPost q pt w (.tuple #[.int .i64 0, .bool false]) w' := ⟨by rw [h]; rfl, he⟩
theorem EPost.good {q : List PT} {pt : List Int} {w w' : World} {s : Int} (h : evOk q pt = true) (he : Ext w.heap.size w w') (hp : evalP q pt = s) : EPost q pt w (.tuple #[.int .i64 s, .bool true]) w' := ⟨by rw [h, if_pos rfl, hp], he⟩

end Go.Proofs.Ybxacw
