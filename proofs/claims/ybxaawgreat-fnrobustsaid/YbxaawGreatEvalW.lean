/-
  Powers and evaluation, walked.
-/
import Derived.Test.YbxaawGreatEvalP
import Derived.Test.YbxaawGreatMtW
import Derived.Test.YbxaawGreatCanW3
set_option linter.unusedVariables false
set_option linter.unusedSimpArgs false
set_option maxRecDepth 10000
namespace Go.Proofs.YbxaawGreat
open Go.Mw

theorem powMod_step (b : Int) (n : Nat) (hn : n ≤ 4611686018427387904) (ih : ∀ m, m < n → ∀ w, Ret Yaam.prog 117 [.int .i64 b, .int .i64 (m : Nat)] w fun r w' => r = .int .i64 (pw b m) ∧ w = w') (w : World) :
    Ret Yaam.prog 117 [.int .i64 b, .int .i64 (n : Nat)] w fun r w' => r = .int .i64 (pw b n) ∧ w = w' := by
  refine enter2 Yaam.func117 Yaam.ntmps117 (by kernel_rfl) rfl rfl ?_
  refine V.seq ?_
  refine V.region ?_
  refine L.rd (rd_assign rfl) rfl ?_
  refine L.nil ?_
  refine X.sq ?_
  refine V.seq ?_
  refine V.seq ?_
  refine V.region ?_
  refine L.rd (rd_move rfl) rfl ?_
  refine L.rd (rd_leq rfl rfl) rfl ?_
  refine L.nil ?_
  refine X.sq ?_
  first | refine V.cond rfl (fun h10 => ?_) (fun h10 => ?_) | refine V.condB rfl (fun h10 => ?_) (fun h10 => ?_)
  ·
    refine V.seq ?_
    refine V.region ?_
    refine L.rd (rd_assign rfl) rfl ?_
    refine L.nil ?_
    refine X.sq ?_
    refine V.ret ?_
    refine X.sqRet ?_
    refine ret_1 Yaam.results117 rfl ?_
    have h0 : n = 0 := by omega
    subst h0
    exact ⟨by rw [pw_zero], rfl⟩
  ·
    refine V.skip ?_
    refine X.sq ?_
    refine V.seq ?_
    refine V.seq ?_
    refine V.region ?_
    refine L.rd (rd_move rfl) rfl ?_
    refine L.rd (rd_leq rfl rfl) rfl ?_
    refine L.nil ?_
    refine X.sq ?_
    first | refine V.cond rfl (fun h12 => ?_) (fun h12 => ?_) | refine V.condB rfl (fun h12 => ?_) (fun h12 => ?_)
    ·
      refine V.seq ?_
      refine V.region ?_
      refine L.rd (rd_assign rfl) rfl ?_
      refine L.nil ?_
      refine X.sq ?_
      refine V.seq ?_
      refine V.seq ?_
      refine V.region ?_
      refine L.rd (rd_assign rfl) rfl ?_
      refine L.nil ?_
      refine X.sq ?_
      refine V.block ?_
      refine V.loop (fun m l w1 => ∃ (k : Nat), l = [(0, .int .i64 b), (1, .int .i64 n), (5, .int .i64 (pw b k)), (6, .int .i64 k)] ∧ m = n - k ∧ k ≤ n ∧ w = w1) ?_ ?_
      ·
        exact ⟨_, _, by exact ⟨rfl, rfl, by rw [pw_zero]; rfl, rfl, trivial⟩, 0, rfl, rfl, by omega, rfl⟩
      ·
        rintro m l w1 ⟨k, rfl, rfl, hk, rfl⟩
        refine V.seq ?_
        refine V.seq ?_
        refine V.region ?_
        refine L.rd (rd_move rfl) rfl ?_
        refine L.rd (rd_move rfl) rfl ?_
        refine L.rd (rd_lss rfl rfl) rfl ?_
        refine L.nil ?_
        refine X.sq ?_
        first | refine V.cond rfl (fun h15 => ?_) (fun h15 => ?_) | refine V.condB rfl (fun h15 => ?_) (fun h15 => ?_)
        ·
          refine V.skip ?_
          refine X.sq ?_
          refine V.seq ?_
          refine V.block ?_
          refine V.region ?_
          refine L.rd (rd_move rfl) rfl ?_
          refine L.rd (rd_move rfl) rfl ?_
          refine L.rd (rd_mulE (r := pw b (k + 1)) rfl rfl (pw_step b k)) rfl ?_
          refine L.rd (rd_assign rfl) rfl ?_
          refine L.nil ?_
          refine X.bk ?_
          refine X.sq ?_
          refine V.region ?_
          refine L.rd (rd_move rfl) rfl ?_
          refine L.rd (rd_addE (r := ((k + 1 : Nat) : Int)) rfl rfl (by rw [wrap_i64_in (by omega)]; omega)) rfl ?_
          refine L.rd (rd_assign rfl) rfl ?_
          refine L.nil ?_
          exact X.lp ⟨_, _, by omega, (by repeat' (first | exact trivial | refine ⟨rfl, ?_⟩)), k + 1, rfl, rfl, by omega, rfl⟩
        ·
          refine V.exit ?_
          refine X.sqExit ?_
          refine X.lpExit ?_
          refine X.bkHere ?_
          refine X.sq ?_
          refine V.seq ?_
          refine V.region ?_
          refine L.rd (rd_move rfl) rfl ?_
          refine L.rd (rd_assign rfl) rfl ?_
          refine L.nil ?_
          refine X.sq ?_
          refine V.ret ?_
          refine X.sqRet ?_
          refine ret_1 Yaam.results117 rfl ?_
          have hk2 : k = n := by omega
          subst hk2
          exact ⟨rfl, rfl⟩
    ·
      refine V.skip ?_
      refine X.sq ?_
      refine V.seq ?_
      refine V.region ?_
      refine L.rd (rd_move rfl) rfl ?_
      refine L.rd (rd_move rfl) rfl ?_
      refine L.rd (rd_quoE (r := ((n / 2 : Nat) : Int)) rfl rfl (by decide) (by rw [Int.tdiv_eq_ediv_of_nonneg (by omega), wrap_i64_in (by omega)]; omega)) rfl ?_
      refine L.ef (e_call rfl (ih (n / 2) (by omega) _) rfl ?_)
      rintro _ _ ⟨rfl, rfl⟩
      refine L.rd (rd_assign rfl) rfl ?_
      refine L.nil ?_
      refine X.sq ?_
      refine V.seq ?_
      refine V.region ?_
      refine L.rd (rd_move rfl) rfl ?_
      refine L.rd (rd_move rfl) rfl ?_
      refine L.rd (rd_mulE (r := w64 (pw b (n / 2) * pw b (n / 2))) rfl rfl rfl) rfl ?_
      refine L.rd (rd_assign rfl) rfl ?_
      refine L.nil ?_
      refine X.sq ?_
      refine V.seq ?_
      refine V.seq ?_
      refine V.region ?_
      refine L.rd (rd_move rfl) rfl ?_
      refine L.rd (rd_remE (r := ((n % 2 : Nat) : Int)) rfl rfl (by decide) (by rw [Int.tmod_eq_emod_of_nonneg (by omega)]; omega)) rfl ?_
      refine L.rd (rd_eql rfl rfl) rfl ?_
      refine L.nil ?_
      refine X.sq ?_
      first | refine V.cond rfl (fun h31 => ?_) (fun h31 => ?_) | refine V.condB rfl (fun h31 => ?_) (fun h31 => ?_)
      ·
        refine V.region ?_
        refine L.rd (rd_move rfl) rfl ?_
        refine L.rd (rd_move rfl) rfl ?_
        refine L.rd (rd_mulE (r := pw b n) rfl rfl (pw_half1 b n (by omega))) rfl ?_
        refine L.rd (rd_assign rfl) rfl ?_
        refine L.nil ?_
        refine X.sq ?_
        refine V.seq ?_
        refine V.region ?_
        refine L.rd (rd_move rfl) rfl ?_
        refine L.rd (rd_assign rfl) rfl ?_
        refine L.nil ?_
        refine X.sq ?_
        refine V.ret ?_
        refine ret_1 Yaam.results117 rfl ?_
        first | exact ⟨rfl, rfl⟩ | exact ⟨congrArg _ (pw_half b n (by omega)), rfl⟩
      ·
        refine V.skip ?_
        refine X.sq ?_
        refine V.seq ?_
        refine V.region ?_
        refine L.rd (rd_move rfl) rfl ?_
        refine L.rd (rd_assign rfl) rfl ?_
        refine L.nil ?_
        refine X.sq ?_
        refine V.ret ?_
        refine ret_1 Yaam.results117 rfl ?_
        first | exact ⟨rfl, rfl⟩ | exact ⟨congrArg _ (pw_half b n (by omega)), rfl⟩
theorem powMod_ok (b : Int) : ∀ (n : Nat), n ≤ 4611686018427387904 → ∀ w, Ret Yaam.prog 117 [.int .i64 b, .int .i64 (n : Nat)] w fun r w' => r = .int .i64 (pw b n) ∧ w = w' := by
  intro n
  induction n using Nat.strongRecOn with
  | _ n ih => exact fun hn w => powMod_step b n hn (fun m hm => ih m hm (by omega)) w

theorem powWrap_ok (b : Int) (n : Nat) (hn : n ≤ 4611686018427387904) (w : World) : Ret Yaam.prog 84 [.int .i64 b, .int .i64 (n : Nat)] w fun r w' => r = .int .i64 (pw b n) ∧ w = w' := by
  refine enter2 Yaam.func84 Yaam.ntmps84 (by kernel_rfl) rfl rfl ?_
  refine V.seq ?_
  refine V.region ?_
  refine L.rd (rd_assign rfl) rfl ?_
  refine L.nil ?_
  refine X.sq ?_
  refine V.seq ?_
  refine V.region ?_
  refine L.rd (rd_assign rfl) rfl ?_
  refine L.nil ?_
  refine X.sq ?_
  refine V.seq ?_
  refine V.block ?_
  refine V.loop (fun m l w1 => ∃ (r b' : Int) (n' : Nat), l = [(0, .int .i64 b'), (1, .int .i64 n'), (5, .int .i64 r)] ∧ m = n' ∧ n' ≤ n ∧ Pl b n r b' n' ∧ w = w1) ?_ ?_
  ·
    exact ⟨_, _, (by repeat' (first | exact trivial | refine ⟨rfl, ?_⟩)), 1, b, n, rfl, rfl, Nat.le_refl _, Pl.start b n, rfl⟩
  ·
    rintro m l w1 ⟨r, b', n', rfl, hm, hn', hP, rfl⟩
    obtain rfl : n' = m := hm.symm
    refine V.seq ?_
    refine V.seq ?_
    refine V.region ?_
    refine L.rd (rd_move rfl) rfl ?_
    refine L.rd (rd_gtr rfl rfl) rfl ?_
    refine L.nil ?_
    refine X.sq ?_
    first | refine V.cond rfl (fun h7 => ?_) (fun h7 => ?_) | refine V.condB rfl (fun h7 => ?_) (fun h7 => ?_)
    ·
      refine V.skip ?_
      refine X.sq ?_
      refine V.block ?_
      refine V.seq ?_
      refine V.seq ?_
      refine V.region ?_
      refine L.rd (rd_move rfl) rfl ?_
      refine L.rd (rd_remE (r := ((n' % 2 : Nat) : Int)) rfl rfl (by decide) (by rw [Int.tmod_eq_emod_of_nonneg (by omega)]; omega)) rfl ?_
      refine L.rd (rd_eql rfl rfl) rfl ?_
      refine L.nil ?_
      refine X.sq ?_
      first | refine V.cond rfl (fun h10 => ?_) (fun h10 => ?_) | refine V.condB rfl (fun h10 => ?_) (fun h10 => ?_)
      ·
        refine V.region ?_
        refine L.rd (rd_move rfl) rfl ?_
        refine L.rd (rd_move rfl) rfl ?_
        refine L.rd (rd_mulE (r := w64 (r * b')) rfl rfl rfl) rfl ?_
        refine L.rd (rd_assign rfl) rfl ?_
        refine L.nil ?_
        refine X.sq ?_
        refine V.seq ?_
        refine V.region ?_
        refine L.rd (rd_move rfl) rfl ?_
        refine L.rd (rd_move rfl) rfl ?_
        refine L.rd (rd_mulE (r := w64 (b' * b')) rfl rfl rfl) rfl ?_
        refine L.rd (rd_assign rfl) rfl ?_
        refine L.nil ?_
        refine X.sq ?_
        refine V.region ?_
        refine L.rd (rd_move rfl) rfl ?_
        refine L.rd (rd_quoE (r := ((n' / 2 : Nat) : Int)) rfl rfl (by decide) (by rw [Int.tdiv_eq_ediv_of_nonneg (by omega), wrap_i64_in (by omega)]; omega)) rfl ?_
        refine L.rd (rd_assign rfl) rfl ?_
        refine L.nil ?_
        refine X.bk ?_
        first
          | exact X.lp ⟨n' / 2, _, by omega, (by repeat' (first | exact trivial | refine ⟨rfl, ?_⟩)), w64 (r * b'), w64 (b' * b'), n' / 2, rfl, rfl, by omega, hP.odd (by omega), rfl⟩
          | exact X.lp ⟨n' / 2, _, by omega, (by repeat' (first | exact trivial | refine ⟨rfl, ?_⟩)), r, w64 (b' * b'), n' / 2, rfl, rfl, by omega, hP.even (by omega), rfl⟩
      ·
        refine V.skip ?_
        refine X.sq ?_
        refine V.seq ?_
        refine V.region ?_
        refine L.rd (rd_move rfl) rfl ?_
        refine L.rd (rd_move rfl) rfl ?_
        refine L.rd (rd_mulE (r := w64 (b' * b')) rfl rfl rfl) rfl ?_
        refine L.rd (rd_assign rfl) rfl ?_
        refine L.nil ?_
        refine X.sq ?_
        refine V.region ?_
        refine L.rd (rd_move rfl) rfl ?_
        refine L.rd (rd_quoE (r := ((n' / 2 : Nat) : Int)) rfl rfl (by decide) (by rw [Int.tdiv_eq_ediv_of_nonneg (by omega), wrap_i64_in (by omega)]; omega)) rfl ?_
        refine L.rd (rd_assign rfl) rfl ?_
        refine L.nil ?_
        refine X.bk ?_
        first
          | exact X.lp ⟨n' / 2, _, by omega, (by repeat' (first | exact trivial | refine ⟨rfl, ?_⟩)), w64 (r * b'), w64 (b' * b'), n' / 2, rfl, rfl, by omega, hP.odd (by omega), rfl⟩
          | exact X.lp ⟨n' / 2, _, by omega, (by repeat' (first | exact trivial | refine ⟨rfl, ?_⟩)), r, w64 (b' * b'), n' / 2, rfl, rfl, by omega, hP.even (by omega), rfl⟩
    ·
      refine V.exit ?_
      refine X.sqExit ?_
      refine X.lpExit ?_
      refine X.bkHere ?_
      refine X.sq ?_
      refine V.seq ?_
      refine V.region ?_
      refine L.rd (rd_move rfl) rfl ?_
      refine L.rd (rd_assign rfl) rfl ?_
      refine L.nil ?_
      refine X.sq ?_
      refine V.ret ?_
      refine ret_1 Yaam.results84 rfl ?_
      have h0 : n' = 0 := by omega
      subst h0
      exact ⟨by rw [hP.done], rfl⟩

/-- what EvalPoly is to answer -/
def EPost (q : List PT) (pt : List Int) (w : World) (r : Value) (w' : World) : Prop := r = .tuple #[.int .i64 (if evOk q pt = true then evalP q pt else 0), .bool (evOk q pt)] ∧ Ext w.heap.size w w'
theorem EPost.bad {q : List PT} {pt : List Int} {w w' : World} (h : evOk q pt = false) (he : Ext w.heap.size w w') : EPost q pt w (.tuple #[.int .i64 0, .bool false]) w' := ⟨by rw [h]; rfl, he⟩
theorem EPost.good {q : List PT} {pt : List Int} {w w' : World} {s : Int} (h : evOk q pt = true) (he : Ext w.heap.size w w') (hp : evalP q pt = s) : EPost q pt w (.tuple #[.int .i64 s, .bool true]) w' := ⟨by rw [h, if_pos rfl, hp], he⟩

theorem ieval_ok (va vp : Value) (Ls : List Lt) (pt : List Int) (w : World) {lo hi : Nat} (hT : Tl w lo hi va Ls) (hS : Sm (pol Ls)) (hP : Rs w 1 vp pt.length (iC .i64 pt)) : Ret Yaam.prog 69 [.agg #[va], vp] w (EPost (pol Ls) pt w) := by
  obtain ⟨aa, ca, rfl, hfa⟩ := hT.form
  obtain ⟨pa, pc, rfl, hfp⟩ := hP.form
  refine enter2 Yaam.func69 Yaam.ntmps69 (by kernel_rfl) rfl rfl ?_
  refine V.seq ?_
  refine V.region ?_
  refine L.ef (e_box (cs := [_]) rfl rfl (by first | (simp only [size_addB, size_setB, size_drew]; rfl) | rfl) rfl ?_)
  refine L.rd (rd_assign rfl) rfl ?_
  refine L.rd (rd_assign rfl) rfl ?_
  refine L.nil ?_
  refine X.sq ?_
  refine V.seq ?_
  refine V.seq ?_
  have hp := Bl.new w 44 [.slice aa Ls.length ca]
  have hE := (Ext.refl _ w).addNew 44 [.slice aa Ls.length ca]
  refine V.region ?_
  refine L.rd (rd_loadN tok rfl rfl rfl hp.cells rfl) rfl ?_
  refine L.ef (e_call rfl (ican_ok _ Ls _ (hT.ext hE) hS) rfl ?_)
  rintro _ w1 ⟨rfl, he1⟩
  replace hp := he1.bl hp.lt hp
  replace hE := hE.next he1
  first | refine L.rd (rd_not rfl) rfl ?_ | refine L.rd (rd_notB rfl) rfl ?_
  refine L.rd (rd_move rfl) rfl ?_
  first | refine L.partG rfl rfl (fun g15 => ?_) (fun g15 => ?_) | refine L.partGB rfl rfl (fun g15 => ?_) (fun g15 => ?_)
  ·
    refine L.no rfl rfl rfl rfl ?_
    refine L.no rfl rfl rfl rfl ?_
    refine L.no rfl rfl rfl rfl ?_
    refine L.rd (rd_pickT rfl rfl) rfl ?_
    refine L.nil ?_
    refine X.sq ?_
    refine V.condT rfl ?_
    refine V.seq ?_
    refine V.region ?_
    refine L.rd (rd_assign rfl) rfl ?_
    refine L.rd (rd_assign rfl) rfl ?_
    refine L.nil ?_
    refine X.sq ?_
    refine V.ret ?_
    refine X.sqRet ?_
    refine ret_2 Yaam.results69 rfl rfl ?_
    refine EPost.bad ?_ hE
    unfold evOk
    first | (have hc : canon (pol Ls) = false := by simpa using g15
             rw [hc]; rfl)
          | (rw [decide_eq_false (by omega)]; simp)
  ·
    have hC : canon (pol Ls) = true := by simpa using g15
    have hL : Ls.length ≤ 4096 := by have := canon_len hC; rwa [pol_length] at this
    refine L.yes rfl rfl ?_
    refine L.rd (rd_move rfl) rfl ?_
    refine L.yes rfl rfl ?_
    refine L.rd (rd_lenSlice tok rfl rfl rfl) rfl ?_
    refine L.yes rfl rfl ?_
    refine L.rd (rd_neq rfl rfl) rfl ?_
    refine L.rd (rd_pickF rfl rfl) rfl ?_
    refine L.nil ?_
    refine X.sq ?_
    first | refine V.cond rfl (fun h19 => ?_) (fun h19 => ?_) | refine V.condB rfl (fun h19 => ?_) (fun h19 => ?_)
    ·
      refine V.seq ?_
      refine V.region ?_
      refine L.rd (rd_assign rfl) rfl ?_
      refine L.rd (rd_assign rfl) rfl ?_
      refine L.nil ?_
      refine X.sq ?_
      refine V.ret ?_
      refine X.sqRet ?_
      refine ret_2 Yaam.results69 rfl rfl ?_
      refine EPost.bad ?_ hE
      unfold evOk
      first | (have hc : canon (pol Ls) = false := by simpa using g15
               rw [hc]; rfl)
            | (rw [decide_eq_false (by omega)]; simp)
    ·
      refine V.skip ?_
      refine X.sq ?_
      refine V.seq ?_
      have hlp : pt.length = 26 := by omega
      have hok : evOk (pol Ls) pt = true := by unfold evOk; rw [hC, decide_eq_true hlp]; rfl
      obtain ⟨pb, po, rfl, hcp⟩ := hfp.resolve_left (by omega)
      refine V.region ?_
      refine L.rd (rd_assign rfl) rfl ?_
      refine L.nil ?_
      refine X.sq ?_
      refine V.seq ?_
      refine V.seq ?_
      refine V.region ?_
      refine L.rd (rd_fieldAddr tok rfl rfl rfl rfl rfl rfl) rfl ?_
      refine L.rd (rd_load1 tok rfl rfl rfl (hp.cell rfl)) rfl ?_
      refine L.rd (rd_lenSlice tok rfl rfl rfl) rfl ?_
      refine L.rd (rd_move rfl) rfl ?_
      refine L.nil ?_
      refine X.sq ?_
      refine V.block ?_
      refine V.loop (fun m l w2 => ∃ (k : Nat) (s : Int), l = [(1, .slice (some ⟨pb, po, none⟩) pt.length pc), (6, .int .i64 s), (21, .slice aa Ls.length ca), (22, .int .i64 Ls.length), (23, .int .i64 k)] ∧ m = Ls.length - k ∧ k ≤ Ls.length ∧ Ext w.heap.size w w2 ∧ evalP (pol Ls) pt = evQ pt ((pol Ls).drop k) s) ?_ ?_
      ·
        exact ⟨_, _, (by repeat' (first | exact trivial | refine ⟨rfl, ?_⟩)), 0, 0, rfl, rfl, by omega, hE, rfl⟩
      ·
        clear hE hp
        rintro m l w2 ⟨k, s, rfl, rfl, hk, hE, hev⟩
        refine V.seq ?_
        refine V.region ?_
        refine L.rd (rd_lss rfl rfl) rfl ?_
        refine L.nil ?_
        refine X.sq ?_
        refine V.seq ?_
        first | refine V.cond rfl (fun h24 => ?_) (fun h24 => ?_) | refine V.condB rfl (fun h24 => ?_) (fun h24 => ?_)
        ·
          obtain ⟨b1, o1, rfl, -, -, hc1⟩ := hfa.resolve_left (by omega)
          obtain ⟨⟨c, fv, fs⟩, ht⟩ := nth_of_lt Ls k (by omega)
          have hcx := Tl.cells (hc1.le hE.leC) ht
          have hCT := canon_nth hC (pol_get ht)
          have hfsl := hCT.len
          have hfm := hCT.mem
          obtain ⟨fa, fc, hfv, hff⟩ := hT.nth ht
          rw [drop_cons (pol_get ht), evQ] at hev
          simp only at hfv hff hcx hev hfsl hfm
          subst hfv
          refine V.skip ?_
          refine X.sq ?_
          refine V.seq ?_
          refine V.block ?_
          refine V.seq ?_
          refine V.region ?_
          (refine L.rd (rd_indexSlice (sz := 2) tok rfl rfl rfl rfl rfl rfl rfl ?_) rfl ?_; omega)
          refine L.rd (rd_loadN tok rfl rfl rfl hcx rfl) rfl ?_
          refine L.ef (e_alloc (cs := [_, _]) tok rfl rfl (by first | (simp only [size_addB, size_setB, size_drew]; rfl) | rfl) rfl ?_)
          refine L.ef (e_store (vs := [_, _]) tok rfl rfl rfl rfl (by (repeat (first | assumption | (refine Bl.new' ?_ _ _; first | with_reducible rfl | (simp only [size_addB, size_setB, size_drew]; done)) | apply Bl.add | apply Bl.drew | (apply Bl.setNe; omega) | (refine Bl.set' ?_ _ _; (try simp only [size_addB, size_setB, size_drew]); omega)))) rfl (by simp [Value.oneCell']) (by simp) ?_)
          refine L.nil ?_
          refine X.sq ?_
          refine V.seq ?_
          refine V.region ?_
          refine L.rd (rd_fieldAddr tok rfl rfl rfl rfl rfl rfl) rfl ?_
          refine L.rd (rd_load1 tok rfl rfl rfl (by first | assumption | exact Bl.cell (by (repeat (first | assumption | (refine Bl.new' ?_ _ _; first | with_reducible rfl | (simp only [size_addB, size_setB, size_drew]; done)) | apply Bl.add | apply Bl.drew | (apply Bl.setNe; omega) | (refine Bl.set' ?_ _ _; (try simp only [size_addB, size_setB, size_drew]); omega)))) rfl)) rfl ?_
          refine L.rd (rd_assign rfl) rfl ?_
          refine L.nil ?_
          refine X.sq ?_
          refine V.seq ?_
          refine V.seq ?_
          refine V.region ?_
          refine L.rd (rd_fieldAddr tok rfl rfl rfl rfl rfl rfl) rfl ?_
          refine L.rd (rd_load1 tok rfl rfl rfl (by first | assumption | exact Bl.cell (by (repeat (first | assumption | (refine Bl.new' ?_ _ _; first | with_reducible rfl | (simp only [size_addB, size_setB, size_drew]; done)) | apply Bl.add | apply Bl.drew | (apply Bl.setNe; omega) | (refine Bl.set' ?_ _ _; (try simp only [size_addB, size_setB, size_drew]); omega)))) rfl)) rfl ?_
          refine L.rd (rd_lenSlice tok rfl rfl rfl) rfl ?_
          refine L.rd (rd_move rfl) rfl ?_
          refine L.nil ?_
          refine X.sq ?_
          refine V.block ?_
          refine V.loop (fun m l w3 => ∃ (j : Nat) (x : Int), l = [(1, .slice (some ⟨pb, po, none⟩) pt.length pc), (6, .int .i64 s), (9, .int .i64 x), (21, .slice (some ⟨b1, o1, none⟩) Ls.length ca), (22, .int .i64 Ls.length), (23, .int .i64 k), (30, .slice fa fs.length fc), (31, .int .i64 fs.length), (32, .int .i64 j)] ∧ m = fs.length - j ∧ j ≤ fs.length ∧ Ext w.heap.size w w3 ∧ evF pt fs c = evF pt (fs.drop j) x) ?_ ?_
          ·
            exact ⟨_, _, (by repeat' (first | exact trivial | refine ⟨rfl, ?_⟩)), 0, c, rfl, rfl, by omega, (by have hsz_ := hE.size; repeat (first | assumption | refine Ext.drew ?_ | refine Ext.addNew ?_ _ _ | (refine Ext.set ?_ ?_ _ _; rotate_left; (try simp only [size_addB, size_setB, size_drew]); omega))), rfl⟩
          ·
            clear hE
            rintro m l w3 ⟨j, x, rfl, rfl, hj, hE, hef⟩
            refine V.seq ?_
            refine V.region ?_
            refine L.rd (rd_lss rfl rfl) rfl ?_
            refine L.nil ?_
            refine X.sq ?_
            refine V.seq ?_
            first | refine V.cond rfl (fun h33 => ?_) (fun h33 => ?_) | refine V.condB rfl (fun h33 => ?_) (fun h33 => ?_)
            ·
              obtain ⟨b2, o2, rfl, -, -, hc2⟩ := hff.resolve_left (by omega)
              obtain ⟨⟨fva, fpo⟩, hf⟩ := nth_of_lt fs j (by omega)
              have hcf := (hc2.le hE.leC).sub (j * 2) _ (pr_get fs j _ hf)
              have hfr := hfm _ (List.mem_of_getElem? hf)
              rw [drop_cons hf, evF] at hef
              simp only at hfr hcf hef
              obtain ⟨y, hy⟩ := nth_of_lt pt fva.toNat (by omega)
              have hyv : ptv pt fva = y := by unfold ptv; rw [List.getD_eq_getElem?_getD, hy]; rfl
              have hEf : Ext w3.heap.size w3 (setB (addB w3 93 [Value.int .i64 0, .int .i64 0]) w3.heap.size 93 (putAt [Value.int .i64 0, .int .i64 0] 0 [Value.int .i64 fva, .int .i64 fpo])) := ((Ext.refl _ _).addNew _ _).set (Nat.le_refl _) _ _
              have hcy := hcp.le (hE.next hEf).leC
              rw [hyv] at hef
              obtain ⟨n, rfl⟩ : ∃ n : Nat, fpo = n := ⟨fpo.toNat, by omega⟩
              rw [Int.toNat_natCast] at hef
              refine V.skip ?_
              refine X.sq ?_
              refine V.seq ?_
              refine V.block ?_
              refine V.seq ?_
              refine V.region ?_
              (refine L.rd (rd_indexSlice (sz := 2) tok rfl rfl rfl rfl rfl rfl rfl ?_) rfl ?_; omega)
              refine L.rd (rd_loadN tok rfl rfl rfl hcf rfl) rfl ?_
              refine L.ef (e_alloc (cs := [_, _]) tok rfl rfl (by first | (simp only [size_addB, size_setB, size_drew]; rfl) | rfl) rfl ?_)
              refine L.ef (e_store (vs := [_, _]) tok rfl rfl rfl rfl (by (repeat (first | assumption | (refine Bl.new' ?_ _ _; first | with_reducible rfl | (simp only [size_addB, size_setB, size_drew]; done)) | apply Bl.add | apply Bl.drew | (apply Bl.setNe; omega) | (refine Bl.set' ?_ _ _; (try simp only [size_addB, size_setB, size_drew]); omega)))) rfl (by simp [Value.oneCell']) (by simp) ?_)
              refine L.nil ?_
              refine X.sq ?_
              refine V.draw [] mixed ?_
              refine D.take 0 [true, false, false, false, false, false, false, false, false, false, false] (.bk (.sq (.lp (.bk (.sq (.bk (.sq (.lp (.bk (.sq .bd)))))))))) rfl (rd_move rfl) rfl (by kernel_rfl) rfl (LeC.drew _) ?_
              refine D.take 1 [true, true, false, false, false, false, false, false, false, false, false] (.bk (.sq (.lp (.bk (.sq (.bk (.sq (.lp (.bk (.sq .bd)))))))))) rfl (rd_move rfl) rfl (by kernel_rfl) rfl (LeC.drew _) ?_
              refine D.take 2 [true, true, true, false, false, false, false, false, false, false, false] (.bk (.sq (.lp (.bk (.sq (.bk (.sq (.lp (.bk (.sq .bd)))))))))) rfl (rd_fieldAddr tok rfl rfl rfl rfl rfl rfl) rfl (by kernel_rfl) rfl (LeC.drew _) ?_
              refine D.take 3 [true, true, true, true, false, false, false, false, false, false, false] (.bk (.sq (.lp (.bk (.sq (.bk (.sq (.lp (.bk (.sq .bd)))))))))) rfl (rd_load1 tok rfl rfl rfl (by first | assumption | exact Bl.cell (by (repeat (first | assumption | (refine Bl.new' ?_ _ _; first | with_reducible rfl | (simp only [size_addB, size_setB, size_drew]; done)) | apply Bl.add | apply Bl.drew | (apply Bl.setNe; omega) | (refine Bl.set' ?_ _ _; (try simp only [size_addB, size_setB, size_drew]); omega)))) rfl)) rfl (by kernel_rfl) rfl (LeC.drew _) ?_
              (refine D.take 4 [true, true, true, true, true, false, false, false, false, false, false] (.bk (.sq (.lp (.bk (.sq (.bk (.sq (.lp (.bk (.sq .bd)))))))))) rfl (rd_indexSlice (sz := 1) tok rfl rfl rfl rfl rfl rfl rfl ?_) rfl (by kernel_rfl) rfl (LeC.drew _) ?_; omega)
              refine D.take 5 [true, true, true, true, true, true, false, false, false, false, false] (.bk (.sq (.lp (.bk (.sq (.bk (.sq (.lp (.bk (.sq .bd)))))))))) rfl (rd_load1 tok rfl rfl rfl (cells_at hcy (iC_get hy) (by simp))) rfl (by kernel_rfl) rfl (LeC.drew _) ?_
              refine D.take 6 [true, true, true, true, true, true, true, false, false, false, false] (.bk (.sq (.lp (.bk (.sq (.bk (.sq (.lp (.bk (.sq .bd)))))))))) rfl (rd_fieldAddr tok rfl rfl rfl rfl rfl rfl) rfl (by kernel_rfl) rfl (LeC.drew _) ?_
              refine D.take 7 [true, true, true, true, true, true, true, true, false, false, false] (.bk (.sq (.lp (.bk (.sq (.bk (.sq (.lp (.bk (.sq .bd)))))))))) rfl (rd_load1 tok rfl rfl rfl (by first | assumption | exact Bl.cell (by (repeat (first | assumption | (refine Bl.new' ?_ _ _; first | with_reducible rfl | (simp only [size_addB, size_setB, size_drew]; done)) | apply Bl.add | apply Bl.drew | (apply Bl.setNe; omega) | (refine Bl.set' ?_ _ _; (try simp only [size_addB, size_setB, size_drew]); omega)))) rfl)) rfl (by kernel_rfl) rfl (LeC.drew _) ?_
              refine D.one 8 [true, true, true, true, true, true, true, true, true, false, false] rfl (by kernel_rfl) rfl (e_call rfl (powWrap_ok y n (by omega) _) rfl ?_)
              rintro _ _ ⟨rfl, rfl⟩
              refine ⟨fun _ => (LeC.drew _), ?_⟩
              refine D.take 9 [true, true, true, true, true, true, true, true, true, true, false] (.bk (.sq (.lp (.bk (.sq (.bk (.sq (.lp (.bk (.sq .bd)))))))))) rfl (rd_mulE (r := w64 (x * pw y n)) rfl rfl rfl) rfl (by kernel_rfl) rfl (LeC.drew _) ?_
              refine D.take 10 [true, true, true, true, true, true, true, true, true, true, true] (.bk (.sq (.lp (.bk (.sq (.bk (.sq (.lp (.bk (.sq .bd)))))))))) rfl (rd_assign rfl) rfl (by kernel_rfl) rfl (LeC.drew _) ?_
              refine D.done (by kernel_rfl) ?_
              refine X.bk ?_
              refine X.sq ?_
              refine V.region ?_
              (refine L.rd (rd_add3 rfl rfl ?_) rfl ?_; omega)
              refine L.rd (rd_move rfl) rfl ?_
              refine L.nil ?_
              exact X.lp ⟨_, _, by omega, (by repeat' (first | exact trivial | refine ⟨rfl, ?_⟩)), j + 1, _, rfl, rfl, by omega, (hE.next hEf).drew, hef⟩
            ·
              refine V.exit ?_
              refine X.sqExit ?_
              refine X.lpExit ?_
              refine X.bkHere ?_
              refine X.sq ?_
              rw [drop_end (by omega)] at hef
              simp only [evF] at hef
              refine V.region ?_
              refine L.rd (rd_move rfl) rfl ?_
              refine L.rd (rd_move rfl) rfl ?_
              refine L.rd (rd_addE (r := w64 (s + x)) rfl rfl rfl) rfl ?_
              refine L.rd (rd_assign rfl) rfl ?_
              refine L.nil ?_
              refine X.bk ?_
              refine X.sq ?_
              refine V.region ?_
              (refine L.rd (rd_add3 rfl rfl ?_) rfl ?_; omega)
              refine L.rd (rd_move rfl) rfl ?_
              refine L.nil ?_
              exact X.lp ⟨_, _, by omega, (by repeat' (first | exact trivial | refine ⟨rfl, ?_⟩)), k + 1, _, rfl, rfl, by omega, hE, by rw [hev, hef]⟩
        ·
          refine V.exit ?_
          refine X.sqExit ?_
          refine X.lpExit ?_
          refine X.bkHere ?_
          refine X.sq ?_
          refine V.seq ?_
          refine V.region ?_
          refine L.rd (rd_move rfl) rfl ?_
          refine L.rd (rd_assign rfl) rfl ?_
          refine L.rd (rd_assign rfl) rfl ?_
          refine L.nil ?_
          refine X.sq ?_
          refine V.ret ?_
          refine ret_2 Yaam.results69 rfl rfl ?_
          refine EPost.good hok hE ?_
          rw [hev, drop_end (by rw [pol_length]; omega)]; rfl

theorem seval_ok (va vp : Value) (Ls : List Lt) (pt : List Int) (w : World) {lo hi : Nat} (hT : Tl w lo hi va Ls) (hS : Sm (pol Ls)) (hP : Rs w 1 vp pt.length (iC .i64 pt)) : Ret Yaam.prog 70 [.agg #[va], vp] w (EPost (pol Ls) pt w) := by
  obtain ⟨aa, ca, rfl, hfa⟩ := hT.form
  obtain ⟨pa, pc, rfl, hfp⟩ := hP.form
  refine enter2 Yaam.func70 Yaam.ntmps70 (by kernel_rfl) rfl rfl ?_
  refine V.seq ?_
  refine V.region ?_
  refine L.ef (e_box (cs := [_]) rfl rfl (by first | (simp only [size_addB, size_setB, size_drew]; rfl) | rfl) rfl ?_)
  refine L.rd (rd_assign rfl) rfl ?_
  refine L.rd (rd_assign rfl) rfl ?_
  refine L.nil ?_
  refine X.sq ?_
  refine V.seq ?_
  refine V.seq ?_
  have hp := Bl.new w 44 [.slice aa Ls.length ca]
  have hE := (Ext.refl _ w).addNew 44 [.slice aa Ls.length ca]
  refine V.region ?_
  refine L.rd (rd_loadN tok rfl rfl rfl hp.cells rfl) rfl ?_
  refine L.ef (e_call rfl (scan_ok _ Ls _ (hT.ext hE) hS) rfl ?_)
  rintro _ w1 ⟨rfl, he1⟩
  replace hp := he1.bl hp.lt hp
  replace hE := hE.next he1
  first | refine L.rd (rd_not rfl) rfl ?_ | refine L.rd (rd_notB rfl) rfl ?_
  refine L.rd (rd_move rfl) rfl ?_
  first | refine L.partG rfl rfl (fun g14 => ?_) (fun g14 => ?_) | refine L.partGB rfl rfl (fun g14 => ?_) (fun g14 => ?_)
  ·
    refine L.no rfl rfl rfl rfl ?_
    refine L.no rfl rfl rfl rfl ?_
    refine L.no rfl rfl rfl rfl ?_
    refine L.rd (rd_pickT rfl rfl) rfl ?_
    refine L.nil ?_
    refine X.sq ?_
    refine V.condT rfl ?_
    refine V.seq ?_
    refine V.region ?_
    refine L.rd (rd_assign rfl) rfl ?_
    refine L.rd (rd_assign rfl) rfl ?_
    refine L.nil ?_
    refine X.sq ?_
    refine V.ret ?_
    refine X.sqRet ?_
    refine ret_2 Yaam.results70 rfl rfl ?_
    refine EPost.bad ?_ hE
    unfold evOk
    first | (have hc : canon (pol Ls) = false := by simpa using g14
             rw [hc]; rfl)
          | (rw [decide_eq_false (by omega)]; simp)
  ·
    have hC : canon (pol Ls) = true := by simpa using g14
    have hL : Ls.length ≤ 4096 := by have := canon_len hC; rwa [pol_length] at this
    refine L.yes rfl rfl ?_
    refine L.rd (rd_move rfl) rfl ?_
    refine L.yes rfl rfl ?_
    refine L.rd (rd_lenSlice tok rfl rfl rfl) rfl ?_
    refine L.yes rfl rfl ?_
    refine L.rd (rd_neq rfl rfl) rfl ?_
    refine L.rd (rd_pickF rfl rfl) rfl ?_
    refine L.nil ?_
    refine X.sq ?_
    first | refine V.cond rfl (fun h18 => ?_) (fun h18 => ?_) | refine V.condB rfl (fun h18 => ?_) (fun h18 => ?_)
    ·
      refine V.seq ?_
      refine V.region ?_
      refine L.rd (rd_assign rfl) rfl ?_
      refine L.rd (rd_assign rfl) rfl ?_
      refine L.nil ?_
      refine X.sq ?_
      refine V.ret ?_
      refine X.sqRet ?_
      refine ret_2 Yaam.results70 rfl rfl ?_
      refine EPost.bad ?_ hE
      unfold evOk
      first | (have hc : canon (pol Ls) = false := by simpa using g14
               rw [hc]; rfl)
            | (rw [decide_eq_false (by omega)]; simp)
    ·
      refine V.skip ?_
      refine X.sq ?_
      refine V.seq ?_
      have hlp : pt.length = 26 := by omega
      have hok : evOk (pol Ls) pt = true := by unfold evOk; rw [hC, decide_eq_true hlp]; rfl
      obtain ⟨pb, po, rfl, hcp⟩ := hfp.resolve_left (by omega)
      refine V.region ?_
      refine L.rd (rd_assign rfl) rfl ?_
      refine L.nil ?_
      refine X.sq ?_
      refine V.seq ?_
      refine V.seq ?_
      refine V.region ?_
      refine L.rd (rd_loadN tok rfl rfl rfl hp.cells rfl) rfl ?_
      refine L.ef (e_call rfl (polyToM_ok _ Ls _ (hT.ext hE) hC) rfl ?_)
      rintro v2 w2 ⟨hO, he2⟩
      have hRm := Rs.of_own hO
      obtain ⟨ma, mc, rfl, hfm⟩ := hRm.form
      replace hE := hE.next he2
      refine L.rd (rd_lenSlice tok rfl rfl rfl) rfl ?_
      refine L.rd (rd_move rfl) rfl ?_
      refine L.nil ?_
      refine X.sq ?_
      refine V.block ?_
      refine V.loop (fun m l w3 => ∃ (k : Nat) (s : Int), l = [(1, .slice (some ⟨pb, po, none⟩) pt.length pc), (6, .int .i64 s), (20, .slice ma Ls.length mc), (21, .int .i64 Ls.length), (22, .int .i64 k)] ∧ m = Ls.length - k ∧ k ≤ Ls.length ∧ Ext w2.heap.size w2 w3 ∧ evalP (pol Ls) pt = evQ pt ((pol Ls).drop k) s) ?_ ?_
      ·
        exact ⟨_, _, (by repeat' (first | exact trivial | refine ⟨rfl, ?_⟩)), 0, 0, rfl, rfl, by omega, Ext.refl _ _, rfl⟩
      ·
        rintro m l w3 ⟨k, s, rfl, rfl, hk, hE3, hev⟩
        refine V.seq ?_
        refine V.region ?_
        refine L.rd (rd_lss rfl rfl) rfl ?_
        refine L.nil ?_
        refine X.sq ?_
        refine V.seq ?_
        first | refine V.cond rfl (fun h23 => ?_) (fun h23 => ?_) | refine V.condB rfl (fun h23 => ?_) (fun h23 => ?_)
        ·
          obtain ⟨g, go, rfl, hcg⟩ := hfm.resolve_left (by omega)
          obtain ⟨⟨c, fv, fs⟩, ht⟩ := nth_of_lt Ls k (by omega)
          have hcx := (hcg.le hE3.leC).sub (k * 27) (mtE (c, vec fs)) (fun j v hv => fm_get mtE_len _ k _ (ms_get (pol_get ht)) j v hv)
          have hCT := canon_nth hC (pol_get ht)
          have hfvv := hCT.fv
          have hvl := hfvv.len
          have hsp := hCT.sp
          have hcp3 := hcp.le (hE.next hE3).leC
          rw [drop_cons (pol_get ht), evQ] at hev
          simp only at hcx hev hfvv hvl hsp
          generalize hvv : vec fs = v at hcx hfvv hvl hsp
          refine V.skip ?_
          refine X.sq ?_
          refine V.seq ?_
          refine V.block ?_
          refine V.seq ?_
          refine V.region ?_
          (refine L.rd (rd_indexSlice (sz := 27) tok rfl rfl rfl rfl rfl rfl rfl ?_) rfl ?_; omega)
          refine L.rd (rd_loadN tok rfl rfl rfl hcx (mtE_len _).symm) rfl ?_
          refine L.ef (e_alloc (cs := .int .i64 0 :: iC .i32 z26) tok rfl rfl (by first | (simp only [size_addB, size_setB, size_drew]; rfl) | rfl) rfl ?_)
          refine L.ef (e_store (vs := mtE (c, v)) tok rfl rfl rfl rfl (cs := .int .i64 0 :: iC .i32 z26) (by (repeat (first | assumption | (refine Bl.new' ?_ _ _; first | with_reducible rfl | (simp only [size_addB, size_setB, size_drew]; done)) | apply Bl.add | apply Bl.drew | (apply Bl.setNe; omega) | (refine Bl.set' ?_ _ _; (try simp only [size_addB, size_setB, size_drew]); omega)))) (mtE_len _) (mtE_one _) (by rw [mtE_len]; simp [iC, z26]) ?_)
          (rw [putAll _ _ (by rw [mtE_len]; simp [iC, z26])])
          refine L.nil ?_
          refine X.sq ?_
          refine V.seq ?_
          have hbt : Bl (setB (addB w3 103 (.int .i64 0 :: iC .i32 z26)) w3.heap.size 103 (mtE (c, v))) w3.heap.size 103 (mtE (c, v)) := Bl.set' (by rw [size_addB]; omega) _ _
          have hEt : Ext w3.heap.size w3 (setB (addB w3 103 (.int .i64 0 :: iC .i32 z26)) w3.heap.size 103 (mtE (c, v))) := ((Ext.refl _ _).addNew _ _).set (Nat.le_refl _) _ _
          refine V.region ?_
          refine L.rd (rd_fieldAddr tok rfl rfl rfl rfl rfl rfl) rfl ?_
          refine L.rd (rd_load1 tok rfl rfl rfl (hbt.cell rfl)) rfl ?_
          refine L.rd (rd_assign rfl) rfl ?_
          refine L.nil ?_
          refine X.sq ?_
          refine V.seq ?_
          refine V.seq ?_
          refine V.region ?_
          refine L.rd (rd_assign rfl) rfl ?_
          refine L.nil ?_
          refine X.sq ?_
          refine V.block ?_
          refine V.loop (fun m l w4 => ∃ (i : Nat) (x : Int), l = [(1, .slice (some ⟨pb, po, none⟩) pt.length pc), (6, .int .i64 s), (8, .pointer (some ⟨w3.heap.size, 0, none⟩)), (9, .int .i64 x), (10, .int .i64 i), (20, .slice (some ⟨g, go, none⟩) Ls.length mc), (21, .int .i64 Ls.length), (22, .int .i64 k)] ∧ m = 26 - i ∧ i ≤ 26 ∧ Ext w3.heap.size w3 w4 ∧ Bl w4 w3.heap.size 103 (mtE (c, v)) ∧ evF pt fs c = evF pt (spF (v.drop i) i) x) ?_ ?_
          ·
            exact ⟨_, _, (by repeat' (first | exact trivial | refine ⟨rfl, ?_⟩)), 0, c, rfl, rfl, by omega, hEt, hbt, by rw [List.drop_zero, hsp]⟩
          ·
            clear hbt hEt
            rintro m l w4 ⟨i, x, rfl, rfl, hi, hEt, hbt, hef⟩
            refine V.seq ?_
            refine V.seq ?_
            refine V.region ?_
            refine L.rd (rd_move rfl) rfl ?_
            refine L.rd (rd_lss rfl rfl) rfl ?_
            refine L.nil ?_
            refine X.sq ?_
            first | refine V.cond rfl (fun h29 => ?_) (fun h29 => ?_) | refine V.condB rfl (fun h29 => ?_) (fun h29 => ?_)
            ·
              obtain ⟨e, he, he0, he1'⟩ := hfvv.rv.nth (k := i) (by omega)
              have hmx := mtE_get (c := c) hvl he
              rw [spF_step he] at hef
              obtain ⟨y, hy⟩ := nth_of_lt pt i (by omega)
              have hyv : ptv pt (i : Int) = y := by unfold ptv; rw [List.getD_eq_getElem?_getD, Int.toNat_natCast, hy]; rfl
              have hcy := hcp3.le hEt.leC
              refine V.skip ?_
              refine X.sq ?_
              refine V.seq ?_
              refine V.block ?_
              refine V.seq ?_
              refine V.region ?_
              refine L.rd (rd_move rfl) rfl ?_
              refine L.rd (rd_fieldAddr tok rfl rfl rfl rfl rfl rfl) rfl ?_
              (refine L.rd (rd_indexArr (n := 26) (sz := 1) tok rfl rfl rfl rfl rfl rfl rfl rfl ?_) rfl ?_; omega)
              refine L.rd (rd_load1 tok rfl rfl rfl (cell_at hbt hmx (by simp))) rfl ?_
              refine L.rd (rd_gtr rfl rfl) rfl ?_
              refine L.nil ?_
              refine X.sq ?_
              refine V.cut (fun l w' => ∃ (x' : Int), l = [(1, .slice (some ⟨pb, po, none⟩) pt.length pc), (6, .int .i64 s), (8, .pointer (some ⟨w3.heap.size, 0, none⟩)), (9, .int .i64 x'), (10, .int .i64 i), (20, .slice (some ⟨g, go, none⟩) Ls.length mc), (21, .int .i64 Ls.length), (22, .int .i64 k)] ∧ Ext w3.heap.size w3 w' ∧ Bl w' w3.heap.size 103 (mtE (c, v)) ∧ evF pt fs c = evF pt (spF (v.drop (i + 1)) (i + 1)) x') ?_ ?_
              ·
                first | refine V.cond rfl (fun h36 => ?_) (fun h36 => ?_) | refine V.condB rfl (fun h36 => ?_) (fun h36 => ?_)
                ·
                  obtain ⟨n, rfl⟩ : ∃ n : Nat, e = n := ⟨e.toNat, by omega⟩
                  rw [if_neg (by omega), evF, hyv, Int.toNat_natCast] at hef
                  refine V.draw [] mixed ?_
                  refine D.take 0 [true, false, false, false, false, false, false, false, false, false, false, false, false] (.ct (.bk (.sq (.lp (.bk (.sq (.bk (.sq (.lp (.bk (.sq .bd))))))))))) rfl (rd_move rfl) rfl (by kernel_rfl) rfl (LeC.drew _) ?_
                  refine D.take 1 [true, true, false, false, false, false, false, false, false, false, false, false, false] (.ct (.bk (.sq (.lp (.bk (.sq (.bk (.sq (.lp (.bk (.sq .bd))))))))))) rfl (rd_move rfl) rfl (by kernel_rfl) rfl (LeC.drew _) ?_
                  refine D.take 2 [true, true, true, false, false, false, false, false, false, false, false, false, false] (.ct (.bk (.sq (.lp (.bk (.sq (.bk (.sq (.lp (.bk (.sq .bd))))))))))) rfl (rd_move rfl) rfl (by kernel_rfl) rfl (LeC.drew _) ?_
                  (refine D.take 3 [true, true, true, true, false, false, false, false, false, false, false, false, false] (.ct (.bk (.sq (.lp (.bk (.sq (.bk (.sq (.lp (.bk (.sq .bd))))))))))) rfl (rd_indexSlice (sz := 1) tok rfl rfl rfl rfl rfl rfl rfl ?_) rfl (by kernel_rfl) rfl (LeC.drew _) ?_; omega)
                  refine D.take 4 [true, true, true, true, true, false, false, false, false, false, false, false, false] (.ct (.bk (.sq (.lp (.bk (.sq (.bk (.sq (.lp (.bk (.sq .bd))))))))))) rfl (rd_load1 tok rfl rfl rfl (cells_at hcy (iC_get hy) (by simp))) rfl (by kernel_rfl) rfl (LeC.drew _) ?_
                  refine D.take 5 [true, true, true, true, true, true, false, false, false, false, false, false, false] (.ct (.bk (.sq (.lp (.bk (.sq (.bk (.sq (.lp (.bk (.sq .bd))))))))))) rfl (rd_move rfl) rfl (by kernel_rfl) rfl (LeC.drew _) ?_
                  refine D.take 6 [true, true, true, true, true, true, true, false, false, false, false, false, false] (.ct (.bk (.sq (.lp (.bk (.sq (.bk (.sq (.lp (.bk (.sq .bd))))))))))) rfl (rd_fieldAddr tok rfl rfl rfl rfl rfl rfl) rfl (by kernel_rfl) rfl (LeC.drew _) ?_
                  (refine D.take 7 [true, true, true, true, true, true, true, true, false, false, false, false, false] (.ct (.bk (.sq (.lp (.bk (.sq (.bk (.sq (.lp (.bk (.sq .bd))))))))))) rfl (rd_indexArr (n := 26) (sz := 1) tok rfl rfl rfl rfl rfl rfl rfl rfl ?_) rfl (by kernel_rfl) rfl (LeC.drew _) ?_; omega)
                  refine D.take 8 [true, true, true, true, true, true, true, true, true, false, false, false, false] (.ct (.bk (.sq (.lp (.bk (.sq (.bk (.sq (.lp (.bk (.sq .bd))))))))))) rfl (rd_load1 tok rfl rfl rfl (cell_at hbt hmx (by simp))) rfl (by kernel_rfl) rfl (LeC.drew _) ?_
                  refine D.take 9 [true, true, true, true, true, true, true, true, true, true, false, false, false] (.ct (.bk (.sq (.lp (.bk (.sq (.bk (.sq (.lp (.bk (.sq .bd))))))))))) rfl (rd_convE (r := (n : Int)) tok rfl rfl rfl rfl rfl (wrap_i64_in (by omega))) rfl (by kernel_rfl) rfl (LeC.drew _) ?_
                  refine D.one 10 [true, true, true, true, true, true, true, true, true, true, true, false, false] rfl (by kernel_rfl) rfl (e_call rfl (powMod_ok y n (by omega) _) rfl ?_)
                  rintro _ _ ⟨rfl, rfl⟩
                  refine ⟨fun _ => (LeC.drew _), ?_⟩
                  refine D.take 11 [true, true, true, true, true, true, true, true, true, true, true, true, false] (.ct (.bk (.sq (.lp (.bk (.sq (.bk (.sq (.lp (.bk (.sq .bd))))))))))) rfl (rd_mulE (r := w64 (x * pw y n)) rfl rfl rfl) rfl (by kernel_rfl) rfl (LeC.drew _) ?_
                  refine D.take 12 [true, true, true, true, true, true, true, true, true, true, true, true, true] (.ct (.bk (.sq (.lp (.bk (.sq (.bk (.sq (.lp (.bk (.sq .bd))))))))))) rfl (rd_assign rfl) rfl (by kernel_rfl) rfl (LeC.drew _) ?_
                  refine D.done (by kernel_rfl) ?_
                  exact X.ct ⟨_, (by repeat' (first | exact trivial | refine ⟨rfl, ?_⟩)), _, rfl, hEt.drew, hbt.drew, hef⟩
                ·
                  refine V.skip ?_
                  rw [if_pos (by omega)] at hef
                  exact X.ct ⟨_, (by repeat' (first | exact trivial | refine ⟨rfl, ?_⟩)), x, rfl, hEt, hbt, hef⟩
              ·
                clear hbt hEt
                rintro l w5 ⟨x', rfl, hEt, hbt, hef'⟩
                refine X.bk ?_
                refine X.sq ?_
                refine V.region ?_
                refine L.rd (rd_move rfl) rfl ?_
                (refine L.rd (rd_add3 rfl rfl ?_) rfl ?_; omega)
                refine L.rd (rd_assign rfl) rfl ?_
                refine L.nil ?_
                exact X.lp ⟨_, _, by omega, (by repeat' (first | exact trivial | refine ⟨rfl, ?_⟩)), i + 1, x', rfl, rfl, by omega, hEt, hbt, hef'⟩
            ·
              refine V.exit ?_
              refine X.sqExit ?_
              refine X.lpExit ?_
              refine X.bkHere ?_
              refine X.sq ?_
              rw [drop_end (by omega)] at hef
              simp only [spF, evF] at hef
              refine V.region ?_
              refine L.rd (rd_move rfl) rfl ?_
              refine L.rd (rd_move rfl) rfl ?_
              refine L.rd (rd_addE (r := w64 (s + x)) rfl rfl rfl) rfl ?_
              refine L.rd (rd_assign rfl) rfl ?_
              refine L.nil ?_
              refine X.bk ?_
              refine X.sq ?_
              refine V.region ?_
              (refine L.rd (rd_add3 rfl rfl ?_) rfl ?_; omega)
              refine L.rd (rd_move rfl) rfl ?_
              refine L.nil ?_
              exact X.lp ⟨_, _, by omega, (by repeat' (first | exact trivial | refine ⟨rfl, ?_⟩)), k + 1, _, rfl, rfl, by omega, hE3.next hEt, by rw [hev, hef]⟩
        ·
          refine V.exit ?_
          refine X.sqExit ?_
          refine X.lpExit ?_
          refine X.bkHere ?_
          refine X.sq ?_
          refine V.seq ?_
          refine V.region ?_
          refine L.rd (rd_move rfl) rfl ?_
          refine L.rd (rd_assign rfl) rfl ?_
          refine L.rd (rd_assign rfl) rfl ?_
          refine L.nil ?_
          refine X.sq ?_
          refine V.ret ?_
          refine ret_2 Yaam.results70 rfl rfl ?_
          refine EPost.good hok (hE.next hE3) ?_
          rw [hev, drop_end (by rw [pol_length]; omega)]; rfl
end Go.Proofs.YbxaawGreat
