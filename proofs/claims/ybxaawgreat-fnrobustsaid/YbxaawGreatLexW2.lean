/-
  The model lexer, walked.
-/
import Derived.Test.YbxaawGreatLexW
set_option linter.unusedVariables false
set_option linter.unusedSimpArgs false
set_option maxRecDepth 10000
namespace Go.Proofs.YbxaawGreat
open Go.Mw Lexp

theorem bl_extract (s : ByteArray) (a b : Nat) : bl (s.extract a b) = ((bl s).drop a).take (b - a) := by
  unfold bl
  rw [ByteArray.data_extract, Array.toList_extract, List.extract_eq_take_drop, List.map_take, List.map_drop]
theorem less_bytes : ∀ (x y : List UInt8), Op.bytesLess x y = less (x.map UInt8.toNat) (y.map UInt8.toNat)
  | _, [] => by cases ‹List UInt8› <;> rfl
  | [], _ :: _ => rfl
  | a :: x, b :: y => by
    simp only [Op.bytesLess, List.map_cons, less, less_bytes x y]
    have e1 : decide (a < b) = decide (a.toNat < b.toNat) := by rw [Bool.eq_iff_iff]; simp [UInt8.lt_iff_toNat_lt]
    have e2 : (a == b) = decide (a.toNat = b.toNat) := by rw [Bool.eq_iff_iff]; simp [UInt8.toNat_inj]
    rw [e1, e2]
theorem beq_bytes (x y : List UInt8) : (x == y) = decide (x.map UInt8.toNat = y.map UInt8.toNat) := by
  rw [Bool.eq_iff_iff]
  simp only [beq_iff_eq, decide_eq_true_eq]
  constructor
  · rintro rfl; rfl
  · intro h
    induction x generalizing y with
    | nil => cases y with
      | nil => rfl
      | cons _ _ => simp at h
    | cons a x ih => cases y with
      | nil => simp at h
      | cons b y =>
        simp only [List.map_cons, List.cons.injEq] at h
        rw [UInt8.toNat_inj.1 h.1, ih y h.2]
theorem gt_iff (x y : ByteArray) (hl : (bl x).length = (bl y).length) (hx : dgs (bl x)) (hy : dgs (bl y)) : (!(Op.bytesLess x.toList y.toList || x.toList == y.toList)) = decide (nv 0 (bl y) < nv 0 (bl x)) := by
  rw [ByteArray.toList_eq, ByteArray.toList_eq, less_bytes, beq_bytes]
  show (!(less (bl x) (bl y) || decide (bl x = bl y))) = _
  rw [Bool.eq_iff_iff]
  have h1 := less_iff (bl x) (bl y) hl hx hy
  have h2 := less_iff (bl y) (bl x) hl.symm hy hx
  simp only [Bool.not_eq_true', Bool.or_eq_false_iff, decide_eq_true_eq]
  constructor
  · rintro ⟨a, b⟩
    have b' : ¬ bl x = bl y := by simpa using b
    rcases Nat.lt_trichotomy (nv 0 (bl x)) (nv 0 (bl y)) with h | h | h
    · rw [h1.2 h] at a; cases a
    · exact absurd (nv_inj _ _ hl hx hy h) b'
    · exact h
  · intro h
    refine ⟨?_, ?_⟩
    · cases hh : less (bl x) (bl y) with
      | false => rfl
      | true => have := h1.1 hh; omega
    · simp only [decide_eq_false_iff_not]
      intro e; rw [e] at h; omega
def maxTxt : ByteArray := { data := #[49, 56, 52, 52, 54, 55, 52, 52, 48, 55, 51, 55, 48, 57, 53, 53, 49, 54, 49, 53] }
theorem maxTxt_bl : bl maxTxt = [49, 56, 52, 52, 54, 55, 52, 52, 48, 55, 51, 55, 48, 57, 53, 53, 49, 54, 49, 53] := by rfl
theorem maxTxt_nv : nv 0 (bl maxTxt) = 18446744073709551615 := by rw [maxTxt_bl]; decide
theorem maxTxt_dgs : dgs (bl maxTxt) := by rw [maxTxt_bl]; unfold dgs; decide

def DigitsAns (n : Nat) (v : Value) : Prop := ∃ x, v = .tuple #[.int .i64 x, .bool (decide (n < 18446744073709551616))] ∧ (n < 18446744073709551616 → x = i64 n)
theorem DigitsAns.no {n : Nat} (h : ¬ n < 18446744073709551616) : DigitsAns n (.tuple #[.int .i64 0, .bool false]) := ⟨0, by rw [decide_eq_false h], fun h' => absurd h' h⟩
theorem DigitsAns.yes {n : Nat} (h : n < 18446744073709551616) : DigitsAns n (.tuple #[.int .i64 (i64 n), .bool true]) := ⟨i64 n, by rw [decide_eq_true h], fun _ => rfl⟩

theorem step_i64 (x d : Nat) (hd : d ≤ 9) (h : x * 10 + d < 18446744073709551616) : IntKind.i64.wrap (IntKind.i64.wrap (i64 x * 10) + (d : Int)) = i64 (x * 10 + d) := by
  rw [wrap_i64_eq, wrap_i64_eq]
  unfold i64
  split <;> split <;> omega

/-- leading zeros do not count -/
theorem nv_skip (l : List Nat) (k : Nat) (h : ∀ q, q < k → l[q]? = some 48) : nv 0 l = nv 0 (l.drop k) := by
  induction k generalizing l with
  | zero => simp
  | succ k ih =>
    cases l with
    | nil => simp
    | cons c cs =>
      have h0 := h 0 (by omega)
      simp at h0
      rw [nv_zeros c h0, List.drop_succ_cons]
      exact ih cs (fun q hq => by have := h (q + 1) (by omega); simpa using this)
theorem dgs_drop {l : List Nat} (h : dgs l) (k : Nat) : dgs (l.drop k) := fun c hc => h c (List.mem_of_mem_drop hc)

theorem digits_ok (s : ByteArray) (w : World) (hd : dgs (bl s)) (hsz : s.size ≤ 1099511627776) : Ret Yaam.prog 36 [.string s] w fun v w' => DigitsAns (nv 0 (bl s)) v ∧ w = w' := by
  refine enter1 Yaam.func36 Yaam.ntmps36 (by kernel_rfl) rfl rfl ?_
  refine V.seq ?_
  refine V.region ?_
  refine L.rd (rd_assign rfl) rfl ?_
  refine L.rd (rd_assign rfl) rfl ?_
  refine L.nil ?_
  refine X.sq ?_
  refine V.seq ?_
  refine V.region ?_
  refine L.rd (rd_assign rfl) rfl ?_
  refine L.nil ?_
  refine X.sq ?_
  refine V.seq ?_
  refine V.cut (fun l w' => ∃ k : Nat, l = [(0, .string s), (4, .int .i64 k)] ∧ w = w' ∧ k ≤ s.size ∧ nv 0 (bl s) = nv 0 ((bl s).drop k) ∧ (k < s.size → ∃ c cs, (bl s).drop k = c :: cs ∧ 49 ≤ c)) ?_ ?_
  ·
    refine V.block ?_
    refine V.loop (fun m l w' => ∃ k : Nat, l = [(0, .string s), (4, .int .i64 k)] ∧ w = w' ∧ m = s.size - k ∧ k ≤ s.size ∧ ∀ q, q < k → (bl s)[q]? = some 48) ?_ ?_
    ·
      exact ⟨_, _, (by repeat' (first | exact trivial | refine ⟨rfl, ?_⟩)), 0, rfl, rfl, rfl, by omega, fun q h => by omega⟩
    ·
      rintro m l w' ⟨k, rfl, rfl, rfl, hk, hz⟩
      refine V.seq ?_
      refine V.seq ?_
      refine V.region ?_
      refine L.rd (rd_move rfl) rfl ?_
      refine L.rd (rd_move rfl) rfl ?_
      refine L.rd (rd_lenString tok rfl rfl rfl) rfl ?_
      refine L.rd (rd_lss rfl rfl) rfl ?_
      refine L.rd (rd_move rfl) rfl ?_
      first | refine L.partG rfl rfl (fun g12 => ?_) (fun g12 => ?_) | refine L.partGB rfl rfl (fun g12 => ?_) (fun g12 => ?_)
      ·
        obtain ⟨c, hc, _⟩ := bl_some s k (by omega)
        refine L.yes rfl rfl ?_
        refine L.rd (rd_move rfl) rfl ?_
        refine L.yes rfl rfl ?_
        refine L.rd (rd_move rfl) rfl ?_
        refine L.yes rfl rfl ?_
        refine L.rd (rd_indexStr tok rfl rfl rfl rfl (by assumption)) rfl ?_
        refine L.yes rfl rfl ?_
        refine L.rd (rd_eql rfl rfl) rfl ?_
        refine L.rd (rd_pickT rfl rfl) rfl ?_
        refine L.nil ?_
        refine X.sq ?_
        first | refine V.cond rfl (fun h17 => ?_) (fun h17 => ?_) | refine V.condB rfl (fun h17 => ?_) (fun h17 => ?_)
        ·
          refine V.skip ?_
          refine X.sq ?_
          refine V.block ?_
          refine V.region ?_
          refine L.rd (rd_move rfl) rfl ?_
          (refine L.rd (rd_add3 rfl rfl ?_) rfl ?_; omega)
          refine L.rd (rd_assign rfl) rfl ?_
          refine L.nil ?_
          refine X.bk ?_
          exact X.lp ⟨_, _, by omega, (by repeat' (first | exact trivial | refine ⟨rfl, ?_⟩)), k + 1, rfl, rfl, rfl, by omega, fun q hq => by
            rcases Nat.lt_or_ge q k with h | h
            · exact hz q h
            · have : q = k := by omega
              subst this; rw [hc]; congr 1; omega⟩
        ·
          refine V.exit ?_
          refine X.sqExit ?_
          refine X.lpExit ?_
          refine X.bkHere ?_
          exact X.ct ⟨_, (by repeat' (first | exact trivial | refine ⟨rfl, ?_⟩)), k, rfl, rfl, hk, nv_skip _ k hz, fun hlt => by
            first
              | (exfalso; omega)
              | (have hlt' := (List.getElem?_eq_some_iff.1 hc).1
                 refine ⟨c, (bl s).drop (k + 1), ?_, ?_⟩
                 · rw [List.drop_eq_getElem_cons hlt']; congr 1; simpa [hlt'] using hc
                 · have := hd c (List.mem_of_getElem? hc); omega)⟩
      ·
        refine L.no rfl rfl rfl rfl ?_
        refine L.no rfl rfl rfl rfl ?_
        refine L.no rfl rfl rfl rfl ?_
        refine L.no rfl rfl rfl rfl ?_
        refine L.rd (rd_pickF rfl rfl) rfl ?_
        refine L.nil ?_
        refine X.sq ?_
        refine V.condF rfl ?_
        refine V.exit ?_
        refine X.sqExit ?_
        refine X.lpExit ?_
        refine X.bkHere ?_
        exact X.ct ⟨_, (by repeat' (first | exact trivial | refine ⟨rfl, ?_⟩)), k, rfl, rfl, hk, nv_skip _ k hz, fun hlt => by
          first
            | (exfalso; omega)
            | (have hlt' := (List.getElem?_eq_some_iff.1 hc).1
               refine ⟨c, (bl s).drop (k + 1), ?_, ?_⟩
               · rw [List.drop_eq_getElem_cons hlt']; congr 1; simpa [hlt'] using hc
               · have := hd c (List.mem_of_getElem? hc); omega)⟩
  ·
    rintro l w' ⟨k, rfl, rfl, hk, hnv, hne⟩
    refine X.sq ?_
    refine V.seq ?_
    refine V.region ?_
    refine L.rd (rd_move rfl) rfl ?_
    refine L.rd (rd_move rfl) rfl ?_
    refine L.rd (rd_subsL tok rfl rfl rfl rfl hk) rfl ?_
    refine L.rd (rd_assign rfl) rfl ?_
    refine L.nil ?_
    refine X.sq ?_
    refine V.seq ?_
    refine V.seq ?_
    obtain ⟨t, ht⟩ : ∃ t, t = s.extract k s.size := ⟨_, rfl⟩
    rw [← ht]
    have hbt : bl t = (bl s).drop k := by rw [ht, bl_extract, List.take_of_length_le]; simp [bl_length]
    rw [← hbt] at hnv hne
    have hdt : dgs (bl t) := hbt ▸ dgs_drop hd k
    have hlt : t.size = s.size - k := by rw [← bl_length, hbt]; simp [bl_length]
    clear ht hbt
    refine V.region ?_
    refine L.rd (rd_move rfl) rfl ?_
    refine L.rd (rd_lenString tok rfl rfl rfl) rfl ?_
    refine L.rd (rd_gtr rfl rfl) rfl ?_
    refine L.nil ?_
    refine X.sq ?_
    first | refine V.cond rfl (fun h25 => ?_) (fun h25 => ?_) | refine V.condB rfl (fun h25 => ?_) (fun h25 => ?_)
    ·
      refine V.seq ?_
      refine V.region ?_
      refine L.rd (rd_assign rfl) rfl ?_
      refine L.rd (rd_assign rfl) rfl ?_
      refine L.nil ?_
      refine X.sq ?_
      refine V.ret ?_
      refine X.sqRet ?_
      refine ret_2 Yaam.results36 rfl rfl ?_
      have h21 : 10 ^ 20 ≤ nv 0 (bl t) := by
        obtain ⟨c, cs, hcs, h49⟩ := hne (by omega)
        rw [hcs]
        have hlen : 20 ≤ cs.length := by have := bl_length t; rw [hcs] at this; simp at this; omega
        exact Nat.le_trans (Nat.pow_le_pow_right (by decide) hlen) (nv_ge c cs h49)
      exact ⟨DigitsAns.no (by rw [hnv]; omega), rfl⟩
    ·
      refine V.skip ?_
      refine X.sq ?_
      refine V.seq ?_
      refine V.seq ?_
      refine V.region ?_
      refine L.rd (rd_move rfl) rfl ?_
      refine L.rd (rd_lenString tok rfl rfl rfl) rfl ?_
      refine L.rd (rd_eql rfl rfl) rfl ?_
      refine L.rd (rd_move rfl) rfl ?_
      first | refine L.partG rfl rfl (fun g29 => ?_) (fun g29 => ?_) | refine L.partGB rfl rfl (fun g29 => ?_) (fun g29 => ?_)
      ·
        refine L.yes rfl rfl ?_
        refine L.rd (rd_move rfl) rfl ?_
        refine L.yes rfl rfl ?_
        refine L.rd ((rd_gtrS rfl rfl).val (congrArg Value.bool (gt_iff t maxTxt (by rw [bl_length, maxTxt_bl]; simp; omega) hdt maxTxt_dgs))) rfl ?_
        refine L.rd (rd_pickT rfl rfl) rfl ?_
        refine L.nil ?_
        refine X.sq ?_
        first | refine V.cond rfl (fun h32 => ?_) (fun h32 => ?_) | refine V.condB rfl (fun h32 => ?_) (fun h32 => ?_)
        ·
          refine V.seq ?_
          refine V.region ?_
          refine L.rd (rd_assign rfl) rfl ?_
          refine L.rd (rd_assign rfl) rfl ?_
          refine L.nil ?_
          refine X.sq ?_
          refine V.ret ?_
          refine X.sqRet ?_
          refine ret_2 Yaam.results36 rfl rfl ?_
          rw [maxTxt_nv] at h32
          exact ⟨DigitsAns.no (by rw [hnv]; omega), rfl⟩
        ·
          refine V.skip ?_
          refine X.sq ?_
          refine V.seq ?_
          have hok : nv 0 (bl t) < 18446744073709551616 := by
            first
              | (rw [maxTxt_nv] at h32; omega)
              | (have h1 := nv_lt (bl t) hdt
                 have h2 : 10 ^ (bl t).length ≤ 10 ^ 19 := Nat.pow_le_pow_right (by decide) (by rw [bl_length]; omega)
                 have : (10 : Nat) ^ 19 < 18446744073709551616 := by decide
                 omega)
          refine V.region ?_
          refine L.rd (rd_assign rfl) rfl ?_
          refine L.nil ?_
          refine X.sq ?_
          refine V.seq ?_
          refine V.seq ?_
          refine V.region ?_
          refine L.rd (rd_assign rfl) rfl ?_
          refine L.nil ?_
          refine X.sq ?_
          refine V.block ?_
          refine V.loop (fun m l w' => ∃ p : Nat, l = [(5, .string t), (6, .int .i64 (i64 (nv 0 ((bl t).take p)))), (7, .int .i64 p)] ∧ w = w' ∧ m = t.size - p ∧ p ≤ t.size) ?_ ?_
          ·
            exact ⟨_, _, by exact ⟨rfl, rfl, rfl, trivial⟩, 0, rfl, rfl, rfl, by omega⟩
          ·
            rintro m l w' ⟨p, rfl, rfl, rfl, hp⟩
            refine V.seq ?_
            refine V.seq ?_
            refine V.region ?_
            refine L.rd (rd_move rfl) rfl ?_
            refine L.rd (rd_move rfl) rfl ?_
            refine L.rd (rd_lenString tok rfl rfl rfl) rfl ?_
            refine L.rd (rd_lss rfl rfl) rfl ?_
            refine L.nil ?_
            refine X.sq ?_
            first | refine V.cond rfl (fun h36 => ?_) (fun h36 => ?_) | refine V.condB rfl (fun h36 => ?_) (fun h36 => ?_)
            ·
              obtain ⟨c, hc, _⟩ := bl_some t p (by omega)
              have hdc := hdt c (List.mem_of_getElem? hc)
              have hd9 := dv_le c hdc
              have hsn : nv 0 ((bl t).take (p + 1)) = nv 0 ((bl t).take p) * 10 + dv c := by
                have hl := (List.getElem?_eq_some_iff.1 hc).1
                rw [List.take_succ_eq_append_getElem hl, nv_snoc]
                congr 2
                simpa [hl] using hc
              have hle : nv 0 ((bl t).take (p + 1)) < 18446744073709551616 := by
                have h1 := nv_append ((bl t).take (p + 1)) ((bl t).drop (p + 1)) 0
                rw [List.take_append_drop] at h1
                have h2 := nv_mono ((bl t).drop (p + 1)) (nv 0 ((bl t).take (p + 1)))
                omega
              refine V.skip ?_
              refine X.sq ?_
              refine V.seq ?_
              refine V.block ?_
              refine V.region ?_
              refine L.rd (rd_move rfl) rfl ?_
              refine L.rd (rd_mulW rfl rfl) rfl ?_
              refine L.rd (rd_move rfl) rfl ?_
              refine L.rd (rd_move rfl) rfl ?_
              refine L.rd (rd_indexStr tok rfl rfl rfl rfl (by assumption)) rfl ?_
              refine L.rd (rd_subE rfl rfl (u8sub c hdc)) rfl ?_
              refine L.rd (rd_convE tok rfl rfl rfl rfl rfl (wrap_i64_in (by omega))) rfl ?_
              refine L.rd (rd_addE (r := i64 (nv 0 ((bl t).take (p + 1)))) rfl rfl (by rw [hsn]; exact step_i64 _ _ hd9 (by omega))) rfl ?_
              refine L.rd (rd_assign rfl) rfl ?_
              refine L.nil ?_
              refine X.bk ?_
              refine X.sq ?_
              refine V.region ?_
              refine L.rd (rd_move rfl) rfl ?_
              (refine L.rd (rd_add3 rfl rfl ?_) rfl ?_; omega)
              refine L.rd (rd_assign rfl) rfl ?_
              refine L.nil ?_
              exact X.lp ⟨_, _, by omega, (by repeat' (first | exact trivial | refine ⟨rfl, ?_⟩)), p + 1, rfl, rfl, rfl, by omega⟩
            ·
              refine V.exit ?_
              refine X.sqExit ?_
              refine X.lpExit ?_
              refine X.bkHere ?_
              refine X.sq ?_
              refine V.seq ?_
              refine V.region ?_
              refine L.rd (rd_move rfl) rfl ?_
              refine L.rd (rd_assign rfl) rfl ?_
              refine L.rd (rd_assign rfl) rfl ?_
              refine L.nil ?_
              refine X.sq ?_
              refine V.ret ?_
              refine ret_2 Yaam.results36 rfl rfl ?_
              rw [List.take_of_length_le (by rw [bl_length]; omega), hnv]
              exact ⟨DigitsAns.yes hok, rfl⟩
      ·
        refine L.no rfl rfl rfl rfl ?_
        refine L.no rfl rfl rfl rfl ?_
        refine L.rd (rd_pickF rfl rfl) rfl ?_
        refine L.nil ?_
        refine X.sq ?_
        refine V.condF rfl ?_
        refine V.skip ?_
        refine X.sq ?_
        refine V.seq ?_
        have hok : nv 0 (bl t) < 18446744073709551616 := by
          first
            | (rw [maxTxt_nv] at h32; omega)
            | (have h1 := nv_lt (bl t) hdt
               have h2 : 10 ^ (bl t).length ≤ 10 ^ 19 := Nat.pow_le_pow_right (by decide) (by rw [bl_length]; omega)
               have : (10 : Nat) ^ 19 < 18446744073709551616 := by decide
               omega)
        refine V.region ?_
        refine L.rd (rd_assign rfl) rfl ?_
        refine L.nil ?_
        refine X.sq ?_
        refine V.seq ?_
        refine V.seq ?_
        refine V.region ?_
        refine L.rd (rd_assign rfl) rfl ?_
        refine L.nil ?_
        refine X.sq ?_
        refine V.block ?_
        refine V.loop (fun m l w' => ∃ p : Nat, l = [(5, .string t), (6, .int .i64 (i64 (nv 0 ((bl t).take p)))), (7, .int .i64 p)] ∧ w = w' ∧ m = t.size - p ∧ p ≤ t.size) ?_ ?_
        ·
          exact ⟨_, _, by exact ⟨rfl, rfl, rfl, trivial⟩, 0, rfl, rfl, rfl, by omega⟩
        ·
          rintro m l w' ⟨p, rfl, rfl, rfl, hp⟩
          refine V.seq ?_
          refine V.seq ?_
          refine V.region ?_
          refine L.rd (rd_move rfl) rfl ?_
          refine L.rd (rd_move rfl) rfl ?_
          refine L.rd (rd_lenString tok rfl rfl rfl) rfl ?_
          refine L.rd (rd_lss rfl rfl) rfl ?_
          refine L.nil ?_
          refine X.sq ?_
          first | refine V.cond rfl (fun h36 => ?_) (fun h36 => ?_) | refine V.condB rfl (fun h36 => ?_) (fun h36 => ?_)
          ·
            obtain ⟨c, hc, _⟩ := bl_some t p (by omega)
            have hdc := hdt c (List.mem_of_getElem? hc)
            have hd9 := dv_le c hdc
            have hsn : nv 0 ((bl t).take (p + 1)) = nv 0 ((bl t).take p) * 10 + dv c := by
              have hl := (List.getElem?_eq_some_iff.1 hc).1
              rw [List.take_succ_eq_append_getElem hl, nv_snoc]
              congr 2
              simpa [hl] using hc
            have hle : nv 0 ((bl t).take (p + 1)) < 18446744073709551616 := by
              have h1 := nv_append ((bl t).take (p + 1)) ((bl t).drop (p + 1)) 0
              rw [List.take_append_drop] at h1
              have h2 := nv_mono ((bl t).drop (p + 1)) (nv 0 ((bl t).take (p + 1)))
              omega
            refine V.skip ?_
            refine X.sq ?_
            refine V.seq ?_
            refine V.block ?_
            refine V.region ?_
            refine L.rd (rd_move rfl) rfl ?_
            refine L.rd (rd_mulW rfl rfl) rfl ?_
            refine L.rd (rd_move rfl) rfl ?_
            refine L.rd (rd_move rfl) rfl ?_
            refine L.rd (rd_indexStr tok rfl rfl rfl rfl (by assumption)) rfl ?_
            refine L.rd (rd_subE rfl rfl (u8sub c hdc)) rfl ?_
            refine L.rd (rd_convE tok rfl rfl rfl rfl rfl (wrap_i64_in (by omega))) rfl ?_
            refine L.rd (rd_addE (r := i64 (nv 0 ((bl t).take (p + 1)))) rfl rfl (by rw [hsn]; exact step_i64 _ _ hd9 (by omega))) rfl ?_
            refine L.rd (rd_assign rfl) rfl ?_
            refine L.nil ?_
            refine X.bk ?_
            refine X.sq ?_
            refine V.region ?_
            refine L.rd (rd_move rfl) rfl ?_
            (refine L.rd (rd_add3 rfl rfl ?_) rfl ?_; omega)
            refine L.rd (rd_assign rfl) rfl ?_
            refine L.nil ?_
            exact X.lp ⟨_, _, by omega, (by repeat' (first | exact trivial | refine ⟨rfl, ?_⟩)), p + 1, rfl, rfl, rfl, by omega⟩
          ·
            refine V.exit ?_
            refine X.sqExit ?_
            refine X.lpExit ?_
            refine X.bkHere ?_
            refine X.sq ?_
            refine V.seq ?_
            refine V.region ?_
            refine L.rd (rd_move rfl) rfl ?_
            refine L.rd (rd_assign rfl) rfl ?_
            refine L.rd (rd_assign rfl) rfl ?_
            refine L.nil ?_
            refine X.sq ?_
            refine V.ret ?_
            refine ret_2 Yaam.results36 rfl rfl ?_
            rw [List.take_of_length_le (by rw [bl_length]; omega), hnv]
            exact ⟨DigitsAns.yes hok, rfl⟩
end Go.Proofs.YbxaawGreat
