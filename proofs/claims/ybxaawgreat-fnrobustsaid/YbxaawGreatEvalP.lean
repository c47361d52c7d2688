/-
  Evaluation, plain; arithmetic that wraps around.
-/
import Derived.Test.YbxaawGreatPrintP
set_option linter.unusedVariables false
set_option linter.unusedSimpArgs false
namespace Go.Mw
def w64 (a : Int) : Int := IntKind.i64.wrap a
theorem w64_eq (a : Int) : w64 a = (a + 9223372036854775808) % 18446744073709551616 - 9223372036854775808 := wrap_i64_eq a
/-- equal up to a multiple of 2^64 -/
def Cg (a b : Int) : Prop := a % 18446744073709551616 = b % 18446744073709551616
theorem Cg.refl (a : Int) : Cg a a := rfl
theorem Cg.symm {a b : Int} (h : Cg a b) : Cg b a := Eq.symm h
theorem Cg.trans {a b c : Int} (h : Cg a b) (k : Cg b c) : Cg a c := Eq.trans h k
theorem Cg.add {a b c d : Int} (h : Cg a b) (k : Cg c d) : Cg (a + c) (b + d) := by unfold Cg at *; rw [Int.add_emod, h, k, ← Int.add_emod]
theorem Cg.mul {a b c d : Int} (h : Cg a b) (k : Cg c d) : Cg (a * c) (b * d) := by unfold Cg at *; rw [Int.mul_emod, h, k, ← Int.mul_emod]
theorem Cg.pow {a b : Int} (h : Cg a b) : ∀ n : Nat, Cg (a ^ n) (b ^ n)
  | 0 => by simp [Cg]
  | n + 1 => by rw [Int.pow_succ, Int.pow_succ]; exact (Cg.pow h n).mul h
theorem Cg.w64 (a : Int) : Cg (w64 a) a := by unfold Cg; rw [w64_eq]; omega
theorem Cg.eq {a b : Int} (h : Cg a b) : Go.Mw.w64 a = Go.Mw.w64 b := by unfold Cg at h; rw [w64_eq, w64_eq]; omega
theorem Cg.of {a b : Int} (h : Go.Mw.w64 a = Go.Mw.w64 b) : Cg a b := (Cg.w64 a).symm.trans (by rw [h]; exact Cg.w64 b)
theorem w64_wr (a : Int) : w64 (w64 a) = w64 a := (Cg.w64 a).eq
theorem w64_rng (a : Int) : -9223372036854775808 ≤ w64 a ∧ w64 a ≤ 9223372036854775807 := by rw [w64_eq]; omega
theorem w64_in {a : Int} (h : -9223372036854775808 ≤ a ∧ a ≤ 9223372036854775807) : w64 a = a := by rw [w64_eq]; omega
/-- b to the n, wrapped -/
def pw (b : Int) (n : Nat) : Int := w64 (b ^ n)

/-- the loop of powWrap -/
structure Pl (b0 : Int) (n0 : Nat) (r b : Int) (n : Nat) : Prop where
  eq : Cg (r * b ^ n) (b0 ^ n0)
  rr : w64 r = r
theorem Pl.start (b : Int) (n : Nat) : Pl b n 1 b n := ⟨by rw [Int.one_mul]; exact Cg.refl _, by decide⟩
theorem pow_split (b : Int) (n : Nat) : b ^ n = b ^ (n % 2) * (b * b) ^ (n / 2) := by
  have h1 : (b * b) = b ^ 2 := by rw [Int.pow_succ, Int.pow_succ, Int.pow_zero, Int.one_mul]
  rw [h1, ← Int.pow_mul, ← Int.pow_add]
  congr 1
  omega
theorem Pl.odd {b0 r b : Int} {n0 n : Nat} (h : Pl b0 n0 r b n) (ho : n % 2 = 1) : Pl b0 n0 (w64 (r * b)) (w64 (b * b)) (n / 2) := by
  refine ⟨?_, w64_wr _⟩
  refine Cg.trans ?_ h.eq
  rw [pow_split b n, ho, Int.pow_succ, Int.pow_zero, Int.one_mul, ← Int.mul_assoc]
  exact (Cg.w64 _).mul ((Cg.w64 _).pow _)
theorem Pl.even {b0 r b : Int} {n0 n : Nat} (h : Pl b0 n0 r b n) (ho : n % 2 = 0) : Pl b0 n0 r (w64 (b * b)) (n / 2) := by
  refine ⟨?_, h.rr⟩
  refine Cg.trans ?_ h.eq
  rw [pow_split b n, ho, Int.pow_zero, Int.one_mul]
  exact (Cg.refl _).mul ((Cg.w64 _).pow _)
theorem Pl.done {b0 r b : Int} {n0 : Nat} (h : Pl b0 n0 r b 0) : r = pw b0 n0 := by
  have h1 := h.eq
  rw [Int.pow_zero, Int.mul_one] at h1
  rw [← h.rr]
  exact h1.eq
theorem pw_step (b : Int) (n : Nat) : w64 (pw b n * b) = pw b (n + 1) := by
  unfold pw
  rw [Int.pow_succ]
  exact ((Cg.w64 _).mul (Cg.refl _)).eq
theorem pw_half (b : Int) (n : Nat) (h : n % 2 = 0) : w64 (pw b (n / 2) * pw b (n / 2)) = pw b n := by
  unfold pw
  refine Cg.eq ?_
  refine ((Cg.w64 _).mul (Cg.w64 _)).trans ?_
  rw [← Int.pow_add]
  rw [show n / 2 + n / 2 = n by omega]
  exact Cg.refl _
theorem pw_half1 (b : Int) (n : Nat) (h : n % 2 = 1) : w64 (w64 (pw b (n / 2) * pw b (n / 2)) * b) = pw b n := by
  unfold pw
  refine Cg.eq ?_
  refine ((Cg.w64 _).mul (Cg.refl b)).trans ?_
  refine (((Cg.w64 _).mul (Cg.w64 _)).mul (Cg.refl b)).trans ?_
  rw [← Int.pow_add, ← Int.pow_succ]
  rw [show (n / 2 + n / 2).succ = n by omega]
  exact Cg.refl _
theorem pw_zero (b : Int) : pw b 0 = 1 := by unfold pw; rw [Int.pow_zero]; decide

/-! ### a polynomial's value at a point -/
def ptv (pt : List Int) (v : Int) : Int := pt.getD v.toNat 0
def evF (pt : List Int) : List (Int × Int) → Int → Int
  | [], x => x
  | f :: fs, x => evF pt fs (w64 (x * pw (ptv pt f.1) f.2.toNat))
def evQ (pt : List Int) : List PT → Int → Int
  | [], s => s
  | t :: r, s => evQ pt r (w64 (s + evF pt t.2 t.1))
def evalP (q : List PT) (pt : List Int) : Int := evQ pt q 0
def evOk (q : List PT) (pt : List Int) : Bool := canon q && decide (pt.length = 26)
end Go.Mw
