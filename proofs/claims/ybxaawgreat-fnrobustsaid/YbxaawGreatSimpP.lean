/-
  The pipelines, plain; numbers stay in the range of int64.
-/
import Derived.Test.YbxaawGreatXpW
import Derived.Test.YbxaawGreatPrsW
import Derived.Test.YbxaawGreatLexW
set_option linter.unusedVariables false
set_option linter.unusedSimpArgs false
namespace Go.Mw
open Lexp
theorem wi_b2 {k : Int} {a b : Tre} (h : Wi a) (h2 : Wi b) : Wi (b2 k a b) := ⟨h, h2⟩
theorem wi_negs {t : Tre} (h : Wi t) : ∀ n, Wi (negs n t)
  | 0 => h
  | n + 1 => wi_negs h n
/-- tokens' values are in range -/
def Ti (r : List TK) : Prop := ∀ t ∈ r, w64 t.2 = t.2
theorem Ti.sx {r r' : List TK} (h : Ti r) (hs : r' <:+ r) : Ti r' := fun t ht => h t (hs.subset ht)
theorem Ti.hv {r : List TK} (h : Ti r) : w64 (hv r) = hv r := by
  cases r with
  | nil => decide
  | cons t r => exact h t (by simp)
def Wif (f : Nat → List TK → PR) : Prop := ∀ d r t r', Ti r → f d r = some (t, r') → Wi t
section
variable {c : Bool} {E : Nat → List TK → PR}
theorem prim_wi (hS : Sx E) (hE : Wif E) : Wif (prim c E) := fun d r t r' ha h => by
  unfold prim at h
  split at h
  · simp only [Option.some.injEq, Prod.mk.injEq] at h; rw [← h.1]; exact ha.hv
  · split at h
    · simp only [Option.some.injEq, Prod.mk.injEq] at h; rw [← h.1]; exact (by decide : w64 0 = 0)
    · split at h
      · split at h
        · cases h
        · split at h
          · cases h
          · rename_i t2 r2 he
            split at h
            · simp only [Option.some.injEq, Prod.mk.injEq] at h; rw [← h.1]
              exact hE _ _ _ _ (ha.sx (tail_sx r)) he
            · cases h
      · cases h
theorem powr_wi (hS : Sx E) (hE : Wif E) : Wif (powr c E) := fun d r t r' ha h => by
  unfold powr at h
  split at h
  · cases h
  · rename_i t1 r1 he
    have h1 := prim_wi hS hE _ _ _ _ ha he
    split at h
    · split at h
      · simp only [Option.some.injEq, Prod.mk.injEq] at h; rw [← h.1]
        exact h1
      · cases h
    · simp only [Option.some.injEq, Prod.mk.injEq] at h; rw [← h.1]; exact h1
theorem unry_wi (hS : Sx E) (hE : Wif E) : Wif (unry c E) := fun d r t r' ha h => by
  unfold unry at h
  split at h
  · cases h
  · rename_i t1 r1 he
    simp only [Option.some.injEq, Prod.mk.injEq] at h; rw [← h.1]
    exact wi_negs (powr_wi hS hE _ _ _ _ (ha.sx (List.drop_suffix _ _)) he) _
theorem tloop_wi (hS : Sx E) (hE : Wif E) (d : Nat) : ∀ (n : Nat) (l : Tre) (r : List TK) (t : Tre) (r' : List TK), Ti r → Wi l → tloop c E d n l r = some (t, r') → Wi t
  | 0, l, r, t, r', ha, hl, h => by rw [tloop] at h; simp only [Option.some.injEq, Prod.mk.injEq] at h; rw [← h.1]; exact hl
  | n + 1, l, r, t, r', ha, hl, h => by
    rw [tloop] at h
    split at h
    · split at h
      · cases h
      · rename_i x r1 he
        have ht := ha.sx (tail_sx r)
        exact tloop_wi hS hE d n _ _ _ _ (ht.sx (unry_sx hS _ _ _ _ he)) (wi_b2 hl (unry_wi hS hE _ _ _ _ ht he)) h
    · simp only [Option.some.injEq, Prod.mk.injEq] at h; rw [← h.1]; exact hl
theorem trm_wi (hS : Sx E) (hE : Wif E) : Wif (trm c E) := fun d r t r' ha h => by
  unfold trm at h
  split at h
  · cases h
  · rename_i l r1 he
    exact tloop_wi hS hE d _ _ _ _ _ (ha.sx (unry_sx hS _ _ _ _ he)) (unry_wi hS hE _ _ _ _ ha he) h
theorem eloop_wi (hS : Sx E) (hE : Wif E) (d : Nat) : ∀ (n : Nat) (l : Tre) (r : List TK) (t : Tre) (r' : List TK), Ti r → Wi l → eloop c E d n l r = some (t, r') → Wi t
  | 0, l, r, t, r', ha, hl, h => by rw [eloop] at h; simp only [Option.some.injEq, Prod.mk.injEq] at h; rw [← h.1]; exact hl
  | n + 1, l, r, t, r', ha, hl, h => by
    rw [eloop] at h
    split at h
    · split at h
      · cases h
      · rename_i x r1 he
        have ht := ha.sx (tail_sx r)
        exact eloop_wi hS hE d n _ _ _ _ (ht.sx (trm_sx hS _ _ _ _ he)) (wi_b2 hl (trm_wi hS hE _ _ _ _ ht he)) h
    · simp only [Option.some.injEq, Prod.mk.injEq] at h; rw [← h.1]; exact hl
theorem expr_wi (hS : Sx E) (hE : Wif E) : Wif (expr c E) := fun d r t r' ha h => by
  unfold expr at h
  split at h
  · cases h
  · rename_i l r1 he
    exact eloop_wi hS hE d _ _ _ _ _ (ha.sx (trm_sx hS _ _ _ _ he)) (trm_wi hS hE _ _ _ _ ha he) h
end
theorem pE_wi (c : Bool) : ∀ n, Wif (pE c n)
  | 0 => fun d r t r' _ h => by cases h
  | n + 1 => expr_wi (pE_sx c n) (pE_wi c n)
theorem parse_wi {ts : List TK} {t : Tre} (hi : Ti ts) (h : parseP ts = some t) : Wi t := by
  unfold parseP at h
  split at h
  · cases h
  · cases he : pE false (ts.length + 1) 0 ts with
    | none => rw [he] at h; cases h
    | some p =>
      obtain ⟨t1, r1⟩ := p
      rw [he] at h
      simp only [] at h
      split at h
      · simp only [Option.some.injEq] at h
        subst h
        exact pE_wi false _ _ _ _ _ hi he
      · cases h
theorem w64_i64 {n : Nat} (h : n < 18446744073709551616) : w64 (i64 n) = i64 n := by
  have : -9223372036854775808 ≤ i64 n ∧ i64 n ≤ 9223372036854775807 := by unfold i64; split <;> omega
  exact wrap_i64_in (by omega)
theorem lexF_ti : ∀ (f : Nat) (l : List Nat) (acc ts : List TK), Ti acc → lexF f l acc = some ts → Ti ts
  | 0, _, _, _, _, h => by cases h
  | f + 1, [], acc, ts, ha, h => by
    simp only [lexF, Option.some.injEq] at h
    subst h; exact ha
  | f + 1, c :: cs, acc, ts, ha, h => by
    have snoc : ∀ x : TK, w64 x.2 = x.2 → Ti (acc ++ [x]) := fun x hx t ht => by
      rcases List.mem_append.1 ht with ht | ht
      · exact ha t ht
      · simp only [List.mem_cons, List.not_mem_nil, or_false] at ht; subst ht; exact hx
    rw [lexF] at h
    split at h
    · exact lexF_ti f _ _ _ ha h
    · split at h
      · cases h
      · split at h
        · split at h
          · rename_i hn
            exact lexF_ti f _ _ _ (snoc _ (w64_i64 hn)) h
          · cases h
        · split at h
          · rename_i hv
            exact lexF_ti f _ _ _ (snoc _ (wrap_i64_in (by simp only []; omega))) h
          · split at h
            · cases h
            · exact lexF_ti f _ _ _ (snoc _ (by decide : w64 0 = 0)) h
theorem lex_ti {l : List Nat} {ts : List TK} (h : lex l = some ts) : Ti ts := by
  unfold lex at h
  split at h
  · cases h
  · exact lexF_ti _ _ _ _ (fun t ht => by cases ht) h
def srcP (l : List Nat) : Option Tre := (lex l).bind parseP
theorem src_wt {l : List Nat} {t : Tre} (h : srcP l = some t) : Wt t ∧ Wi t ∧ tsz t ≤ 500000 := by
  unfold srcP at h
  cases hl : lex l with
  | none => rw [hl] at h; cases h
  | some ts =>
    rw [hl, Option.bind_some] at h
    have h1 := parse_wt h
    exact ⟨h1.1, parse_wi (lex_ti hl) h, h1.2.1⟩
theorem wi_kid {a : Tre} (h : Wi a) : Wi (kid0 a) := by
  match a, h with
  | ⟨k, v, x, 0, c⟩, h => exact (by decide : w64 0 = 0)
  | ⟨k, v, x, 1, c⟩, h => exact h
  | ⟨k, v, x, n + 2, c⟩, h => exact h.1
theorem wi_neg {a : Tre} (h : Wi a) : Wi (negR a) := by
  unfold negR
  split
  · exact w64_wr _
  · split
    · exact wi_kid h
    · exact h
theorem cn_wi : ∀ t : Tre, Wi t → Wi (cn t) := by
  refine Tre.ind (fun k v x c h => h) (fun k v x c ih h => ?_) (fun k v x n c ih1 ih2 h => ?_)
  · have h1 := ih h
    rw [cn]
    split
    · exact wi_neg h1
    · unfold powR
      split
      · exact (by decide : w64 1 = 1)
      · split
        · exact h1
        · split
          · exact w64_wr _
          · split
            · exact wi_kid h1
            · exact h1
  · have h1 := ih1 h.1
    have h2 := ih2 h.2
    rw [cn]
    split
    · unfold addR
      split
      · exact w64_wr _
      · split
        · exact h2
        · split
          · exact h1
          · exact ⟨h1, h2⟩
    · split
      · unfold subR
        split
        · exact w64_wr _
        · split
          · exact h1
          · split
            · exact wi_neg h2
            · exact ⟨h1, h2⟩
      · unfold mulR
        split
        · exact w64_wr _
        · split
          · exact (by decide : w64 0 = 0)
          · split
            · exact h2
            · split
              · exact h1
              · exact ⟨h1, h2⟩
/-- the text of a tree's polynomial -/
def tpT (t : Tre) : Option (List Nat) := (tpP t).map printP
def simpP (l : List Nat) : Option (List Nat) := (srcP l).bind fun t => tpT (cn t)
theorem xp_cm : ∀ (t : Tre), Wt t → Wi t → ∀ (u : Nat) (R : List MT) (u1 : Nat), xp t u = some (R, u1) → CM R := by
  refine Tre.ind (fun k v x c hw hi u R u1 h => ?_) (fun k v x c ih hw hi u R u1 h => ?_) (fun k v x n c ih1 ih2 hw hi u R u1 h => ?_)
  · refine stA_cm (fun _ => hi) (fun h2 => ?_) CM.nil CM.nil h
    rcases hw with hw | hw
    · omega
    · exact hw.2.2
  · rw [xp] at h
    obtain ⟨⟨A, u2⟩, h1, h2⟩ := Option.bind_eq_some_iff.1 h
    obtain ⟨hx, hk, hw1⟩ := hw
    exact stA_cm (fun e => by omega) (fun e => by omega) (ih hw1 hi _ _ _ h1) CM.nil h2
  · rw [xp] at h
    obtain ⟨⟨A, u2⟩, h1, h2⟩ := Option.bind_eq_some_iff.1 h
    obtain ⟨⟨B, u3⟩, h3, h4⟩ := Option.bind_eq_some_iff.1 h2
    obtain ⟨rfl, hv, hx, hk, hw1, hw2⟩ := hw
    exact stA_cm (fun e => by omega) (fun e => by omega) (ih1 hw1 hi.1 _ _ _ h1) (ih2 hw2 hi.2 _ _ _ h3) h4
theorem tpP_canon {t : Tre} (hw : Wt t) (hi : Wi t) {q : List PT} (h : tpP t = some q) : canon q = true ∧ Cq q := by
  unfold tpP at h
  cases he : xp t 0 with
  | none => rw [he] at h; cases h
  | some a =>
    obtain ⟨R, u1⟩ := a
    rw [he] at h
    simp only [Option.map_some, Option.some.injEq] at h
    subst h
    have := xp_cm t hw hi 0 R u1 he
    exact ⟨this.canon, this.cq⟩
/-- an answer that is a text -/
def TxPost (R : Option (List Nat)) (w : World) (r : Value) (w' : World) : Prop := r = .tuple #[.string (mkS (R.getD [])), .bool R.isSome] ∧ Ext w.heap.size w w'
theorem tok_pr (ts : List (Int × Int)) : Go.Mw.prC ts = ts.flatMap fun t => [Value.int .i64 t.1, .int .i64 t.2] := rfl
theorem canon_sm {q : List PT} (h : canon q = true) : Sm q := by
  refine ⟨by have := canon_len h; omega, fun t ht => ?_⟩
  obtain ⟨k, hk⟩ := List.getElem?_of_mem ht
  have := (canon_nth h hk).len
  omega
end Go.Mw
