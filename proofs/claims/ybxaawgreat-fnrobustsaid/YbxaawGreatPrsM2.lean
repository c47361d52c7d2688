/-
  Trees of pointers; the state of the model's parser in memory.
-/
import Derived.Test.YbxaawGreatPrsM
set_option linter.unusedVariables false
set_option linter.unusedSimpArgs false
namespace Go.Mw
def Tm (eM : TypeId) (w : World) (lo : Nat) : Tre → Value → Prop
  | ⟨k, v, x, 0, _⟩, p => ∃ b, p = .pointer (some ⟨b, 0, none⟩) ∧ lo ≤ b ∧ Bl w b eM [.int .i64 k, .int .i64 v, .int .i64 x, .pointer none, .pointer none]
  | ⟨k, v, x, 1, c⟩, p => ∃ b q, p = .pointer (some ⟨b, 0, none⟩) ∧ lo ≤ b ∧ Bl w b eM [.int .i64 k, .int .i64 v, .int .i64 x, q, .pointer none] ∧ Tm eM w lo (c 0) q
  | ⟨k, v, x, _ + 2, c⟩, p => ∃ b q q2, p = .pointer (some ⟨b, 0, none⟩) ∧ lo ≤ b ∧ Bl w b eM [.int .i64 k, .int .i64 v, .int .i64 x, q, q2] ∧ Tm eM w lo (c 0) q ∧ Tm eM w lo (c 1) q2
theorem Bl.rg' {w w' : World} {b e lo hi : Nat} {cs : List Value} (h : Bl w b e cs) (hr : Rg lo hi w w') (hd : b < lo ∨ hi ≤ b) : Bl w' b e cs := ⟨(hr.block b h.lt (by omega)).trans h.at_⟩
theorem Tm.rg {eM : TypeId} {w w' : World} {lo a b : Nat} (hr : Rg a b w w') (hd : b ≤ lo) : ∀ (t : Tre) (v : Value), Tm eM w lo t v → Tm eM w' lo t v := by
  refine Tre.ind (fun k v x c p h => ?_) (fun k v x c ih p h => ?_) (fun k v x n c ih1 ih2 p h => ?_)
  · obtain ⟨b1, hp, hl, hb⟩ := h
    exact ⟨b1, hp, hl, hb.rg' hr (.inr (by omega))⟩
  · obtain ⟨b1, q, hp, hl, hb, ht⟩ := h
    exact ⟨b1, q, hp, hl, hb.rg' hr (.inr (by omega)), ih _ ht⟩
  · obtain ⟨b1, q, q2, hp, hl, hb, ht, ht2⟩ := h
    exact ⟨b1, q, q2, hp, hl, hb.rg' hr (.inr (by omega)), ih1 _ ht, ih2 _ ht2⟩
theorem Tm.ext {eM : TypeId} {w w' : World} {lo : Nat} {t : Tre} {v : Value} (h : Tm eM w lo t v) (he : Ext w.heap.size w w') : Tm eM w' lo t v := Tm.rg (Rg.ext he 0 0) (Nat.zero_le _) t v h
theorem Tm.leaf {eM : TypeId} {w : World} {lo b : Nat} {k v x : Int} (hb : Bl w b eM [.int .i64 k, .int .i64 v, .int .i64 x, .pointer none, .pointer none]) (hl : lo ≤ b) : Tm eM w lo (lf k v x) (.pointer (some ⟨b, 0, none⟩)) := ⟨b, rfl, hl, hb⟩
theorem Tm.un {eM : TypeId} {w : World} {lo b : Nat} {k v : Int} {t : Tre} {q : Value} (hb : Bl w b eM [.int .i64 k, .int .i64 v, .int .i64 0, q, .pointer none]) (hl : lo ≤ b) (h : Tm eM w lo t q) : Tm eM w lo (u1 k v t) (.pointer (some ⟨b, 0, none⟩)) := ⟨b, q, rfl, hl, hb, h⟩
theorem Tm.bin {eM : TypeId} {w : World} {lo b : Nat} {k : Int} {t t2 : Tre} {q q2 : Value} (hb : Bl w b eM [.int .i64 k, .int .i64 0, .int .i64 0, q, q2]) (hl : lo ≤ b) (h : Tm eM w lo t q) (h2 : Tm eM w lo t2 q2) : Tm eM w lo (b2 k t t2) (.pointer (some ⟨b, 0, none⟩)) := ⟨b, q, q2, rfl, hl, hb, h, h2⟩
/-- the parser's state -/
structure SP (eP : TypeId) (bp : Nat) (tv : Value) (ts : List TK) (w : World) (r : List TK) : Prop where
  bl : Bl w bp eP [tv, .int .i64 ((ts.length - r.length : Nat) : Int), .bool false]
  tk : Rr w 0 bp 2 tv ts.length (prC ts)
  sx : r <:+ ts
section
variable {eP eM : TypeId} {bp : Nat} {tv : Value} {ts r : List TK} {w w' : World}
theorem SP.ext (h : SP eP bp tv ts w r) (he : Ext w.heap.size w w') : SP eP bp tv ts w' r := ⟨he.bl h.bl.lt h.bl, h.tk.ext he, h.sx⟩
theorem SP.next (h : SP eP bp tv ts w r) (hr : hk r ≠ 0) (hw : setB w bp eP (putAt [tv, .int .i64 ((ts.length - r.length : Nat) : Int), .bool false] 1 [.int .i64 (((ts.length - r.length : Nat) : Int) + 1)]) = w') : SP eP bp tv ts w' r.tail ∧ Rg bp (bp + 1) w w' := by
  have hw2 : setB w bp eP [tv, .int .i64 ((ts.length - r.tail.length : Nat) : Int), .bool false] = w' := by rw [← hw, pos_next h.sx hr]; rfl
  subst hw2
  have hg : Rg bp (bp + 1) w (setB w bp eP [tv, .int .i64 ((ts.length - r.tail.length : Nat) : Int), .bool false]) := Rg.set (by omega) _ _
  exact ⟨⟨h.bl.set _ _, h.tk.rg hg (.inl (Nat.le_refl _)), sx_tail h.sx⟩, hg⟩
/-- what a part of the parser gives back -/
def SPost (eP eM : TypeId) (bp : Nat) (tv : Value) (ts : List TK) (o : PR) (w : World) (v : Value) (w' : World) : Prop :=
  ∃ a, v = .pointer a ∧ Rg bp (bp + 1) w w' ∧ (∀ t r1, o = some (t, r1) → SP eP bp tv ts w' r1 ∧ Tm eM w' (bp + 1) t (.pointer a)) ∧ (o = none → ∃ p : Int, Bl w' bp eP [tv, .int .i64 p, .bool true])
theorem SPost.good {t : Tre} {r1 : List TK} {o : PR} {a : Option Addr} (ho : o = some (t, r1)) (hr : Rg bp (bp + 1) w w') (h : SP eP bp tv ts w' r1) (ht : Tm eM w' (bp + 1) t (.pointer a)) : SPost eP eM bp tv ts o w (.pointer a) w' :=
  ⟨a, rfl, hr, fun t2 r2 h2 => by
    rw [ho] at h2
    simp only [Option.some.injEq, Prod.mk.injEq] at h2
    obtain ⟨rfl, rfl⟩ := h2
    exact ⟨h, ht⟩, fun h2 => by rw [ho] at h2; cases h2⟩
theorem SPost.bad {o : PR} {a : Option Addr} {p : Int} (ho : o = none) (hr : Rg bp (bp + 1) w w') (h : Bl w' bp eP [tv, .int .i64 p, .bool true]) : SPost eP eM bp tv ts o w (.pointer a) w' :=
  ⟨a, rfl, hr, fun t2 r2 h2 => (by rw [ho] at h2; cases h2), fun _ => ⟨p, h⟩⟩
end
/-- a tree as it must be -/
def Wt : Tre → Prop
  | ⟨k, v, x, 0, _⟩ => (k = 1 ∧ x = 0) ∨ (k = 2 ∧ v = 0 ∧ 0 ≤ x ∧ x ≤ 25)
  | ⟨k, v, x, 1, c⟩ => x = 0 ∧ ((k = 3 ∧ v = 0) ∨ (k = 7 ∧ 0 ≤ v ∧ v ≤ 1000000)) ∧ Wt (c 0)
  | ⟨k, v, x, n + 2, c⟩ => n = 0 ∧ v = 0 ∧ x = 0 ∧ (k = 4 ∨ k = 5 ∨ k = 6) ∧ Wt (c 0) ∧ Wt (c 1)
theorem wt_num (v : Int) : Wt (lf 1 v 0) := .inl ⟨rfl, rfl⟩
theorem wt_var {x : Int} (h : 0 ≤ x ∧ x ≤ 25) : Wt (lf 2 0 x) := .inr ⟨rfl, rfl, h⟩
theorem wt_neg {t : Tre} (h : Wt t) : Wt (u1 3 0 t) := ⟨rfl, .inl ⟨rfl, rfl⟩, h⟩
theorem wt_pow {v : Int} {t : Tre} (hv : 0 ≤ v ∧ v ≤ 1000000) (h : Wt t) : Wt (u1 7 v t) := ⟨rfl, .inr ⟨rfl, hv⟩, h⟩
theorem wt_bin {k : Int} {a b : Tre} (hk : k = 4 ∨ k = 5 ∨ k = 6) (ha : Wt a) (hb : Wt b) : Wt (b2 k a b) := ⟨rfl, rfl, rfl, hk, ha, hb⟩
theorem wt_negs {t : Tre} (h : Wt t) : ∀ n, Wt (negs n t)
  | 0 => h
  | n + 1 => wt_neg (wt_negs h n)
def Wf (f : Nat → List TK → PR) : Prop := ∀ d r t r', r.all tokOk = true → f d r = some (t, r') → Wt t
theorem all_sx {r r' : List TK} (h : r.all tokOk = true) (hs : r' <:+ r) : r'.all tokOk = true := by
  obtain ⟨p, rfl⟩ := hs
  rw [List.all_append, Bool.and_eq_true] at h
  exact h.2
section
variable {c : Bool} {E : Nat → List TK → PR}
theorem prim_wf (hS : Sx E) (hE : Wf E) : Wf (prim c E) := fun d r t r' ha h => by
  unfold prim at h
  split at h
  · simp only [Option.some.injEq, Prod.mk.injEq] at h; rw [← h.1]; exact wt_num _
  · split at h
    · rename_i h2
      simp only [Option.some.injEq, Prod.mk.injEq] at h; rw [← h.1]
      refine wt_var ?_
      cases r with
      | nil => simp [hk] at h2
      | cons y r =>
        simp only [List.all_cons, Bool.and_eq_true] at ha
        have := ha.1
        unfold tokOk at this
        simp only [decide_eq_true_eq] at this
        exact this.2.2.1 h2
    · split at h
      · split at h
        · cases h
        · split at h
          · cases h
          · rename_i t2 r2 he
            split at h
            · simp only [Option.some.injEq, Prod.mk.injEq] at h; rw [← h.1]
              exact hE _ _ _ _ (all_sx ha (tail_sx r)) he
            · cases h
      · cases h
theorem powr_wf (hS : Sx E) (hE : Wf E) : Wf (powr c E) := fun d r t r' ha h => by
  unfold powr at h
  split at h
  · cases h
  · rename_i t1 r1 he
    have h1 := prim_wf hS hE _ _ _ _ ha he
    split at h
    · split at h
      · rename_i hq
        simp only [Option.some.injEq, Prod.mk.injEq] at h; rw [← h.1]
        exact wt_pow hq.2 h1
      · cases h
    · simp only [Option.some.injEq, Prod.mk.injEq] at h; rw [← h.1]; exact h1
theorem unry_wf (hS : Sx E) (hE : Wf E) : Wf (unry c E) := fun d r t r' ha h => by
  unfold unry at h
  split at h
  · cases h
  · rename_i t1 r1 he
    simp only [Option.some.injEq, Prod.mk.injEq] at h; rw [← h.1]
    exact wt_negs (powr_wf hS hE _ _ _ _ (all_sx ha (List.drop_suffix _ _)) he) _
theorem tloop_wf (hS : Sx E) (hE : Wf E) (d : Nat) : ∀ (n : Nat) (l : Tre) (r : List TK) (t : Tre) (r' : List TK), r.all tokOk = true → Wt l → tloop c E d n l r = some (t, r') → Wt t
  | 0, l, r, t, r', ha, hl, h => by rw [tloop] at h; simp only [Option.some.injEq, Prod.mk.injEq] at h; rw [← h.1]; exact hl
  | n + 1, l, r, t, r', ha, hl, h => by
    rw [tloop] at h
    split at h
    · split at h
      · cases h
      · rename_i x r1 he
        have ht := all_sx ha (tail_sx r)
        exact tloop_wf hS hE d n _ _ _ _ (all_sx ht (unry_sx hS _ _ _ _ he)) (wt_bin (.inr (.inr rfl)) hl (unry_wf hS hE _ _ _ _ ht he)) h
    · simp only [Option.some.injEq, Prod.mk.injEq] at h; rw [← h.1]; exact hl
theorem trm_wf (hS : Sx E) (hE : Wf E) : Wf (trm c E) := fun d r t r' ha h => by
  unfold trm at h
  split at h
  · cases h
  · rename_i l r1 he
    exact tloop_wf hS hE d _ _ _ _ _ (all_sx ha (unry_sx hS _ _ _ _ he)) (unry_wf hS hE _ _ _ _ ha he) h
theorem eloop_wf (hS : Sx E) (hE : Wf E) (d : Nat) : ∀ (n : Nat) (l : Tre) (r : List TK) (t : Tre) (r' : List TK), r.all tokOk = true → Wt l → eloop c E d n l r = some (t, r') → Wt t
  | 0, l, r, t, r', ha, hl, h => by rw [eloop] at h; simp only [Option.some.injEq, Prod.mk.injEq] at h; rw [← h.1]; exact hl
  | n + 1, l, r, t, r', ha, hl, h => by
    rw [eloop] at h
    split at h
    · split at h
      · cases h
      · rename_i x r1 he
        have ht := all_sx ha (tail_sx r)
        refine eloop_wf hS hE d n _ _ _ _ (all_sx ht (trm_sx hS _ _ _ _ he)) (wt_bin ?_ hl (trm_wf hS hE _ _ _ _ ht he)) h
        by_cases h4 : hk r = 4
        · rw [if_pos h4]; exact .inr (.inl rfl)
        · rw [if_neg h4]; exact .inl rfl
    · simp only [Option.some.injEq, Prod.mk.injEq] at h; rw [← h.1]; exact hl
theorem expr_wf (hS : Sx E) (hE : Wf E) : Wf (expr c E) := fun d r t r' ha h => by
  unfold expr at h
  split at h
  · cases h
  · rename_i l r1 he
    exact eloop_wf hS hE d _ _ _ _ _ (all_sx ha (trm_sx hS _ _ _ _ he)) (trm_wf hS hE _ _ _ _ ha he) h
end
theorem pE_wf (c : Bool) : ∀ n, Wf (pE c n)
  | 0 => fun d r t r' _ h => by cases h
  | n + 1 => expr_wf (pE_sx c n) (pE_wf c n)
theorem parse_wt {ts : List TK} {t : Tre} (h : parseP ts = some t) : Wt t ∧ tsz t ≤ 500000 ∧ ts.length ≠ 0 := by
  unfold parseP at h
  split at h
  · cases h
  · rename_i hn
    cases he : pE false (ts.length + 1) 0 ts with
    | none => rw [he] at h; cases h
    | some p =>
      obtain ⟨t1, r1⟩ := p
      rw [he] at h
      simp only [] at h
      split at h
      · rename_i hc
        simp only [Option.some.injEq] at h
        subst h
        refine ⟨pE_wf false _ _ _ _ _ ?_ he, hc.2, fun e => hn (.inl e)⟩
        cases ha : ts.all tokOk with
        | true => rfl
        | false => exact absurd (.inr (.inr (.inl ha))) hn
      · cases h
end Go.Mw
