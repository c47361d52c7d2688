/-
  Terms in memory: writing a term, a coefficient, a factor.
-/
import Derived.Test.YbxaawGreatPolyM
set_option linter.unusedVariables false
set_option linter.unusedSimpArgs false
namespace Go.Mw

theorem own_at {w : World} {B e sz g n cap : Nat} {α : Type} {enc : α → List Value} (henc : ∀ x, (enc x).length = sz) {a : List α} (h : w.ownsRow B e sz (.slice (some ⟨g, 0, none⟩) n cap) a.length (a.flatMap enc)) :
    ∃ sp, n = a.length ∧ B ≤ g ∧ Bl w g e (a.flatMap enc ++ sp) ∧ (∀ k, k < a.length → k * sz + sz ≤ (a.flatMap enc ++ sp).length) ∧
      ∀ (w' : World) (b : List α), b.length = a.length → Bl w' g e (b.flatMap enc ++ sp) → w'.ownsRow B e sz (.slice (some ⟨g, 0, none⟩) n cap) a.length (b.flatMap enc) := by
  rcases own_slc h with ⟨h0, _⟩ | ⟨g', cap', sp, hB, hs⟩
  · cases h0
  · have hv := hs.val
    simp only [Value.slice.injEq, Option.some.injEq, Addr.mk.injEq] at hv
    obtain ⟨⟨rfl, _⟩, rfl, rfl⟩ := hv
    refine ⟨sp, rfl, hB, hs.bl, fun k hk => ?_, fun w' b hb hbl => ?_⟩
    · rw [List.length_append, fm_length henc]
      have : (k + 1) * sz ≤ a.length * sz := Nat.mul_le_mul_right _ hk
      rw [Nat.add_mul] at this; omega
    · refine Slc.own (g := g) (cap := cap) (sp := sp) ⟨rfl, hbl, by rw [fm_length henc, hb], hs.capn, hs.capm, ?_⟩ hB
      have := hs.size
      rw [List.length_append, fm_length henc] at this ⊢
      rw [hb]; exact this
section
variable {w w' : World} {lo hi : Nat} {eT eF : TypeId} {v : Value} {Ls : List Lt}
/-- term k is written: a new slice of factors -/
theorem OwnT.store {g n cap k : Nat} {c : Int} {fv : Value} {fs : List (Int × Int)} (h : OwnT w lo hi eT eF (.slice (some ⟨g, 0, none⟩) n cap) Ls) (hk : k < Ls.length) (hf : w.ownsRow hi eF 2 fv fs.length (prC fs)) (hl : lo ≤ hi) (hh : hi ≤ w.heap.size) :
    ∃ cs, Bl w g eT cs ∧ k * 2 + 2 ≤ cs.length ∧ lo ≤ g ∧ g < hi ∧ OwnT (setB w g eT (putAt cs (k * 2) [.int .i64 c, fv])) lo w.heap.size eT eF (.slice (some ⟨g, 0, none⟩) n cap) (Ls.set k (c, fv, fs)) := by
  obtain ⟨sp, hn, hB, hbl, hln, hre⟩ := own_at ltE_len h.top
  have hg : g < hi := h.lt g rfl
  refine ⟨_, hbl, hln k hk, hB, hg, h.put hk (w' := setB w g eT (putAt (Ls.flatMap ltE ++ sp) (k * 2) [.int .i64 c, fv])) grown_set (hre _ _ (by simp) ?_) (hf.kept grown_set ?_) (fun q hq => (own_block_lt hf hq).2) hl hh⟩
  · rw [← fm_put ltE_len sp Ls k (c, fv, fs) hk]
    exact hbl.set _ _
  · cases hv : fv.ownBlock with
    | none => exact .inl rfl
    | some q => exact .inr (fun e => by simp only [Option.some.injEq] at e; have := (own_block_lt hf hv).1; omega)
/-- the coefficient of term k is written -/
theorem OwnT.storeC {g n cap k : Nat} {c : Int} {t : Lt} (h : OwnT w lo hi eT eF (.slice (some ⟨g, 0, none⟩) n cap) Ls) (hk : Ls[k]? = some t) :
    ∃ cs, Bl w g eT cs ∧ k * 2 + 2 ≤ cs.length ∧ lo ≤ g ∧ g < hi ∧ OwnT (setB w g eT (putAt cs (k * 2) [.int .i64 c])) lo hi eT eF (.slice (some ⟨g, 0, none⟩) n cap) (Ls.set k (c, t.2)) := by
  obtain ⟨sp, hn, hB, hbl, hln, hre⟩ := own_at ltE_len h.top
  have hg : g < hi := h.lt g rfl
  have hlt := (List.getElem?_eq_some_iff.1 hk).1
  have e1 : Ls[k] = t := (List.getElem?_eq_some_iff.1 hk).2
  refine ⟨_, hbl, hln k hlt, hB, hg, h.setTop (w' := setB w g eT (putAt (Ls.flatMap ltE ++ sp) (k * 2) [.int .i64 c])) ?_ grown_set ?_⟩
  · apply List.ext_getElem?
    intro i
    simp only [List.getElem?_map]
    by_cases hi : i = k
    · subst hi; rw [List.getElem?_set_self hlt, hk]; rfl
    · rw [List.getElem?_set_ne (by omega)]
  · rw [List.length_set]
    refine hre _ _ (by simp) ?_
    have := fm_put1 ltE_len sp Ls k 0 t (c, t.2) (.int .i64 c) hk (by decide) rfl
    rw [Nat.add_zero] at this
    rw [← this]
    exact hbl.set _ _
/-- factor j of term i is written -/
theorem OwnT.storeF {g n cap i j : Nat} {c : Int} {x : Int × Int} {fs : List (Int × Int)} (h : OwnT w lo hi eT eF v Ls) (hk : Ls[i]? = some (c, .slice (some ⟨g, 0, none⟩) n cap, fs)) (hj : j < fs.length) :
    ∃ cs, Bl w g eF cs ∧ j * 2 + 2 ≤ cs.length ∧ lo ≤ g ∧ g < hi ∧ OwnT (setB w g eF (putAt cs (j * 2) [.int .i64 x.1, .int .i64 x.2])) lo hi eT eF v (Ls.set i (c, .slice (some ⟨g, 0, none⟩) n cap, fs.set j x)) := by
  have hm := List.mem_of_getElem? hk
  have hsub := h.sub _ hm
  obtain ⟨sp, hn, hB, hbl, hln, hre⟩ := own_at (a := fs) prE_len hsub
  have hg : g < hi := h.subLt _ hm g rfl
  refine ⟨_, hbl, hln j hj, hB, hg, ?_⟩
  refine h.setSub (w' := setB w g eF (putAt (fs.flatMap prE ++ sp) (j * 2) [.int .i64 x.1, .int .i64 x.2])) hk (fs := fs.set j x) grown_set ?_
  rw [List.length_set]
  refine hre _ _ (by simp) ?_
  rw [← fm_put prE_len sp fs j x hj]
  exact hbl.set _ _
end
theorem pol_set_take {Ls : List Lt} {M : List PT} {k : Nat} {t : Lt} {x : PT} (hl : Ls.length = M.length) (hx : M[k]? = some x) (ht : (t.1, t.2.2) = x) (h : pol (Ls.take k) = M.take k) : pol ((Ls.set k t).take (k + 1)) = M.take (k + 1) := by
  have h1 : pol ((Ls.set k t).take (k + 1)) = ((pol Ls).set k x).take (k + 1) := by
    simp only [pol, List.map_take, List.map_set, ht]
  rw [h1]
  refine take_put_next M (pol Ls) k x (by rw [pol_length]; exact hl) hx ?_
  rw [← h]; simp [pol, List.map_take]
theorem pol_take_all {Ls : List Lt} {M : List PT} {k : Nat} (hl : Ls.length = M.length) (hk : M.length ≤ k) (h : pol (Ls.take k) = M.take k) : pol Ls = M := by
  rwa [List.take_of_length_le (by omega), List.take_of_length_le hk] at h
end Go.Mw
namespace Go.Mw
theorem OwnT.low {w : World} {lo hi lo' : Nat} {eT eF : TypeId} {v : Value} {Ls : List Lt} (h : OwnT w lo hi eT eF v Ls) (hl : lo' ≤ lo) : OwnT w lo' hi eT eF v Ls :=
  ⟨own_low h.top hl, fun t ht => own_low (h.sub t ht) hl, h.lt, h.subLt, h.ne, h.nd⟩
def flipF (t : Int × Int) : Int × Int := (xr .i64 t.1, xr .i64 t.2)
def flipP (q : List PT) : List PT := q.map fun t => (xr .i64 t.1, t.2.map flipF)
theorem flipP_get {q : List PT} {k : Nat} {t : PT} (h : q[k]? = some t) : (flipP q)[k]? = some (xr .i64 t.1, t.2.map flipF) := by simp [flipP, h]
theorem flipP_length (q : List PT) : (flipP q).length = q.length := by simp [flipP]
/-- a fresh copy -/
def Copied (eT eF : TypeId) (q : List PT) (w : World) (v : Value) (w' : World) : Prop := ∃ L', OwnT w' w.heap.size w'.heap.size eT eF v L' ∧ pol L' = q ∧ Ext w.heap.size w w'
def CopiedP (eT eF : TypeId) (q : List PT) (w : World) (r : Value) (w' : World) : Prop := ∃ v, r = .agg #[v] ∧ Copied eT eF q w v w'
/-- a call made in w1 out of w, a block of w1 written behind it -/
theorem Copied.back {eT eF : TypeId} {q : List PT} {w w1 w2 : World} {v : Value} (h : Copied eT eF q w1 v w2) (he : Ext w.heap.size w w1) {b : Nat} (hb : w.heap.size ≤ b ∧ b < w1.heap.size) (e : TypeId) (cs : List Value) : Copied eT eF q w v (setB w2 b e cs) := by
  obtain ⟨L', hO, hp, hE⟩ := h
  refine ⟨L', ?_, hp, (he.next hE).set hb.1 _ _⟩
  rw [size_setB]
  exact (hO.rg (Rg.set (lo := b) (hi := b + 1) (by omega) e cs) (by omega)).low he.size
end Go.Mw
