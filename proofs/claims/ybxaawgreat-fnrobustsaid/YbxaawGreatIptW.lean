/-
  The implementation's printer of trees, walked.
-/
import Derived.Test.YbxaawGreatPtP
import Derived.Test.YbxaawGreatCanQ
set_option linter.unusedVariables false
set_option linter.unusedSimpArgs false
set_option maxRecDepth 10000
set_option maxHeartbeats 4000000
namespace Go.Mw
/-- an item of the stack: a subtree, a byte, an exponent -/
def AI : Type := (Tre × Int × Nat) ⊕ (Nat ⊕ (Int × Nat))
def AI.sub (s : Tre) (d : Int) (j : Nat) : AI := Sum.inl (s, d, j)
def AI.ch (c : Nat) : AI := Sum.inr (Sum.inl c)
def AI.ex (v : Int) (j : Nat) : AI := Sum.inr (Sum.inr (v, j))
theorem AI.ch_ne {c : Nat} {s : Tre} {d : Int} {j : Nat} : AI.ch c ≠ AI.sub s d j := fun h => by unfold AI.ch AI.sub at h; cases h
theorem AI.ex_ne {v : Int} {i : Nat} {s : Tre} {d : Int} {j : Nat} : AI.ex v i ≠ AI.sub s d j := fun h => by unfold AI.ex AI.sub at h; cases h
theorem AI.sub_j {s s' : Tre} {d d' : Int} {j j' : Nat} (h : AI.sub s d j = AI.sub s' d' j') : j = j' := by unfold AI.sub at h; cases h; rfl
theorem AI.casesOn3 {p : AI → Prop} (h1 : ∀ s d j, p (.sub s d j)) (h2 : ∀ c, p (.ch c)) (h3 : ∀ v j, p (.ex v j)) : ∀ a, p a
  | Sum.inl (s, d, j) => h1 s d j
  | Sum.inr (Sum.inl c) => h2 c
  | Sum.inr (Sum.inr (v, j)) => h3 v j
def aiE : AI → List Value
  | Sum.inl (s, d, j) => [.int .i64 0, .int .i64 (j : Nat), .int .i64 d]
  | Sum.inr (Sum.inl c) => [.int .i64 1, .int .i64 (c : Nat), .int .i64 0]
  | Sum.inr (Sum.inr (v, j)) => [.int .i64 2, .int .i64 (j : Nat), .int .i64 0]
theorem aiE_len (a : AI) : (aiE a).length = 3 := AI.casesOn3 (p := fun a => (aiE a).length = 3) (fun _ _ _ => rfl) (fun _ => rfl) (fun _ _ => rfl) a
def aok (ns : List Nd) (S : List Tre) : AI → Prop
  | Sum.inl (s, d, j) => S[j]? = some s ∧ 0 ≤ d ∧ d ≤ 5000
  | Sum.inr (Sum.inl c) => c < 256
  | Sum.inr (Sum.inr (v, j)) => ∃ nd, ns[j]? = some nd ∧ nd.2.1 = v
def atx : AI → Option (List Nat)
  | Sum.inl (s, d, _) => txt s d
  | Sum.inr (Sum.inl c) => some [c]
  | Sum.inr (Sum.inr (v, _)) => some (udec v)
def awg : AI → Nat
  | Sum.inl (s, _, _) => 6 * tsz s
  | Sum.inr (Sum.inl _) => 1
  | Sum.inr (Sum.inr _) => 1
theorem atx_sub (s : Tre) (d : Int) (j : Nat) : atx (.sub s d j) = txt s d := rfl
theorem atx_ch (c : Nat) : atx (.ch c) = some [c] := rfl
theorem atx_ex (v : Int) (j : Nat) : atx (.ex v j) = some (udec v) := rfl
theorem awg_sub (s : Tre) (d : Int) (j : Nat) : awg (.sub s d j) = 6 * tsz s := rfl
theorem awg_ch (c : Nat) : awg (.ch c) = 1 := rfl
theorem awg_ex (v : Int) (j : Nat) : awg (.ex v j) = 1 := rfl
def wsum : List AI → Nat
  | [] => 0
  | a :: L => awg a + wsum L
theorem wsum_app : ∀ A B : List AI, wsum (A ++ B) = wsum A + wsum B
  | [], B => by simp [wsum]
  | a :: A, B => by rw [List.cons_append, wsum, wsum, wsum_app A B]; omega
theorem wsum_ge : ∀ L : List AI, L.length ≤ wsum L
  | [] => by simp
  | a :: L => by
    have := wsum_ge L
    have h : 1 ≤ awg a := AI.casesOn3 (p := fun a => 1 ≤ awg a) (fun s d j => by have := tsz_pos s; rw [awg_sub]; omega) (fun c => Nat.le_refl _) (fun v j => Nat.le_refl _) a
    rw [wsum, List.length_cons]; omega
/-- what the stack still prints; its top is last -/
def rest : List AI → Option (List Nat)
  | [] => some []
  | a :: L => (rest L).bind fun y => (atx a).map fun x => y ++ x
theorem rest_app : ∀ A B : List AI, rest (A ++ B) = (rest B).bind fun y => (rest A).map fun x => y ++ x
  | [], B => by
    simp only [List.nil_append, rest]
    cases rest B <;> simp
  | a :: A, B => by
    rw [List.cons_append, rest, rest_app A B, rest]
    cases rest B with
    | none => rfl
    | some y =>
      simp only [Option.bind_some]
      cases rest A with
      | none => rfl
      | some x => cases atx a <;> simp
theorem rest_one (a : AI) : rest [a] = atx a := by
  simp only [rest, Option.bind_some]
  cases atx a <;> simp
theorem rest_step {T : Option (List Nat)} {L X : List AI} {a : AI} {acc pre : List Nat} (h : T = (rest (L ++ [a])).map fun x => acc ++ x) (hx : atx a = (rest X).map fun x => pre ++ x) : T = (rest (L ++ X)).map fun x => (acc ++ pre) ++ x := by
  rw [h, rest_app, rest_app, rest_one, hx]
  cases rest X with
  | none => rfl
  | some y => cases rest L <;> simp
theorem rest_fail {T : Option (List Nat)} {L : List AI} {a : AI} {acc : List Nat} (h : T = (rest (L ++ [a])).map fun x => acc ++ x) (hx : atx a = none) : T = none := by
  rw [h, rest_app, rest_one, hx]; rfl
def psh (c : Bool) (s : Tre) (d : Int) (j : Nat) : Option (List AI) := if c = true then (if d + 1 > 5000 then none else some [.ch 41, .sub s (d + 1) j, .ch 40]) else some [.sub s d j]
theorem psh_some {c : Bool} {s : Tre} {d : Int} {j : Nat} {X : List AI} (h : psh c s d j = some X) : rest X = wrp c (fun e => txt s e) d ∧ wsum X ≤ 6 * tsz s + 2 ∧ X ≠ [] := by
  unfold psh at h
  unfold wrp
  split at h
  · rename_i hc
    rw [if_pos hc]
    split at h
    · cases h
    · rename_i hd
      rw [if_neg hd]
      simp only [Option.some.injEq] at h
      subst h
      refine ⟨?_, by simp only [wsum, awg_sub, awg_ch]; omega, by simp⟩
      simp only [rest, atx_sub, atx_ch, Option.bind_some, Option.map_some, List.nil_append]
      cases txt s (d + 1) <;> simp
  · rename_i hc
    rw [if_neg hc]
    simp only [Option.some.injEq] at h
    subst h
    exact ⟨rest_one _, by simp only [wsum, awg_sub, awg_ch]; omega, by simp⟩
theorem psh_none {c : Bool} {s : Tre} {d : Int} {j : Nat} (h : psh c s d j = none) : wrp c (fun e => txt s e) d = none := by
  unfold psh at h
  unfold wrp
  split at h
  · rename_i hc
    rw [if_pos hc]
    split at h
    · rename_i hd; rw [if_pos hd]
    · cases h
  · cases h
theorem psh_aok {ns : List Nd} {S : List Tre} {c : Bool} {s : Tre} {d : Int} {j : Nat} {X : List AI} (h : psh c s d j = some X) (hs : S[j]? = some s) (h0 : 0 ≤ d) (h1 : d ≤ 5000) : ∀ a ∈ X, aok ns S a := by
  unfold psh at h
  split at h
  · split at h
    · cases h
    · simp only [Option.some.injEq] at h
      subst h
      intro a ha
      simp only [List.mem_cons, List.not_mem_nil, or_false] at ha
      rcases ha with rfl | rfl | rfl
      · exact (by decide : 41 < 256)
      · exact ⟨hs, by omega, by omega⟩
      · exact (by decide : 40 < 256)
  · simp only [Option.some.injEq] at h
    subst h
    intro a ha
    simp only [List.mem_cons, List.not_mem_nil, or_false] at ha
    subst ha
    exact ⟨hs, h0, h1⟩
theorem ai3 (a : AI) : ∃ tg x d : Int, aiE a = [.int .i64 tg, .int .i64 x, .int .i64 d] ∧ (tg = 1 → ∃ c : Nat, a = .ch c ∧ x = c) ∧ (tg = 2 → ∃ v, ∃ j : Nat, a = .ex v j ∧ x = j) ∧ (tg ≠ 1 → tg ≠ 2 → ∃ s, ∃ j : Nat, a = .sub s d j ∧ x = j ∧ tg = 0) :=
  AI.casesOn3 (p := fun a => ∃ tg x d : Int, aiE a = [.int .i64 tg, .int .i64 x, .int .i64 d] ∧ (tg = 1 → ∃ c : Nat, a = .ch c ∧ x = c) ∧ (tg = 2 → ∃ v, ∃ j : Nat, a = .ex v j ∧ x = j) ∧ (tg ≠ 1 → tg ≠ 2 → ∃ s, ∃ j : Nat, a = .sub s d j ∧ x = j ∧ tg = 0))
    (fun s d j => ⟨0, j, d, rfl, fun h => by omega, fun h => by omega, fun _ _ => ⟨s, j, rfl, rfl, rfl⟩⟩)
    (fun c => ⟨1, c, 0, rfl, fun _ => ⟨c, rfl, rfl⟩, fun h => by omega, fun h => absurd rfl h⟩)
    (fun v j => ⟨2, j, 0, rfl, fun h => by omega, fun _ => ⟨v, j, rfl, rfl⟩, fun _ h => absurd rfl h⟩) a
theorem ai_ne {a : AI} {x d : Int} (ha : ∀ s e j, a = .sub s e j → (j : Int) ≠ x) : aiE a ≠ [.int .i64 0, .int .i64 x, .int .i64 d] :=
  AI.casesOn3 (p := fun a => (∀ s e j, a = .sub s e j → (j : Int) ≠ x) → aiE a ≠ [.int .i64 0, .int .i64 x, .int .i64 d])
    (fun s e j ha h => by
      have h2 : [Value.int .i64 0, .int .i64 (j : Int), .int .i64 e] = [.int .i64 0, .int .i64 x, .int .i64 d] := h
      simp only [List.cons.injEq, Value.int.injEq] at h2
      exact ha s e j rfl h2.2.1.2)
    (fun c _ h => by
      have h2 : [Value.int .i64 1, .int .i64 (c : Int), .int .i64 0] = [.int .i64 0, .int .i64 x, .int .i64 d] := h
      simp only [List.cons.injEq, Value.int.injEq] at h2
      exact absurd h2.1.2 (by decide))
    (fun v j _ h => by
      have h2 : [Value.int .i64 2, .int .i64 (j : Int), .int .i64 0] = [.int .i64 0, .int .i64 x, .int .i64 d] := h
      simp only [List.cons.injEq, Value.int.injEq] at h2
      exact absurd h2.1.2 (by decide)) a ha
theorem own_ne_bl {w : World} {B e n bi : Nat} {v y0 y1 y2 : Value} {xs : List Value} (ho : w.ownsRow B e 3 v n xs) (hb : Bl w bi e [y0, y1, y2]) (h : 2 ≤ n ∨ (n = 1 ∧ xs ≠ [y0, y1, y2])) : v.ownBlock ≠ some bi := fun hq => by
  rcases own_slc ho with ⟨rfl, _⟩ | ⟨g, cap, sp, _, hs⟩
  · cases hq
  · rw [hs.val] at hq
    simp only [Value.ownBlock, Option.some.injEq] at hq
    subst hq
    have h1 := hb.at_
    rw [hs.bl.at_] at h1
    simp only [Option.some.injEq, Obj.cells.injEq] at h1
    have h2 : xs ++ sp = [y0, y1, y2] := by
      have := congrArg Array.toList h1.1
      simpa using this
    have h3 := hs.len
    have h4 := congrArg List.length h2
    rw [List.length_append] at h4
    simp only [List.length_cons, List.length_nil] at h4
    rcases h with h | ⟨rfl, h⟩
    · omega
    · have : sp = [] := List.eq_nil_of_length_eq_zero (by omega)
      rw [this, List.append_nil] at h2
      exact h h2
/-- an item was put on the stack -/
structure Pushed (eI u8 : TypeId) (w1 w w' : World) (sv : Value) : Prop where
  kept : KeptBut eI w w'
  bf : ∀ bv acc, Bf u8 w1 w bv acc → Bf u8 w1 w' bv acc
  size : w1.heap.size ≤ w'.heap.size
  same : ∀ bi cs, sv.ownBlock ≠ some bi → Bl w bi eI cs → Bl w' bi eI cs
theorem st_app {eI u8 : TypeId} {w1 w w6 : World} {sv v6 : Value} {L : List AI} {a : AI} (hne : Nat.beq u8 eI = false) (hst : w.ownsRow w1.heap.size eI 3 sv L.length (L.flatMap aiE)) (hs : w1.heap.size ≤ w.heap.size) (hg : (addB w eI (aiE a)).grownBy w6 sv.ownBlock) (h6 : w6.ownsRow w1.heap.size eI 3 v6 (L.length + 1) (L.flatMap aiE ++ aiE a)) : w6.ownsRow w1.heap.size eI 3 v6 (L ++ [a]).length ((L ++ [a]).flatMap aiE) ∧ Pushed eI u8 w1 w w6 sv := by
  have hea := (Ext.refl _ w).addNew eI (aiE a)
  have hob := own_ext hst hea
  have hsz := hg.size
  rw [size_addB] at hsz
  refine ⟨?_, ⟨fun b e cs hb h => (hb.ext hea).off_own hob h hg, fun bv acc hB => ⟨own_apart (own_ext hB.own hea) hob hne hg, (hB.ext.next hea).grown hg (by rw [size_addB]; omega) (fun x hx => (own_block_lt hob hx).1)⟩, by omega, fun bi cs hn hb => ⟨?_⟩⟩⟩
  · rw [List.length_append, List.flatMap_append]
    simpa using h6
  · have hb2 := hb.ext hea
    exact (hg.block bi hb2.lt (fun e => hn e.symm)).trans hb2.at_
theorem Pushed.trans {eI u8 : TypeId} {w1 w w2 w3 : World} {sv sv2 : Value} (h : Pushed eI u8 w1 w w2 sv) (k : Pushed eI u8 w1 w2 w3 sv2) (hk : ∀ bi cs, sv.ownBlock ≠ some bi → Bl w bi eI cs → sv2.ownBlock ≠ some bi) : Pushed eI u8 w1 w w3 sv :=
  ⟨fun b e cs hb he => k.kept _ _ _ (h.kept _ _ _ hb he) he, fun bv acc hB => k.bf _ _ (h.bf _ _ hB), k.size, fun bi cs hn hb => k.same _ _ (hk bi cs hn hb) (h.same _ _ hn hb)⟩
theorem len_fm (L : List AI) : (L.flatMap aiE).length = L.length * 3 := by
  induction L with
  | nil => rfl
  | cons a L ih => rw [List.flatMap_cons, List.length_append, aiE_len, ih, List.length_cons]; omega
/-- behind one item more the stack is not the item in hand -/
theorem own_ne_ai {eI : TypeId} {w : World} {B bi : Nat} {v : Value} {L : List AI} {a : AI} {x d : Int} (ho : w.ownsRow B eI 3 v (L ++ [a]).length ((L ++ [a]).flatMap aiE)) (hb : Bl w bi eI [.int .i64 0, .int .i64 x, .int .i64 d]) (ha : ∀ s e j, a = .sub s e j → (j : Int) ≠ x) : v.ownBlock ≠ some bi := by
  refine own_ne_bl ho hb ?_
  cases L with
  | nil =>
    right
    refine ⟨rfl, fun h => ?_⟩
    have h2 : aiE a = [.int .i64 0, .int .i64 x, .int .i64 d] := by simpa using h
    exact ai_ne ha h2
  | cons b L => left; simp
end Go.Mw
namespace Go.Proofs.YbxaawGreat
open Go.Mw
abbrev Pu := Pushed 159 5

theorem iprec_ok (k : Int) (w : World) : Ret Yaam.prog 105 [.int .i64 k] w fun r w' => r = .int .i64 (prc k) ∧ w = w' := by
  refine enter1 Yaam.func105 Yaam.ntmps105 (by kernel_rfl) rfl rfl ?_
  refine V.seq ?_
  refine V.region ?_
  refine L.rd (rd_assign rfl) rfl ?_
  refine L.nil ?_
  refine X.sq ?_
  refine V.seq ?_
  refine V.seq ?_
  refine V.region ?_
  refine L.rd (rd_move rfl) rfl ?_
  refine L.nil ?_
  refine X.sq ?_
  refine V.block ?_
  refine V.seq ?_
  refine V.seq ?_
  refine V.region ?_
  refine L.rd (rd_eql rfl rfl) rfl ?_
  refine L.rd (rd_assign rfl) rfl ?_
  refine L.nil ?_
  refine X.sq ?_
  first | refine V.cond rfl (fun h4 => ?_) (fun h4 => ?_) | refine V.condB rfl (fun h4 => ?_) (fun h4 => ?_)
  ·
    refine V.skip ?_
    refine X.sq ?_
    first | refine V.cond rfl (fun h4_ => ?_) (fun h4_ => ?_) | refine V.condB rfl (fun h4_ => ?_) (fun h4_ => ?_)
    ·
      refine V.seq ?_
      refine V.region ?_
      refine L.rd (rd_assign rfl) rfl ?_
      refine L.nil ?_
      refine X.sq ?_
      refine V.ret ?_
      refine X.bkRet ?_
      refine X.sqRet ?_
      refine ret_1 Yaam.results105 rfl ?_
      unfold prc
      rw [if_pos (by omega)]
      exact ⟨rfl, rfl⟩
    ·
      exact absurd h4 h4_
  ·
    refine V.region ?_
    refine L.rd (rd_eql rfl rfl) rfl ?_
    refine L.rd (rd_assign rfl) rfl ?_
    refine L.nil ?_
    refine X.sq ?_
    first | refine V.cond rfl (fun h4 => ?_) (fun h4 => ?_) | refine V.condB rfl (fun h4 => ?_) (fun h4 => ?_)
    ·
      refine V.seq ?_
      refine V.region ?_
      refine L.rd (rd_assign rfl) rfl ?_
      refine L.nil ?_
      refine X.sq ?_
      refine V.ret ?_
      refine X.bkRet ?_
      refine X.sqRet ?_
      refine ret_1 Yaam.results105 rfl ?_
      unfold prc
      rw [if_pos (by omega)]
      exact ⟨rfl, rfl⟩
    ·
      refine V.seq ?_
      refine V.region ?_
      refine L.rd (rd_eql rfl rfl) rfl ?_
      refine L.rd (rd_assign rfl) rfl ?_
      refine L.nil ?_
      refine X.sq ?_
      first | refine V.cond rfl (fun h7 => ?_) (fun h7 => ?_) | refine V.condB rfl (fun h7 => ?_) (fun h7 => ?_)
      ·
        refine V.seq ?_
        refine V.region ?_
        refine L.rd (rd_assign rfl) rfl ?_
        refine L.nil ?_
        refine X.sq ?_
        refine V.ret ?_
        refine X.bkRet ?_
        refine X.sqRet ?_
        refine ret_1 Yaam.results105 rfl ?_
        unfold prc
        rw [if_neg (by omega), if_pos (by omega)]
        exact ⟨rfl, rfl⟩
      ·
        refine V.seq ?_
        refine V.region ?_
        refine L.rd (rd_eql rfl rfl) rfl ?_
        refine L.rd (rd_assign rfl) rfl ?_
        refine L.nil ?_
        refine X.sq ?_
        first | refine V.cond rfl (fun h9 => ?_) (fun h9 => ?_) | refine V.condB rfl (fun h9 => ?_) (fun h9 => ?_)
        ·
          refine V.seq ?_
          refine V.region ?_
          refine L.rd (rd_assign rfl) rfl ?_
          refine L.nil ?_
          refine X.sq ?_
          refine V.ret ?_
          refine X.bkRet ?_
          refine X.sqRet ?_
          refine ret_1 Yaam.results105 rfl ?_
          unfold prc
          rw [if_neg (by omega), if_neg (by omega), if_pos (by omega)]
          exact ⟨rfl, rfl⟩
        ·
          refine V.seq ?_
          refine V.region ?_
          refine L.rd (rd_eql rfl rfl) rfl ?_
          refine L.rd (rd_assign rfl) rfl ?_
          refine L.nil ?_
          refine X.sq ?_
          first | refine V.cond rfl (fun h11 => ?_) (fun h11 => ?_) | refine V.condB rfl (fun h11 => ?_) (fun h11 => ?_)
          ·
            refine V.seq ?_
            refine V.region ?_
            refine L.rd (rd_assign rfl) rfl ?_
            refine L.nil ?_
            refine X.sq ?_
            refine V.ret ?_
            refine X.bkRet ?_
            refine X.sqRet ?_
            refine ret_1 Yaam.results105 rfl ?_
            unfold prc
            rw [if_neg (by omega), if_neg (by omega), if_neg (by omega), if_pos (by omega)]
            exact ⟨rfl, rfl⟩
          ·
            refine V.skip ?_
            refine X.bk ?_
            refine X.sq ?_
            refine V.seq ?_
            refine V.region ?_
            refine L.rd (rd_assign rfl) rfl ?_
            refine L.nil ?_
            refine X.sq ?_
            refine V.ret ?_
            refine ret_1 Yaam.results105 rfl ?_
            unfold prc
            rw [if_neg (by omega), if_neg (by omega), if_neg (by omega), if_neg (by omega)]
            exact ⟨rfl, rfl⟩

/-- what pushW gives back; the item at bi is in hand -/
def PwP (eI u8 : TypeId) (w1 : World) (L : List AI) (o : Option (List AI)) (bi : Nat) (it : List Value) (w : World) (r : Value) (w' : World) : Prop :=
  ∃ (sv' : Value) (L' : List AI), r = .tuple #[sv', .bool o.isSome] ∧ w'.ownsRow w1.heap.size eI 3 sv' L'.length (L'.flatMap aiE) ∧ (∀ X, o = some X → L' = L ++ X) ∧ L'.length ≤ L.length + 3 ∧ sv'.ownBlock ≠ some bi ∧ Bl w' bi eI it ∧ KeptBut eI w w' ∧ (∀ bv acc, Bf u8 w1 w bv acc → Bf u8 w1 w' bv acc) ∧ w1.heap.size ≤ w'.heap.size

theorem pushW_ok (w1 : World) (Lk : List AI) (s : Tre) (d : Int) (j : Nat) (c : Bool) (sv : Value) (w : World) (hst : w.ownsRow w1.heap.size 159 3 sv Lk.length (Lk.flatMap aiE)) (hs : w1.heap.size ≤ w.heap.size) (hL : Lk.length ≤ 10000000) (bi : Nat) (x d' : Int) (hbi : Bl w bi 159 [.int .i64 0, .int .i64 x, .int .i64 d']) (hx : (j : Int) ≠ x) (hne : sv.ownBlock ≠ some bi) (hd0 : 0 ≤ d) (hd1 : d ≤ 5000) : Ret Yaam.prog 104 [sv, .int .i64 (j : Nat), .bool c, .int .i64 d] w (PwP 159 5 w1 Lk (psh c s d j) bi [.int .i64 0, .int .i64 x, .int .i64 d'] w) := by
  refine enter4 Yaam.func104 Yaam.ntmps104 (by kernel_rfl) rfl rfl ?_
  refine V.seq ?_
  refine V.region ?_
  refine L.rd (rd_assign rfl) rfl ?_
  refine L.rd (rd_assign rfl) rfl ?_
  refine L.nil ?_
  refine X.sq ?_
  refine V.seq ?_
  refine V.seq ?_
  refine V.region ?_
  refine L.rd (rd_move rfl) rfl ?_
  first | refine L.rd (rd_not rfl) rfl ?_ | refine L.rd (rd_notB rfl) rfl ?_
  refine L.nil ?_
  refine X.sq ?_
  first | refine V.cond rfl (fun h11 => ?_) (fun h11 => ?_) | refine V.condB rfl (fun h11 => ?_) (fun h11 => ?_)
  ·
    refine V.seq ?_
    refine V.region ?_
    refine L.rd (rd_move rfl) rfl ?_
    refine L.rd (rd_move rfl) rfl ?_
    refine L.rd (rd_move rfl) rfl ?_
    refine L.rd (rd_build (out := [_, _, _]) tok rfl rfl rfl rfl rfl) rfl ?_
    refine L.ef (e_buildSlice1 (e := 159) (cs := [_, _, _]) tok rfl rfl rfl rfl rfl rfl rfl rfl rfl (by first | (simp only [size_addB, size_setB, size_drew]; rfl) | rfl) rfl ?_)
    refine L.ef (e_append (m := 1) tok rfl rfl rfl rfl rfl rfl rfl rfl rfl rfl (hst.alloc _) (Bl.new _ _ _).cells rfl (by simp [Value.oneCell']) (by unfold maxLen; omega) (by simp only []; omega) (by rw [size_addB]; omega) ?_)
    rintro v2 w2 ho2 hg2
    obtain ⟨ho2', hp2⟩ := st_app (a := .sub s d j) (u8 := 5) rfl hst hs hg2 ho2
    refine L.rd (rd_assign rfl) rfl ?_
    refine L.rd (rd_assign rfl) rfl ?_
    refine L.nil ?_
    refine X.sq ?_
    refine V.ret ?_
    refine X.sqRet ?_
    refine ret_2 Yaam.results104 rfl rfl ?_
    have hc : c = false := by simpa using h11
    have hb2 := hp2.same _ _ hne hbi
    unfold psh
    rw [hc, if_neg (by simp)]
    exact ⟨v2, Lk ++ [.sub s d j], rfl, ho2', fun X hX => by simp only [Option.some.injEq] at hX; rw [← hX], by rw [List.length_append]; simp only [List.length_cons, List.length_nil]; omega, own_ne_ai ho2' hb2 (fun s' e' j' he => by rw [← AI.sub_j he]; exact hx), hb2, hp2.kept, hp2.bf, hp2.size⟩
  ·
    refine V.skip ?_
    refine X.sq ?_
    refine V.seq ?_
    refine V.seq ?_
    have hc : c = true := by simpa using h11
    unfold psh
    rw [hc, if_pos rfl]
    refine V.region ?_
    refine L.rd (rd_move rfl) rfl ?_
    (refine L.rd (rd_add3 rfl rfl ?_) rfl ?_; omega)
    refine L.rd (rd_gtr rfl rfl) rfl ?_
    refine L.nil ?_
    refine X.sq ?_
    first | refine V.cond rfl (fun h20 => ?_) (fun h20 => ?_) | refine V.condB rfl (fun h20 => ?_) (fun h20 => ?_)
    ·
      refine V.seq ?_
      refine V.region ?_
      refine L.rd (rd_move rfl) rfl ?_
      refine L.rd (rd_assign rfl) rfl ?_
      refine L.rd (rd_assign rfl) rfl ?_
      refine L.nil ?_
      refine X.sq ?_
      refine V.ret ?_
      refine X.sqRet ?_
      refine ret_2 Yaam.results104 rfl rfl ?_
      rw [if_pos (by omega)]
      exact ⟨sv, Lk, rfl, hst, fun X hX => (by cases hX), by omega, hne, hbi, fun b e cs hb _ => hb, fun bv acc hB => hB, hs⟩
    ·
      refine V.skip ?_
      refine X.sq ?_
      refine V.seq ?_
      refine V.region ?_
      refine L.rd (rd_move rfl) rfl ?_
      refine L.rd (rd_build (out := [_, _, _]) tok rfl rfl rfl rfl rfl) rfl ?_
      refine L.ef (e_buildSlice1 (e := 159) (cs := [_, _, _]) tok rfl rfl rfl rfl rfl rfl rfl rfl rfl (by first | (simp only [size_addB, size_setB, size_drew]; rfl) | rfl) rfl ?_)
      refine L.ef (e_append (m := 1) tok rfl rfl rfl rfl rfl rfl rfl rfl rfl rfl (hst.alloc _) (Bl.new _ _ _).cells rfl (by simp [Value.oneCell']) (by unfold maxLen; omega) (by simp only []; omega) (by rw [size_addB]; omega) ?_)
      rintro v2 w2 ho2 hg2
      obtain ⟨ho2', hp2⟩ := st_app (a := .ch 41) (u8 := 5) rfl hst hs hg2 ho2
      have hb2 := hp2.same _ _ hne hbi
      have hn2 := own_ne_ai ho2' hb2 (fun s' e' j' he => absurd he AI.ch_ne)
      have hl2 : (Lk ++ [AI.ch 41]).length = Lk.length + 1 := by simp
      refine L.rd (rd_assign rfl) rfl ?_
      refine L.nil ?_
      refine X.sq ?_
      refine V.seq ?_
      rw [if_neg (by omega)]
      refine V.region ?_
      refine L.rd (rd_move rfl) rfl ?_
      refine L.rd (rd_move rfl) rfl ?_
      refine L.rd (rd_move rfl) rfl ?_
      (refine L.rd (rd_add3 rfl rfl ?_) rfl ?_; omega)
      refine L.rd (rd_build (out := [_, _, _]) tok rfl rfl rfl rfl rfl) rfl ?_
      refine L.ef (e_buildSlice1 (e := 159) (cs := [_, _, _]) tok rfl rfl rfl rfl rfl rfl rfl rfl rfl (by first | (simp only [size_addB, size_setB, size_drew]; rfl) | rfl) rfl ?_)
      refine L.ef (e_append (m := 1) tok rfl rfl rfl rfl rfl rfl rfl rfl rfl rfl (ho2'.alloc _) (Bl.new _ _ _).cells rfl (by simp [Value.oneCell']) (by unfold maxLen; omega) (by simp only []; omega) (by rw [size_addB]; have := hp2.size; omega) ?_)
      rintro v3 w3 ho3 hg3
      obtain ⟨ho3', hp3⟩ := st_app (a := .sub s (d + 1) j) (u8 := 5) rfl ho2' hp2.size hg3 ho3
      have hb3 := hp3.same _ _ hn2 hb2
      have hn3 := own_ne_ai ho3' hb3 (fun s' e' j' he => by rw [← AI.sub_j he]; exact hx)
      have hl3 : (Lk ++ [AI.ch 41] ++ [AI.sub s (d + 1) j]).length = Lk.length + 2 := by simp
      refine L.rd (rd_assign rfl) rfl ?_
      refine L.nil ?_
      refine X.sq ?_
      refine V.seq ?_
      refine V.region ?_
      refine L.rd (rd_move rfl) rfl ?_
      refine L.rd (rd_build (out := [_, _, _]) tok rfl rfl rfl rfl rfl) rfl ?_
      refine L.ef (e_buildSlice1 (e := 159) (cs := [_, _, _]) tok rfl rfl rfl rfl rfl rfl rfl rfl rfl (by first | (simp only [size_addB, size_setB, size_drew]; rfl) | rfl) rfl ?_)
      refine L.ef (e_append (m := 1) tok rfl rfl rfl rfl rfl rfl rfl rfl rfl rfl (ho3'.alloc _) (Bl.new _ _ _).cells rfl (by simp [Value.oneCell']) (by unfold maxLen; omega) (by simp only []; omega) (by rw [size_addB]; have := hp3.size; omega) ?_)
      rintro v4 w4 ho4 hg4
      obtain ⟨ho4', hp4⟩ := st_app (a := .ch 40) (u8 := 5) rfl ho3' hp3.size hg4 ho4
      have hb4 := hp4.same _ _ hn3 hb3
      have hn4 := own_ne_ai ho4' hb4 (fun s' e' j' he => absurd he AI.ch_ne)
      refine L.rd (rd_assign rfl) rfl ?_
      refine L.nil ?_
      refine X.sq ?_
      refine V.seq ?_
      refine V.region ?_
      refine L.rd (rd_move rfl) rfl ?_
      refine L.rd (rd_assign rfl) rfl ?_
      refine L.rd (rd_assign rfl) rfl ?_
      refine L.nil ?_
      refine X.sq ?_
      refine V.ret ?_
      refine ret_2 Yaam.results104 rfl rfl ?_
      exact ⟨v4, _, rfl, ho4', fun X hX => by simp only [Option.some.injEq] at hX; rw [← hX]; simp, by simp only [List.length_append, List.length_cons, List.length_nil]; omega, hn4, hb4, fun b e cs hb he => hp4.kept _ _ _ (hp3.kept _ _ _ (hp2.kept _ _ _ hb he) he) he, fun bv acc hB => hp4.bf _ _ (hp3.bf _ _ (hp2.bf _ _ hB)), hp4.size⟩
end Go.Proofs.YbxaawGreat
