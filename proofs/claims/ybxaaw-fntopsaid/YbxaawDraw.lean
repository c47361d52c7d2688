/-
  The steps, continued: a region that draws its order. Operations that only compute or read are taken first; then comes what is left, in the only order that is left.
-/
import Derived.Test.YbxaawMem
set_option linter.unusedVariables false
set_option linter.unusedSimpArgs false
namespace Go.Mw

section
variable {P : Program} {ops : Array Oper} {Q : Exit → Act → World → Prop} {md : Region.Mode} {S : World → Prop} {B : List Nat}

/-- In every world that meets S the operation leaves v in its temporary and does nothing else. -/
def Yl (P : Program) (ops : Array Oper) (S : World → Prop) (o : Oper) (v : Value) (a : Act) : Prop :=
  (Region.wanted o (yielded ops a.tmps) = true ∧ ∀ w, S w → (execOp a.eval o).run P w = .ok (.value v) w) ∨
  (Region.wanted o (yielded ops a.tmps) = false ∧ v = undef)

theorem Yl.wpOp {i : Nat} {o : Oper} {v : Value} {a : Act} (hi : ops[i]? = some o) (hy : Yl P ops S o v a) {K : Act → World → Prop} {w : World} (hS : S w) (h : K (a.put o.dst v) w) : Go.wpOp P ops Q i K a w := by
  unfold Go.wpOp
  simp only [hi]
  rcases hy with ⟨hw, hv⟩ | ⟨hw, rfl⟩
  · simp only [hw, if_true, Oper.wp, hv w hS, Oper.upon]; exact .inl h
  · simp only [hw, Bool.false_eq_true, if_false]; exact h
theorem Yl.same {o : Oper} {v : Value} {a a' : Act} (hy : Yl P ops S o v a) (he : execOp a'.eval o = execOp a.eval o)
    (hw : Region.wanted o (yielded ops a'.tmps) = Region.wanted o (yielded ops a.tmps)) : Yl P ops S o v a' := by
  unfold Yl at *
  rw [he, hw]
  exact hy
theorem wpOp_late {j : Nat} {oi oj : Oper} {v : Value} (hj : ops[j]? = some oj) (hap : oi.apart ops oj = true)
    (hsi : ∀ cs b, oi.op ≠ .select cs b) (hsj : ∀ cs b, oj.op ≠ .select cs b)
    (hQ : ∀ c a w, Q (.panic c) (a.put oi.dst v) w → Q (.panic c) a w) {K : Act → World → Prop} {a : Act} {w : World}
    (hy : Yl P ops S oi v a) (h : wpOp P ops Q j K (a.put oi.dst v) w) :
    wpOp P ops Q j (fun a' w' => Yl P ops S oi v a' ∧ K (a'.put oi.dst v) w') a w := by
  obtain ⟨h1, h2, h3⟩ := Oper.apart_spec hap
  have keep : ∀ (a : Act), Yl P ops S oi v a → ∀ u, Yl P ops S oi v (a.put oj.dst u) := fun a hy u =>
    hy.same (execOp_put oi hsi a oj.dst u h3) (wanted_put oi a oj.dst u h3)
  have keepD : ∀ d, Yl P ops S oi v { a with defers := d :: a.defers } := fun d => hy.same rfl rfl
  unfold wpOp at *
  simp only [hj] at *
  rw [wanted_put oj a oi.dst v h1] at h
  split
  · rename_i hw
    simp only [hw, if_true] at h
    rcases h with h | ⟨hasks, hlets⟩
    case inr => exact .inr ⟨by unfold Oper.asks at *; rw [execOp_put oj hsj a oi.dst v h1] at hasks; exact hasks, hlets⟩
    refine .inl ?_
    unfold Oper.wp at *
    rw [execOp_put oj hsj a oi.dst v h1] at h
    generalize (execOp a.eval oj).run P w = r at *
    cases r with
    | ok n w' =>
      cases n <;> simp only [Oper.upon] at h ⊢
      case value u => exact ⟨keep a hy u, by rw [← Act.put_comm a v u h2]; exact h⟩
      case skip => exact ⟨keep a hy _, by rw [← Act.put_comm a v undef h2]; exact h⟩
      case defer d =>
        refine ⟨keep _ (keepD d) _, ?_⟩
        rw [← Act.put_comm _ v undef h2, ← Act.put_defers]
        exact h
      case enter f args =>
        refine Calls.mono h fun e w'' he => ?_
        cases e with
        | returned u => exact ⟨keep a hy u, by rw [← Act.put_comm a v u h2]; exact he⟩
        | panicked c => exact hQ _ _ _ he
        | outgrown => exact he
      case row row args => exact Rows.mono h fun u w'' he => ⟨keep a hy u, by rw [← Act.put_comm a v u h2]; exact he⟩
    | halt x w' =>
      cases x <;> simp only [Oper.upon] at h ⊢
      case panic u => exact hQ _ _ _ h
  · rename_i hw
    simp only [hw] at h
    exact ⟨keep a hy _, by rw [← Act.put_comm a v undef h2]; exact h⟩

/-- Whatever order is picked from here on; S holds behind every operation that is carried out, but for those of B. -/
def AnyS (P : Program) (md : Region.Mode) (ops : Array Oper) (Q : Exit → Act → World → Prop) (S : World → Prop) (B : List Nat) : Nat → Array Bool → Act → World → Prop
  | 0, listed, a, w => Region.ready md ops listed = [] ∧ Q .normal a w
  | fuel + 1, listed, a, w =>
    (Region.ready md ops listed = [] → Q .normal a w) ∧
    ∀ i ∈ Region.ready md ops listed, wpOp P ops Q i (fun a' w' => (B.contains i = false → S w → S w') ∧ AnyS P md ops Q S B fuel (listed.setIfInBounds i true) a' w') a w

theorem any_of_S : ∀ (fuel : Nat) (listed : Array Bool) (a : Act) (w : World), AnyS P md ops Q S B fuel listed a w → wpAny P md ops Q fuel listed a w
  | 0, _, _, _, h => h
  | fuel + 1, _, _, _, h => ⟨h.1, fun i hi => wpOp_mono (fun a' w' h' => any_of_S fuel _ a' w' h'.2) (h.2 i hi)⟩

/-- Operation oj waits for number i, or for one not listed that waits for number i. -/
def Wts (md : Region.Mode) (ops : Array Oper) (listed : Array Bool) (i : Nat) (oj : Oper) : Prop :=
  ∃ e ∈ oj.after, Region.binds md e = true ∧ (e.on = i ∨ listed.getD e.on true = false ∧ ∃ om, ops[e.on]? = some om ∧ ∃ e' ∈ om.after, Region.binds md e' = true ∧ e'.on = i)
theorem AnyS_first {i : Nat} {oi : Oper} {v : Value} (hi : ops[i]? = some oi) (hsel : ∀ (j : Nat) (o : Oper) cs b, ops[j]? = some o → o.op ≠ .select cs b)
    (hQ : ∀ c a w, Q (.panic c) (a.put oi.dst v) w → Q (.panic c) a w) :
    ∀ (fuel : Nat) (listed : Array Bool) (a : Act) (w : World),
      (∀ j oj, ops[j]? = some oj → B.contains j = true → Wts md ops listed i oj) →
      (∀ j oj, ops[j]? = some oj → j ≠ i → listed.getD j true = false → (∀ e ∈ oj.after, Region.binds md e = true → e.on ≠ i) → oi.apart ops oj = true) →
      i ∈ Region.ready md ops listed → Yl P ops S oi v a → S w →
      AnyS P md ops Q S B fuel (listed.setIfInBounds i true) (a.put oi.dst v) w → AnyS P md ops Q S B (fuel + 1) listed a w := by
  intro fuel
  induction fuel with
  | zero =>
    intro listed a w _ _ hr hy hS H
    refine ⟨fun h => (by rw [h] at hr; cases hr), fun j hj => ?_⟩
    by_cases hji : j = i
    · subst hji; exact hy.wpOp hi hS ⟨fun _ _ => hS, H⟩
    · have := ready_mono hj hji
      rw [H.1] at this
      cases this
  | succ fuel ih =>
    intro listed a w hB hfree hr hy hS H
    refine ⟨fun h => (by rw [h] at hr; cases hr), fun j hj => ?_⟩
    by_cases hji : j = i
    · subst hji; exact hy.wpOp hi hS ⟨fun _ _ => hS, H⟩
    · have h1 := H.2 j (ready_mono hj hji)
      obtain ⟨hjun, oj, hoj, hall⟩ := mem_ready.1 hj
      have hunl : ∀ q, listed.getD q true = false → listed.getD q false = true → False := fun q h1 h2 => by
        rcases Nat.lt_or_ge q listed.size with h' | h'
        · simp [h'] at h1 h2; rw [h1] at h2; cases h2
        · simp [Array.getElem?_eq_none h'] at h2
      have hnot : ∀ e ∈ oj.after, Region.binds md e = true → e.on ≠ i := fun e he hb heq => by
        have h1 := hall e he hb
        have h0 := (mem_ready.1 hr).1
        rw [heq] at h1
        exact hunl i h0 h1
      have hjB : B.contains j = false := by
        cases hc : B.contains j with
        | false => rfl
        | true =>
          obtain ⟨e, he, hb, hon | ⟨hu, -⟩⟩ := hB j oj hoj hc
          · exact absurd hon (hnot e he hb)
          · exact (hunl e.on hu (hall e he hb)).elim
      have h2 := wpOp_late hoj (hfree j oj hoj hji hjun hnot) (fun cs b => hsel i oi cs b hi) (fun cs b => hsel j oj cs b hoj) hQ hy h1
      have hfree' : ∀ k ok, ops[k]? = some ok → k ≠ i → (listed.setIfInBounds j true).getD k true = false →
          (∀ e ∈ ok.after, Region.binds md e = true → e.on ≠ i) → oi.apart ops ok = true := fun k ok hk hki hun hno => by
        refine hfree k ok hk hki ?_ hno
        by_cases hjk : j = k
        · subst hjk; exact hjun
        · rw [getD_set_ne true hjk] at hun; exact hun
      have hB' : ∀ k ok, ops[k]? = some ok → B.contains k = true → Wts md ops (listed.setIfInBounds j true) i ok := fun k ok hk hc => by
        obtain ⟨e, he, hb, hon | ⟨hu, om, hom, e', he', hb', hon'⟩⟩ := hB k ok hk hc
        · exact ⟨e, he, hb, .inl hon⟩
        · refine ⟨e, he, hb, .inr ⟨?_, om, hom, e', he', hb', hon'⟩⟩
          have hne : j ≠ e.on := fun hje => by
            rw [← hje, hoj] at hom
            simp only [Option.some.injEq] at hom
            subst hom
            exact hnot e' he' hb' hon'
          rw [getD_set_ne true hne]; exact hu
      refine wpOp_mono (fun a' w' h3 => ⟨fun _ _ => h3.2.1 hjB hS, ih (listed.setIfInBounds j true) a' w' hB' hfree' (ready_mono hr (Ne.symm hji)) h3.1 (h3.2.1 hjB hS) ?_⟩) h2
      rw [Array.setIfInBounds_comm _ _ hji]
      exact h3.2.2

/-- An operation that reads no memory may be taken first at any time. -/
theorem AnyS_pure {i : Nat} {oi : Oper} {v : Value} (hi : ops[i]? = some oi) (hsel : ∀ (j : Nat) (o : Oper) cs b, ops[j]? = some o → o.op ≠ .select cs b)
    (hQ : ∀ c a w, Q (.panic c) (a.put oi.dst v) w → Q (.panic c) a w) :
    ∀ (fuel : Nat) (listed : Array Bool) (a : Act) (w : World),
      (∀ j oj, ops[j]? = some oj → j ≠ i → listed.getD j true = false → (∀ e ∈ oj.after, Region.binds md e = true → e.on ≠ i) → oi.apart ops oj = true) →
      i ∈ Region.ready md ops listed → Yl P ops (fun _ => True) oi v a →
      AnyS P md ops Q S B fuel (listed.setIfInBounds i true) (a.put oi.dst v) w → AnyS P md ops Q S B (fuel + 1) listed a w := by
  intro fuel
  induction fuel with
  | zero =>
    intro listed a w _ hr hy H
    refine ⟨fun h => (by rw [h] at hr; cases hr), fun j hj => ?_⟩
    by_cases hji : j = i
    · subst hji; exact hy.wpOp hi trivial ⟨fun _ h => h, H⟩
    · have := ready_mono hj hji
      rw [H.1] at this
      cases this
  | succ fuel ih =>
    intro listed a w hfree hr hy H
    refine ⟨fun h => (by rw [h] at hr; cases hr), fun j hj => ?_⟩
    by_cases hji : j = i
    · subst hji; exact hy.wpOp hi trivial ⟨fun _ h => h, H⟩
    · have h1 := H.2 j (ready_mono hj hji)
      obtain ⟨hjun, oj, hoj, hall⟩ := mem_ready.1 hj
      have hunl : ∀ q, listed.getD q true = false → listed.getD q false = true → False := fun q h1 h2 => by
        rcases Nat.lt_or_ge q listed.size with h' | h'
        · simp [h'] at h1 h2; rw [h1] at h2; cases h2
        · simp [Array.getElem?_eq_none h'] at h2
      have hnot : ∀ e ∈ oj.after, Region.binds md e = true → e.on ≠ i := fun e he hb heq => by
        have h1 := hall e he hb
        have h0 := (mem_ready.1 hr).1
        rw [heq] at h1
        exact hunl i h0 h1
      have h2 := wpOp_late hoj (hfree j oj hoj hji hjun hnot) (fun cs b => hsel i oi cs b hi) (fun cs b => hsel j oj cs b hoj) hQ hy h1
      have hfree' : ∀ k ok, ops[k]? = some ok → k ≠ i → (listed.setIfInBounds j true).getD k true = false →
          (∀ e ∈ ok.after, Region.binds md e = true → e.on ≠ i) → oi.apart ops ok = true := fun k ok hk hki hun hno => by
        refine hfree k ok hk hki ?_ hno
        by_cases hjk : j = k
        · subst hjk; exact hjun
        · rw [getD_set_ne true hjk] at hun; exact hun
      refine wpOp_mono (fun a' w' h3 => ⟨h3.2.1, ih (listed.setIfInBounds j true) a' w' hfree' (ready_mono hr (Ne.symm hji)) h3.1 ?_⟩) h2
      rw [Array.setIfInBounds_comm _ _ hji]
      exact h3.2.2

/-- Every operation of B waits for number i. -/
def waitsAll (md : Region.Mode) (ops : Array Oper) (listed : Array Bool) (B : List Nat) (i : Nat) : Bool :=
  B.all fun j => match ops[j]? with
    | some oj => oj.after.any fun e => Region.binds md e && (e.on == i || (listed.getD e.on true == false && match ops[e.on]? with
        | some om => om.after.any fun e' => Region.binds md e' && e'.on == i
        | none => false))
    | none => true
theorem waitsAll_spec {i : Nat} {listed : Array Bool} (h : waitsAll md ops listed B i = true) (j : Nat) (oj : Oper) (hj : ops[j]? = some oj) (hB : B.contains j = true) : Wts md ops listed i oj := by
  unfold waitsAll at h
  rw [List.all_eq_true] at h
  have h1 := h j (by simpa using hB)
  simp only [hj, Array.any_eq_true'] at h1
  obtain ⟨e, he, h2⟩ := h1
  simp only [Bool.and_eq_true, Bool.or_eq_true, beq_iff_eq] at h2
  refine ⟨e, he, h2.1, or_map h2.2 id fun ⟨h3, h4⟩ => ⟨h3, ?_⟩⟩
  split at h4
  · rename_i om hom
    simp only [Array.any_eq_true', Bool.and_eq_true, beq_iff_eq] at h4
    obtain ⟨e', he', h5, h6⟩ := h4
    exact ⟨om, hom, e', he', h5, h6⟩
  · cases h4
end

/-! ### the region -/
structure D (P : Program) (n : Nat) (ops : List Oper) (Q : Exit → Act → World → Prop) (w0 : World) (B : List Nat) (fuel : Nat) (listed : List Bool) (l : List (Nat × Value)) (w : World) : Prop where
  out : ∀ a, Fits n l a → AnyS P .any ops.toArray Q (LeC w0) B fuel listed.toArray a w

/-- What a region does at a panic does not hang on the frame. -/
structure NoP (Q : Exit → Act → World → Prop) : Prop where
  out : ∀ c a d v w, Q (.panic c) (Act.put a d v) w → Q (.panic c) a w

section
variable {P : Program} {n : Nat} {Q : Exit → Act → World → Prop} {l : List (Nat × Value)} {w w0 : World} {ops : List Oper} {B : List Nat} {listed : List Bool} {fuel : Nat}

theorem NoP.bd {fn : Func} {R : Value → World → Prop} : NoP (Bd P fn R) := ⟨fun c a d v w h => by
  obtain ⟨h1, h2⟩ := h
  refine ⟨?_, h2⟩
  cases d <;> exact h1⟩
theorem NoP.sq {c : Code} (h : NoP Q) : NoP (Sq P c Q) := ⟨fun c a d v w hq => h.out c a d v w hq⟩
theorem NoP.bk {id : Nat} (h : NoP Q) : NoP (Bk id Q) := ⟨fun c a d v w hq => h.out c a d v w hq⟩
theorem NoP.lp {I : Nat → List (Nat × Value) → World → Prop} {m : Nat} (h : NoP Q) : NoP (Lp n I m Q) := ⟨fun c a d v w hq => h.out c a d v w hq⟩
theorem NoP.ct {J : List (Nat × Value) → World → Prop} (h : NoP Q) : NoP (Ct n J Q) := ⟨fun c a d v w hq => h.out c a d v w hq⟩

theorem V.draw {id : Nat} (B : List Nat) (hm : P.follows .mixedOrders = true) (h : D P n ops Q w B ops.length (List.replicate ops.length false) l w.drew) : V P n (.region id ops.toArray true) Q l w :=
  ⟨fun a hf => wp_region_any hm (any_of_S _ _ _ _ (by
    have := h.out a hf
    simpa using this))⟩
theorem D.take {d : Nat} {op : Op} {ty : TypeId} {pos : String} {af : Array Edge} {v : Value} (i : Nat) (listed' : List Bool) (hQ : NoP Q)
    (hi : ops[i]? = some ⟨some d, op, ty, pos, af, none⟩) (hr : Rd P ⟨some d, op, ty, pos, af, none⟩ l w0 v) (hd : Nat.blt d n = true)
    (hc : (Region.noSelect ops.toArray && Region.free .any ops.toArray listed.toArray i && (Region.ready .any ops.toArray listed.toArray).contains i && waitsAll .any ops.toArray listed.toArray B i) = true) (hl : listed.set i true = listed')
    (hle : LeC w0 w) (h : D P n ops Q w0 B fuel listed' ((d, v) :: l) w) : D P n ops Q w0 B (fuel + 1) listed l w :=
  ⟨fun a hf => by
    simp only [Bool.and_eq_true] at hc
    obtain ⟨⟨⟨h1, h2⟩, h3⟩, h4⟩ := hc
    have hi' : ops.toArray[i]? = some ⟨some d, op, ty, pos, af, none⟩ := by simpa using hi
    refine AnyS_first (oi := ⟨some d, op, ty, pos, af, none⟩) (v := v) hi' (Region.noSelect_spec h1) (fun c a w => hQ.out c a _ _ w) fuel listed.toArray a w (waitsAll_spec h4) (Region.free_spec hi' h2) (by simpa using h3)
      (Or.inl ⟨by simp [Region.wanted], fun w' hw' => hr.out a.eval (fun x u => hf.ev) w' hw'⟩) hle ?_
    have := h.out _ (hf.put v hd)
    rw [← hl] at this
    simpa using this⟩
theorem D.takeP {d : Nat} {op : Op} {ty : TypeId} {pos : String} {af : Array Edge} {v : Value} (i : Nat) (listed' : List Bool) (hQ : NoP Q)
    (hi : ops[i]? = some ⟨some d, op, ty, pos, af, none⟩) (hr : ∀ w1, Rd P ⟨some d, op, ty, pos, af, none⟩ l w1 v) (hd : Nat.blt d n = true)
    (hc : (Region.noSelect ops.toArray && Region.free .any ops.toArray listed.toArray i && (Region.ready .any ops.toArray listed.toArray).contains i) = true) (hl : listed.set i true = listed')
    (h : D P n ops Q w0 B fuel listed' ((d, v) :: l) w) : D P n ops Q w0 B (fuel + 1) listed l w :=
  ⟨fun a hf => by
    simp only [Bool.and_eq_true] at hc
    obtain ⟨⟨h1, h2⟩, h3⟩ := hc
    have hi' : ops.toArray[i]? = some ⟨some d, op, ty, pos, af, none⟩ := by simpa using hi
    refine AnyS_pure (oi := ⟨some d, op, ty, pos, af, none⟩) (v := v) hi' (Region.noSelect_spec h1) (fun c a w => hQ.out c a _ _ w) fuel listed.toArray a w (Region.free_spec hi' h2) (by simpa using h3)
      (Or.inl ⟨by simp [Region.wanted], fun w' _ => (hr w').out a.eval (fun x u => hf.ev) w' (LeC.refl _)⟩) ?_
    have := h.out _ (hf.put v hd)
    rw [← hl] at this
    simpa using this⟩
theorem D.takeYes {j t : Nat} {g : Bool} {d : Nat} {op : Op} {ty : TypeId} {pos : String} {af : Array Edge} {v : Value} (i : Nat) (listed' : List Bool) (hQ : NoP Q)
    (hi : ops[i]? = some ⟨some d, op, ty, pos, af, some (j, g)⟩) (hj : gdst ops j = some t) (ht : l.lookup t = some (.bool g)) (hr : Rd P ⟨some d, op, ty, pos, af, none⟩ l w0 v) (hd : Nat.blt d n = true)
    (hc : (Region.noSelect ops.toArray && Region.free .any ops.toArray listed.toArray i && (Region.ready .any ops.toArray listed.toArray).contains i && waitsAll .any ops.toArray listed.toArray B i) = true) (hl : listed.set i true = listed')
    (hle : LeC w0 w) (h : D P n ops Q w0 B fuel listed' ((d, v) :: l) w) : D P n ops Q w0 B (fuel + 1) listed l w :=
  ⟨fun a hf => by
    simp only [Bool.and_eq_true] at hc
    obtain ⟨⟨⟨h1, h2⟩, h3⟩, h4⟩ := hc
    have hi' : ops.toArray[i]? = some ⟨some d, op, ty, pos, af, some (j, g)⟩ := by simpa using hi
    refine AnyS_first (oi := ⟨some d, op, ty, pos, af, some (j, g)⟩) (v := v) hi' (Region.noSelect_spec h1) (fun c a w => hQ.out c a _ _ w) fuel listed.toArray a w (waitsAll_spec h4) (Region.free_spec hi' h2) (by simpa using h3)
      (Or.inl ⟨by rw [wanted_of hf hj ht]; simp, fun w' hw' => hr.out a.eval (fun x u => hf.ev) w' hw'⟩) hle ?_
    have := h.out _ (hf.put v hd)
    rw [← hl] at this
    simpa using this⟩
theorem D.takeNo {j t : Nat} {g b : Bool} {d : Nat} {op : Op} {ty : TypeId} {pos : String} {af : Array Edge} (i : Nat) (listed' : List Bool) (hQ : NoP Q)
    (hi : ops[i]? = some ⟨some d, op, ty, pos, af, some (j, g)⟩) (hj : gdst ops j = some t) (ht : l.lookup t = some (.bool b)) (hb : b = !g) (hd : Nat.blt d n = true)
    (hc : (Region.noSelect ops.toArray && Region.free .any ops.toArray listed.toArray i && (Region.ready .any ops.toArray listed.toArray).contains i && waitsAll .any ops.toArray listed.toArray B i) = true) (hl : listed.set i true = listed')
    (hle : LeC w0 w) (h : D P n ops Q w0 B fuel listed' ((d, undef) :: l) w) : D P n ops Q w0 B (fuel + 1) listed l w :=
  ⟨fun a hf => by
    subst hb
    simp only [Bool.and_eq_true] at hc
    obtain ⟨⟨⟨h1, h2⟩, h3⟩, h4⟩ := hc
    have hi' : ops.toArray[i]? = some ⟨some d, op, ty, pos, af, some (j, g)⟩ := by simpa using hi
    refine AnyS_first (oi := ⟨some d, op, ty, pos, af, some (j, g)⟩) (v := undef) hi' (Region.noSelect_spec h1) (fun c a w => hQ.out c a _ _ w) fuel listed.toArray a w (waitsAll_spec h4) (Region.free_spec hi' h2) (by simpa using h3)
      (Or.inr ⟨by rw [wanted_of hf hj ht]; cases g <;> rfl, rfl⟩) hle ?_
    have := h.out _ (hf.put undef hd)
    rw [← hl] at this
    simpa using this⟩
/-- The ways part on a truth value in slot t. -/
theorem D.part {p : Prop} {i : Decidable p} (t : Nat) (ht : l.lookup t = some (.bool (@decide p i))) (hp : p → D P n ops Q w0 B fuel listed ((t, .bool true) :: l) w) (hn : ¬ p → D P n ops Q w0 B fuel listed ((t, .bool false) :: l) w) :
    D P n ops Q w0 B fuel listed l w :=
  ⟨fun a hf => by
    have hs := hf.slots t _ ht
    have again : ∀ b, (@decide p i) = b → Fits n ((t, .bool b) :: l) a := fun b e => ⟨hf.defers, hf.size, fun k u hk => by
      by_cases hkt : k = t
      · subst hkt
        simp at hk
        subst hk
        rw [hs, e]
      · have hb : (k == t) = false := by simpa using hkt
        simp only [List.lookup, hb] at hk
        exact hf.slots k u hk⟩
    by_cases h : p
    · exact (hp h).out a (again true (decide_eq_true h))
    · exact (hn h).out a (again false (decide_eq_false h))⟩
theorem D.partB {b : Bool} (t : Nat) (ht : l.lookup t = some (.bool b)) (hp : b = true → D P n ops Q w0 B fuel listed ((t, .bool true) :: l) w) (hn : b = false → D P n ops Q w0 B fuel listed ((t, .bool false) :: l) w) :
    D P n ops Q w0 B fuel listed l w :=
  D.part (p := b = true) (i := inferInstance) t (by rw [ht]; cases b <;> rfl) hp (fun h => hn (by simpa using h))
theorem D.done (hr : (Region.ready .any ops.toArray listed.toArray).isEmpty = true) (h : X n Q .normal l w) : D P n ops Q w0 B fuel listed l w :=
  ⟨fun a hf => by
    have hr' : Region.ready .any ops.toArray listed.toArray = [] := by simpa using hr
    cases fuel with
    | zero => exact ⟨hr', h.out a hf⟩
    | succ k => exact ⟨fun _ => h.out a hf, by rw [hr']; simp⟩⟩
/-- One operation is left that may come up; it keeps every old cell. -/
theorem D.one {d : Option Nat} {op : Op} {ty : TypeId} {pos : String} {af : Array Edge} (i : Nat) (listed' : List Bool)
    (hi : ops[i]? = some ⟨d, op, ty, pos, af, none⟩) (hr : (Region.ready .any ops.toArray listed.toArray == [i]) = true) (hl : listed.set i true = listed')
    (he : E P n ⟨d, op, ty, pos, af, none⟩ l w (fun l' w' => (B.contains i = false → LeC w0 w') ∧ D P n ops Q w0 B fuel listed' l' w')) : D P n ops Q w0 B (fuel + 1) listed l w :=
  ⟨fun a hf => by
    have hi' : ops.toArray[i]? = some ⟨d, op, ty, pos, af, none⟩ := by simpa using hi
    have hr' : Region.ready .any ops.toArray listed.toArray = [i] := by simpa using hr
    refine ⟨fun h => (by rw [hr'] at h; cases h), fun j hj => ?_⟩
    rw [hr'] at hj
    simp only [List.mem_singleton] at hj
    subst hj
    unfold wpOp
    simp only [hi']
    rw [if_pos (by simp [Region.wanted])]
    refine .inl (Oper.wp_mono (fun a' w' ⟨l', hf', h1, h2⟩ => ⟨fun hb _ => h1 hb, ?_⟩) (he.out Q a hf))
    have := h2.out a' hf'
    rw [← hl] at this
    simpa using this⟩
theorem E.guarded {d : Option Nat} {op : Op} {ty : TypeId} {pos : String} {af : Array Edge} {K : List (Nat × Value) → World → Prop} (g : Option (Nat × Bool)) (h : E P n ⟨d, op, ty, pos, af, none⟩ l w K) : E P n ⟨d, op, ty, pos, af, g⟩ l w K :=
  ⟨fun Q a hf => h.out Q a hf⟩
theorem D.oneYes {j t : Nat} {g : Bool} {d : Option Nat} {op : Op} {ty : TypeId} {pos : String} {af : Array Edge} (i : Nat) (listed' : List Bool)
    (hi : ops[i]? = some ⟨d, op, ty, pos, af, some (j, g)⟩) (hj : gdst ops j = some t) (ht : l.lookup t = some (.bool g)) (hr : (Region.ready .any ops.toArray listed.toArray == [i]) = true) (hl : listed.set i true = listed')
    (he : E P n ⟨d, op, ty, pos, af, none⟩ l w (fun l' w' => (B.contains i = false → LeC w0 w') ∧ D P n ops Q w0 B fuel listed' l' w')) : D P n ops Q w0 B (fuel + 1) listed l w :=
  ⟨fun a hf => by
    have hi' : ops.toArray[i]? = some ⟨d, op, ty, pos, af, some (j, g)⟩ := by simpa using hi
    have hr' : Region.ready .any ops.toArray listed.toArray = [i] := by simpa using hr
    refine ⟨fun h => (by rw [hr'] at h; cases h), fun k hk => ?_⟩
    rw [hr'] at hk
    simp only [List.mem_singleton] at hk
    subst hk
    unfold wpOp
    simp only [hi']
    rw [if_pos (by rw [wanted_of hf hj ht]; simp)]
    refine .inl (Oper.wp_mono (fun a' w' ⟨l', hf', h1, h2⟩ => ⟨fun hb _ => h1 hb, ?_⟩) ((he.guarded (some (j, g))).out Q a hf))
    have := h2.out a' hf'
    rw [← hl] at this
    simpa using this⟩
end
end Go.Mw
