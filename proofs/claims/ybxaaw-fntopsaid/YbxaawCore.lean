/-
  The steps of a walk, one lemma a kind of operation. The frame is known by a list of (slot, value); everything else of it is forgotten.
  V: a piece of code; L: the rest of a region; D: a region that draws its order; E: one operation that makes or writes memory; Rd: one operation that only computes or reads.
-/
import Derived.WalkKit
import Derived.Orders
set_option linter.unusedVariables false
set_option linter.unusedSimpArgs false
namespace Go.Mw
theorem or_map {a b c d : Prop} (h : a ∨ b) (f : a → c) (g : b → d) : c ∨ d := h.elim (fun x => .inl (f x)) (fun x => .inr (g x))

/-! ### the known slots of a frame -/
def ev (l : List (Nat × Value)) : Operand → Option Value
  | .tmp t => l.lookup t
  | .const v => some v
  | .global g => some (.pointer (some ⟨g, 0, none⟩))
  | .func f => some (.func (.func f) #[] #[])

def evl (l : List (Nat × Value)) : List Operand → Option (List Value)
  | [] => some []
  | x :: r => match ev l x with
    | none => none
    | some v => match evl l r with
      | none => none
      | some vs => some (v :: vs)

def Has (l : List (Nat × Value)) : List (Nat × Value) → Prop
  | [] => True
  | p :: r => l.lookup p.1 = some p.2 ∧ Has l r

theorem Has.get {l : List (Nat × Value)} : ∀ {r : List (Nat × Value)}, Has l r → ∀ k v, r.lookup k = some v → l.lookup k = some v
  | [], _, k, v, h => by simp at h
  | (j, u) :: r, hh, k, v, h => by
    by_cases hk : k = j
    · subst hk
      simp at h
      subst h
      exact hh.1
    · have hb : (k == j) = false := by simpa using hk
      simp only [List.lookup, hb] at h
      exact Has.get hh.2 k v h

structure Fits (n : Nat) (l : List (Nat × Value)) (a : Act) : Prop where
  defers : a.defers = []
  size : a.tmps.size = n
  slots : ∀ k v, l.lookup k = some v → a.tmps[k]? = some v

theorem Fits.sub {n : Nat} {l r : List (Nat × Value)} {a : Act} (h : Fits n l a) (hs : Has l r) : Fits n r a :=
  ⟨h.defers, h.size, fun k v hk => h.slots k v (hs.get k v hk)⟩

theorem Fits.ev {n : Nat} {l : List (Nat × Value)} {a : Act} (h : Fits n l a) {x : Operand} {v : Value} (hx : Mw.ev l x = some v) : a.eval x = v := by
  cases x with
  | tmp t =>
    have h1 := h.slots t v hx
    simp [Act.eval, Array.getD_eq_getD_getElem?, h1]
  | const u => simpa [Mw.ev, Act.eval] using hx
  | global g => simpa [Mw.ev, Act.eval] using hx
  | func f => simpa [Mw.ev, Act.eval] using hx

theorem Fits.put {n : Nat} {l : List (Nat × Value)} {a : Act} (h : Fits n l a) {d : Nat} (v : Value) (hd : Nat.blt d n = true) : Fits n ((d, v) :: l) (a.put (some d) v) := by
  have hdn : d < n := by simpa [Nat.blt_eq] using hd
  refine ⟨h.defers, by simp [Act.put, h.size], fun k u hk => ?_⟩
  by_cases hkd : k = d
  · subst hkd
    simp at hk
    subst hk
    have := h.size
    simp only [Act.put]
    rw [Array.getElem?_setIfInBounds_self_of_lt (by omega)]
  · have hb : (k == d) = false := by simpa using hkd
    simp only [List.lookup, hb] at hk
    simp only [Act.put]
    rw [Array.getElem?_setIfInBounds_ne (by omega)]
    exact h.slots k u hk

theorem Fits.evl {n : Nat} {l : List (Nat × Value)} {a : Act} (h : Fits n l a) : ∀ {xs : List Operand} {vs : List Value}, Mw.evl l xs = some vs → xs.map a.eval = vs
  | [], vs, hx => by simp [Mw.evl] at hx; simp [hx]
  | x :: r, vs, hx => by
    simp only [Mw.evl] at hx
    cases h1 : Mw.ev l x with
    | none => simp [h1] at hx
    | some v =>
      cases h2 : Mw.evl l r with
      | none => simp [h1, h2] at hx
      | some us =>
        simp [h1, h2] at hx
        subst hx
        simp [h.ev h1, Fits.evl h h2]

/-! ### worlds -/
/-- Every cell that is there stays and holds the same. -/
structure LeC (w w' : World) : Prop where
  cell : ∀ p u, w.cell? p = some u → w'.cell? p = some u
theorem LeC.refl (w : World) : LeC w w := ⟨fun _ _ h => h⟩
theorem LeC.trans {a b c : World} (h : LeC a b) (k : LeC b c) : LeC a c := ⟨fun p u hp => k.cell p u (h.cell p u hp)⟩
theorem LeC.drew (w : World) : LeC w w.drew := ⟨fun _ _ h => h⟩

/-! ### operations that compute or read -/
structure Rd (P : Program) (o : Oper) (l : List (Nat × Value)) (w : World) (v : Value) : Prop where
  out : ∀ (ρ : Operand → Value), (∀ x u, ev l x = some u → ρ x = u) → ∀ w', LeC w w' → (execOp ρ o).run P w' = .ok (.value v) w'

/-! ### one operation, what follows in the place of a continuation -/
structure E (P : Program) (n : Nat) (o : Oper) (l : List (Nat × Value)) (w : World) (K : List (Nat × Value) → World → Prop) : Prop where
  out : ∀ (Q : Exit → Act → World → Prop) a, Fits n l a → o.wp P a w (fun a' w' => ∃ l', Fits n l' a' ∧ K l' w') Q

theorem E.val {P : Program} {n : Nat} {o : Oper} {l : List (Nat × Value)} {w : World} {K : List (Nat × Value) → World → Prop} {d : Nat} {v : Value} {w' : World}
    (ho : o.dst = some d) (hd : Nat.blt d n = true)
    (hr : ∀ ρ : Operand → Value, (∀ x u, ev l x = some u → ρ x = u) → (execOp ρ o).run P w = .ok (.value v) w') (hk : K ((d, v) :: l) w') : E P n o l w K := by
  refine ⟨fun Q a hf => ?_⟩
  unfold Oper.wp
  rw [hr a.eval (fun x u => hf.ev), Oper.upon_value, ho]
  exact ⟨_, hf.put v hd, hk⟩

theorem E.skip {P : Program} {n : Nat} {o : Oper} {l : List (Nat × Value)} {w : World} {K : List (Nat × Value) → World → Prop} {w' : World}
    (ho : o.dst = none)
    (hr : ∀ ρ : Operand → Value, (∀ x u, ev l x = some u → ρ x = u) → (execOp ρ o).run P w = .ok .skip w') (hk : K l w') : E P n o l w K := by
  refine ⟨fun Q a hf => ?_⟩
  unfold Oper.wp
  rw [hr a.eval (fun x u => hf.ev), Oper.upon_skip, ho]
  exact ⟨_, hf, hk⟩

/-! ### code -/
structure V (P : Program) (n : Nat) (c : Code) (Q : Exit → Act → World → Prop) (l : List (Nat × Value)) (w : World) : Prop where
  out : ∀ a, Fits n l a → c.wp P Q a w
structure X (n : Nat) (Q : Exit → Act → World → Prop) (e : Exit) (l : List (Nat × Value)) (w : World) : Prop where
  out : ∀ a, Fits n l a → Q e a w
structure L (P : Program) (n : Nat) (ops : List Oper) (Q : Exit → Act → World → Prop) (rest : List Oper) (l : List (Nat × Value)) (w : World) : Prop where
  out : ∀ a, Fits n l a → wpList P ops.toArray Q rest a w

/-- What follows a piece of code. -/
def Sq (P : Program) (c : Code) (Q : Exit → Act → World → Prop) : Exit → Act → World → Prop := Exit.then (Code.wp P c Q) Q
/-- Inside a block. -/
def Bk (id : Nat) (Q : Exit → Act → World → Prop) : Exit → Act → World → Prop := Exit.inBlock id Q
/-- Inside a loop's body. -/
def Lp (n : Nat) (I : Nat → List (Nat × Value) → World → Prop) (m : Nat) (Q : Exit → Act → World → Prop) : Exit → Act → World → Prop
  | .normal, a, w => ∃ m' l', m' < m ∧ Fits n l' a ∧ I m' l' w
  | e, a, w => Q e a w
/-- A cut: what holds at the normal end. -/
def Ct (n : Nat) (J : List (Nat × Value) → World → Prop) (Q : Exit → Act → World → Prop) : Exit → Act → World → Prop
  | .normal, a, w => ∃ l', Fits n l' a ∧ J l' w
  | e, a, w => Q e a w

section
variable {P : Program} {n : Nat} {Q : Exit → Act → World → Prop} {l : List (Nat × Value)} {w : World} {ops rest : List Oper} {c c1 c2 : Code}

theorem V.less {r : List (Nat × Value)} (hs : Has l r) (h : V P n c Q r w) : V P n c Q l w := ⟨fun a hf => h.out a (hf.sub hs)⟩
theorem X.less {e : Exit} {r : List (Nat × Value)} (hs : Has l r) (h : X n Q e r w) : X n Q e l w := ⟨fun a hf => h.out a (hf.sub hs)⟩
theorem L.less {r : List (Nat × Value)} (hs : Has l r) (h : L P n ops Q rest r w) : L P n ops Q rest l w := ⟨fun a hf => h.out a (hf.sub hs)⟩

theorem V.seq (h : V P n c1 (Sq P c2 Q) l w) : V P n (.seq c1 c2) Q l w := ⟨fun a hf => wp_seq (h.out a hf)⟩
theorem V.skip (h : X n Q .normal l w) : V P n .skip Q l w := ⟨fun a hf => wp_skip (h.out a hf)⟩
theorem V.ret (h : X n Q .ret l w) : V P n .ret Q l w := ⟨fun a hf => wp_ret (h.out a hf)⟩
theorem V.exit {id : Nat} (h : X n Q (.exit id) l w) : V P n (.exit id) Q l w := ⟨fun a hf => wp_exit (h.out a hf)⟩
theorem V.block {id : Nat} (h : V P n c (Bk id Q) l w) : V P n (.block id c) Q l w := ⟨fun a hf => wp_block (h.out a hf)⟩
theorem V.region {id : Nat} (h : L P n ops Q ops l w) : V P n (.region id ops.toArray false) Q l w := ⟨fun a hf => wp_region_lit (h.out a hf)⟩
theorem V.condB {t : Nat} {b : Bool} (hb : l.lookup t = some (.bool b)) (ht : b = true → V P n c1 Q l w) (hf : b = false → V P n c2 Q l w) : V P n (.cond (.tmp t) c1 c2) Q l w :=
  ⟨fun a h => wp_cond_split (h.ev (x := .tmp t) hb) (fun e => (ht e).out a h) (fun e => (hf e).out a h)⟩
theorem V.cond {t : Nat} {p : Prop} {i : Decidable p} (hb : l.lookup t = some (.bool (@decide p i))) (ht : p → V P n c1 Q l w) (hf : ¬ p → V P n c2 Q l w) : V P n (.cond (.tmp t) c1 c2) Q l w :=
  V.condB hb (fun e => ht (of_decide_eq_true e)) (fun e => hf (of_decide_eq_false e))
theorem V.condT {t : Nat} (hb : l.lookup t = some (.bool true)) (ht : V P n c1 Q l w) : V P n (.cond (.tmp t) c1 c2) Q l w :=
  V.condB hb (fun _ => ht) (fun e => by cases e)
theorem V.condF {t : Nat} (hb : l.lookup t = some (.bool false)) (hf : V P n c2 Q l w) : V P n (.cond (.tmp t) c1 c2) Q l w :=
  V.condB hb (fun e => by cases e) (fun _ => hf)
/-- A loop: I m l w at each round's head, m going down. -/
theorem V.loop (I : Nat → List (Nat × Value) → World → Prop) (h00 : ∃ m r, Has l r ∧ I m r w)
    (round : ∀ m l w, I m l w → V P n c (Lp n I m Q) l w) : V P n (.loop c) Q l w := by
  obtain ⟨m, r, hs, h0⟩ := h00
  refine ⟨fun a hf b k cs => ?_⟩
  have key : ∀ m l w a, I m l w → Fits n l a → ∃ e a' w', Q e a' w' ∧ Arrives P (lone (b.at a (.code c :: .inLoop c :: k)) cs w) b k cs e a' w' := by
    intro m
    induction m using Nat.strongRecOn with
    | _ m ih =>
      intro l w a hI hf
      obtain ⟨e, a1, w1, hq, harr⟩ := (round m l w hI).out a hf b (.inLoop c :: k) cs
      cases e with
      | normal =>
        obtain ⟨m', l', hlt, hf', hI'⟩ := hq
        obtain ⟨e2, a2, w2, hq2, harr2⟩ := ih m' hlt l' w1 a1 hI' hf'
        exact ⟨e2, a2, w2, hq2, .of_steps (Steps.trans harr (.one step_inLoop)) harr2⟩
      | exit id => exact ⟨_, a1, w1, hq, .pass (x := .inLoop c) rfl (fun _ _ => .inl (by simp)) harr⟩
      | goto g => exact ⟨_, a1, w1, hq, .pass (x := .inLoop c) rfl (fun _ _ => .inl (by simp)) harr⟩
      | ret => exact ⟨_, a1, w1, hq, .pass (x := .inLoop c) rfl (fun _ _ => .inl (by simp)) harr⟩
      | panic ch => exact ⟨_, a1, w1, hq, .pass (x := .inLoop c) rfl (fun _ _ => .inl (by simp)) harr⟩
      | outgrown => exact ⟨_, a1, w1, hq, .pass (x := .inLoop c) rfl (fun _ _ => .inl (by simp)) harr⟩
  obtain ⟨e, a', w', hq, harr⟩ := key m r w a h0 (hf.sub hs)
  exact ⟨e, a', w', hq, .of_steps (.one step_loop) harr⟩

/-! ### leaving a piece of code -/
theorem X.sq (h : V P n c Q l w) : X n (Sq P c Q) .normal l w := ⟨fun a hf => h.out a hf⟩
theorem X.sqRet (h : X n Q .ret l w) : X n (Sq P c Q) .ret l w := ⟨fun a hf => h.out a hf⟩
theorem X.sqExit {id : Nat} (h : X n Q (.exit id) l w) : X n (Sq P c Q) (.exit id) l w := ⟨fun a hf => h.out a hf⟩
theorem X.bk {id : Nat} (h : X n Q .normal l w) : X n (Bk id Q) .normal l w := ⟨fun a hf => h.out a hf⟩
theorem X.bkRet {id : Nat} (h : X n Q .ret l w) : X n (Bk id Q) .ret l w := ⟨fun a hf => h.out a hf⟩
theorem X.bkHere {id : Nat} (h : X n Q .normal l w) : X n (Bk id Q) (.exit id) l w := ⟨fun a hf => by
  show Exit.inBlock id Q (.exit id) a w
  simp only [Exit.inBlock, if_true]
  exact h.out a hf⟩
theorem X.bkOut {id id' : Nat} (hne : Nat.beq id' id = false) (h : X n Q (.exit id') l w) : X n (Bk id Q) (.exit id') l w := ⟨fun a hf => by
  have : id' ≠ id := by intro e; subst e; simp at hne
  show Exit.inBlock id Q (.exit id') a w
  simp only [Exit.inBlock, if_neg this]
  exact h.out a hf⟩
theorem X.lp {I : Nat → List (Nat × Value) → World → Prop} {m : Nat} (h : ∃ m' r, m' < m ∧ Has l r ∧ I m' r w) : X n (Lp n I m Q) .normal l w :=
  ⟨fun a hf => let ⟨m', r, hm, hs, hI⟩ := h; ⟨m', r, hm, hf.sub hs, hI⟩⟩
theorem X.lpRet {I : Nat → List (Nat × Value) → World → Prop} {m : Nat} (h : X n Q .ret l w) : X n (Lp n I m Q) .ret l w := ⟨fun a hf => h.out a hf⟩
theorem X.lpExit {I : Nat → List (Nat × Value) → World → Prop} {m id : Nat} (h : X n Q (.exit id) l w) : X n (Lp n I m Q) (.exit id) l w := ⟨fun a hf => h.out a hf⟩
theorem X.ct {J : List (Nat × Value) → World → Prop} (h : ∃ r, Has l r ∧ J r w) : X n (Ct n J Q) .normal l w := ⟨fun a hf => let ⟨r, hs, hJ⟩ := h; ⟨r, hf.sub hs, hJ⟩⟩
theorem X.ctRet {J : List (Nat × Value) → World → Prop} (h : X n Q .ret l w) : X n (Ct n J Q) .ret l w := ⟨fun a hf => h.out a hf⟩
theorem X.ctExit {J : List (Nat × Value) → World → Prop} {id : Nat} (h : X n Q (.exit id) l w) : X n (Ct n J Q) (.exit id) l w := ⟨fun a hf => h.out a hf⟩
/-- A cut behind a piece of code: all its ways meet in J. -/
theorem V.cut (J : List (Nat × Value) → World → Prop) (h : V P n c (Ct n J Q) l w) (k : ∀ l w, J l w → X n Q .normal l w) : V P n c Q l w :=
  ⟨fun a hf => wp_mono (h.out a hf) fun e a' w' hq => by
    cases e with
    | normal => obtain ⟨l', hf', hJ⟩ := hq; exact (k l' w' hJ).out a' hf'
    | _ => exact hq⟩
theorem V.seqCut (J : List (Nat × Value) → World → Prop) (h : V P n c1 (Ct n J (Sq P c2 Q)) l w) (k : ∀ l w, J l w → V P n c2 Q l w) : V P n (.seq c1 c2) Q l w :=
  V.seq (V.cut J h fun l w hJ => X.sq (k l w hJ))

/-! ### the operations of a region whose order is fixed -/
theorem L.nil (h : X n Q .normal l w) : L P n ops Q [] l w := ⟨fun a hf => wpList_nil (h.out a hf)⟩
theorem L.rd {d : Nat} {op : Op} {ty : TypeId} {pos : String} {af : Array Edge} {v : Value} (hr : Rd P ⟨some d, op, ty, pos, af, none⟩ l w v) (hd : Nat.blt d n = true)
    (h : L P n ops Q rest ((d, v) :: l) w) : L P n ops Q (⟨some d, op, ty, pos, af, none⟩ :: rest) l w :=
  ⟨fun a hf => wpList_plain rfl fun K hK => by
    unfold Oper.wp
    rw [hr.out a.eval (fun x u => hf.ev) w (LeC.refl w), Oper.upon_value]
    exact hK _ _ (h.out _ (hf.put v hd))⟩
theorem L.ef {d : Option Nat} {op : Op} {ty : TypeId} {pos : String} {af : Array Edge} (he : E P n ⟨d, op, ty, pos, af, none⟩ l w (fun l' w' => L P n ops Q rest l' w')) :
    L P n ops Q (⟨d, op, ty, pos, af, none⟩ :: rest) l w :=
  ⟨fun a hf => wpList_plain rfl fun K hK => Oper.wp_mono (fun a' w' ⟨l', hf', hl⟩ => hK _ _ (hl.out a' hf')) (he.out Q a hf)⟩

def gdst (ops : List Oper) (j : Nat) : Option Nat := (ops[j]?).bind (·.dst)
theorem wanted_of {a : Act} (hf : Fits n l a) {j t : Nat} {b g : Bool} (hj : gdst ops j = some t) (ht : l.lookup t = some (.bool b)) {d : Option Nat} {op : Op} {ty : TypeId} {pos : String} {af : Array Edge} :
    Region.wanted ⟨d, op, ty, pos, af, some (j, g)⟩ (yielded ops.toArray a.tmps) = (b == g) := by
  have h1 : ((ops.toArray[j]?).bind (·.dst)) = some t := by simpa [gdst] using hj
  simp only [Region.wanted, yielded, h1, Option.bind_some, hf.slots t _ ht]
  cases b <;> cases g <;> rfl
theorem L.yes {d : Option Nat} {op : Op} {ty : TypeId} {pos : String} {af : Array Edge} {j t : Nat} {g : Bool} (hj : gdst ops j = some t) (ht : l.lookup t = some (.bool g))
    (h : L P n ops Q (⟨d, op, ty, pos, af, none⟩ :: rest) l w) : L P n ops Q (⟨d, op, ty, pos, af, some (j, g)⟩ :: rest) l w :=
  ⟨fun a hf => by
    have h1 := h.out a hf
    have hw := wanted_of hf hj ht (g := g) (d := d) (op := op) (ty := ty) (pos := pos) (af := af)
    simp only [beq_self_eq_true] at hw
    simp only [wpList] at h1 ⊢
    rw [if_pos hw]
    rw [if_pos (by simp [Region.wanted])] at h1
    exact h1⟩
theorem L.no {d : Nat} {op : Op} {ty : TypeId} {pos : String} {af : Array Edge} {j t : Nat} {b g : Bool} (hj : gdst ops j = some t) (ht : l.lookup t = some (.bool b)) (hb : b = !g) (hd : Nat.blt d n = true)
    (h : L P n ops Q rest ((d, undef) :: l) w) : L P n ops Q (⟨some d, op, ty, pos, af, some (j, g)⟩ :: rest) l w :=
  ⟨fun a hf => by
    subst hb
    have hw := wanted_of hf hj ht (g := g) (d := some d) (op := op) (ty := ty) (pos := pos) (af := af)
    have hw' : Region.wanted ⟨some d, op, ty, pos, af, some (j, g)⟩ (yielded ops.toArray a.tmps) = false := by rw [hw]; cases g <;> rfl
    exact wpList_skip hw' (h.out _ (hf.put undef hd))⟩
theorem L.noU {d : Nat} {op : Op} {ty : TypeId} {pos : String} {af : Array Edge} {j t : Nat} {g : Bool} (hj : gdst ops j = some t) (ht : l.lookup t = some undef) (hd : Nat.blt d n = true)
    (h : L P n ops Q rest ((d, undef) :: l) w) : L P n ops Q (⟨some d, op, ty, pos, af, some (j, g)⟩ :: rest) l w :=
  ⟨fun a hf => by
    have h1 : ((ops.toArray[j]?).bind (·.dst)) = some t := by simpa [gdst] using hj
    have hw' : Region.wanted ⟨some d, op, ty, pos, af, some (j, g)⟩ (yielded ops.toArray a.tmps) = false := by
      simp only [Region.wanted, yielded, h1, Option.bind_some, hf.slots t _ ht]; rfl
    exact wpList_skip hw' (h.out _ (hf.put undef hd))⟩
/-- The ways part on a truth value that stands in slot t. -/
theorem L.part {t : Nat} {p : Prop} {i : Decidable p} (ht : l.lookup t = some (.bool (@decide p i))) (hp : p → L P n ops Q rest ((t, .bool true) :: l) w) (hn : ¬ p → L P n ops Q rest ((t, .bool false) :: l) w) :
    L P n ops Q rest l w :=
  ⟨fun a hf => by
    have hs := hf.slots t _ ht
    have again : ∀ b, (@decide p i) = b → Fits n ((t, .bool b) :: l) a := fun b e => ⟨hf.defers, hf.size, fun k u hk => by
      by_cases hkt : k = t
      · subst hkt
        simp at hk
        subst hk
        rw [hs, e]
      · have hb : (k == t) = false := by simpa using hkt
        simp only [List.lookup, hb] at hk
        exact hf.slots k u hk⟩
    by_cases h : p
    · exact (hp h).out a (again true (decide_eq_true h))
    · exact (hn h).out a (again false (decide_eq_false h))⟩
theorem L.partG {d : Option Nat} {op : Op} {ty : TypeId} {pos : String} {af : Array Edge} {j t : Nat} {g : Bool} {p : Prop} {i : Decidable p} (hj : gdst ops j = some t) (ht : l.lookup t = some (.bool (@decide p i)))
    (hp : p → L P n ops Q (⟨d, op, ty, pos, af, some (j, g)⟩ :: rest) ((t, .bool true) :: l) w) (hn : ¬ p → L P n ops Q (⟨d, op, ty, pos, af, some (j, g)⟩ :: rest) ((t, .bool false) :: l) w) :
    L P n ops Q (⟨d, op, ty, pos, af, some (j, g)⟩ :: rest) l w := L.part ht hp hn
theorem L.partGB {d : Option Nat} {op : Op} {ty : TypeId} {pos : String} {af : Array Edge} {j t : Nat} {g b : Bool} (hj : gdst ops j = some t) (ht : l.lookup t = some (.bool b))
    (hp : b = true → L P n ops Q (⟨d, op, ty, pos, af, some (j, g)⟩ :: rest) ((t, .bool true) :: l) w) (hn : b = false → L P n ops Q (⟨d, op, ty, pos, af, some (j, g)⟩ :: rest) ((t, .bool false) :: l) w) :
    L P n ops Q (⟨d, op, ty, pos, af, some (j, g)⟩ :: rest) l w :=
  L.part (p := b = true) (i := inferInstance) (by rw [ht]; cases b <;> rfl) hp (fun h => hn (by simpa using h))
end
end Go.Mw
