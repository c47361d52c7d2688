/-
  The steps, continued: types by a table; operations that compute or read.
-/
import Derived.Test.YbxaawGreatCore
namespace Go.Mw
set_option linter.unusedVariables false
set_option linter.unusedSimpArgs false

/-! ### what is known of a type. tag: 0 int (kind), 1 bool, 2 string, 3 slice (elem a), 4 array (length a, elem b), 5 struct (fields: offset, type), 6 pointer (elem a) -/
structure TI where
  tag : Nat
  a : Nat
  b : Nat
  kind : IntKind
  fs : List (Nat × Nat)
  size : Nat
  bytes : Nat
  zero : Value

def TI.descOk (i : TI) (d : TypeDesc) : Prop :=
  match i.tag with
  | 0 => d = .int i.kind
  | 1 => d = .bool
  | 2 => d = .string
  | 3 => d = .slice i.a
  | 4 => d = .array i.a i.b
  | 5 => ∃ f, d = .struct f ∧ (f.toList.map fun x => (x.offset, x.type)) = i.fs
  | 6 => d = .pointer i.a
  | _ => False

structure TFact (P : Program) (t : Nat) (i : TI) : Prop where
  desc : ∃ d, P.underlying t = some d ∧ i.descOk d
  info : ∃ f, P.info? t = some f ∧ f.size = i.size ∧ f.bytes = i.bytes ∧ f.zero = some i.zero

def TAll (P : Program) : List (Nat × TI) → Prop
  | [] => True
  | p :: r => TFact P p.1 p.2 ∧ TAll P r

structure TOk (P : Program) (T : List (Nat × TI)) : Prop where
  all : TAll P T

theorem TAll.get {P : Program} : ∀ {T : List (Nat × TI)}, TAll P T → ∀ t i, T.lookup t = some i → TFact P t i
  | [], _, t, i, h => by simp at h
  | (j, u) :: r, hh, t, i, h => by
    by_cases hk : t = j
    · subst hk
      simp at h
      subst h
      exact hh.1
    · have hb : (t == j) = false := by simpa using hk
      simp only [List.lookup, hb] at h
      exact TAll.get hh.2 t i h
theorem TOk.get {P : Program} {T : List (Nat × TI)} (h : TOk P T) {t : Nat} {i : TI} (ht : T.lookup t = some i) : TFact P t i := h.all.get t i ht

theorem TFact.sizeOf {P : Program} {t : Nat} {i : TI} (h : TFact P t i) (w : World) : (Go.sizeOf t).run P w = .ok i.size w := by
  obtain ⟨f, hf, hs, _, _⟩ := h.info
  simp [Go.sizeOf, typeInfo, hf, hs]
theorem TFact.info' {P : Program} {t : Nat} {i : TI} (h : TFact P t i) : ∃ f, P.info? t = some f ∧ f.size = i.size ∧ f.bytes = i.bytes ∧ f.zero = some i.zero := h.info
theorem TFact.zeroValue {P : Program} {t : Nat} {i : TI} (h : TFact P t i) (w : World) : (Go.zeroValue t).run P w = .ok i.zero w := by
  obtain ⟨f, hf, _, _, hz⟩ := h.info
  simp [Go.zeroValue, typeInfo, hf, hz]
theorem TFact.slice {P : Program} {t e : Nat} {i : TI} (h : TFact P t i) (h3 : i.tag = 3) (he : i.a = e) : P.underlying t = some (.slice e) := by
  obtain ⟨d, hd, hk⟩ := h.desc
  simp only [TI.descOk, h3] at hk
  rw [hd, hk, he]
theorem TFact.array {P : Program} {t n e : Nat} {i : TI} (h : TFact P t i) (h3 : i.tag = 4) (hn : i.a = n) (he : i.b = e) : P.underlying t = some (.array n e) := by
  obtain ⟨d, hd, hk⟩ := h.desc
  simp only [TI.descOk, h3] at hk
  rw [hd, hk, he, hn]
theorem TFact.int {P : Program} {t : Nat} {k : IntKind} {i : TI} (h : TFact P t i) (h3 : i.tag = 0) (he : i.kind = k) : P.underlying t = some (.int k) := by
  obtain ⟨d, hd, hk⟩ := h.desc
  simp only [TI.descOk, h3] at hk
  rw [hd, hk, he]
theorem TFact.string {P : Program} {t : Nat} {i : TI} (h : TFact P t i) (h3 : i.tag = 2) : P.underlying t = some .string := by
  obtain ⟨d, hd, hk⟩ := h.desc
  simp only [TI.descOk, h3] at hk
  rw [hd, hk]
theorem TFact.struct {P : Program} {t : Nat} {i : TI} (h : TFact P t i) (h3 : i.tag = 5) : ∃ f, P.underlying t = some (.struct f) ∧ (f.toList.map fun x => (x.offset, x.type)) = i.fs := by
  obtain ⟨d, hd, hk⟩ := h.desc
  simp only [TI.descOk, h3] at hk
  obtain ⟨f, rfl, hf⟩ := hk
  exact ⟨f, hd, hf⟩
theorem TFact.isAgg {P : Program} {t : Nat} {i : TI} (h : TFact P t i) (w : World) : (Go.isAgg t).run P w = .ok (i.tag == 4 || i.tag == 5) w := by
  obtain ⟨d, hd, hk⟩ := h.desc
  unfold TI.descOk at hk
  split at hk <;> rename_i h3
  all_goals first
    | (subst hk; simp [Go.isAgg, run_underlying hd, h3]; done)
    | (obtain ⟨f, rfl, _⟩ := hk; simp [Go.isAgg, run_underlying hd, h3]; done)
    | exact hk.elim

section
variable {P : Program} {l : List (Nat × Value)} {w : World} {d : Option Nat} {ty : TypeId} {pos : String} {af : Array Edge} {g : Option (Nat × Bool)} {T : List (Nat × TI)}

theorem rd_move {x : Operand} {v : Value} (h : ev l x = some v) : Rd P ⟨d, .move x, ty, pos, af, g⟩ l w v :=
  ⟨fun ρ hρ w' _ => by simp [execOp, hρ x v h]⟩
theorem rd_assign {x : Operand} {v : Value} (h : ev l x = some v) : Rd P ⟨d, .assign x, ty, pos, af, g⟩ l w v :=
  ⟨fun ρ hρ w' _ => by simp [execOp, hρ x v h]⟩
theorem rd_pickT {c x y : Operand} {v : Value} (hc : ev l c = some (.bool true)) (h : ev l x = some v) : Rd P ⟨d, .pick c x y, ty, pos, af, g⟩ l w v :=
  ⟨fun ρ hρ w' _ => by simp [execOp, hρ c _ hc, hρ x v h, asBool]⟩
theorem rd_pickF {c x y : Operand} {v : Value} (hc : ev l c = some (.bool false)) (h : ev l y = some v) : Rd P ⟨d, .pick c x y, ty, pos, af, g⟩ l w v :=
  ⟨fun ρ hρ w' _ => by simp [execOp, hρ c _ hc, hρ y v h, asBool]⟩
/-- int arithmetic that stays in its range -/
theorem wrap_i64_in {a : Int} (h : -9223372036854775808 ≤ a ∧ a ≤ 9223372036854775807) : IntKind.i64.wrap a = a := IntWalk.i64_in a h
theorem rd_add3 {x y : Operand} {a b : Int} (hx : ev l x = some (.int .i64 a)) (hy : ev l y = some (.int .i64 b)) (h : -9223372036854775808 ≤ a + b ∧ a + b ≤ 9223372036854775807) :
    Rd P ⟨d, .binOp .add 3 x y 3, ty, pos, af, g⟩ l w (.int .i64 (a + b)) :=
  ⟨fun ρ hρ w' _ => by simp [execOp, hρ x _ hx, hρ y _ hy, eqGuard, binOp, Op.intArith, wrap_i64_in h]⟩
theorem rd_sub3 {x y : Operand} {a b : Int} (hx : ev l x = some (.int .i64 a)) (hy : ev l y = some (.int .i64 b)) (h : -9223372036854775808 ≤ a - b ∧ a - b ≤ 9223372036854775807) :
    Rd P ⟨d, .binOp .sub 3 x y 3, ty, pos, af, g⟩ l w (.int .i64 (a - b)) :=
  ⟨fun ρ hρ w' _ => by simp [execOp, hρ x _ hx, hρ y _ hy, eqGuard, binOp, Op.intArith, wrap_i64_in h]⟩
theorem rd_mul3 {x y : Operand} {a b : Int} (hx : ev l x = some (.int .i64 a)) (hy : ev l y = some (.int .i64 b)) (h : -9223372036854775808 ≤ a * b ∧ a * b ≤ 9223372036854775807) :
    Rd P ⟨d, .binOp .mul 3 x y 3, ty, pos, af, g⟩ l w (.int .i64 (a * b)) :=
  ⟨fun ρ hρ w' _ => by simp [execOp, hρ x _ hx, hρ y _ hy, eqGuard, binOp, Op.intArith, wrap_i64_in h]⟩
theorem rd_addW {x y : Operand} {t u : TypeId} {k : IntKind} {a b : Int} (hx : ev l x = some (.int k a)) (hy : ev l y = some (.int k b)) :
    Rd P ⟨d, .binOp .add t x y u, ty, pos, af, g⟩ l w (.int k (k.wrap (a + b))) :=
  ⟨fun ρ hρ w' _ => by simp [execOp, hρ x _ hx, hρ y _ hy, eqGuard, binOp, Op.intArith]⟩
theorem rd_subW {x y : Operand} {t u : TypeId} {k : IntKind} {a b : Int} (hx : ev l x = some (.int k a)) (hy : ev l y = some (.int k b)) :
    Rd P ⟨d, .binOp .sub t x y u, ty, pos, af, g⟩ l w (.int k (k.wrap (a - b))) :=
  ⟨fun ρ hρ w' _ => by simp [execOp, hρ x _ hx, hρ y _ hy, eqGuard, binOp, Op.intArith]⟩
theorem rd_mulW {x y : Operand} {t u : TypeId} {k : IntKind} {a b : Int} (hx : ev l x = some (.int k a)) (hy : ev l y = some (.int k b)) :
    Rd P ⟨d, .binOp .mul t x y u, ty, pos, af, g⟩ l w (.int k (k.wrap (a * b))) :=
  ⟨fun ρ hρ w' _ => by simp [execOp, hρ x _ hx, hρ y _ hy, eqGuard, binOp, Op.intArith]⟩
theorem rd_quoW {x y : Operand} {t u : TypeId} {k : IntKind} {a b : Int} (hx : ev l x = some (.int k a)) (hy : ev l y = some (.int k b)) (h0 : b ≠ 0) :
    Rd P ⟨d, .binOp .quo t x y u, ty, pos, af, g⟩ l w (.int k (k.wrap (a.tdiv b))) :=
  ⟨fun ρ hρ w' _ => by simp [execOp, hρ x _ hx, hρ y _ hy, eqGuard, binOp, Op.intDiv, h0]⟩
theorem rd_remW {x y : Operand} {t u : TypeId} {k : IntKind} {a b : Int} (hx : ev l x = some (.int k a)) (hy : ev l y = some (.int k b)) (h0 : b ≠ 0) :
    Rd P ⟨d, .binOp .rem t x y u, ty, pos, af, g⟩ l w (.int k (a.tmod b)) :=
  ⟨fun ρ hρ w' _ => by simp [execOp, hρ x _ hx, hρ y _ hy, eqGuard, binOp, Op.intDiv, h0]⟩
theorem rd_lss {x y : Operand} {t u : TypeId} {k : IntKind} {a b : Int} (hx : ev l x = some (.int k a)) (hy : ev l y = some (.int k b)) :
    Rd P ⟨d, .binOp .lss t x y u, ty, pos, af, g⟩ l w (.bool (decide (a < b))) :=
  ⟨fun ρ hρ w' _ => by simp [execOp, hρ x _ hx, hρ y _ hy, eqGuard, binOp, Op.intCmp]⟩
theorem rd_leq {x y : Operand} {t u : TypeId} {k : IntKind} {a b : Int} (hx : ev l x = some (.int k a)) (hy : ev l y = some (.int k b)) :
    Rd P ⟨d, .binOp .leq t x y u, ty, pos, af, g⟩ l w (.bool (decide (a ≤ b))) :=
  ⟨fun ρ hρ w' _ => by simp [execOp, hρ x _ hx, hρ y _ hy, eqGuard, binOp, Op.intCmp]⟩
theorem rd_gtr {x y : Operand} {t u : TypeId} {k : IntKind} {a b : Int} (hx : ev l x = some (.int k a)) (hy : ev l y = some (.int k b)) :
    Rd P ⟨d, .binOp .gtr t x y u, ty, pos, af, g⟩ l w (.bool (decide (b < a))) :=
  ⟨fun ρ hρ w' _ => by simp [execOp, hρ x _ hx, hρ y _ hy, eqGuard, binOp, Op.intCmp]⟩
theorem rd_geq {x y : Operand} {t u : TypeId} {k : IntKind} {a b : Int} (hx : ev l x = some (.int k a)) (hy : ev l y = some (.int k b)) :
    Rd P ⟨d, .binOp .geq t x y u, ty, pos, af, g⟩ l w (.bool (decide (b ≤ a))) :=
  ⟨fun ρ hρ w' _ => by simp [execOp, hρ x _ hx, hρ y _ hy, eqGuard, binOp, Op.intCmp]⟩
theorem rd_eql {x y : Operand} {t u : TypeId} {k : IntKind} {a b : Int} (hx : ev l x = some (.int k a)) (hy : ev l y = some (.int k b)) :
    Rd P ⟨d, .binOp .eql t x y u, ty, pos, af, g⟩ l w (.bool (decide (a = b))) :=
  ⟨fun ρ hρ w' _ => by
    have e : (a == b) = decide (a = b) := by rw [Bool.eq_iff_iff]; simp
    simp only [execOp, hρ x _ hx, hρ y _ hy, eqGuard, binOp, Op.intCmp, e]
    simp⟩
theorem rd_neq {x y : Operand} {t u : TypeId} {k : IntKind} {a b : Int} (hx : ev l x = some (.int k a)) (hy : ev l y = some (.int k b)) :
    Rd P ⟨d, .binOp .neq t x y u, ty, pos, af, g⟩ l w (.bool (decide (¬ a = b))) :=
  ⟨fun ρ hρ w' _ => by
    have e : (a != b) = decide (¬ a = b) := by rw [Bool.eq_iff_iff]; simp
    simp only [execOp, hρ x _ hx, hρ y _ hy, eqGuard, binOp, Op.intCmp, e]
    simp⟩
theorem rd_not {x : Operand} {t : TypeId} {p : Prop} {i : Decidable p} (hx : ev l x = some (.bool (@decide p i))) : Rd P ⟨d, .unOp .not t x, ty, pos, af, g⟩ l w (.bool (decide (¬ p))) :=
  ⟨fun ρ hρ w' _ => by simp [execOp, hρ x _ hx, Op.unary]⟩
theorem rd_notB {x : Operand} {t : TypeId} {b : Bool} (hx : ev l x = some (.bool b)) : Rd P ⟨d, .unOp .not t x, ty, pos, af, g⟩ l w (.bool (!b)) :=
  ⟨fun ρ hρ w' _ => by simp [execOp, hρ x _ hx, Op.unary]⟩
theorem rd_negW {x : Operand} {t : TypeId} {k : IntKind} {a : Int} (hx : ev l x = some (.int k a)) : Rd P ⟨d, .unOp .neg t x, ty, pos, af, g⟩ l w (.int k (k.wrap (-a))) :=
  ⟨fun ρ hρ w' _ => by simp [execOp, hρ x _ hx, Op.unary, Op.intArith]⟩
theorem rd_convInt (hT : TOk P T) {x : Operand} {s u : TypeId} {k k' : IntKind} {a : Int} {i j : TI} (hs : T.lookup s = some i) (hu : T.lookup u = some j) (hj : j.tag = 0) (hk : j.kind = k) (hx : ev l x = some (.int k' a)) :
    Rd P ⟨d, .convert s u x, ty, pos, af, g⟩ l w (.int k (k.wrap a)) :=
  ⟨fun ρ hρ w' _ => by
    obtain ⟨ds, hds, _⟩ := (hT.get hs).desc
    simp [execOp, hρ x _ hx, convert, run_underlying hds, run_underlying ((hT.get hu).int hj hk), Conv.intToInt]⟩
theorem rd_lenSlice (hT : TOk P T) {x : Operand} {s : TypeId} {i : TI} {a : Option Addr} {m c : Nat} (hs : T.lookup s = some i) (h3 : i.tag = 3) (hx : ev l x = some (.slice a m c)) :
    Rd P ⟨d, .call { callee := .builtin .len, args := #[x], argTypes := #[s] }, ty, pos, af, g⟩ l w (.int .i64 m) :=
  ⟨fun ρ hρ w' _ => by simp [execOp, hρ x _ hx, resolve, invoke, builtin, Builtin.len_, run_underlying ((hT.get hs).slice h3 rfl), goInt]⟩
theorem rd_lenString (hT : TOk P T) {x : Operand} {s : TypeId} {i : TI} {b : ByteArray} (hs : T.lookup s = some i) (h3 : i.tag = 2) (hx : ev l x = some (.string b)) :
    Rd P ⟨d, .call { callee := .builtin .len, args := #[x], argTypes := #[s] }, ty, pos, af, g⟩ l w (.int .i64 b.size) :=
  ⟨fun ρ hρ w' _ => by simp [execOp, hρ x _ hx, resolve, invoke, builtin, Builtin.len_, run_underlying ((hT.get hs).string h3), goInt]⟩
theorem rd_indexString (hT : TOk P T) {x y : Operand} {s : TypeId} {i : TI} {b : ByteArray} {k : IntKind} {j : Nat} (hs : T.lookup s = some i) (h3 : i.tag = 2) (hx : ev l x = some (.string b)) (hy : ev l y = some (.int k j)) (hj : j < b.size) :
    Rd P ⟨d, .index s x y, ty, pos, af, g⟩ l w (.int .u8 b[j].toNat) :=
  ⟨fun ρ hρ w' _ => by
    have hb : b[j]? = some b[j] := by simp [hj]
    simp [execOp, hρ x _ hx, hρ y _ hy, Instr.index, asIntOf, run_underlying ((hT.get hs).string h3), hb]⟩
theorem rd_extract {x : Operand} {vs : Array Value} {i : Nat} {v : Value} (hx : ev l x = some (.tuple vs)) (hi : vs[i]? = some v) : Rd P ⟨d, .extract x i, ty, pos, af, g⟩ l w v :=
  ⟨fun ρ hρ w' _ => by simp [execOp, hρ x _ hx, Instr.extract, hi]⟩
theorem rd_nilCheck {x : Operand} {a : Addr} (hx : ev l x = some (.pointer (some a))) : Rd P ⟨d, .nilCheck x, ty, pos, af, g⟩ l w (.pointer (some a)) :=
  ⟨fun ρ hρ w' _ => by simp [execOp, hρ x _ hx]⟩

/-! ### addresses -/
theorem addr_add (b o k : Nat) : (⟨b, o, none⟩ : Addr).add k = ⟨b, o + k, none⟩ := by
  unfold Addr.add
  by_cases h : k = 0
  · simp [h]
  · simp [h]
theorem rd_fieldAddr (hT : TOk P T) {x : Operand} {s : TypeId} {b o k off ft : Nat} {i j : TI} (hs : T.lookup s = some i) (h5 : i.tag = 5) (hf : i.fs[k]? = some (off, ft)) (hj : T.lookup ft = some j) (hz : Nat.beq j.size 0 = false)
    (hx : ev l x = some (.pointer (some ⟨b, o, none⟩))) : Rd P ⟨d, .fieldAddr s x k, ty, pos, af, g⟩ l w (.pointer (some ⟨b, o + off, none⟩)) :=
  ⟨fun ρ hρ w' _ => by
    obtain ⟨f, hu, hfs⟩ := (hT.get hs).struct h5
    have h1 : (f.toList.map fun x => (x.offset, x.type))[k]? = some (off, ft) := by rw [hfs]; exact hf
    simp only [List.getElem?_map, Array.getElem?_toList, Option.map_eq_some_iff] at h1
    obtain ⟨fl, hfl, he⟩ := h1
    simp only [Prod.mk.injEq] at he
    obtain ⟨rfl, rfl⟩ := he
    have hz' : ¬ j.size = 0 := by intro e; rw [e] at hz; cases hz
    have hsz := (hT.get hj).sizeOf w'
    simp [execOp, hρ x _ hx, Instr.fieldAt, Instr.sureAddr, run_underlying hu, hfl, fieldPlace, hsz, hz', addr_add]⟩
theorem rd_indexSlice (hT : TOk P T) {x y : Operand} {s : TypeId} {b o m c e sz : Nat} {k : IntKind} {q : Int} {i j : TI} (hs : T.lookup s = some i) (h3 : i.tag = 3) (he : i.a = e) (hj : T.lookup e = some j) (hsz : j.size = sz)
    (hx : ev l x = some (.slice (some ⟨b, o, none⟩) m c)) (hy : ev l y = some (.int k q)) (h0 : 0 ≤ q ∧ q < m) :
    Rd P ⟨d, .indexAddr s x y, ty, pos, af, g⟩ l w (.pointer (some ⟨b, o + q.toNat * sz, none⟩)) :=
  ⟨fun ρ hρ w' _ => by
    subst hsz
    have hsz := (hT.get hj).sizeOf w'
    simp [execOp, hρ x _ hx, hρ y _ hy, Instr.indexAt, asIntOf, run_underlying ((hT.get hs).slice h3 he), h0.1, h0.2, hsz, addr_add]⟩
theorem rd_indexArr (hT : TOk P T) {x y : Operand} {s : TypeId} {b o n e sz : Nat} {k : IntKind} {q : Int} {i j : TI} (hs : T.lookup s = some i) (h3 : i.tag = 4) (hn : i.a = n) (he : i.b = e) (hj : T.lookup e = some j) (hsz : j.size = sz)
    (hx : ev l x = some (.pointer (some ⟨b, o, none⟩))) (hy : ev l y = some (.int k q)) (h0 : 0 ≤ q ∧ q < n) :
    Rd P ⟨d, .indexAddr s x y, ty, pos, af, g⟩ l w (.pointer (some ⟨b, o + q.toNat * sz, none⟩)) :=
  ⟨fun ρ hρ w' _ => by
    subst hsz
    have hsz := (hT.get hj).sizeOf w'
    simp [execOp, hρ x _ hx, hρ y _ hy, Instr.indexAt, Instr.sureAddr, asIntOf, run_underlying ((hT.get hs).array h3 hn he), h0.1, h0.2, hsz, addr_add]⟩
/-- A whole row of cells. -/
structure Cells (w : World) (b o : Nat) (vs : List Value) : Prop where
  at_ : ∀ i v, vs[i]? = some v → w.cell? ⟨b, o + i, none⟩ = some v
theorem Cells.le {w w' : World} (hle : LeC w w') {b o : Nat} {vs : List Value} (h : Cells w b o vs) : Cells w' b o vs := ⟨fun i v hv => hle.cell _ _ (h.at_ i v hv)⟩
theorem Cells.tail {w : World} {b o : Nat} {v : Value} {vs : List Value} (h : Cells w b o (v :: vs)) : Cells w b (o + 1) vs := ⟨fun i u hu => by
  have := h.at_ (i + 1) u (by simpa using hu)
  rw [show o + 1 + i = o + (i + 1) by omega]
  exact this⟩
theorem run_loadCellsFrom {w : World} {b o : Nat} : ∀ (vs : List Value) (i : Nat) (acc : Array Value), Cells w b (o + i) vs → (loadCellsFrom ⟨b, o, none⟩ i vs.length acc).run P w = .ok (acc ++ vs.toArray) w
  | [], i, acc, _ => by simp [loadCellsFrom]
  | v :: vs, i, acc, h => by
    have h0 := h.at_ 0 v rfl
    have h1 : Cells w b (o + (i + 1)) vs := by have := h.tail; rwa [show o + i + 1 = o + (i + 1) by omega] at this
    have ih := run_loadCellsFrom vs (i + 1) (acc.push v) h1
    simp only [List.length_cons, loadCellsFrom, load, addr_add]
    simp only [Nat.add_zero] at h0
    simp only [bind, Sem.bind, Sem.run, h0]
    rw [ih]
    simp
theorem run_loadCells {w : World} {b o : Nat} {vs : List Value} (h : Cells w b o vs) : (loadCells ⟨b, o, none⟩ vs.length).run P w = .ok vs.toArray w := by
  have := run_loadCellsFrom (P := P) vs 0 #[] (by simpa using h)
  simpa [loadCells] using this
theorem rd_load1 (hT : TOk P T) {x : Operand} {t : TypeId} {b o : Nat} {i : TI} {v : Value} (ht : T.lookup t = some i) (hg : (i.tag == 4 || i.tag == 5) = false) (hx : ev l x = some (.pointer (some ⟨b, o, none⟩))) (hc : w.cell? ⟨b, o, none⟩ = some v) :
    Rd P ⟨d, .load t x, ty, pos, af, g⟩ l w v :=
  ⟨fun ρ hρ w' hle => by
    have h1 := (hT.get ht).isAgg w'
    rw [hg] at h1
    have h2 := hle.cell _ _ hc
    simp [execOp, hρ x _ hx, Instr.loadAt, Instr.sureAddr, loadVar, h1, load, Sem.run, h2]⟩
theorem rd_loadN (hT : TOk P T) {x : Operand} {t : TypeId} {b o : Nat} {i : TI} {vs : List Value} (ht : T.lookup t = some i) (hg : (i.tag == 4 || i.tag == 5) = true) (hx : ev l x = some (.pointer (some ⟨b, o, none⟩))) (hc : Cells w b o vs) (hn : i.size = vs.length) :
    Rd P ⟨d, .load t x, ty, pos, af, g⟩ l w (.agg vs.toArray) :=
  ⟨fun ρ hρ w' hle => by
    have h1 := (hT.get ht).isAgg w'
    rw [hg] at h1
    have h2 := (hT.get ht).sizeOf w'
    rw [hn] at h2
    have h3 := run_loadCells (P := P) (hc.le hle)
    simp [execOp, hρ x _ hx, Instr.loadAt, Instr.sureAddr, loadVar, h1, h2, h3]⟩
end
end Go.Mw
