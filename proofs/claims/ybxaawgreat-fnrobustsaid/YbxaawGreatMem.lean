/-
  The steps, continued: calls and returns; operations that make or write memory.
-/
import Derived.Test.YbxaawGreatOps
set_option linter.unusedVariables false
set_option linter.unusedSimpArgs false
namespace Go.Mw

/-! ### a call that comes back -/
structure Ret (P : Program) (f : FuncId) (args : List Value) (w : World) (R : Value → World → Prop) : Prop where
  call : Calls P f args.toArray w (fun e w' => ∃ v, e = .returned v ∧ R v w')
  enters : ∀ w', (callFunc f args.toArray).run P w' = .ok (.enter f args.toArray) w'

theorem Ret.mono {P : Program} {f : FuncId} {args : List Value} {w : World} {R R' : Value → World → Prop} (h : Ret P f args w R) (hr : ∀ v w', R v w' → R' v w') : Ret P f args w R' :=
  ⟨h.call.mono fun e w' ⟨v, he, hR⟩ => ⟨v, he, hr v w' hR⟩, h.enters⟩

/-- What a body is to come to. -/
def Bd (P : Program) (fn : Func) (R : Value → World → Prop) : Exit → Act → World → Prop := bodyPost P fn (fun e w' => ∃ v, e = .returned v ∧ R v w')

def slotsFrom : Nat → List Value → List (Nat × Value)
  | _, [] => []
  | i, v :: r => (i, v) :: slotsFrom (i + 1) r

theorem slotsFrom_get : ∀ (vs : List Value) (i k : Nat) (v : Value), (slotsFrom i vs).lookup k = some v → i ≤ k ∧ vs[k - i]? = some v
  | [], i, k, v, h => by simp [slotsFrom] at h
  | u :: r, i, k, v, h => by
    by_cases hk : k = i
    · subst hk
      simp [slotsFrom] at h
      subst h
      simp
    · have hb : (k == i) = false := by simpa using hk
      simp only [slotsFrom, List.lookup, hb] at h
      obtain ⟨h1, h2⟩ := slotsFrom_get r (i + 1) k v h
      refine ⟨by omega, ?_⟩
      rw [show k - i = (k - (i + 1)) + 1 by omega]
      simpa using h2

theorem ret_intro {P : Program} {f : FuncId} {fn : Func} {c : Code} {n : Nat} {args : List Value} {w : World} {R : Value → World → Prop}
    (hf : P.funcs[f]? = some fn) (hnm : (fn.name == "runtime.NumGoroutine") = false) (hb : fn.body = some c) (hn : fn.ntmps = n) (hle : Nat.ble args.length n = true)
    (h : V P n c (Bd P fn R) (slotsFrom 0 args) w) : Ret P f args w R := by
  refine ⟨calls_of_wp hf hb (h.out _ ⟨rfl, ?_, ?_⟩), fun w' => ?_⟩
  · have : args.length ≤ n := Nat.le_of_ble_eq_true hle
    simp [hn]; omega
  · intro k v hk
    obtain ⟨_, h2⟩ := slotsFrom_get args 0 k v hk
    simp only [Nat.sub_zero] at h2
    have : k < args.length := (List.getElem?_eq_some_iff.1 h2).1
    rw [Array.getElem?_append_left (by simpa using this)]
    simpa using h2
  · have hnm' : ¬ fn.name = "runtime.NumGoroutine" := by simpa using hnm
    simp [callFunc, hf, hnm', hb]

theorem enter0 {P : Program} {f : FuncId} {fn : Func} {c : Code} {n : Nat} {w : World} {R : Value → World → Prop}
    (hf : P.funcs[f]? = some fn) (hn : fn.ntmps = n) (hnm : (fn.name == "runtime.NumGoroutine") = false) (hb : fn.body = some c) (hle : Nat.ble 0 n = true)
    (h : V P n c (Bd P fn R) [] w) : Ret P f [] w R := ret_intro hf hnm hb hn hle h
theorem enter1 {P : Program} {f : FuncId} {fn : Func} {c : Code} {n : Nat} {w : World} {R : Value → World → Prop} {v0 : Value}
    (hf : P.funcs[f]? = some fn) (hn : fn.ntmps = n) (hnm : (fn.name == "runtime.NumGoroutine") = false) (hb : fn.body = some c) (hle : Nat.ble 1 n = true)
    (h : V P n c (Bd P fn R) [(0, v0)] w) : Ret P f [v0] w R := ret_intro hf hnm hb hn hle h
theorem enter2 {P : Program} {f : FuncId} {fn : Func} {c : Code} {n : Nat} {w : World} {R : Value → World → Prop} {v0 v1 : Value}
    (hf : P.funcs[f]? = some fn) (hn : fn.ntmps = n) (hnm : (fn.name == "runtime.NumGoroutine") = false) (hb : fn.body = some c) (hle : Nat.ble 2 n = true)
    (h : V P n c (Bd P fn R) [(0, v0), (1, v1)] w) : Ret P f [v0, v1] w R := ret_intro hf hnm hb hn hle h
theorem enter3 {P : Program} {f : FuncId} {fn : Func} {c : Code} {n : Nat} {w : World} {R : Value → World → Prop} {v0 v1 v2 : Value}
    (hf : P.funcs[f]? = some fn) (hn : fn.ntmps = n) (hnm : (fn.name == "runtime.NumGoroutine") = false) (hb : fn.body = some c) (hle : Nat.ble 3 n = true)
    (h : V P n c (Bd P fn R) [(0, v0), (1, v1), (2, v2)] w) : Ret P f [v0, v1, v2] w R := ret_intro hf hnm hb hn hle h
theorem enter4 {P : Program} {f : FuncId} {fn : Func} {c : Code} {n : Nat} {w : World} {R : Value → World → Prop} {v0 v1 v2 v3 : Value}
    (hf : P.funcs[f]? = some fn) (hn : fn.ntmps = n) (hnm : (fn.name == "runtime.NumGoroutine") = false) (hb : fn.body = some c) (hle : Nat.ble 4 n = true)
    (h : V P n c (Bd P fn R) [(0, v0), (1, v1), (2, v2), (3, v3)] w) : Ret P f [v0, v1, v2, v3] w R := ret_intro hf hnm hb hn hle h
section
variable {P : Program} {n : Nat} {l : List (Nat × Value)} {w : World} {fn : Func} {R : Value → World → Prop}
theorem fits_getD {a : Act} (hf : Fits n l a) {t : Nat} {v : Value} (h : l.lookup t = some v) : a.tmps.getD t undef = v := by
  simp [Array.getD_eq_getD_getElem?, hf.slots t v h]
theorem ret_1 {t : Nat} {v : Value} (hr : fn.results = #[.tmp t]) (h : l.lookup t = some v) (hR : R v w) : X n (Bd P fn R) .ret l w :=
  ⟨fun a hf => ⟨hf.defers, v, by rw [results_tmp hr, fits_getD hf h], v, rfl, hR⟩⟩
theorem ret_2 {t u : Nat} {v v' : Value} (hr : fn.results = #[.tmp t, .tmp u]) (h : l.lookup t = some v) (h' : l.lookup u = some v') (hR : R (.tuple #[v, v']) w) : X n (Bd P fn R) .ret l w :=
  ⟨fun a hf => ⟨hf.defers, _, by rw [results_tmp2 hr, fits_getD hf h, fits_getD hf h'], _, rfl, hR⟩⟩
theorem ret_0 (hr : fn.results = #[]) (hR : R (.tuple #[]) w) : X n (Bd P fn R) .normal l w :=
  ⟨fun a hf => ⟨hf.defers, _, results_none hr _ _ _, _, rfl, hR⟩⟩
theorem ret_0' (hr : fn.results = #[]) (hR : R (.tuple #[]) w) : X n (Bd P fn R) .ret l w :=
  ⟨fun a hf => ⟨hf.defers, _, results_none hr _ _ _, _, rfl, hR⟩⟩
theorem run_loadVarN {T : List (Nat × TI)} (hT : TOk P T) {t b o : Nat} {i : TI} {vs : List Value} (ht : T.lookup t = some i) (hg : (i.tag == 4 || i.tag == 5) = true) (hc : Cells w b o vs) (hn : i.size = vs.length) :
    (loadVar t ⟨b, o, none⟩).run P w = .ok (.agg vs.toArray) w := by
  have h1 := (hT.get ht).isAgg w
  rw [hg] at h1
  have h2 := (hT.get ht).sizeOf w
  rw [hn] at h2
  have h3 := run_loadCells (P := P) hc
  simp [loadVar, h1, h2, h3]
theorem ret_c {T : List (Nat × TI)} (hT : TOk P T) {t ty b o : Nat} {i : TI} {vs : List Value} (hr : fn.results = #[.cell t ty]) (h : l.lookup t = some (.pointer (some ⟨b, o, none⟩))) (ht : T.lookup ty = some i) (hg : (i.tag == 4 || i.tag == 5) = true)
    (hc : Cells w b o vs) (hn : i.size = vs.length) (hR : R (.agg vs.toArray) w) : X n (Bd P fn R) .ret l w :=
  ⟨fun a hf => ⟨hf.defers, .agg vs.toArray, by
    have h0 := hf.slots _ _ h
    have h1 := run_loadVarN (P := P) hT ht hg hc hn
    simp [results, hr, h0, asAddr, h1], _, rfl, hR⟩⟩
theorem ret_c1 {T : List (Nat × TI)} (hT : TOk P T) {t ty u b o : Nat} {i : TI} {vs : List Value} {v : Value} (hr : fn.results = #[.cell t ty, .tmp u]) (h : l.lookup t = some (.pointer (some ⟨b, o, none⟩))) (h' : l.lookup u = some v) (ht : T.lookup ty = some i) (hg : (i.tag == 4 || i.tag == 5) = true)
    (hc : Cells w b o vs) (hn : i.size = vs.length) (hR : R (.tuple #[.agg vs.toArray, v]) w) : X n (Bd P fn R) .ret l w :=
  ⟨fun a hf => ⟨hf.defers, .tuple #[.agg vs.toArray, v], by
    have h0 := hf.slots _ _ h
    have h0' := hf.slots _ _ h'
    have h1 := run_loadVarN (P := P) hT ht hg hc hn
    simp [results, hr, h0, h0', asAddr, h1], _, rfl, hR⟩⟩
end

/-! ### blocks -/
/-- Block b is a row of the cells cs, of type e, nothing frozen. -/
structure Bl (w : World) (b : Nat) (e : TypeId) (cs : List Value) : Prop where
  at_ : w.heap[b]? = some (.cells cs.toArray e (0, 0))
def addB (w : World) (e : TypeId) (cs : List Value) : World := w.alloc (.cells cs.toArray e)
def setB (w : World) (b : Nat) (e : TypeId) (cs : List Value) : World := { w with heap := w.heap.setIfInBounds b (.cells cs.toArray e) }

theorem size_addB (w : World) (e : TypeId) (cs : List Value) : (addB w e cs).heap.size = w.heap.size + 1 := by simp [addB]
theorem size_setB (w : World) (b : Nat) (e : TypeId) (cs : List Value) : (setB w b e cs).heap.size = w.heap.size := by simp [setB]
theorem size_drew (w : World) : w.drew.heap.size = w.heap.size := rfl
theorem Bl.lt {w : World} {b : Nat} {e : TypeId} {cs : List Value} (h : Bl w b e cs) : b < w.heap.size := (Array.getElem?_eq_some_iff.1 h.at_).1
theorem Bl.cell {w : World} {b : Nat} {e : TypeId} {cs : List Value} (h : Bl w b e cs) {i : Nat} {v : Value} (hv : cs[i]? = some v) : w.cell? ⟨b, i, none⟩ = some v := by
  simp [World.cell?, h.at_, hv]
theorem Bl.cells {w : World} {b : Nat} {e : TypeId} {cs : List Value} (h : Bl w b e cs) : Cells w b 0 cs := ⟨fun i v hv => by
  simp only [Nat.zero_add]; exact h.cell hv⟩
theorem Bl.frozen {w : World} {b : Nat} {e : TypeId} {cs : List Value} (h : Bl w b e cs) (o : Nat) : w.frozen? ⟨b, o, none⟩ = false := by
  simp [World.frozen?, h.at_]
theorem Bl.new (w : World) (e : TypeId) (cs : List Value) : Bl (addB w e cs) w.heap.size e cs := ⟨by
  show (w.heap.push _)[w.heap.size]? = _
  simp⟩
theorem Bl.new' {w : World} {b : Nat} (hb : b = w.heap.size) (e : TypeId) (cs : List Value) : Bl (addB w e cs) b e cs := hb ▸ Bl.new w e cs
theorem Bl.add {w : World} {b : Nat} {e : TypeId} {cs : List Value} (h : Bl w b e cs) (e' : TypeId) (cs' : List Value) : Bl (addB w e' cs') b e cs := ⟨by
  have := h.lt
  simp only [addB, World.alloc, Array.getElem?_push]
  rw [if_neg (by omega)]
  exact h.at_⟩
theorem Bl.set {w : World} {b : Nat} {e : TypeId} {cs : List Value} (h : Bl w b e cs) (e' : TypeId) (cs' : List Value) : Bl (setB w b e' cs') b e' cs' := ⟨by
  have := h.lt
  simp [setB, this]⟩
theorem Bl.set' {w : World} {b : Nat} (h : b < w.heap.size) (e : TypeId) (cs : List Value) : Bl (setB w b e cs) b e cs := ⟨by simp [setB, h]⟩
theorem Bl.setNe {w : World} {b b' : Nat} {e : TypeId} {cs : List Value} (hne : b' ≠ b) (h : Bl w b e cs) (e' : TypeId) (cs' : List Value) : Bl (setB w b' e' cs') b e cs := ⟨by
  simp only [setB]
  rw [Array.getElem?_setIfInBounds_ne hne]
  exact h.at_⟩
theorem Bl.drew {w : World} {b : Nat} {e : TypeId} {cs : List Value} (h : Bl w b e cs) : Bl w.drew b e cs := ⟨h.at_⟩

/-! ### what has stayed: 'Ext B w w'': every block below B is as it was -/
structure Ext (B : Nat) (w w' : World) : Prop where
  os : w'.os = w.os
  tape : w'.tape = w.tape
  output : w'.output = w.output
  size : w.heap.size ≤ w'.heap.size
  block : ∀ k, k < B → w'.heap[k]? = w.heap[k]?
theorem Ext.refl (B : Nat) (w : World) : Ext B w w := ⟨rfl, rfl, rfl, Nat.le_refl _, fun _ _ => rfl⟩
theorem Ext.trans {B : Nat} {a b c : World} (h : Ext B a b) (k : Ext B b c) : Ext B a c :=
  ⟨k.os.trans h.os, k.tape.trans h.tape, k.output.trans h.output, Nat.le_trans h.size k.size, fun i hi => (k.block i hi).trans (h.block i hi)⟩
theorem Ext.low {B B' : Nat} {w w' : World} (h : Ext B w w') (hB : B' ≤ B) : Ext B' w w' := ⟨h.os, h.tape, h.output, h.size, fun k hk => h.block k (Nat.lt_of_lt_of_le hk hB)⟩
theorem Ext.drew {B : Nat} {a w : World} (h : Ext B a w) : Ext B a w.drew := ⟨h.os, h.tape, h.output, h.size, h.block⟩
theorem Ext.alloc {B : Nat} {a w : World} (h : Ext B a w) (hB : B ≤ w.heap.size) (o : Obj) : Ext B a (w.alloc o) :=
  h.trans ⟨rfl, rfl, rfl, by simp, fun k hk => by simp only [World.alloc, Array.getElem?_push]; rw [if_neg (by omega)]⟩
theorem Ext.add {B : Nat} {a w : World} (h : Ext B a w) (hB : B ≤ w.heap.size) (e : TypeId) (cs : List Value) : Ext B a (addB w e cs) := h.alloc hB _
theorem Ext.set {B : Nat} {a w : World} (h : Ext B a w) {b : Nat} (hb : B ≤ b) (e : TypeId) (cs : List Value) : Ext B a (setB w b e cs) :=
  h.trans ⟨rfl, rfl, rfl, by simp [setB], fun k hk => by simp only [setB]; rw [Array.getElem?_setIfInBounds_ne (by omega)]⟩
theorem Ext.cell {B : Nat} {w w' : World} (h : Ext B w w') {p : Addr} (hp : p.block < B) : w'.cell? p = w.cell? p := by simp [World.cell?, h.block _ hp]
theorem Ext.bl {B : Nat} {w w' : World} (h : Ext B w w') {b : Nat} {e : TypeId} {cs : List Value} (hb : b < B) (k : Bl w b e cs) : Bl w' b e cs := ⟨(h.block b hb).trans k.at_⟩
theorem Ext.grown {B : Nat} {a w w' : World} {row : Option Nat} (h : Ext B a w) (hg : w.grownBy w' row) (hB : B ≤ w.heap.size) (hr : ∀ k, row = some k → B ≤ k) : Ext B a w' :=
  h.trans ⟨hg.os, hg.tape, hg.output, hg.size, fun k hk => hg.block k (by omega) (fun e => by have := hr k e.symm; omega)⟩
theorem Ext.leC {w w' : World} (h : Ext w.heap.size w w') : LeC w w' := ⟨fun p u hp => by rw [h.cell (World.block_lt_of_cell? w p hp)]; exact hp⟩
theorem Ext.below {B : Nat} {w w' : World} (h : Ext B w w') : RowKit.Below B w w' := ⟨h.os, h.tape, h.output, h.size, h.block⟩

/-! ### the operations -/
section
variable {P : Program} {n : Nat} {l : List (Nat × Value)} {w : World} {d : Nat} {ty : TypeId} {pos : String} {af : Array Edge} {g : Option (Nat × Bool)} {T : List (Nat × TI)} {K : List (Nat × Value) → World → Prop}

theorem e_call {xs : List Operand} {ats : Array TypeId} {f : FuncId} {vs : List Value} {R : Value → World → Prop} (hx : evl l xs = some vs) (hc : Ret P f vs w R) (hd : Nat.blt d n = true)
    (k : ∀ v w', R v w' → K ((d, v) :: l) w') : E P n ⟨some d, .call { callee := .value (.func f), args := xs.toArray, argTypes := ats }, ty, pos, af, g⟩ l w K :=
  ⟨fun Q a hf => by
    unfold Oper.wp
    have h1 : (xs.toArray.map a.eval) = vs.toArray := by simp [hf.evl hx]
    have h2 : (execOp a.eval ⟨some d, .call { callee := .value (.func f), args := xs.toArray, argTypes := ats }, ty, pos, af, g⟩).run P w = .ok (.enter f vs.toArray) w := by
      simp only [execOp, resolve, h1]
      simp only [Act.eval, Deferred.ofValue]
      simp [invoke, hc.enters w]
    rw [h2, Oper.upon_enter]
    exact hc.call.mono fun e w' ⟨v, he, hR⟩ => by subst he; exact ⟨_, hf.put v hd, k v w' hR⟩⟩
/-- a call whose answer is thrown away -/
theorem e_call0 {xs : List Operand} {ats : Array TypeId} {f : FuncId} {vs : List Value} {R : Value → World → Prop} (hx : evl l xs = some vs) (hc : Ret P f vs w R)
    (k : ∀ v w', R v w' → K l w') : E P n ⟨none, .call { callee := .value (.func f), args := xs.toArray, argTypes := ats }, ty, pos, af, g⟩ l w K :=
  ⟨fun Q a hf => by
    unfold Oper.wp
    have h1 : (xs.toArray.map a.eval) = vs.toArray := by simp [hf.evl hx]
    have h2 : (execOp a.eval ⟨none, .call { callee := .value (.func f), args := xs.toArray, argTypes := ats }, ty, pos, af, g⟩).run P w = .ok (.enter f vs.toArray) w := by
      simp only [execOp, resolve, h1]
      simp only [Act.eval, Deferred.ofValue]
      simp [invoke, hc.enters w]
    rw [h2, Oper.upon_enter]
    exact hc.call.mono fun e w' ⟨v, he, hR⟩ => by subst he; exact ⟨_, hf, k v w' hR⟩⟩
end
end Go.Mw
