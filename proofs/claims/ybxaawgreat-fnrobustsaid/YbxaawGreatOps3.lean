/-
  The steps, continued: copy, slices of slices, '==' between arrays of ints.
-/
import Derived.Test.YbxaawGreatEnc
import Derived.Laws.CopyRow
import Derived.ChangeKeysEq
set_option linter.unusedVariables false
set_option linter.unusedSimpArgs false
namespace Go.Mw
/-- where a slice from lo on starts -/
def rsl (c lo o k : Nat) : Nat := if c = lo then o else o + k
theorem Cells.none {w : World} {b o : Nat} : Cells w b o [] := ⟨fun i v hv => by simp at hv⟩
theorem rsl_cells {w : World} {b o c n lo sz : Nat} {xs : List Value} (h : Cells w b o xs) (hl : xs.length = n * sz) (hn : n ≤ c) (hlo : lo ≤ n) : Cells w b (rsl c lo o (lo * sz)) (xs.drop (lo * sz)) := by
  unfold rsl
  split
  · have : n = lo := by omega
    subst this
    rw [List.drop_eq_nil_of_le (by omega)]
    exact Cells.none
  · exact h.sub (lo * sz) _ fun j v hv => by rwa [List.getElem?_drop] at hv
section
variable {P : Program} {n : Nat} {l : List (Nat × Value)} {w : World} {d : Option Nat} {ty : TypeId} {pos : String} {af : Array Edge} {g : Option (Nat × Bool)} {T : List (Nat × TI)} {K : List (Nat × Value) → World → Prop}
theorem rd_reslL (hT : TOk P T) {x y : Operand} {s : TypeId} {i j : TI} {b o m c e lo sz : Nat} {k : IntKind} (hs : T.lookup s = some i) (h3 : i.tag = 3) (he : i.a = e) (hj : T.lookup e = some j) (hsz : j.size = sz)
    (hx : ev l x = some (.slice (some ⟨b, o, none⟩) m c)) (hy : ev l y = some (.int k lo)) (hlo : lo ≤ m) :
    Rd P ⟨d, .slice s x (some y) none none, ty, pos, af, g⟩ l w (.slice (some ⟨b, rsl c lo o (lo * sz), none⟩) (m - lo) (c - lo)) :=
  ⟨fun ρ hρ w' _ => by
    subst hsz
    have hz := (hT.get hj).sizeOf w'
    have h2 : (lo : Int) ≤ (m : Int) := by omega
    unfold rsl
    by_cases hc : c = lo
    · simp [execOp, hρ x _ hx, hρ y _ hy, Instr.sliceAt, Instr.slice, Instr.sliceBounds, Instr.sliceBound, asIntOf, run_underlying ((hT.get hs).slice h3 he), hlo, hz, hc]
    · simp [execOp, hρ x _ hx, hρ y _ hy, Instr.sliceAt, Instr.slice, Instr.sliceBounds, Instr.sliceBound, asIntOf, run_underlying ((hT.get hs).slice h3 he), hlo, hz, hc, addr_add]⟩
theorem rd_reslH (hT : TOk P T) {x y : Operand} {s : TypeId} {i j : TI} {b o m c e hi sz : Nat} {k : IntKind} (hs : T.lookup s = some i) (h3 : i.tag = 3) (he : i.a = e) (hj : T.lookup e = some j) (hsz : j.size = sz)
    (hx : ev l x = some (.slice (some ⟨b, o, none⟩) m c)) (hy : ev l y = some (.int k hi)) (hhi : hi ≤ c) :
    Rd P ⟨d, .slice s x none (some y) none, ty, pos, af, g⟩ l w (.slice (some ⟨b, o, none⟩) hi c) :=
  ⟨fun ρ hρ w' _ => by
    subst hsz
    have hz := (hT.get hj).sizeOf w'
    have h2 : (hi : Int) ≤ (c : Int) := by omega
    by_cases hc : c = 0
    · simp [execOp, hρ x _ hx, hρ y _ hy, Instr.sliceAt, Instr.slice, Instr.sliceBounds, Instr.sliceBound, asIntOf, run_underlying ((hT.get hs).slice h3 he), hhi, hz, hc]
      omega
    · simp [execOp, hρ x _ hx, hρ y _ hy, Instr.sliceAt, Instr.slice, Instr.sliceBounds, Instr.sliceBound, asIntOf, run_underlying ((hT.get hs).slice h3 he), hhi, hz, hc, addr_add]⟩
/-- copy(dst, src), the lengths equal -/
theorem e_copy {d : Nat} (hT : TOk P T) {t e : Nat} {x y : Operand} {i j : TI} {m c c2 sz b o g2 : Nat} {cs news : List Value} {e2 : TypeId} (ht : T.lookup t = some i) (h3 : i.tag = 3) (he : i.a = e) (hj : T.lookup e = some j) (hsz : j.size = sz)
    (hx : ev l x = some (.slice (some ⟨g2, 0, none⟩) m c)) (hy : ev l y = some (.slice (some ⟨b, o, none⟩) m c2)) (hd : Nat.blt d n = true) (hb : Bl w g2 e2 cs) (hc : Cells w b o news) (hl : news.length = m * sz) (h1 : ∀ u ∈ news, u.oneCell' = true) (hfit : news.length ≤ cs.length)
    (k : K ((d, .int .i64 m) :: l) (setB w g2 e2 (putAt cs 0 news))) : E P n ⟨some d, .call { callee := .builtin .copy, args := #[x, y], argTypes := #[t, t] }, ty, pos, af, g⟩ l w K :=
  E.val rfl hd (fun ρ hρ => by
    subst hsz
    have hz := (hT.get hj).sizeOf w
    have h4 := run_loadCells (P := P) hc
    rw [hl] at h4
    have h5 := run_storeCells_at P g2 0 e2 news 0 cs.toArray w hb.at_ (by simpa using hfit) h1
    simp only [Nat.zero_add, List.toList_toArray] at h5
    rw [setRow_eq hb] at h5
    have e1 : Nat.min m m = m := Nat.min_self m
    simp [execOp, resolve, invoke, builtin, hρ x _ hx, hρ y _ hy, Builtin.copy_, run_underlying ((hT.get ht).slice h3 he), Builtin.lenOf, Builtin.firstCells, hz, h4, h5, goInt, putAt]) k
theorem e_copyNil {d : Nat} (hT : TOk P T) {t e : Nat} {x y : Operand} {i j : TI} {c b o : Nat} (ht : T.lookup t = some i) (h3 : i.tag = 3) (he : i.a = e) (hj : T.lookup e = some j)
    (hx : ev l x = some (.slice (some ⟨b, o, none⟩) 0 c)) (hy : ev l y = some (.slice none 0 0)) (hd : Nat.blt d n = true)
    (k : K ((d, .int .i64 0) :: l) w) : E P n ⟨some d, .call { callee := .builtin .copy, args := #[x, y], argTypes := #[t, t] }, ty, pos, af, g⟩ l w K :=
  E.val rfl hd (fun ρ hρ => by
    have hz := (hT.get hj).sizeOf w
    simp [execOp, resolve, invoke, builtin, hρ x _ hx, hρ y _ hy, Builtin.copy_, run_underlying ((hT.get ht).slice h3 he), Builtin.lenOf, Builtin.firstCells, hz, goInt, storeCells]) k
end

/-! ### arrays of ints compared -/
structure EqA (P : Program) (T : List (Nat × TI)) (t m : Nat) (k : IntKind) : Prop where
  arr : ∃ i j, T.lookup t = some i ∧ i.tag = 4 ∧ i.a = m ∧ T.lookup i.b = some j ∧ j.tag = 0 ∧ j.kind = k ∧ P.cellsOf i.b = 1
  guard : P.eqGuardType P.depth t = false
section
variable {P : Program} {l : List (Nat × Value)} {w : World} {d : Option Nat} {ty : TypeId} {pos : String} {af : Array Edge} {g : Option (Nat × Bool)} {T : List (Nat × TI)}
theorem run_eqItems (hT : TOk P T) {e : Nat} {j : TI} {k : IntKind} (hj : T.lookup e = some j) (h0 : j.tag = 0) (hk : j.kind = k) (a b : List Int) (w' : World) (q : Nat) : ∀ (is : List Nat), (∀ i ∈ is, i < a.length ∧ i < b.length) →
    (Op.eqItems (q + 1) e 1 (a.map (Value.int k)).toArray (b.map (Value.int k)).toArray is).run P w' = .ok (decide (∀ i ∈ is, a[i]? = b[i]?)) w'
  | [], _ => by simp [Op.eqItems]
  | i :: is, h => by
    obtain ⟨h1, h2⟩ := h i (by simp)
    have ih := run_eqItems hT hj h0 hk a b w' q is fun x hx => h x (by simp [hx])
    have hu := (hT.get hj).int h0 hk
    have hag := (hT.get hj).isAgg w'
    rw [h0] at hag
    have p1 : (part e (a.map (Value.int k)).toArray (i * 1)).run P w' = .ok (.int k a[i]) w' := by simp [part, hag, h1]
    have p2 : (part e (b.map (Value.int k)).toArray (i * 1)).run P w' = .ok (.int k b[i]) w' := by simp [part, hag, h2]
    have p3 := run_equalIn_int (P := P) w' q e k k a[i] b[i] hu
    simp only [Op.eqItems, Sem.run_bind, p1, p2, p3, Result.andThen_ok]
    by_cases he : a[i] = b[i]
    · have : (a[i] == b[i]) = true := by simp [he]
      rw [this]
      simp only [Bool.not_true, Bool.false_eq_true, if_false, ih]
      congr 1
      rw [Bool.eq_iff_iff]
      simp [he, h1, h2]
    · have : (a[i] == b[i]) = false := by simp [he]
      rw [this]
      simp [he, h1, h2]
theorem rd_eqlArr (hT : TOk P T) {x y : Operand} {t u m : Nat} {k : IntKind} {a b : List Int} (h : EqA P T t m k) (hx : ev l x = some (.agg (a.map (Value.int k)).toArray)) (hy : ev l y = some (.agg (b.map (Value.int k)).toArray)) (ha : a.length = m) (hb : b.length = m) :
    Rd P ⟨d, .binOp .eql t x y u, ty, pos, af, g⟩ l w (.bool (decide (a = b))) :=
  ⟨fun ρ hρ w' _ => by
    obtain ⟨i, j, hi, h4, hm, hj, h0, hk, hc⟩ := h.arr
    have hu := (hT.get hi).array h4 hm rfl
    obtain ⟨f, hf, _⟩ := (hT.get hj).info
    have h1 := run_equalIn_array (P := P) w' 9999 (a.map (Value.int k)).toArray (b.map (Value.int k)).toArray hu hf
    rw [hc] at h1
    have h2 := run_eqItems (P := P) hT hj h0 hk a b w' 9998 (List.range m) (fun q hq => by have := List.mem_range.1 hq; omega)
    have h5 := run_eqGuard_agg (P := P) w' .eql t x y (a.map (Value.int k)).toArray (b.map (Value.int k)).toArray h.guard
    have h6 := run_eql_struct (P := P) w' t (a.map (Value.int k)).toArray (b.map (Value.int k)).toArray
    rw [h1, h2] at h6
    simp only [execOp, hρ x _ hx, hρ y _ hy, Sem.run_bind, h5, Result.andThen_ok, h6, Sem.run_pure]
    congr 3
    rw [Bool.eq_iff_iff]
    simp only [decide_eq_true_eq]
    constructor
    · intro hall
      apply List.ext_getElem?
      intro q
      by_cases hq : q < m
      · exact hall q (List.mem_range.2 hq)
      · rw [List.getElem?_eq_none (by omega), List.getElem?_eq_none (by omega)]
    · rintro rfl _ _; rfl⟩
end
end Go.Mw
