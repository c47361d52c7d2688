/-
  '==' and '!=' between two structs all of whose fields are int or int64.
-/
import Derived.Test.YbxaawGreatOps2
set_option linter.unusedVariables false
set_option linter.unusedSimpArgs false
namespace Go.Mw

/-- What is asked of such a type: closed facts. -/
structure EqT (P : Program) (T : List (Nat × TI)) (t n : Nat) : Prop where
  str : ∃ i, T.lookup t = some i ∧ i.tag = 5 ∧ i.fs.map (·.1) = List.range n
  ints : (P.fieldsOf t).toList.all (fun f => f.name != "_" && (match T.lookup f.type with | some j => j.tag == 0 && j.kind == .i64 | none => false)) = true
  held : P.stoodInHeld t = false
  guard : P.eqGuardType P.depth t = false

def ints (a : List Int) : List Value := a.map (Value.int .i64)

section
variable {P : Program} {l : List (Nat × Value)} {w : World} {d : Option Nat} {ty : TypeId} {pos : String} {af : Array Edge} {g : Option (Nat × Bool)} {T : List (Nat × TI)}

theorem run_eqFields (hT : TOk P T) (a b : List Int) (w' : World) (q : Nat) : ∀ (fs : List Field), (∀ f ∈ fs, f.offset < a.length ∧ f.offset < b.length) →
    fs.all (fun f => f.name != "_" && (match T.lookup f.type with | some j => j.tag == 0 && j.kind == .i64 | none => false)) = true →
    (Op.eqFields (q + 1) (ints a).toArray (ints b).toArray fs).run P w' = .ok (decide (∀ f ∈ fs, a[f.offset]? = b[f.offset]?)) w'
  | [], _, _ => by simp [Op.eqFields]
  | f :: fs, hl, hi => by
    simp only [List.all_cons, Bool.and_eq_true] at hi
    obtain ⟨⟨hn, hk⟩, hr⟩ := hi
    have hn' : f.name ≠ "_" := by simpa using hn
    have ih := run_eqFields hT a b w' q fs (fun f hf => hl f (by simp [hf])) hr
    obtain ⟨h1, h2⟩ := hl f (by simp)
    cases hj : T.lookup f.type with
    | none => simp [hj] at hk
    | some j =>
      simp only [hj, Bool.and_eq_true, beq_iff_eq] at hk
      have hu := (hT.get hj).int hk.1 hk.2
      have hag := (hT.get hj).isAgg w'
      rw [hk.1] at hag
      have p1 : (part f.type (ints a).toArray f.offset).run P w' = .ok (.int .i64 a[f.offset]) w' := by
        simp [part, hag, ints, h1]
      have p2 : (part f.type (ints b).toArray f.offset).run P w' = .ok (.int .i64 b[f.offset]) w' := by
        simp [part, hag, ints, h2]
      have p3 := run_equalIn_int (P := P) w' q f.type .i64 .i64 a[f.offset] b[f.offset] hu
      simp only [Op.eqFields, if_pos hn', Sem.run_bind, p1, p2, p3, Result.andThen_ok]
      by_cases he : a[f.offset] = b[f.offset]
      · have : (a[f.offset] == b[f.offset]) = true := by simp [he]
        rw [this]
        simp only [Bool.not_true, Bool.false_eq_true, if_false, ih]
        congr 1
        rw [Bool.eq_iff_iff]
        simp [he, h1, h2]
      · have : (a[f.offset] == b[f.offset]) = false := by simp [he]
        rw [this]
        simp [he, h1, h2]
theorem run_eqAgg (hT : TOk P T) {t n : Nat} (h : EqT P T t n) (a b : List Int) (ha : a.length = n) (hb : b.length = n) (w' : World) :
    (Op.equalIn 10000 t (.agg (ints a).toArray) (.agg (ints b).toArray)).run P w' = .ok (decide (a = b)) w' := by
  obtain ⟨i, hi, h5, ho⟩ := h.str
  obtain ⟨f, hu, hfs⟩ := (hT.get hi).struct h5
  have hf : P.fieldsOf t = f := by simp [Program.fieldsOf, hu]
  have h1 := run_equalIn_struct (P := P) w' 9999 t (ints a).toArray (ints b).toArray (by rw [hf]; exact hu) h.held
  have hoff : f.toList.map (·.offset) = List.range n := by
    rw [← ho, ← hfs]; simp
  have hin : ∀ x ∈ f.toList, x.offset < n := fun x hx => by
    have : x.offset ∈ f.toList.map (·.offset) := List.mem_map.2 ⟨x, hx, rfl⟩
    rw [hoff] at this
    simpa using this
  have h2 := run_eqFields (P := P) hT a b w' 9998 f.toList (fun x hx => by have := hin x hx; omega) (hf ▸ h.ints)
  rw [h1, hf, h2]
  congr 1
  rw [Bool.eq_iff_iff]
  simp only [decide_eq_true_eq]
  constructor
  · intro hall
    apply List.ext_getElem?
    intro k
    by_cases hk : k < n
    · have : k ∈ f.toList.map (·.offset) := by rw [hoff]; simpa using hk
      obtain ⟨x, hx, rfl⟩ := List.mem_map.1 this
      exact hall x hx
    · rw [List.getElem?_eq_none (by omega), List.getElem?_eq_none (by omega)]
  · rintro rfl _ _; rfl
theorem rd_neqAgg (hT : TOk P T) {x y : Operand} {t u n : TypeId} {a b : List Int} (h : EqT P T t n) (hx : ev l x = some (.agg (ints a).toArray)) (hy : ev l y = some (.agg (ints b).toArray)) (ha : a.length = n) (hb : b.length = n) :
    Rd P ⟨d, .binOp .neq t x y u, ty, pos, af, g⟩ l w (.bool (decide (¬ a = b))) :=
  ⟨fun ρ hρ w' _ => by
    have h1 := run_eqAgg (P := P) hT h a b ha hb w'
    have h2 := run_eqGuard_agg (P := P) w' .neq t x y (ints a).toArray (ints b).toArray h.guard
    have h3 := run_neq_struct (P := P) w' t (ints a).toArray (ints b).toArray
    rw [h1] at h3
    simp only [execOp, hρ x _ hx, hρ y _ hy, Sem.run_bind, h2, Result.andThen_ok, h3, Sem.run_pure]
    congr 3
    rw [Bool.eq_iff_iff]; simp⟩
end
end Go.Mw
