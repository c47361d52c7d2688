/-
  The steps, continued: operations that make or write memory; aggregates.
-/
import Derived.Test.YbxaawDraw
set_option linter.unusedVariables false
set_option linter.unusedSimpArgs false
namespace Go.Mw

/-- vs laid over cs from place o on. -/
def putAt (cs : List Value) (o : Nat) (vs : List Value) : List Value := cs.take o ++ vs ++ cs.drop (o + vs.length)
def vcells : Value → List Value
  | .agg cs => cs.toList
  | v => [v]
theorem vcells_toArray (v : Value) : (vcells v).toArray = v.cells := by cases v <;> rfl
theorem vcells_eq (v : Value) : v.cells.toList = vcells v := by cases v <;> rfl
theorem size_cells (v : Value) : v.cells.size = (vcells v).length := by rw [← vcells_eq]; simp

theorem putAt_length {cs : List Value} {o : Nat} {vs : List Value} (h : o + vs.length ≤ cs.length) : (putAt cs o vs).length = cs.length := by
  simp [putAt]; omega
theorem putAt_in {cs : List Value} {o : Nat} {vs : List Value} (h : o + vs.length ≤ cs.length) {i : Nat} (hi : i < vs.length) : (putAt cs o vs)[o + i]? = vs[i]? := by
  unfold putAt
  rw [List.append_assoc, List.getElem?_append_right (by simp; omega), List.getElem?_append_left (by simp; omega)]
  congr 1
  simp; omega
theorem putAt_out {cs : List Value} {o : Nat} {vs : List Value} (h : o + vs.length ≤ cs.length) {i : Nat} (hi : i < o ∨ o + vs.length ≤ i) : (putAt cs o vs)[i]? = cs[i]? := by
  unfold putAt
  rcases hi with hi | hi
  · rw [List.append_assoc, List.getElem?_append_left (by simp; omega)]
    simp [hi]
  · rw [List.getElem?_append_right (by simp; omega)]
    rw [List.getElem?_drop]
    congr 1
    simp; omega
theorem putAt_one (cs : List Value) (o : Nat) (v : Value) (h : o < cs.length) : putAt cs o [v] = cs.set o v := by
  unfold putAt
  rw [List.set_eq_take_append_cons_drop, if_pos h]
  simp

theorem setRow_eq {w : World} {b : Nat} {e : TypeId} {cs : List Value} (h : Bl w b e cs) (xs : List Value) : w.setRow b xs.toArray = setB w b e xs := by
  have h1 := h.lt
  unfold World.setRow setB
  congr 1
  apply Array.ext_getElem?
  intro i
  rw [Array.getElem?_modify, Array.getElem?_setIfInBounds]
  by_cases hi : b = i
  · subst hi
    rw [if_pos rfl, h.at_, if_pos h1]
    simp [h1]
  · simp [hi]

section
variable {P : Program} {n : Nat} {l : List (Nat × Value)} {w : World} {d : Nat} {ty : TypeId} {pos : String} {af : Array Edge} {g : Option (Nat × Bool)} {T : List (Nat × TI)} {K : List (Nat × Value) → World → Prop}

theorem run_storeVar (hT : TOk P T) {t b o : Nat} {e : TypeId} {i : TI} {cs : List Value} {v : Value} (ht : T.lookup t = some i) (hb : Bl w b e cs) (hs : (vcells v).length = i.size) (ho : o + (vcells v).length ≤ cs.length) (h1 : ∀ u ∈ vcells v, u.oneCell' = true) :
    (storeVar t ⟨b, o, none⟩ v).run P w = .ok () (setB w b e (putAt cs o (vcells v))) := by
  have h2 := (hT.get ht).sizeOf w
  have h3 := run_storeCells_at P b o e (vcells v) 0 cs.toArray w hb.at_ (by simpa using ho) h1
  simp only [Nat.add_zero] at h3
  have h4 : ¬ v.cells.size ≠ i.size := by rw [size_cells, hs]; simp
  simp only [storeVar, Sem.run_bind, h2, Result.andThen_ok]
  rw [if_neg h4]
  simp only [vcells_eq, Sem.run_pure, Result.andThen_ok]
  rw [h3, setRow_eq hb]
  rfl
theorem e_store (hT : TOk P T) {t b o : Nat} {e : TypeId} {x y : Operand} {i : TI} {cs vs : List Value} {v : Value} (ht : T.lookup t = some i) (hx : ev l x = some (.pointer (some ⟨b, o, none⟩))) (hy : ev l y = some v) (hvs : vcells v = vs) (hb : Bl w b e cs)
    (hs : vs.length = i.size) (h1 : ∀ u ∈ vs, u.oneCell' = true) (ho : o + vs.length ≤ cs.length) (k : K l (setB w b e (putAt cs o vs))) :
    E P n ⟨none, .store t x y, ty, pos, af, g⟩ l w K :=
  E.skip rfl (fun ρ hρ => by
    subst hvs
    have := run_storeVar (P := P) hT ht hb hs ho h1
    simp [execOp, hρ x _ hx, hρ y _ hy, Instr.storeAt, Instr.sureAddr, this]) k
theorem e_alloc {cs : List Value} (hT : TOk P T) {t : Nat} {i : TI} {b : Nat} (ht : T.lookup t = some i) (hcs : vcells i.zero = cs) (hb : w.heap.size = b) (hd : Nat.blt d n = true) (k : K ((d, .pointer (some ⟨b, 0, none⟩)) :: l) (addB w t cs)) :
    E P n ⟨some d, .alloc t, ty, pos, af, g⟩ l w K :=
  E.val rfl hd (fun ρ hρ => by
    have h1 := (hT.get ht).zeroValue w
    subst hb
    subst hcs
    simp [execOp, Instr.alloc, h1, newVar, newRow, newObj, Sem.run, addB, vcells_toArray]) k
theorem e_box {cs : List Value} {t : Nat} {x : Operand} {v : Value} {b : Nat} (hx : ev l x = some v) (hcs : vcells v = cs) (hb : w.heap.size = b) (hd : Nat.blt d n = true) (k : K ((d, .pointer (some ⟨b, 0, none⟩)) :: l) (addB w t cs)) :
    E P n ⟨some d, .box t x, ty, pos, af, g⟩ l w K :=
  E.val rfl hd (fun ρ hρ => by
    subst hb
    subst hcs
    simp [execOp, hρ x _ hx, Instr.box, newVar, newRow, newObj, Sem.run, addB, vcells_toArray]) k

/-! ### literals -/
def evp (l : List (Nat × Value)) : List (Nat × Operand) → Option (List (Nat × Value))
  | [] => some []
  | (k, x) :: r => match ev l x with
    | none => none
    | some v => match evp l r with
      | none => none
      | some vs => some ((k, v) :: vs)
theorem evp_map {ρ : Operand → Value} (hρ : ∀ x u, ev l x = some u → ρ x = u) : ∀ {ps : List (Nat × Operand)} {vs : List (Nat × Value)}, evp l ps = some vs → (ps.map fun (i, x) => (i, ρ x)) = vs
  | [], vs, h => by simp [evp] at h; simp [h]
  | (k, x) :: r, vs, h => by
    simp only [evp] at h
    cases h1 : ev l x with
    | none => simp [h1] at h
    | some v =>
      cases h2 : evp l r with
      | none => simp [h1, h2] at h
      | some us =>
        simp [h1, h2] at h
        subst h
        simp [hρ x v h1, evp_map hρ h2]
def fillL (T : List (Nat × TI)) (fs : List (Nat × Nat)) (cs : List Value) : List (Nat × Value) → Option (List Value)
  | [] => some cs
  | (k, v) :: r => match fs[k]? with
    | none => none
    | some p => match T.lookup p.2 with
      | none => none
      | some i => if Nat.beq (vcells v).length i.size && Nat.ble (p.1 + i.size) cs.length then fillL T fs (putAt cs p.1 (vcells v)) r else none
theorem foldl_put (vs : List Value) : ∀ (j : Nat) (cs : Array Value) (off : Nat), off + j + vs.length ≤ cs.size →
    (vs.zipIdx j).foldl (fun cs (c, j) => cs.setIfInBounds (off + j) c) cs = (putAt cs.toList (off + j) vs).toArray := by
  induction vs with
  | nil => intro j cs off h; simp [putAt]
  | cons v vs ih =>
    intro j cs off h
    simp only [List.zipIdx_cons, List.foldl_cons]
    have h' : off + (j + 1) + vs.length ≤ (cs.setIfInBounds (off + j) v).size := by simp at h ⊢; omega
    rw [ih (j + 1) (cs.setIfInBounds (off + j) v) off h']
    congr 1
    simp only [Array.toList_setIfInBounds, putAt]
    have hlt : off + j < cs.toList.length := by simp at h ⊢; omega
    rw [List.take_set, List.drop_set]
    have e1 : List.take (off + (j + 1)) cs.toList = List.take (off + j) cs.toList ++ [cs.toList[off + j]] := by
      rw [show off + (j + 1) = off + j + 1 by omega, List.take_succ_eq_append_getElem hlt]
    rw [e1]
    have e2 : (List.take (off + j) cs.toList).length = off + j := by simp at hlt ⊢; omega
    rw [List.set_append_right _ _ (by omega)]
    rw [if_pos (by omega)]
    simp only [e2, Nat.sub_self, List.set_cons_zero, List.length_cons]
    simp [show off + (j + 1) + vs.length = off + j + (vs.length + 1) by omega]
theorem fill_eq (hT : TOk P T) (fs : List (Nat × Nat)) (place : Nat → Option (Nat × Nat)) (hpl : ∀ k p i, fs[k]? = some p → T.lookup p.2 = some i → place k = some (p.1, i.size)) :
    ∀ (ps : List (Nat × Value)) (cs out : List Value), fillL T fs cs ps = some out → Instr.fill place cs.toArray ps = some out.toArray
  | [], cs, out, h => by simp [fillL] at h; simp [Instr.fill, h]
  | (k, v) :: r, cs, out, h => by
    simp only [fillL] at h
    cases h1 : fs[k]? with
    | none => simp [h1] at h
    | some p =>
      cases h2 : T.lookup p.2 with
      | none => simp [h1, h2] at h
      | some i =>
        simp only [h1, h2] at h
        split at h
        · rename_i hc
          simp only [Bool.and_eq_true, Nat.beq_eq, Nat.ble_eq] at hc
          obtain ⟨hc1, hc2⟩ := hc
          have hp := hpl k p i h1 h2
          have ih := fill_eq hT fs place hpl r _ out h
          simp only [Instr.fill, hp]
          have e1 : v.cells.size = i.size := by rw [size_cells, hc1]
          have e2 : ¬ (p.1 + i.size > cs.length) := by omega
          have e3 : (v.cells.size ≠ i.size || p.1 + v.cells.size > cs.toArray.size) = false := by simp [e1]; omega
          rw [e3]
          simp only [Bool.false_eq_true, if_false]
          have e4 : v.cells.zipIdx.foldl (fun cs (c, j) => cs.setIfInBounds (p.1 + j) c) cs.toArray = (putAt cs p.1 (vcells v)).toArray := by
            have := foldl_put (vcells v) 0 cs.toArray p.1 (by simp [hc1]; omega)
            simp only [Nat.add_zero] at this
            rw [← this, ← Array.foldl_toList, Array.toList_zipIdx, vcells_eq]
          rw [e4]
          exact ih
        · cases h
theorem mapM_places (hT : TOk P T) (w' : World) : ∀ (f : List Field), (∀ x ∈ f, ∃ i, T.lookup x.type = some i) →
    (f.mapM fun (f : Field) => do let s ← Go.sizeOf f.type; pure (f.offset, s) : Sem (List (Nat × Nat))).run P w' = .ok (f.map fun x => (x.offset, ((T.lookup x.type).map (·.size)).getD 0)) w'
  | [], _ => by simp
  | x :: f, h => by
    obtain ⟨i, hi⟩ := h x (by simp)
    have h1 := (hT.get hi).sizeOf w'
    have ih := mapM_places hT w' f (fun y hy => h y (by simp [hy]))
    simp only [bind_pure_comp] at ih
    simp [List.mapM_cons, h1, hi, ih]
def allIn (T : List (Nat × TI)) : List (Nat × Nat) → Bool
  | [] => true
  | p :: r => (T.lookup p.2).isSome && allIn T r
theorem allIn_spec {T : List (Nat × TI)} : ∀ {fs : List (Nat × Nat)}, allIn T fs = true → ∀ p ∈ fs, ∃ i, T.lookup p.2 = some i
  | [], _, p, hp => by cases hp
  | q :: r, h, p, hp => by
    simp only [allIn, Bool.and_eq_true] at h
    rcases List.mem_cons.1 hp with rfl | hp
    · exact Option.isSome_iff_exists.1 h.1
    · exact allIn_spec h.2 p hp
theorem rd_build (hT : TOk P T) {d : Option Nat} {s : TypeId} {i : TI} {ps : List (Nat × Operand)} {vs : List (Nat × Value)} {out : List Value} (hs : T.lookup s = some i) (h5 : i.tag = 5) (ha : allIn T i.fs = true) (hp : evp l ps = some vs) (hf : fillL T i.fs (vcells i.zero) vs = some out) :
    Rd P ⟨d, .build s ps.toArray, ty, pos, af, g⟩ l w (.agg out.toArray) :=
  ⟨fun ρ hρ w' _ => by
    obtain ⟨f, hu, hfs⟩ := (hT.get hs).struct h5
    have hz := (hT.get hs).zeroValue w'
    have hin : ∀ x ∈ f.toList, ∃ i, T.lookup x.type = some i := fun x hx => by
      have := allIn_spec ha (x.offset, x.type) (by rw [← hfs]; exact List.mem_map.2 ⟨x, hx, rfl⟩)
      exact this
    have hm := mapM_places (P := P) hT w' f.toList hin
    have e1 : (ps.toArray.map fun (i, x) => (i, ρ x)) = vs.toArray := by
      have := evp_map hρ hp
      simp [← this]
    have hfill := fill_eq (P := P) hT i.fs (fun k => ((f.toList.map fun x => (x.offset, ((T.lookup x.type).map (·.size)).getD 0)).toArray)[k]?) (fun k p j h1 h2 => by
      rw [← hfs] at h1
      simp only [List.getElem?_map, Option.map_eq_some_iff] at h1
      obtain ⟨x, hx, rfl⟩ := h1
      simp [hx, h2]) vs (vcells i.zero) out hf
    have hm' : (f.mapM fun (f : Field) => do let s ← Go.sizeOf f.type; pure (f.offset, s) : Sem (Array (Nat × Nat))).run P w' = .ok (f.toList.map fun x => (x.offset, ((T.lookup x.type).map (·.size)).getD 0)).toArray w' := by
      have e0 : (f.mapM fun (f : Field) => do let s ← Go.sizeOf f.type; pure (f.offset, s) : Sem (Array (Nat × Nat))) = (List.toArray <$> f.toList.mapM fun (f : Field) => do let s ← Go.sizeOf f.type; pure (f.offset, s)) := by
        rw [← Array.toArray_toList (xs := f), List.mapM_toArray]
      rw [e0]
      rw [map_eq_pure_bind, Sem.run_bind, hm]
      rfl
    simp only [execOp, e1, Instr.build, Sem.run_bind, hz, Result.andThen_ok, run_underlying hu]
    rw [hm']
    simp only [Result.andThen_ok]
    rw [vcells_toArray] at hfill
    rw [hfill]
    rfl⟩

/-! ### slices that are made -/
theorem flatten_get (zs : List Value) (k : Nat) : ∀ i, i < k * zs.length → ((List.replicate k zs).flatten)[i]? = zs[i % zs.length]? := by
  induction k with
  | zero => intro i h; simp at h
  | succ k ih =>
    intro i h
    rw [List.replicate_succ, List.flatten_cons]
    by_cases hi : i < zs.length
    · rw [List.getElem?_append_left hi, Nat.mod_eq_of_lt hi]
    · rw [List.getElem?_append_right (by omega)]
      have h2 : i - zs.length < k * zs.length := by rw [Nat.add_mul] at h; omega
      rw [ih _ h2]
      congr 1
      rw [← Nat.mod_eq_sub_mod (by omega)]
theorem madeCells_eq (zs : List Value) (k : Nat) : madeCells zs.toArray (k * zs.length) = ((List.replicate k zs).flatten).toArray := by
  apply Array.ext_getElem?
  intro i
  by_cases hi : i < k * zs.length
  · have hz : 0 < zs.length := by
      rcases Nat.eq_zero_or_pos zs.length with h | h
      · rw [h] at hi; simp at hi
      · exact h
    have hm : i % zs.length < zs.length := Nat.mod_lt _ hz
    have := flatten_get zs k i hi
    rw [show ((List.replicate k zs).flatten.toArray)[i]? = ((List.replicate k zs).flatten)[i]? from by simp, this]
    simp [madeCells, hi, hm]
  · rw [Array.getElem?_eq_none (by rw [size_madeCells]; omega), Array.getElem?_eq_none (by simp; omega)]
theorem e_make {e : Nat} {zs : List Value} (hT : TOk P T) {t : Nat} {x y : Operand} {i j : TI} {b m c : Nat} (ht : T.lookup t = some i) (h3 : i.tag = 3) (he : i.a = e) (hj : T.lookup e = some j) (hjs : Nat.beq (vcells j.zero).length j.size = true) (hzs : vcells j.zero = zs)
    (hx : ev l x = some (.int .i64 m)) (hy : ev l y = some (.int .i64 c)) (hb : w.heap.size = b) (hd : Nat.blt d n = true) (hmc : m ≤ c) (hby : j.bytes * c ≤ 281474976710656) (hc : c ≤ 9223372036854775807)
    (k : K ((d, .slice (some ⟨b, 0, none⟩) m c) :: l) (addB w e ((List.replicate c zs).flatten))) : E P n ⟨some d, .makeSlice t x y, ty, pos, af, g⟩ l w K :=
  E.val rfl hd (fun ρ hρ => by
    subst hb
    subst hzs
    obtain ⟨f, hf, h1, h2, h4⟩ := (hT.get hj).info
    have hb' : (f.bytes : Int) * (c : Int) ≤ 281474976710656 := by
      have h : ((f.bytes * c : Nat) : Int) ≤ 281474976710656 := by rw [h2]; omega
      rwa [Int.natCast_mul] at h
    have hr := run_make (P := P) w t e f j.zero ((hT.get ht).slice h3 he) hf h4 .i64 .i64 m c (by omega) (by omega) hb' (by omega)
    simp only [Int.toNat_natCast, h1] at hr
    have e1 : j.size = (vcells j.zero).length := by have := Nat.eq_of_beq_eq_true hjs; omega
    rw [e1, ← vcells_toArray, madeCells_eq] at hr
    simp [execOp, hρ x _ hx, hρ y _ hy, hr, addB]) k
theorem e_make0 {e : Nat} (hT : TOk P T) {t : Nat} {x y : Operand} {i j : TI} {b : Nat} (ht : T.lookup t = some i) (h3 : i.tag = 3) (he : i.a = e) (hj : T.lookup e = some j) (hjs : Nat.beq (vcells j.zero).length j.size = true)
    (hx : ev l x = some (.int .i64 0)) (hy : ev l y = some (.int .i64 0)) (hb : w.heap.size = b) (hd : Nat.blt d n = true)
    (k : K ((d, .slice (some ⟨b, 0, none⟩) 0 0) :: l) (addB w e [])) : E P n ⟨some d, .makeSlice t x y, ty, pos, af, g⟩ l w K :=
  e_make hT (m := 0) (c := 0) ht h3 he hj hjs rfl hx hy hb hd (Nat.le_refl _) (by simp) (by simp) k
theorem e_buildSlice1 {e : Nat} {cs : List Value} (hT : TOk P T) {t : Nat} {x : Operand} {i j : TI} {b : Nat} {v : Value} (ht : T.lookup t = some i) (h3 : i.tag = 3) (he : i.a = e) (hj : T.lookup e = some j) (hjs : Nat.beq (vcells j.zero).length j.size = true)
    (hsm : (Nat.ble j.size 16777216 && Nat.blt 0 j.size) = true) (hx : ev l x = some v) (hcs : vcells v = cs) (hv : Nat.beq cs.length j.size = true) (hb : w.heap.size = b) (hd : Nat.blt d n = true)
    (k : K ((d, .slice (some ⟨b, 0, none⟩) 1 1) :: l) (addB w e cs)) : E P n ⟨some d, .buildSlice t 1 #[(0, x)], ty, pos, af, g⟩ l w K :=
  E.val rfl hd (fun ρ hρ => by
    subst hb
    subst hcs
    have h1 := (hT.get hj).sizeOf w
    have h2 := (hT.get hj).zeroValue w
    have e1 : (vcells j.zero).length = j.size := Nat.eq_of_beq_eq_true hjs
    have e2 : (vcells v).length = j.size := Nat.eq_of_beq_eq_true hv
    simp only [Bool.and_eq_true, Nat.ble_eq, Nat.blt_eq] at hsm
    have e3 : j.size ≤ 16777216 := hsm.1
    have h0 : ¬ j.size = 0 := by have := hsm.2; omega
    have hfill : ∀ z : Array Value, z.size = j.size → Instr.fill (fun i => some (i * j.size, j.size)) z [(0, v)] = some (vcells v).toArray := fun z hz => by
      simp only [Instr.fill]
      have c1 : (v.cells.size ≠ j.size || 0 * j.size + v.cells.size > z.size) = false := by rw [size_cells, e2, hz]; simp
      rw [c1]
      simp only [Bool.false_eq_true, if_false, Option.some.injEq]
      have := foldl_put (vcells v) 0 z (0 * j.size) (by simp [e2, hz])
      simp only [Nat.add_zero] at this
      rw [← Array.foldl_toList, Array.toList_zipIdx, vcells_eq, this]
      congr 1
      simp [putAt, e2, hz, List.drop_eq_nil_of_le (show z.toList.length ≤ j.size by simp [hz])]
    have hf := hfill ((Array.range j.size).map (j.zero.cells[· % j.zero.cells.size]!)) (by simp)
    have hgt : ¬ 16777216 < j.size := by omega
    simp only [execOp, List.map_toArray, List.map_cons, List.map_nil, hρ x _ hx]
    simp [Instr.buildSlice, run_underlying ((hT.get ht).slice h3 he), h1, h0, h2, hgt, hf, newRow, newObj, Sem.run, addB]) k
theorem e_append (hT : TOk P T) {t e : Nat} {x y : Operand} {i j : TI} {v : Value} {sz q m c base b o : Nat} {xs news : List Value} (ht : T.lookup t = some i) (h3 : i.tag = 3) (he : i.a = e) (hj : T.lookup e = some j) (hjs : Nat.beq (vcells j.zero).length j.size = true) (hpos : Nat.blt 0 j.size = true) (hsz : j.size = sz)
    (hx : ev l x = some v) (hy : ev l y = some (.slice (some ⟨b, o, none⟩) m c)) (hd : Nat.blt d n = true) (hown : w.ownsRow base e sz v q xs)
    (hc : Cells w b o news) (hl : news.length = m * sz) (h1 : ∀ u ∈ news, u.oneCell' = true) (hle : q + m ≤ maxLen) (hby : (q + m) * j.bytes ≤ 140737488355328) (hB : base ≤ w.heap.size)
    (k : ∀ v' w', w'.ownsRow base e sz v' (q + m) (xs ++ news) → w.grownBy w' v.ownBlock → K ((d, v') :: l) w') :
    E P n ⟨some d, .call { callee := .builtin .append, args := #[x, y], argTypes := #[t, t] }, ty, pos, af, g⟩ l w K := by
  subst hsz
  obtain ⟨f, hf, hs, hb, hz⟩ := (hT.get hj).info
  obtain ⟨v', w', hr, h5, h6, _⟩ := run_append_own (P := P) w base t ty e f j.zero j.size j.bytes ((hT.get ht).slice h3 he) hf hz hs hb (by rw [size_cells]; exact Nat.eq_of_beq_eq_true hjs) (by simpa [Nat.blt_eq] using hpos) v q xs hown ⟨b, o, none⟩ m c news hl
    (fun i u hu => by rw [addr_add]; exact hc.at_ i u hu) h1 hle hby hB
  exact E.val rfl hd (fun ρ hρ => by simp [execOp, resolve, invoke, builtin, hρ x _ hx, hρ y _ hy, hr]) (k v' w' h5 h6)
end

theorem bool_dec {b : Bool} {p : Prop} {i : Decidable p} (h : b = true ↔ p) : some (Value.bool b) = some (Value.bool (@decide p i)) := by
  congr 2
  rw [Bool.eq_iff_iff, h, decide_eq_true_iff]

/-! ### slices that are read -/
/-- The slice value v has n elements of sz cells each; the cells are xs. -/
structure Rs (w : World) (sz : Nat) (v : Value) (n : Nat) (xs : List Value) : Prop where
  len : xs.length = n * sz
  form : ∃ a c, v = .slice a n c ∧ (n = 0 ∨ ∃ b o, a = some ⟨b, o, none⟩ ∧ Cells w b o xs)
theorem Rs.le {w w' : World} {sz : Nat} {v : Value} {n : Nat} {xs : List Value} (hle : LeC w w') (h : Rs w sz v n xs) : Rs w' sz v n xs := by
  obtain ⟨a, c, hv, hf⟩ := h.form
  exact ⟨h.len, a, c, hv, or_map hf id fun ⟨b, o, ha, hc⟩ => ⟨b, o, ha, hc.le hle⟩⟩
theorem Rs.nil (w : World) (sz c : Nat) (a : Option Addr) : Rs w sz (.slice a 0 c) 0 [] := ⟨by simp, a, c, rfl, .inl rfl⟩
theorem Rs.of_own {w : World} {base sz n : Nat} {e : TypeId} {v : Value} {xs : List Value} (h : w.ownsRow base e sz v n xs) : Rs w sz v n xs := by
  refine ⟨h.1, ?_⟩
  rcases h.2 with ⟨rfl, rfl⟩ | ⟨g, cap, cur, rfl, _, hg, _, _, _, ht⟩
  · exact ⟨none, 0, rfl, .inl rfl⟩
  · refine ⟨_, cap, rfl, .inr ⟨g, 0, rfl, ⟨fun i u hu => ?_⟩⟩⟩
    have := h.cells (g := g) rfl i u hu
    rwa [addr_add] at this
theorem Rs.of_bl {w : World} {b sz n c : Nat} {e : TypeId} {cs : List Value} (h : Bl w b e cs) (hl : cs.length = n * sz) : Rs w sz (.slice (some ⟨b, 0, none⟩) n c) n cs :=
  ⟨hl, _, c, rfl, .inr ⟨b, 0, rfl, h.cells⟩⟩
theorem Cells.sub {w : World} {b o : Nat} {xs : List Value} (h : Cells w b o xs) (i : Nat) (ys : List Value) (hy : ∀ j v, ys[j]? = some v → xs[i + j]? = some v) : Cells w b (o + i) ys :=
  ⟨fun j v hv => by have := h.at_ (i + j) v (hy j v hv); rwa [Nat.add_assoc]⟩
/-- the slice is not empty: where it lies -/
theorem Rs.at_ {w : World} {sz n : Nat} {v : Value} {xs : List Value} (h : Rs w sz v n xs) (hn : 0 < n) : ∃ b o c, v = .slice (some ⟨b, o, none⟩) n c ∧ Cells w b o xs := by
  obtain ⟨a, c, hv, hf⟩ := h.form
  rcases hf with h0 | ⟨b, o, ha, hc⟩
  · omega
  · exact ⟨b, o, c, by rw [hv, ha], hc⟩
theorem own_of_bl {w : World} {b base sz n : Nat} {e : TypeId} {cs : List Value} (h : Bl w b e cs) (hl : cs.length = n * sz) (hb : base ≤ b) (hn : n ≤ maxLen) : w.ownsRow base e sz (.slice (some ⟨b, 0, none⟩) n n) n cs :=
  ⟨hl, .inr ⟨b, n, cs.toArray, rfl, hb, h.at_, Nat.le_refl _, hn, by simpa using hl, by rw [← hl]; simp⟩⟩
theorem own_empty {w : World} {b base sz : Nat} {e : TypeId} (h : Bl w b e []) (hb : base ≤ b) : w.ownsRow base e sz (.slice (some ⟨b, 0, none⟩) 0 0) 0 [] :=
  own_of_bl h (by simp) hb (by simp [maxLen])
end Go.Mw
