/-
  Rows of elements of one size; owned slices written in place; more operations.
-/
import Derived.Test.YbxaawGreatOps2
set_option linter.unusedVariables false
set_option linter.unusedSimpArgs false
namespace Go.Mw

/-! ### rows of elements -/
section
variable {α : Type} {enc : α → List Value} {sz : Nat}
theorem fm_length (h : ∀ x, (enc x).length = sz) : ∀ a : List α, (a.flatMap enc).length = a.length * sz
  | [] => by simp
  | x :: a => by simp [fm_length h a, h, Nat.add_mul]; omega
theorem fm_get (h : ∀ x, (enc x).length = sz) : ∀ (a : List α) (k : Nat) (x : α), a[k]? = some x → ∀ j v, (enc x)[j]? = some v → (a.flatMap enc)[k * sz + j]? = some v
  | [], k, x, hx, _, _, _ => by simp at hx
  | y :: a, 0, x, hx, j, v, hv => by
    simp at hx; subst hx
    have : j < (enc y).length := (List.getElem?_eq_some_iff.1 hv).1
    simp only [List.flatMap_cons, Nat.zero_mul, Nat.zero_add]
    rw [List.getElem?_append_left this]; exact hv
  | y :: a, k + 1, x, hx, j, v, hv => by
    have ih := fm_get h a k x (by simpa using hx) j v hv
    simp only [List.flatMap_cons]
    rw [List.getElem?_append_right (by rw [h, Nat.add_mul]; omega), h, show (k + 1) * sz + j - sz = k * sz + j by rw [Nat.add_mul]; omega]
    exact ih
theorem fm_put (h : ∀ x, (enc x).length = sz) (sp : List Value) : ∀ (a : List α) (k : Nat) (x : α), k < a.length → putAt (a.flatMap enc ++ sp) (k * sz) (enc x) = (a.set k x).flatMap enc ++ sp
  | [], k, x, hk => by simp at hk
  | y :: a, 0, x, hk => by
    simp only [putAt, List.flatMap_cons, Nat.zero_mul, List.take_zero, List.nil_append, Nat.zero_add, List.set_cons_zero, h]
    rw [List.append_assoc, List.drop_append_of_le_length (by simp [h]), List.drop_eq_nil_of_le (by simp [h])]
    simp
  | y :: a, k + 1, x, hk => by
    have ih := fm_put h sp a k x (by simpa using hk)
    unfold putAt at ih ⊢
    rw [h] at ih ⊢
    simp only [List.flatMap_cons, List.set_cons_succ, List.append_assoc] at ih ⊢
    rw [show (k + 1) * sz = sz + k * sz by rw [Nat.add_mul]; omega]
    have e1 : List.take (sz + k * sz) (enc y ++ (a.flatMap enc ++ sp)) = enc y ++ List.take (k * sz) (a.flatMap enc ++ sp) := by
      rw [List.take_append, List.take_of_length_le (by rw [h]; omega), h]
      congr 2; omega
    have e2 : List.drop (sz + k * sz + sz) (enc y ++ (a.flatMap enc ++ sp)) = List.drop (k * sz + sz) (a.flatMap enc ++ sp) := by
      rw [List.drop_append, h, List.drop_eq_nil_of_le (by rw [h]; omega)]
      simp only [List.nil_append]
      congr 1; omega
    rw [e1, e2, List.append_assoc, ih]
theorem fm_replicate (h : ∀ x, (enc x).length = sz) (z : α) : ∀ n : Nat, (List.replicate n (enc z)).flatten = (List.replicate n z).flatMap enc
  | 0 => rfl
  | n + 1 => by simp [List.replicate_succ, fm_replicate h z n]
end

/-! ### an owned slice: its block -/
/-- v is a slice of n elements (cells xs) in block g, whose further cells are sp. -/
structure Slc (w : World) (e : TypeId) (sz : Nat) (v : Value) (n : Nat) (xs : List Value) (g cap : Nat) (sp : List Value) : Prop where
  val : v = .slice (some ⟨g, 0, none⟩) n cap
  bl : Bl w g e (xs ++ sp)
  len : xs.length = n * sz
  capn : n ≤ cap
  capm : cap ≤ maxLen
  size : (xs ++ sp).length = cap * sz
theorem Slc.own {w : World} {e : TypeId} {sz : Nat} {v : Value} {n : Nat} {xs : List Value} {g cap : Nat} {sp : List Value} (h : Slc w e sz v n xs g cap sp) {B : Nat} (hB : B ≤ g) : w.ownsRow B e sz v n xs :=
  ⟨h.len, .inr ⟨g, cap, (xs ++ sp).toArray, h.val, hB, h.bl.at_, h.capn, h.capm, by simpa using h.size, by rw [← h.len]; simp⟩⟩
theorem own_slc {w : World} {B : Nat} {e : TypeId} {sz : Nat} {v : Value} {n : Nat} {xs : List Value} (h : w.ownsRow B e sz v n xs) : (v = .slice none 0 0 ∧ n = 0 ∧ xs = []) ∨ ∃ g cap sp, B ≤ g ∧ Slc w e sz v n xs g cap sp := by
  rcases h.2 with ⟨rfl, rfl⟩ | ⟨g, cap, cur, rfl, hB, hg, hnc, hcm, hcs, ht⟩
  · exact .inl ⟨rfl, rfl, List.eq_nil_of_length_eq_zero (by simpa using h.1)⟩
  · refine .inr ⟨g, cap, cur.toList.drop (n * sz), hB, rfl, ⟨?_⟩, h.1, hnc, hcm, ?_⟩
    · rw [← ht, List.take_append_drop]; simpa using hg
    · rw [← ht, List.take_append_drop]; simpa using hcs
theorem grown_of {w w' : World} {g : Nat} (he : Ext g w w') (hb : ∀ k, g < k → k < w.heap.size → w'.heap[k]? = w.heap[k]?) : w.grownBy w' (some g) :=
  ⟨he.os, he.tape, he.output, he.size, fun k hk hne => by
    rcases Nat.lt_trichotomy k g with h | h | h
    · exact he.block k h
    · exact absurd (congrArg some h) hne
    · exact hb k h hk⟩
theorem grown_refl (w : World) (r : Option Nat) : w.grownBy w r := ⟨rfl, rfl, rfl, Nat.le_refl _, fun _ _ _ => rfl⟩
theorem grown_trans {a b c : World} {r : Option Nat} (h : a.grownBy b r) (k : b.grownBy c r) : a.grownBy c r :=
  ⟨k.os.trans h.os, k.tape.trans h.tape, k.output.trans h.output, Nat.le_trans h.size k.size, fun i hi hne => (k.block i (Nat.lt_of_lt_of_le hi h.size) hne).trans (h.block i hi hne)⟩
theorem grown_ext {w w' : World} (r : Option Nat) (h : Ext w.heap.size w w') : w.grownBy w' r := ⟨h.os, h.tape, h.output, h.size, fun k hk _ => h.block k hk⟩
theorem grown_set {w : World} {b : Nat} {e : TypeId} {cs : List Value} : w.grownBy (setB w b e cs) (some b) :=
  ⟨rfl, rfl, rfl, by rw [size_setB]; exact Nat.le_refl _, fun k hk hne => by
    simp only [setB]; rw [Array.getElem?_setIfInBounds_ne (fun h => hne (congrArg some h.symm))]⟩
theorem grown_bl {w w' : World} {r : Option Nat} (h : w.grownBy w' r) {b : Nat} {e : TypeId} {cs : List Value} (hb : some b ≠ r) (k : Bl w b e cs) : Bl w' b e cs := ⟨(h.block b k.lt hb).trans k.at_⟩

/-- append again: the slice that was appended to still holds its cells -/
theorem run_append_keeps {P : Program} (w : World) (base : Nat) (t ty e : TypeId) (i : TypeInfo) (z : Value) (size bytes : Nat) (ht : P.underlying t = some (.slice e)) (hi : P.info? e = some i) (hz : i.zero = some z)
    (hsize : i.size = size) (hby : i.bytes = bytes) (hzs : z.cells.size = size) (hsz : 0 < size)
    (v : Value) (n : Nat) (xs : List Value) (hown : w.ownsRow base e size v n xs)
    (a : Addr) (m c : Nat) (news : List Value) (hl : news.length = m * size) (hnews : ∀ j u, news[j]? = some u → w.cell? (a.add j) = some u) (h1 : ∀ u ∈ news, u.oneCell' = true)
    (h63 : n + m ≤ maxLen) (hbytes : (n + m) * bytes ≤ 140737488355328) (hbase : base ≤ w.heap.size) :
    ∃ v' w', (Builtin.append_ #[t, t] ty #[v, .slice (some a) m c]).run P w = .ok v' w' ∧ w'.ownsRow base e size v' (n + m) (xs ++ news) ∧ w.grownBy w' v.ownBlock ∧ w'.ownsRow base e size v n xs := by
  obtain ⟨v', w', hr, ho, hg, _⟩ := run_append_own (P := P) w base t ty e i z size bytes ht hi hz hsize hby hzs hsz v n xs hown a m c news hl hnews h1 h63 hbytes hbase
  refine ⟨v', w', hr, ho, hg, ?_⟩
  subst hsize hby
  rcases own_slc hown with ⟨rfl, rfl, rfl⟩ | ⟨g, cap, sp, hB, hs⟩
  · exact World.ownsRow_nil _ _ _ _
  · by_cases hroom : n + m ≤ cap
    · have hfit : n * i.size + news.length ≤ (xs ++ sp).toArray.size := by rw [hl]; simp only [List.size_toArray, hs.size, ← Nat.add_mul]; exact Nat.mul_le_mul_right _ hroom
      have hr2 := run_append_room (P := P) (ty := ty) w t e i ht hi g n cap (xs ++ sp).toArray hs.bl.at_ a m c news hl hnews h1 hroom hfit
      rw [hs.val] at hr
      rw [hr] at hr2
      simp only [Result.ok.injEq] at hr2
      obtain ⟨rfl, rfl⟩ := hr2
      rcases own_slc ho with ⟨h, _⟩ | ⟨g', cap', sp', hB', hs'⟩
      · simp at h
      · have hv := hs'.val
        simp only [Value.slice.injEq, Option.some.injEq, Addr.mk.injEq] at hv
        obtain ⟨⟨rfl, _⟩, _, rfl⟩ := hv
        have hb := hs'.bl
        have hsz' := hs'.size
        rw [List.append_assoc xs news sp'] at hb hsz'
        exact Slc.own (sp := news ++ sp') ⟨hs.val, hb, hs.len, hs.capn, hs.capm, hsz'⟩ hB
    · have holds : ∀ j u, xs[j]? = some u → w.cell? ((⟨g, 0, none⟩ : Addr).add j) = some u := hown.cells (g := g) (by rw [hs.val]; rfl)
      have hr2 := run_append_grow (P := P) (ty := ty) w t e i z ht hi hz ⟨g, 0, none⟩ n cap xs hown.1 holds a m c news hl hnews (by omega) (by simp only [maxLen] at h63; omega) (growslice_fits (by omega) hbytes)
      rw [hs.val] at hr
      rw [hr] at hr2
      simp only [Result.ok.injEq] at hr2
      obtain ⟨_, rfl⟩ := hr2
      have hb : Bl (w.drew.alloc (.cells (xs.toArray ++ news.toArray ++ Builtin.zeroCells z.cells (grownCap w (n + m) cap e - (n + m))) e)) g e (xs ++ sp) := ⟨by
        have h2 := hs.bl.lt
        show (w.heap.push _)[g]? = _
        rw [Array.getElem?_push, if_neg (by omega)]
        exact hs.bl.at_⟩
      exact Slc.own ⟨hs.val, hb, hs.len, hs.capn, hs.capm, hs.size⟩ hB

section
variable {P : Program} {n : Nat} {l : List (Nat × Value)} {w : World} {d : Nat} {ty : TypeId} {pos : String} {af : Array Edge} {g : Option (Nat × Bool)} {T : List (Nat × TI)} {K : List (Nat × Value) → World → Prop}
theorem e_appendK (hT : TOk P T) {t e : Nat} {x y : Operand} {i j : TI} {v : Value} {sz q m c base b o : Nat} {xs news : List Value} (ht : T.lookup t = some i) (h3 : i.tag = 3) (he : i.a = e) (hj : T.lookup e = some j) (hjs : Nat.beq (vcells j.zero).length j.size = true) (hpos : Nat.blt 0 j.size = true) (hsz : j.size = sz)
    (hx : ev l x = some v) (hy : ev l y = some (.slice (some ⟨b, o, none⟩) m c)) (hd : Nat.blt d n = true) (hown : w.ownsRow base e sz v q xs)
    (hc : Cells w b o news) (hl : news.length = m * sz) (h1 : ∀ u ∈ news, u.oneCell' = true) (hle : q + m ≤ maxLen) (hby : (q + m) * j.bytes ≤ 140737488355328) (hB : base ≤ w.heap.size)
    (k : ∀ v' w', w'.ownsRow base e sz v' (q + m) (xs ++ news) → w.grownBy w' v.ownBlock → w'.ownsRow base e sz v q xs → K ((d, v') :: l) w') :
    E P n ⟨some d, .call { callee := .builtin .append, args := #[x, y], argTypes := #[t, t] }, ty, pos, af, g⟩ l w K := by
  subst hsz
  obtain ⟨f, hf, hs, hb, hz⟩ := (hT.get hj).info
  obtain ⟨v', w', hr, h5, h6, h7⟩ := run_append_keeps (P := P) w base t ty e f j.zero j.size j.bytes ((hT.get ht).slice h3 he) hf hz hs hb (by rw [size_cells]; exact Nat.eq_of_beq_eq_true hjs) (by simpa [Nat.blt_eq] using hpos) v q xs hown ⟨b, o, none⟩ m c news hl
    (fun i u hu => by rw [addr_add]; exact hc.at_ i u hu) h1 hle hby hB
  exact E.val rfl hd (fun ρ hρ => by simp [execOp, resolve, invoke, builtin, hρ x _ hx, hρ y _ hy, hr]) (k v' w' h5 h6 h7)

/-- Go's '^x' -/
def xr (k : IntKind) (x : Int) : Int := k.wrap ((BitVec.ofInt k.bits (if k.signed then -1 else k.max)) ^^^ (BitVec.ofInt k.bits x)).toNat
theorem rd_xorW {d : Option Nat} {x : Operand} {t : TypeId} {k : IntKind} {a : Int} (hx : ev l x = some (.int k a)) : Rd P ⟨d, .unOp .xor t x, ty, pos, af, g⟩ l w (.int k (xr k a)) :=
  ⟨fun ρ hρ w' _ => by simp [execOp, hρ x _ hx, Op.unary, Op.intBits, xr]⟩
end
end Go.Mw
