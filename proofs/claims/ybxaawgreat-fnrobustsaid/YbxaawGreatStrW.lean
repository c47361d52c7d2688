/-
  Bytes and strings.
-/
import Derived.Test.YbxaawGreatPolyM2
import Derived.Lib.AppendStr
import Derived.Laws.BytesString
set_option linter.unusedVariables false
set_option linter.unusedSimpArgs false
namespace Go.Mw

def bC (xs : List Nat) : List Value := xs.map fun (n : Nat) => Value.int .u8 (n : Int)
theorem bC_len (xs : List Nat) : (bC xs).length = xs.length := by simp [bC]
theorem bC_append (xs ys : List Nat) : bC (xs ++ ys) = bC xs ++ bC ys := by simp [bC]
theorem bC_get {xs : List Nat} {i n : Nat} (h : xs[i]? = some n) : (bC xs)[i]? = some (.int .u8 n) := by simp [bC, h]
theorem bC_one (xs : List Nat) : ∀ u ∈ bC xs, u.oneCell' = true := by
  intro u hu
  simp only [bC, List.mem_map] at hu
  obtain ⟨x, _, rfl⟩ := hu
  rfl
def mkS (xs : List Nat) : ByteArray := ⟨(xs.map UInt8.ofNat).toArray⟩
theorem mkS_size (xs : List Nat) : (mkS xs).size = xs.length := by simp [mkS, ByteArray.size]
theorem bl_mkS (xs : List Nat) (h : ∀ x ∈ xs, x < 256) : bl (mkS xs) = xs := by
  simp only [bl, mkS, List.map_map]
  apply List.ext_getElem?
  intro i
  simp only [List.getElem?_map]
  cases hx : xs[i]? with
  | none => rfl
  | some x =>
    have := h x (List.mem_of_getElem? hx)
    simp [Nat.mod_eq_of_lt this]
theorem mkS_bl (s : ByteArray) : mkS (bl s) = s := by
  obtain ⟨⟨d⟩⟩ := s
  simp only [mkS, bl, List.map_map]
  congr 2
  have : (UInt8.ofNat ∘ UInt8.toNat) = id := by funext x; simp
  simp [this]
theorem strCells_bl (s : ByteArray) : Lib.strCells s = bC (bl s) := by simp [Lib.strCells, bC, bl]
theorem mkS_foldl (xs : List Nat) : ∀ s : ByteArray, ((xs.map fun (n : Nat) => (n : Int)).foldl (fun r n => r.push (UInt8.ofNat n.toNat)) s) = mkS (bl s ++ xs) := by
  induction xs with
  | nil => intro s; simp [mkS_bl]
  | cons x xs ih =>
    intro s
    simp only [List.map_cons, List.foldl_cons, Int.toNat_natCast]
    rw [ih]
    have : mkS (bl (s.push (UInt8.ofNat x)) ++ xs) = mkS (bl s ++ x :: xs) := by
      unfold mkS bl
      congr 2
      simp
      apply UInt8.toNat_inj.1
      simp
    exact this
section
variable {P : Program} {n : Nat} {l : List (Nat × Value)} {w : World} {d : Nat} {ty : TypeId} {pos : String} {af : Array Edge} {g : Option (Nat × Bool)} {T : List (Nat × TI)} {K : List (Nat × Value) → World → Prop}
/-- append(bytes, string...) -/
theorem e_appendS (hT : TOk P T) {t u e : Nat} {x y : Operand} {i j k2 : TI} {v : Value} {q base : Nat} {xs : List Nat} {s : ByteArray} (ht : T.lookup t = some i) (h3 : i.tag = 3) (he : i.a = e) (hj : T.lookup e = some j) (hjz : j.zero = .int .u8 0) (hjs : j.size = 1) (hjb : j.bytes = 1)
    (hu : T.lookup u = some k2) (h2 : k2.tag = 2) (hx : ev l x = some v) (hy : ev l y = some (.string s)) (hd : Nat.blt d n = true) (hown : w.ownsRow base e 1 v q (bC xs)) (hby : q + s.size ≤ 140737488355328) (hB : base ≤ w.heap.size)
    (k : ∀ v' w', w'.ownsRow base e 1 v' (q + s.size) (bC (xs ++ bl s)) → w.grownBy w' v.ownBlock → K ((d, v') :: l) w') :
    E P n ⟨some d, .call { callee := .builtin .append, args := #[x, y], argTypes := #[t, u] }, ty, pos, af, g⟩ l w K := by
  obtain ⟨f, hf, hs, hb, hz⟩ := (hT.get hj).info
  obtain ⟨v', w', hr, h5, h6, _⟩ := Lib.run_append_own_string (P := P) w base t u ty e f ((hT.get ht).slice h3 he) ((hT.get hu).string h2) hf (by rw [hz, hjz]) (by rw [hs, hjs]) (by rw [hb, hjb]) v q (bC xs) hown s (by unfold maxLen; omega) hby hB
  rw [strCells_bl, ← bC_append] at h5
  exact E.val rfl hd (fun ρ hρ => by simp [execOp, resolve, invoke, builtin, hρ x _ hx, hρ y _ hy, hr]) (k v' w' h5 h6)
theorem rd_bytesStr (hT : TOk P T) {d : Option Nat} {x : Operand} {t u e : Nat} {i j k2 : TI} {b o q c : Nat} {xs : List Nat} (ht : T.lookup t = some i) (h3 : i.tag = 3) (he : i.a = e) (hj : T.lookup e = some j) (hjt : j.tag = 0) (hjk : j.kind = .u8)
    (hu : T.lookup u = some k2) (h2 : k2.tag = 2) (hx : ev l x = some (.slice (some ⟨b, o, none⟩) q c)) (hc : Cells w b o (bC xs)) (hq : xs.length = q) : Rd P ⟨d, .convert t u x, ty, pos, af, g⟩ l w (.string (mkS xs)) :=
  ⟨fun ρ hρ w' hle => by
    subst hq
    have h1 := run_convert_bytes_string (P := P) w' t u e (some ⟨b, o, none⟩) xs.length c ((hT.get ht).slice h3 he) ((hT.get hj).int hjt hjk) ((hT.get hu).string h2)
    have h4 := run_loadCells (P := P) (hc.le hle)
    rw [bC_len] at h4
    have h5 := run_bytesToString (P := P) w' ⟨b, o, none⟩ xs.length c (xs.map fun (n : Nat) => (n : Int)) (by rw [h4]; simp [bC, Function.comp_def])
    rw [mkS_foldl] at h5
    have e0 : bl ByteArray.empty = [] := rfl
    rw [e0, List.nil_append] at h5
    simp [execOp, hρ x _ hx, h1, h5]⟩
/-- the array behind a pointer, from lo on -/
theorem rd_arrsL (hT : TOk P T) {d : Option Nat} {x y : Operand} {s : TypeId} {i j : TI} {b o m e lo sz : Nat} {k : IntKind} (hs : T.lookup s = some i) (h3 : i.tag = 4) (hn : i.a = m) (he : i.b = e) (hj : T.lookup e = some j) (hsz : j.size = sz)
    (hx : ev l x = some (.pointer (some ⟨b, o, none⟩))) (hy : ev l y = some (.int k lo)) (hlo : lo < m) :
    Rd P ⟨d, .slice s x (some y) none none, ty, pos, af, g⟩ l w (.slice (some ⟨b, o + lo * sz, none⟩) (m - lo) (m - lo)) :=
  ⟨fun ρ hρ w' _ => by
    subst hsz
    have hz := (hT.get hj).sizeOf w'
    have h2 : (lo : Int) ≤ (m : Int) := by omega
    have h4 : ¬ m = lo := by omega
    simp [execOp, hρ x _ hx, hρ y _ hy, Instr.sliceAt, Instr.sureAddr, Instr.sliceBounds, Instr.sliceBound, asIntOf, run_underlying ((hT.get hs).array h3 hn he), h2, hz, h4, addr_add]
    omega⟩
end
/-- a slice just made, all of it spare -/
theorem own_made {w : World} {b base sz c : Nat} {e : TypeId} {cs : List Value} (h : Bl w b e cs) (hl : cs.length = c * sz) (hb : base ≤ b) (hc : c ≤ maxLen) : w.ownsRow base e sz (.slice (some ⟨b, 0, none⟩) 0 c) 0 [] :=
  ⟨by simp, .inr ⟨b, c, cs.toArray, rfl, hb, h.at_, Nat.zero_le _, hc, by simpa using hl, by simp⟩⟩
end Go.Mw
