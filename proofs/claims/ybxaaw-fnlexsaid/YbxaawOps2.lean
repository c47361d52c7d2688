/-
  The steps, continued: more operations that compute or read.
-/
import Derived.Test.YbxaawEff
set_option linter.unusedVariables false
set_option linter.unusedSimpArgs false
namespace Go.Mw

/-- the bytes of a string, as numbers -/
def bl (s : ByteArray) : List Nat := s.data.toList.map UInt8.toNat
theorem bl_length (s : ByteArray) : (bl s).length = s.size := by simp [bl]
theorem bl_lt (s : ByteArray) : ∀ c ∈ bl s, c < 256 := by
  intro c hc
  simp only [bl, List.mem_map] at hc
  obtain ⟨u, _, rfl⟩ := hc
  exact u.toNat_lt
theorem bl_get (s : ByteArray) (j : Nat) (h : j < s.size) : (bl s)[j]? = some s[j].toNat := by
  have h' : j < s.data.toList.length := by simpa using h
  simp only [bl, List.getElem?_map, List.getElem?_eq_getElem h', Option.map_some]
  rfl
theorem bl_some (s : ByteArray) (j : Nat) (h : j < s.size) : ∃ c, (bl s)[j]? = some c ∧ c < 256 :=
  ⟨_, bl_get s j h, s[j].toNat_lt⟩

theorem wrap_u64_in {a : Int} (h : 0 ≤ a ∧ a ≤ 18446744073709551615) : IntKind.u64.wrap a = a := by
  simp only [IntKind.wrap, IntKind.bits, IntKind.signed]
  simp
  omega
theorem wrap_u8_in {a : Int} (h : 0 ≤ a ∧ a ≤ 255) : IntKind.u8.wrap a = a := by
  simp only [IntKind.wrap, IntKind.bits, IntKind.signed]
  simp
  omega
theorem wrap_i32_in {a : Int} (h : -2147483648 ≤ a ∧ a ≤ 2147483647) : IntKind.i32.wrap a = a := by
  simp only [IntKind.wrap, IntKind.bits, IntKind.signed]
  simp
  omega
theorem wrap_i64_eq (a : Int) : IntKind.i64.wrap a = (a + 9223372036854775808) % 18446744073709551616 - 9223372036854775808 := by
  simp only [IntKind.wrap, IntKind.bits, IntKind.signed]
  simp
  split <;> omega
theorem wrap_u64_eq (a : Int) : IntKind.u64.wrap a = a % 18446744073709551616 := by
  simp only [IntKind.wrap, IntKind.bits, IntKind.signed]
  simp

section
variable {P : Program} {l : List (Nat × Value)} {w : World} {d : Option Nat} {ty : TypeId} {pos : String} {af : Array Edge} {g : Option (Nat × Bool)} {T : List (Nat × TI)}

theorem Rd.val {o : Oper} {v v' : Value} (h : Rd P o l w v) (e : v = v') : Rd P o l w v' := e ▸ h
theorem rd_addE {r : Int} {x y : Operand} {t u : TypeId} {k : IntKind} {a b : Int} (hx : ev l x = some (.int k a)) (hy : ev l y = some (.int k b)) (h : k.wrap (a + b) = r) :
    Rd P ⟨d, .binOp .add t x y u, ty, pos, af, g⟩ l w (.int k r) := h ▸ rd_addW hx hy
theorem rd_subE {r : Int} {x y : Operand} {t u : TypeId} {k : IntKind} {a b : Int} (hx : ev l x = some (.int k a)) (hy : ev l y = some (.int k b)) (h : k.wrap (a - b) = r) :
    Rd P ⟨d, .binOp .sub t x y u, ty, pos, af, g⟩ l w (.int k r) := h ▸ rd_subW hx hy
theorem rd_mulE {r : Int} {x y : Operand} {t u : TypeId} {k : IntKind} {a b : Int} (hx : ev l x = some (.int k a)) (hy : ev l y = some (.int k b)) (h : k.wrap (a * b) = r) :
    Rd P ⟨d, .binOp .mul t x y u, ty, pos, af, g⟩ l w (.int k r) := h ▸ rd_mulW hx hy
theorem rd_quoE {r : Int} {x y : Operand} {t u : TypeId} {k : IntKind} {a b : Int} (hx : ev l x = some (.int k a)) (hy : ev l y = some (.int k b)) (h0 : b ≠ 0) (h : k.wrap (a.tdiv b) = r) :
    Rd P ⟨d, .binOp .quo t x y u, ty, pos, af, g⟩ l w (.int k r) := h ▸ rd_quoW hx hy h0
theorem rd_remE {r : Int} {x y : Operand} {t u : TypeId} {k : IntKind} {a b : Int} (hx : ev l x = some (.int k a)) (hy : ev l y = some (.int k b)) (h0 : b ≠ 0) (h : a.tmod b = r) :
    Rd P ⟨d, .binOp .rem t x y u, ty, pos, af, g⟩ l w (.int k r) := h ▸ rd_remW hx hy h0
theorem rd_negE {r : Int} {x : Operand} {t : TypeId} {k : IntKind} {a : Int} (hx : ev l x = some (.int k a)) (h : k.wrap (-a) = r) : Rd P ⟨d, .unOp .neg t x, ty, pos, af, g⟩ l w (.int k r) := h ▸ rd_negW hx
theorem rd_convE {r : Int} (hT : TOk P T) {x : Operand} {s u : TypeId} {k k' : IntKind} {a : Int} {i j : TI} (hs : T.lookup s = some i) (hu : T.lookup u = some j) (hj : j.tag = 0) (hk : j.kind = k) (hx : ev l x = some (.int k' a)) (h : k.wrap a = r) :
    Rd P ⟨d, .convert s u x, ty, pos, af, g⟩ l w (.int k r) := h ▸ rd_convInt hT hs hu hj hk hx
theorem rd_indexStr (hT : TOk P T) {x y : Operand} {s : TypeId} {i : TI} {b : ByteArray} {k : IntKind} {j c : Nat} (hs : T.lookup s = some i) (h3 : i.tag = 2) (hx : ev l x = some (.string b)) (hy : ev l y = some (.int k j)) (hj : (bl b)[j]? = some c) :
    Rd P ⟨d, .index s x y, ty, pos, af, g⟩ l w (.int .u8 c) := by
  have hlt : j < b.size := by rw [← bl_length]; exact (List.getElem?_eq_some_iff.1 hj).1
  have h1 := bl_get b j hlt
  rw [hj] at h1
  simp only [Option.some.injEq] at h1
  subst h1
  exact rd_indexString hT hs h3 hx hy hlt
theorem run_equal_bool {t : TypeId} (h : P.underlying t = some .bool) (a b : Bool) (w : World) : (Op.equal t (.bool a) (.bool b)).run P w = .ok (a == b) w := by
  have key : ∀ n, (Op.equalIn (n + 1) t (.bool a) (.bool b)).run P w = .ok (a == b) w := fun n => by
    simp only [Op.equalIn, Sem.run_bind, run_underlying h, Result.andThen_ok]
    rfl
  exact key 9999
theorem rd_ext0 {x : Operand} {a b : Value} (hx : ev l x = some (.tuple #[a, b])) : Rd P ⟨d, .extract x 0, ty, pos, af, g⟩ l w a := rd_extract hx rfl
theorem rd_ext1 {x : Operand} {a b : Value} (hx : ev l x = some (.tuple #[a, b])) : Rd P ⟨d, .extract x 1, ty, pos, af, g⟩ l w b := rd_extract hx rfl
theorem rd_eqlB (hT : TOk P T) {x y : Operand} {t u : TypeId} {i : TI} {a b : Bool} (ht : T.lookup t = some i) (h1 : i.tag = 1) (hx : ev l x = some (.bool a)) (hy : ev l y = some (.bool b)) :
    Rd P ⟨d, .binOp .eql t x y u, ty, pos, af, g⟩ l w (.bool (decide (a = b))) :=
  ⟨fun ρ hρ w' _ => by
    obtain ⟨ds, hds, hk⟩ := (hT.get ht).desc
    simp only [TI.descOk, h1] at hk
    subst hk
    have e : (a == b) = decide (a = b) := by cases a <;> cases b <;> rfl
    have h2 := run_equal_bool hds a b w'
    rw [e] at h2
    simp only [execOp, hρ x _ hx, hρ y _ hy, eqGuard, binOp]
    simp [h2]⟩
theorem rd_neqB (hT : TOk P T) {x y : Operand} {t u : TypeId} {i : TI} {a b : Bool} (ht : T.lookup t = some i) (h1 : i.tag = 1) (hx : ev l x = some (.bool a)) (hy : ev l y = some (.bool b)) :
    Rd P ⟨d, .binOp .neq t x y u, ty, pos, af, g⟩ l w (.bool (decide (¬ a = b))) :=
  ⟨fun ρ hρ w' _ => by
    obtain ⟨ds, hds, hk⟩ := (hT.get ht).desc
    simp only [TI.descOk, h1] at hk
    subst hk
    have e : (!(a == b)) = decide (¬ a = b) := by cases a <;> cases b <;> rfl
    have h2 := run_equal_bool hds a b w'
    simp only [execOp, hρ x _ hx, hρ y _ hy, eqGuard, binOp]
    simp [h2]
    cases a <;> cases b <;> rfl⟩
/-- the bytes from lo to hi -/
theorem rd_subsLH (hT : TOk P T) {x y z : Operand} {s : TypeId} {i : TI} {b : ByteArray} {k k' : IntKind} {lo hi : Nat} (hs : T.lookup s = some i) (h3 : i.tag = 2) (hx : ev l x = some (.string b)) (hy : ev l y = some (.int k lo)) (hz : ev l z = some (.int k' hi)) (hb : lo ≤ hi ∧ hi ≤ b.size) :
    Rd P ⟨d, .slice s x (some y) (some z) none, ty, pos, af, g⟩ l w (.string (b.extract lo hi)) :=
  ⟨fun ρ hρ w' _ => by
    have h1 : ((hi : Int) ≤ (b.size : Int)) := by omega
    have h2 : ((lo : Int) ≤ (hi : Int)) := by omega
    simp [execOp, hρ x _ hx, hρ y _ hy, hρ z _ hz, Instr.sliceAt, Instr.slice, Instr.sliceBounds, Instr.sliceBound, asIntOf, run_underlying ((hT.get hs).string h3), h1, h2, hb.1, hb.2]⟩
theorem rd_subsL (hT : TOk P T) {x y : Operand} {s : TypeId} {i : TI} {b : ByteArray} {k : IntKind} {lo : Nat} (hs : T.lookup s = some i) (h3 : i.tag = 2) (hx : ev l x = some (.string b)) (hy : ev l y = some (.int k lo)) (hb : lo ≤ b.size) :
    Rd P ⟨d, .slice s x (some y) none none, ty, pos, af, g⟩ l w (.string (b.extract lo b.size)) :=
  ⟨fun ρ hρ w' _ => by
    have h2 : ((lo : Int) ≤ (b.size : Int)) := by omega
    simp [execOp, hρ x _ hx, hρ y _ hy, Instr.sliceAt, Instr.slice, Instr.sliceBounds, Instr.sliceBound, asIntOf, run_underlying ((hT.get hs).string h3), h2, hb]⟩
theorem rd_gtrS {x y : Operand} {t u : TypeId} {a b : ByteArray} (hx : ev l x = some (.string a)) (hy : ev l y = some (.string b)) :
    Rd P ⟨d, .binOp .gtr t x y u, ty, pos, af, g⟩ l w (.bool (!(Op.bytesLess a.toList b.toList || a.toList == b.toList))) :=
  ⟨fun ρ hρ w' _ => by simp [execOp, hρ x _ hx, hρ y _ hy, eqGuard, binOp, Op.stringOp]⟩
theorem rd_eqlS {x y : Operand} {t u : TypeId} {a b : ByteArray} (hx : ev l x = some (.string a)) (hy : ev l y = some (.string b)) :
    Rd P ⟨d, .binOp .eql t x y u, ty, pos, af, g⟩ l w (.bool (a.toList == b.toList)) :=
  ⟨fun ρ hρ w' _ => by simp [execOp, hρ x _ hx, hρ y _ hy, eqGuard, binOp, Op.stringOp]⟩
theorem rd_neqS {x y : Operand} {t u : TypeId} {a b : ByteArray} (hx : ev l x = some (.string a)) (hy : ev l y = some (.string b)) :
    Rd P ⟨d, .binOp .neq t x y u, ty, pos, af, g⟩ l w (.bool (!(a.toList == b.toList))) :=
  ⟨fun ρ hρ w' _ => by simp only [execOp, hρ x _ hx, hρ y _ hy, eqGuard, binOp, Op.stringOp]; simp⟩
end
end Go.Mw
