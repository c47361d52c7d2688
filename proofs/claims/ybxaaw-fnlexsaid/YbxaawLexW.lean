/-
  The lexers, walked.
-/
import Derived.Test.YbxaawTypes
import Derived.Test.YbxaawEqTys
import Derived.Test.YbxaawLexP
set_option linter.unusedVariables false
set_option linter.unusedSimpArgs false
set_option maxRecDepth 10000
namespace Go.Proofs.Ybxaaw
open Go.Mw Lexp

def tokC (ts : List (Int × Int)) : List Value := ts.flatMap fun t => [.int .i64 t.1, .int .i64 t.2]
theorem tokC_snoc (ts : List (Int × Int)) (a b : Int) : tokC (ts ++ [(a, b)]) = tokC ts ++ [.int .i64 a, .int .i64 b] := by simp [tokC]

theorem isSpace_ok (c : Nat) (w : World) : Ret Yaam.prog 78 [.int .u8 c] w fun v w' => v = .bool (isSp c) ∧ w = w' := by
  refine enter1 Yaam.func78 Yaam.ntmps78 (by kernel_rfl) rfl rfl ?_
  refine V.seq ?_
  refine V.region ?_
  refine L.rd (rd_assign rfl) rfl ?_
  refine L.nil ?_
  refine X.sq ?_
  refine V.seq ?_
  refine V.region ?_
  refine L.rd (rd_move rfl) rfl ?_
  refine L.rd (rd_eql rfl rfl) rfl ?_
  refine L.rd (rd_move rfl) rfl ?_
  first | refine L.partG rfl rfl (fun g5 => ?_) (fun g5 => ?_) | refine L.partGB rfl rfl (fun g5 => ?_) (fun g5 => ?_)
  ·
    refine L.no rfl rfl rfl rfl ?_
    refine L.no rfl rfl rfl rfl ?_
    refine L.rd (rd_pickT rfl rfl) rfl ?_
    refine L.rd (rd_move rfl) rfl ?_
    refine L.no rfl rfl rfl rfl ?_
    refine L.no rfl rfl rfl rfl ?_
    refine L.rd (rd_pickT rfl rfl) rfl ?_
    refine L.rd (rd_move rfl) rfl ?_
    refine L.no rfl rfl rfl rfl ?_
    refine L.no rfl rfl rfl rfl ?_
    refine L.rd (rd_pickT rfl rfl) rfl ?_
    refine L.rd (rd_assign rfl) rfl ?_
    refine L.nil ?_
    refine X.sq ?_
    refine V.ret ?_
    refine ret_1 Yaam.results78 rfl ?_
    refine ⟨congrArg Value.bool ?_, rfl⟩
    rw [Bool.eq_iff_iff]; simp [isSp]; omega
  ·
    refine L.yes rfl rfl ?_
    refine L.rd (rd_move rfl) rfl ?_
    refine L.yes rfl rfl ?_
    refine L.rd (rd_eql rfl rfl) rfl ?_
    refine L.rd (rd_pickF rfl rfl) rfl ?_
    refine L.rd (rd_move rfl) rfl ?_
    first | refine L.partG rfl rfl (fun g9 => ?_) (fun g9 => ?_) | refine L.partGB rfl rfl (fun g9 => ?_) (fun g9 => ?_)
    ·
      refine L.no rfl rfl rfl rfl ?_
      refine L.no rfl rfl rfl rfl ?_
      refine L.rd (rd_pickT rfl rfl) rfl ?_
      refine L.rd (rd_move rfl) rfl ?_
      refine L.no rfl rfl rfl rfl ?_
      refine L.no rfl rfl rfl rfl ?_
      refine L.rd (rd_pickT rfl rfl) rfl ?_
      refine L.rd (rd_assign rfl) rfl ?_
      refine L.nil ?_
      refine X.sq ?_
      refine V.ret ?_
      refine ret_1 Yaam.results78 rfl ?_
      refine ⟨congrArg Value.bool ?_, rfl⟩
      rw [Bool.eq_iff_iff]; simp [isSp]; omega
    ·
      refine L.yes rfl rfl ?_
      refine L.rd (rd_move rfl) rfl ?_
      refine L.yes rfl rfl ?_
      refine L.rd (rd_eql rfl rfl) rfl ?_
      refine L.rd (rd_pickF rfl rfl) rfl ?_
      refine L.rd (rd_move rfl) rfl ?_
      first | refine L.partG rfl rfl (fun g13 => ?_) (fun g13 => ?_) | refine L.partGB rfl rfl (fun g13 => ?_) (fun g13 => ?_)
      ·
        refine L.no rfl rfl rfl rfl ?_
        refine L.no rfl rfl rfl rfl ?_
        refine L.rd (rd_pickT rfl rfl) rfl ?_
        refine L.rd (rd_assign rfl) rfl ?_
        refine L.nil ?_
        refine X.sq ?_
        refine V.ret ?_
        refine ret_1 Yaam.results78 rfl ?_
        refine ⟨congrArg Value.bool ?_, rfl⟩
        rw [Bool.eq_iff_iff]; simp [isSp]; omega
      ·
        refine L.yes rfl rfl ?_
        refine L.rd (rd_move rfl) rfl ?_
        refine L.yes rfl rfl ?_
        refine L.rd (rd_eql rfl rfl) rfl ?_
        refine L.rd (rd_pickF rfl rfl) rfl ?_
        refine L.rd (rd_assign rfl) rfl ?_
        refine L.nil ?_
        refine X.sq ?_
        refine V.ret ?_
        refine ret_1 Yaam.results78 rfl ?_
        refine ⟨congrArg Value.bool ?_, rfl⟩
        rw [Bool.eq_iff_iff]; simp [isSp]; omega

theorem opK_eq (c : Nat) (r : Int) (h : (c = 43 ∧ r = 3) ∨ (c = 45 ∧ r = 4) ∨ (c = 42 ∧ r = 5) ∨ (c = 94 ∧ r = 6) ∨ (c = 40 ∧ r = 7) ∨ (c = 41 ∧ r = 8) ∨ (c ≠ 43 ∧ c ≠ 45 ∧ c ≠ 42 ∧ c ≠ 94 ∧ c ≠ 40 ∧ c ≠ 41 ∧ r = 0)) : opK c = r := by
  unfold opK
  repeat (first | omega | split)

theorem opKind_ok (c : Nat) (w : World) : Ret Yaam.prog 80 [.int .u8 c] w fun v w' => v = .int .i64 (opK c) ∧ w = w' := by
  refine enter1 Yaam.func80 Yaam.ntmps80 (by kernel_rfl) rfl rfl ?_
  refine V.seq ?_
  refine V.region ?_
  refine L.rd (rd_assign rfl) rfl ?_
  refine L.nil ?_
  refine X.sq ?_
  refine V.seq ?_
  refine V.seq ?_
  refine V.region ?_
  refine L.rd (rd_move rfl) rfl ?_
  refine L.nil ?_
  refine X.sq ?_
  refine V.block ?_
  refine V.seq ?_
  refine V.region ?_
  refine L.rd (rd_eql rfl rfl) rfl ?_
  refine L.rd (rd_assign rfl) rfl ?_
  refine L.nil ?_
  refine X.sq ?_
  first | refine V.cond rfl (fun h4 => ?_) (fun h4 => ?_) | refine V.condB rfl (fun h4 => ?_) (fun h4 => ?_)
  ·
    refine V.seq ?_
    refine V.region ?_
    refine L.rd (rd_assign rfl) rfl ?_
    refine L.nil ?_
    refine X.sq ?_
    refine V.ret ?_
    refine X.bkRet ?_
    refine X.sqRet ?_
    refine ret_1 Yaam.results80 rfl ?_
    exact ⟨congrArg (Value.int .i64) (opK_eq c _ (by omega)).symm, rfl⟩
  ·
    refine V.seq ?_
    refine V.region ?_
    refine L.rd (rd_eql rfl rfl) rfl ?_
    refine L.rd (rd_assign rfl) rfl ?_
    refine L.nil ?_
    refine X.sq ?_
    first | refine V.cond rfl (fun h6 => ?_) (fun h6 => ?_) | refine V.condB rfl (fun h6 => ?_) (fun h6 => ?_)
    ·
      refine V.seq ?_
      refine V.region ?_
      refine L.rd (rd_assign rfl) rfl ?_
      refine L.nil ?_
      refine X.sq ?_
      refine V.ret ?_
      refine X.bkRet ?_
      refine X.sqRet ?_
      refine ret_1 Yaam.results80 rfl ?_
      exact ⟨congrArg (Value.int .i64) (opK_eq c _ (by omega)).symm, rfl⟩
    ·
      refine V.seq ?_
      refine V.region ?_
      refine L.rd (rd_eql rfl rfl) rfl ?_
      refine L.rd (rd_assign rfl) rfl ?_
      refine L.nil ?_
      refine X.sq ?_
      first | refine V.cond rfl (fun h8 => ?_) (fun h8 => ?_) | refine V.condB rfl (fun h8 => ?_) (fun h8 => ?_)
      ·
        refine V.seq ?_
        refine V.region ?_
        refine L.rd (rd_assign rfl) rfl ?_
        refine L.nil ?_
        refine X.sq ?_
        refine V.ret ?_
        refine X.bkRet ?_
        refine X.sqRet ?_
        refine ret_1 Yaam.results80 rfl ?_
        exact ⟨congrArg (Value.int .i64) (opK_eq c _ (by omega)).symm, rfl⟩
      ·
        refine V.seq ?_
        refine V.region ?_
        refine L.rd (rd_eql rfl rfl) rfl ?_
        refine L.rd (rd_assign rfl) rfl ?_
        refine L.nil ?_
        refine X.sq ?_
        first | refine V.cond rfl (fun h10 => ?_) (fun h10 => ?_) | refine V.condB rfl (fun h10 => ?_) (fun h10 => ?_)
        ·
          refine V.seq ?_
          refine V.region ?_
          refine L.rd (rd_assign rfl) rfl ?_
          refine L.nil ?_
          refine X.sq ?_
          refine V.ret ?_
          refine X.bkRet ?_
          refine X.sqRet ?_
          refine ret_1 Yaam.results80 rfl ?_
          exact ⟨congrArg (Value.int .i64) (opK_eq c _ (by omega)).symm, rfl⟩
        ·
          refine V.seq ?_
          refine V.region ?_
          refine L.rd (rd_eql rfl rfl) rfl ?_
          refine L.rd (rd_assign rfl) rfl ?_
          refine L.nil ?_
          refine X.sq ?_
          first | refine V.cond rfl (fun h12 => ?_) (fun h12 => ?_) | refine V.condB rfl (fun h12 => ?_) (fun h12 => ?_)
          ·
            refine V.seq ?_
            refine V.region ?_
            refine L.rd (rd_assign rfl) rfl ?_
            refine L.nil ?_
            refine X.sq ?_
            refine V.ret ?_
            refine X.bkRet ?_
            refine X.sqRet ?_
            refine ret_1 Yaam.results80 rfl ?_
            exact ⟨congrArg (Value.int .i64) (opK_eq c _ (by omega)).symm, rfl⟩
          ·
            refine V.seq ?_
            refine V.region ?_
            refine L.rd (rd_eql rfl rfl) rfl ?_
            refine L.rd (rd_assign rfl) rfl ?_
            refine L.nil ?_
            refine X.sq ?_
            first | refine V.cond rfl (fun h14 => ?_) (fun h14 => ?_) | refine V.condB rfl (fun h14 => ?_) (fun h14 => ?_)
            ·
              refine V.seq ?_
              refine V.region ?_
              refine L.rd (rd_assign rfl) rfl ?_
              refine L.nil ?_
              refine X.sq ?_
              refine V.ret ?_
              refine X.bkRet ?_
              refine X.sqRet ?_
              refine ret_1 Yaam.results80 rfl ?_
              exact ⟨congrArg (Value.int .i64) (opK_eq c _ (by omega)).symm, rfl⟩
            ·
              refine V.skip ?_
              refine X.bk ?_
              refine X.sq ?_
              refine V.seq ?_
              refine V.region ?_
              refine L.rd (rd_assign rfl) rfl ?_
              refine L.nil ?_
              refine X.sq ?_
              refine V.ret ?_
              refine ret_1 Yaam.results80 rfl ?_
              exact ⟨congrArg (Value.int .i64) (opK_eq c _ (by omega)).symm, rfl⟩

theorem dv_sub (c : Nat) (h : 48 ≤ c ∧ c ≤ 57) : (dv c : Int) = (c : Int) - 48 := by unfold dv; omega
theorem u8sub (c : Nat) (h : 48 ≤ c ∧ c ≤ 57) : IntKind.u8.wrap ((c : Int) - 48) = (dv c : Int) := by rw [dv_sub c h]; exact wrap_u8_in (by omega)
theorem dv_le (c : Nat) (h : 48 ≤ c ∧ c ≤ 57) : dv c ≤ 9 := by unfold dv; omega
theorem u64_of_nat (c : Nat) (h : c ≤ 18446744073709551615) : IntKind.u64.wrap (c : Int) = (c : Int) := wrap_u64_in (by omega)
theorem i64_of_nat (v : Nat) (h : v < 18446744073709551616) : IntKind.i64.wrap (v : Int) = i64 v := by rw [wrap_i64_eq]; unfold i64; split <;> omega

/-- the digits from place k to place j -/
def seg (s : ByteArray) (k j : Nat) : List Nat := ((bl s).drop k).take (j - k)
theorem seg_self (s : ByteArray) (k : Nat) : seg s k k = [] := by simp [seg]
theorem seg_snoc (s : ByteArray) (k j c : Nat) (hkj : k ≤ j) (h : (bl s)[j]? = some c) : seg s k (j + 1) = seg s k j ++ [c] := by
  unfold seg
  have hlt : j < (bl s).length := (List.getElem?_eq_some_iff.1 h).1
  rw [show j + 1 - k = (j - k) + 1 by omega, List.take_succ_eq_append_getElem (by simp; omega)]
  congr 2
  have : (bl s)[j] = c := by simpa [hlt] using h
  rw [← this]
  simp [show k + (j - k) = j by omega]
theorem nv_snoc (l : List Nat) (c : Nat) : nv 0 (l ++ [c]) = nv 0 l * 10 + dv c := by rw [nv_append, nv_cons, nv_nil]

/-- what the impl's inner loop checks -/
theorem over_iff (v d : Nat) (hd : d ≤ 9) : ((18446744073709551615 - (d : Int)) / 10 < (v : Int)) ↔ ¬ v * 10 + d < 18446744073709551616 := by omega
theorem seg_stop (l a b : List Nat) (h : l = a ++ b) (hv : ¬ nv 0 a < 18446744073709551616) : ¬ nv 0 l < 18446744073709551616 := by
  subst h
  rw [nv_append]
  have := nv_mono b (nv 0 a)
  omega

/-- the state that both lexers keep -/
structure Lx (s : ByteArray) (w wr : World) (k : Nat) (sv : Value) (acc : List (Int × Int)) : Prop where
  le : k ≤ s.size
  len : acc.length ≤ k
  own : wr.ownsRow w.heap.size 99 2 sv acc.length (tokC acc)
  ext : Ext w.heap.size w wr
  rest : lexR ((bl s).drop k) acc = lexR (bl s) []

theorem Lx.cons {s : ByteArray} {w wr : World} {k : Nat} {sv : Value} {acc : List (Int × Int)} (h : Lx s w wr k sv acc) {c : Nat} (hc : (bl s)[k]? = some c) : (bl s).drop k = c :: (bl s).drop (k + 1) := by
  have hlt : k < (bl s).length := (List.getElem?_eq_some_iff.1 hc).1
  rw [List.drop_eq_getElem_cons hlt]
  congr 1
  simpa [hlt] using hc
theorem Lx.space {s : ByteArray} {w wr : World} {k : Nat} {sv : Value} {acc : List (Int × Int)} (h : Lx s w wr k sv acc) {c : Nat} (hc : (bl s)[k]? = some c) (hs : isSp c = true) : Lx s w wr (k + 1) sv acc := by
  have hlt : k < (bl s).length := (List.getElem?_eq_some_iff.1 hc).1
  rw [bl_length] at hlt
  refine ⟨by omega, by have := h.len; omega, h.own, h.ext, ?_⟩
  rw [← h.rest, h.cons hc, lexR_cons, hs, if_pos rfl]
theorem Lx.grow {s : ByteArray} {w wr w1 : World} {k j : Nat} {sv v1 : Value} {acc : List (Int × Int)} {a b : Int} (h : Lx s w wr k sv acc) (hj : k < j ∧ j ≤ s.size)
    (ho : w1.ownsRow w.heap.size 99 2 v1 (acc.length + 1) (tokC acc ++ [.int .i64 a, .int .i64 b])) (hg : (addB wr 99 [.int .i64 a, .int .i64 b]).grownBy w1 sv.ownBlock)
    (hr : lexR ((bl s).drop j) (acc ++ [(a, b)]) = lexR ((bl s).drop k) acc) : Lx s w w1 j v1 (acc ++ [(a, b)]) := by
  have hsz := h.ext.size
  refine ⟨hj.2, by have := h.len; simp; omega, by rw [tokC_snoc]; simpa using ho, ?_, by rw [hr, h.rest]⟩
  refine Ext.grown (h.ext.add hsz _ _) hg (by rw [size_addB]; omega) (fun q hq => ?_)
  exact (h.own.lt q hq).1
theorem lexR_num {l : List Nat} {acc : List (Int × Int)} {c : Nat} {cs : List Nat} (hl : l = c :: cs) (hs : isSp c = false) (hn : ¬ 2000000 ≤ acc.length) (hd : isDg c = true) :
    lexR l acc = if nv 0 (l.takeWhile isDg) < 18446744073709551616 then lexR (l.dropWhile isDg) (acc ++ [(1, i64 (nv 0 (l.takeWhile isDg)))]) else none := by
  subst hl; rw [lexR_cons, hs, hd, if_neg hn]; simp
theorem lexR_var {l : List Nat} {acc : List (Int × Int)} {c : Nat} {cs : List Nat} (hl : l = c :: cs) (hs : isSp c = false) (hn : ¬ 2000000 ≤ acc.length) (hd : isDg c = false) (hv : 97 ≤ c ∧ c ≤ 122) :
    lexR l acc = lexR cs (acc ++ [(2, (c : Int) - 97)]) := by
  subst hl; rw [lexR_cons, hs, hd, if_neg hn]; simp [hv]
theorem lexR_op {l : List Nat} {acc : List (Int × Int)} {c : Nat} {cs : List Nat} (hl : l = c :: cs) (hs : isSp c = false) (hn : ¬ 2000000 ≤ acc.length) (hd : isDg c = false) (hv : ¬ (97 ≤ c ∧ c ≤ 122)) :
    lexR l acc = if opK c = 0 then none else lexR cs (acc ++ [(opK c, 0)]) := by
  subst hl; rw [lexR_cons, hs, hd, if_neg hn]; simp [hv]
theorem lexR_full {l : List Nat} {acc : List (Int × Int)} {c : Nat} {cs : List Nat} (hl : l = c :: cs) (hs : isSp c = false) (hn : 2000000 ≤ acc.length) : lexR l acc = none := by
  subst hl; rw [lexR_cons, hs, if_pos hn]; simp

/-- what both lexers answer -/
def LexPost (s : ByteArray) (w : World) (v : Value) (w' : World) : Prop :=
  ∃ sv, v = .tuple #[sv, .bool (lex (bl s)).isSome] ∧ w'.ownsRow w.heap.size 99 2 sv ((lex (bl s)).getD []).length (tokC ((lex (bl s)).getD [])) ∧ Ext w.heap.size w w'
theorem LexPost.bad {s : ByteArray} {w wr : World} (he : Ext w.heap.size w wr) (h : lex (bl s) = none) : LexPost s w (.tuple #[.slice none 0 0, .bool false]) wr := by
  refine ⟨.slice none 0 0, by rw [h]; rfl, ?_, he⟩
  rw [h]; exact World.ownsRow_nil _ _ _ _
theorem LexPost.good {s : ByteArray} {w wr : World} {k : Nat} {sv : Value} {acc : List (Int × Int)} (h : Lx s w wr k sv acc) (hk : ¬ k < s.size) (hs : s.size ≤ 20000000) : LexPost s w (.tuple #[sv, .bool true]) wr := by
  have h1 : lex (bl s) = some acc := by
    unfold lex
    rw [if_neg (by rw [bl_length]; omega), ← h.rest, List.drop_eq_nil_of_le (by rw [bl_length]; omega)]
    rfl
  exact ⟨sv, by rw [h1]; rfl, by rw [h1]; exact h.own, h.ext⟩
theorem lex_of {s : ByteArray} (hs : s.size ≤ 20000000) : lex (bl s) = lexR (bl s) [] := by
  unfold lex; rw [if_neg (by rw [bl_length]; omega)]
theorem not_space {c : Nat} (h1 : ¬ (c : Int) = 32) (h2 : ¬ (c : Int) = 9) (h3 : ¬ (c : Int) = 10) (h4 : ¬ (c : Int) = 13) : isSp c = false := by
  simp [isSp]; omega
theorem is_space {c : Nat} (h : (c : Int) = 32 ∨ (c : Int) = 9 ∨ (c : Int) = 10 ∨ (c : Int) = 13) : isSp c = true := by
  simp [isSp]; omega
theorem not_digit {c : Nat} (h : ¬ (48 ≤ (c : Int) ∧ (c : Int) ≤ 57)) : isDg c = false := by
  simp [isDg]; omega
theorem is_digit {c : Nat} (h : 48 ≤ (c : Int) ∧ (c : Int) ≤ 57) : isDg c = true := by
  simp [isDg]; omega

theorem slice_form {w : World} {B e sz : Nat} {sv : Value} {m : Nat} {xs : List Value} (h : w.ownsRow B e sz sv m xs) : ∃ sa sn, sv = .slice sa m sn := by
  rcases h.2 with ⟨h, h0⟩ | ⟨g, cap, cur, h, _⟩
  · exact ⟨none, 0, by rw [h, h0]⟩
  · exact ⟨_, cap, h⟩

theorem lexF_len : ∀ (f : Nat) (l : List Nat) (acc ts : List (Int × Int)), lexF f l acc = some ts → ts.length ≤ acc.length + l.length
  | 0, _, _, _, h => by simp [lexF] at h
  | f + 1, [], acc, ts, h => by simp [lexF] at h; subst h; simp
  | f + 1, c :: cs, acc, ts, h => by
    simp only [lexF] at h
    split at h
    · have := lexF_len f cs acc ts h; simp; omega
    · split at h
      · cases h
      · split at h
        · rename_i hd
          split at h
          · have h1 := lexF_len f _ _ ts h
            have h2 : ((c :: cs).dropWhile isDg).length ≤ cs.length := by
              rw [List.dropWhile_cons, hd]; simp; exact dropWhile_len isDg cs
            simp at h1 ⊢; omega
          · cases h
        · split at h
          · have := lexF_len f _ _ ts h; simp at this ⊢; omega
          · split at h
            · cases h
            · have := lexF_len f _ _ ts h; simp at this ⊢; omega
theorem lex_len (s : ByteArray) (hs : s.size ≤ 1099511627776) : ((lex (bl s)).getD []).length ≤ s.size := by
  cases h : lex (bl s) with
  | none => simp
  | some ts =>
    unfold lex at h
    split at h
    · cases h
    · have := lexF_len _ _ _ _ h
      rw [bl_length] at this
      simpa using this

theorem ilex_ok (s : ByteArray) (w : World) (hsz : s.size ≤ 1099511627776) : Ret Yaam.prog 25 [.string s] w (LexPost s w) := by
  refine enter1 Yaam.func25 Yaam.ntmps25 (by kernel_rfl) rfl rfl ?_
  refine V.seq ?_
  refine V.region ?_
  refine L.rd (rd_assign rfl) rfl ?_
  refine L.rd (rd_assign rfl) rfl ?_
  refine L.nil ?_
  refine X.sq ?_
  refine V.seq ?_
  refine V.region ?_
  refine L.rd (rd_move rfl) rfl ?_
  refine L.rd (rd_lenString tok rfl rfl rfl) rfl ?_
  refine L.rd (rd_assign rfl) rfl ?_
  refine L.nil ?_
  refine X.sq ?_
  refine V.seq ?_
  refine V.seq ?_
  refine V.region ?_
  refine L.rd (rd_move rfl) rfl ?_
  refine L.rd (rd_gtr rfl rfl) rfl ?_
  refine L.nil ?_
  refine X.sq ?_
  first | refine V.cond rfl (fun h14 => ?_) (fun h14 => ?_) | refine V.condB rfl (fun h14 => ?_) (fun h14 => ?_)
  ·
    have hbad : lex (bl s) = none := by unfold lex; rw [if_pos (by rw [bl_length]; omega)]
    refine V.seq ?_
    refine V.region ?_
    refine L.rd (rd_assign rfl) rfl ?_
    refine L.rd (rd_assign rfl) rfl ?_
    refine L.nil ?_
    refine X.sq ?_
    refine V.ret ?_
    refine X.sqRet ?_
    refine ret_2 Yaam.results25 rfl rfl ?_
    exact LexPost.bad (Ext.refl _ _) hbad
  ·
    have hs2 : s.size ≤ 20000000 := by omega
    have hlex := lex_of hs2
    refine V.skip ?_
    refine X.sq ?_
    refine V.seq ?_
    refine V.region ?_
    refine L.ef (e_make0 (e := 99) tok rfl rfl rfl rfl rfl rfl rfl (by first | (simp only [size_addB, size_setB, size_drew]; rfl) | rfl) rfl ?_)
    refine L.rd (rd_assign rfl) rfl ?_
    refine L.nil ?_
    refine X.sq ?_
    refine V.seq ?_
    refine V.region ?_
    refine L.rd (rd_assign rfl) rfl ?_
    refine L.nil ?_
    refine X.sq ?_
    refine V.seq ?_
    refine V.block ?_
    refine V.loop (fun m l wr => ∃ (k : Nat) (sv : Value) (acc : List (Int × Int)), l = [(0, .string s), (4, .int .i64 s.size), (5, sv), (6, .int .i64 k)] ∧ m = s.size - k ∧ Lx s w wr k sv acc) ?_ ?_
    ·
      exact ⟨_, _, (by repeat' (first | exact trivial | refine ⟨rfl, ?_⟩)), 0, _, [], rfl, rfl, Nat.zero_le _, Nat.zero_le _, own_empty (Bl.new w _ _) (Nat.le_refl _), (Ext.refl _ _).add (Nat.le_refl _) _ _, rfl⟩
    ·
      rintro m l wr ⟨k, sv, acc, rfl, rfl, hx⟩
      have hle := hx.le
      obtain ⟨sa, sn, hsv⟩ := slice_form hx.own
      subst hsv
      refine V.seq ?_
      refine V.seq ?_
      refine V.region ?_
      refine L.rd (rd_move rfl) rfl ?_
      refine L.rd (rd_move rfl) rfl ?_
      refine L.rd (rd_lss rfl rfl) rfl ?_
      refine L.nil ?_
      refine X.sq ?_
      first | refine V.cond rfl (fun h18 => ?_) (fun h18 => ?_) | refine V.condB rfl (fun h18 => ?_) (fun h18 => ?_)
      ·
        obtain ⟨c, hc, hc256⟩ := bl_some s k (by omega)
        have hcons := hx.cons hc
        have hlr := hx.rest
        have hlen := hx.len
        refine V.skip ?_
        refine X.sq ?_
        refine V.block ?_
        refine V.seq ?_
        refine V.region ?_
        refine L.rd (rd_move rfl) rfl ?_
        refine L.rd (rd_move rfl) rfl ?_
        refine L.rd (rd_indexStr tok rfl rfl rfl rfl (by assumption)) rfl ?_
        refine L.rd (rd_assign rfl) rfl ?_
        refine L.nil ?_
        refine X.sq ?_
        refine V.seq ?_
        refine V.seq ?_
        refine V.region ?_
        refine L.rd (rd_move rfl) rfl ?_
        refine L.rd (rd_eql rfl rfl) rfl ?_
        refine L.rd (rd_move rfl) rfl ?_
        first | refine L.partG rfl rfl (fun g24 => ?_) (fun g24 => ?_) | refine L.partGB rfl rfl (fun g24 => ?_) (fun g24 => ?_)
        ·
          refine L.no rfl rfl rfl rfl ?_
          refine L.no rfl rfl rfl rfl ?_
          refine L.rd (rd_pickT rfl rfl) rfl ?_
          refine L.rd (rd_move rfl) rfl ?_
          refine L.no rfl rfl rfl rfl ?_
          refine L.no rfl rfl rfl rfl ?_
          refine L.rd (rd_pickT rfl rfl) rfl ?_
          refine L.rd (rd_move rfl) rfl ?_
          refine L.no rfl rfl rfl rfl ?_
          refine L.no rfl rfl rfl rfl ?_
          refine L.rd (rd_pickT rfl rfl) rfl ?_
          refine L.nil ?_
          refine X.sq ?_
          refine V.condT rfl ?_
          refine V.seq ?_
          refine V.region ?_
          refine L.rd (rd_move rfl) rfl ?_
          (refine L.rd (rd_add3 rfl rfl ?_) rfl ?_; omega)
          refine L.rd (rd_assign rfl) rfl ?_
          refine L.nil ?_
          refine X.sq ?_
          refine V.exit ?_
          refine X.sqExit ?_
          refine X.bkHere ?_
          exact X.lp ⟨_, _, by omega, (by repeat' (first | exact trivial | refine ⟨rfl, ?_⟩)), k + 1, _, acc, rfl, rfl, hx.space hc (is_space (by omega))⟩
        ·
          refine L.yes rfl rfl ?_
          refine L.rd (rd_move rfl) rfl ?_
          refine L.yes rfl rfl ?_
          refine L.rd (rd_eql rfl rfl) rfl ?_
          refine L.rd (rd_pickF rfl rfl) rfl ?_
          refine L.rd (rd_move rfl) rfl ?_
          first | refine L.partG rfl rfl (fun g28 => ?_) (fun g28 => ?_) | refine L.partGB rfl rfl (fun g28 => ?_) (fun g28 => ?_)
          ·
            refine L.no rfl rfl rfl rfl ?_
            refine L.no rfl rfl rfl rfl ?_
            refine L.rd (rd_pickT rfl rfl) rfl ?_
            refine L.rd (rd_move rfl) rfl ?_
            refine L.no rfl rfl rfl rfl ?_
            refine L.no rfl rfl rfl rfl ?_
            refine L.rd (rd_pickT rfl rfl) rfl ?_
            refine L.nil ?_
            refine X.sq ?_
            refine V.condT rfl ?_
            refine V.seq ?_
            refine V.region ?_
            refine L.rd (rd_move rfl) rfl ?_
            (refine L.rd (rd_add3 rfl rfl ?_) rfl ?_; omega)
            refine L.rd (rd_assign rfl) rfl ?_
            refine L.nil ?_
            refine X.sq ?_
            refine V.exit ?_
            refine X.sqExit ?_
            refine X.bkHere ?_
            exact X.lp ⟨_, _, by omega, (by repeat' (first | exact trivial | refine ⟨rfl, ?_⟩)), k + 1, _, acc, rfl, rfl, hx.space hc (is_space (by omega))⟩
          ·
            refine L.yes rfl rfl ?_
            refine L.rd (rd_move rfl) rfl ?_
            refine L.yes rfl rfl ?_
            refine L.rd (rd_eql rfl rfl) rfl ?_
            refine L.rd (rd_pickF rfl rfl) rfl ?_
            refine L.rd (rd_move rfl) rfl ?_
            first | refine L.partG rfl rfl (fun g32 => ?_) (fun g32 => ?_) | refine L.partGB rfl rfl (fun g32 => ?_) (fun g32 => ?_)
            ·
              refine L.no rfl rfl rfl rfl ?_
              refine L.no rfl rfl rfl rfl ?_
              refine L.rd (rd_pickT rfl rfl) rfl ?_
              refine L.nil ?_
              refine X.sq ?_
              refine V.condT rfl ?_
              refine V.seq ?_
              refine V.region ?_
              refine L.rd (rd_move rfl) rfl ?_
              (refine L.rd (rd_add3 rfl rfl ?_) rfl ?_; omega)
              refine L.rd (rd_assign rfl) rfl ?_
              refine L.nil ?_
              refine X.sq ?_
              refine V.exit ?_
              refine X.sqExit ?_
              refine X.bkHere ?_
              exact X.lp ⟨_, _, by omega, (by repeat' (first | exact trivial | refine ⟨rfl, ?_⟩)), k + 1, _, acc, rfl, rfl, hx.space hc (is_space (by omega))⟩
            ·
              refine L.yes rfl rfl ?_
              refine L.rd (rd_move rfl) rfl ?_
              refine L.yes rfl rfl ?_
              refine L.rd (rd_eql rfl rfl) rfl ?_
              refine L.rd (rd_pickF rfl rfl) rfl ?_
              refine L.nil ?_
              refine X.sq ?_
              first | refine V.cond rfl (fun h35 => ?_) (fun h35 => ?_) | refine V.condB rfl (fun h35 => ?_) (fun h35 => ?_)
              ·
                refine V.seq ?_
                refine V.region ?_
                refine L.rd (rd_move rfl) rfl ?_
                (refine L.rd (rd_add3 rfl rfl ?_) rfl ?_; omega)
                refine L.rd (rd_assign rfl) rfl ?_
                refine L.nil ?_
                refine X.sq ?_
                refine V.exit ?_
                refine X.sqExit ?_
                refine X.bkHere ?_
                exact X.lp ⟨_, _, by omega, (by repeat' (first | exact trivial | refine ⟨rfl, ?_⟩)), k + 1, _, acc, rfl, rfl, hx.space hc (is_space (by omega))⟩
              ·
                refine V.skip ?_
                refine X.sq ?_
                refine V.seq ?_
                refine V.seq ?_
                have hsp : isSp c = false := not_space (by omega) (by omega) (by omega) (by omega)
                refine V.region ?_
                refine L.rd (rd_move rfl) rfl ?_
                refine L.rd (rd_lenSlice tok rfl rfl rfl) rfl ?_
                refine L.rd (rd_geq rfl rfl) rfl ?_
                refine L.nil ?_
                refine X.sq ?_
                first | refine V.cond rfl (fun h40 => ?_) (fun h40 => ?_) | refine V.condB rfl (fun h40 => ?_) (fun h40 => ?_)
                ·
                  refine V.seq ?_
                  refine V.region ?_
                  refine L.rd (rd_assign rfl) rfl ?_
                  refine L.rd (rd_assign rfl) rfl ?_
                  refine L.nil ?_
                  refine X.sq ?_
                  refine V.ret ?_
                  refine X.sqRet ?_
                  refine X.bkRet ?_
                  refine X.lpRet ?_
                  refine X.bkRet ?_
                  refine X.sqRet ?_
                  refine ret_2 Yaam.results25 rfl rfl ?_
                  exact LexPost.bad hx.ext (by rw [hlex, ← hlr]; exact lexR_full hcons hsp (by omega))
                ·
                  have hfull : ¬ 2000000 ≤ acc.length := by omega
                  refine V.skip ?_
                  refine X.sq ?_
                  refine V.seq ?_
                  refine V.seq ?_
                  refine V.cut (fun l w' => l = [(0, .string s), (4, .int .i64 s.size), (5, .slice sa acc.length sn), (6, .int .i64 k), (7, .int .u8 c), (46, .bool (decide (48 ≤ (c : Int) ∧ (c : Int) ≤ 57)))] ∧ wr = w') ?_ ?_
                  ·
                    refine V.region ?_
                    refine L.rd (rd_move rfl) rfl ?_
                    refine L.rd (rd_geq rfl rfl) rfl ?_
                    refine L.rd (rd_move rfl) rfl ?_
                    first | refine L.partG rfl rfl (fun g43 => ?_) (fun g43 => ?_) | refine L.partGB rfl rfl (fun g43 => ?_) (fun g43 => ?_)
                    ·
                      refine L.yes rfl rfl ?_
                      refine L.rd (rd_move rfl) rfl ?_
                      refine L.yes rfl rfl ?_
                      refine L.rd (rd_leq rfl rfl) rfl ?_
                      refine L.rd (rd_pickT rfl rfl) rfl ?_
                      refine L.nil ?_
                      exact X.ct ⟨_, by exact ⟨rfl, rfl, rfl, rfl, rfl, bool_dec (by simp; omega), trivial⟩, rfl, rfl⟩
                    ·
                      refine L.no rfl rfl rfl rfl ?_
                      refine L.no rfl rfl rfl rfl ?_
                      refine L.rd (rd_pickF rfl rfl) rfl ?_
                      refine L.nil ?_
                      exact X.ct ⟨_, by exact ⟨rfl, rfl, rfl, rfl, rfl, bool_dec (by simp; omega), trivial⟩, rfl, rfl⟩
                  ·
                    rintro l w' ⟨rfl, rfl⟩
                    refine X.sq ?_
                    first | refine V.cond rfl (fun h46 => ?_) (fun h46 => ?_) | refine V.condB rfl (fun h46 => ?_) (fun h46 => ?_)
                    ·
                      have hdg : isDg c = true := is_digit h46
                      refine V.seq ?_
                      refine V.region ?_
                      refine L.rd (rd_assign rfl) rfl ?_
                      refine L.nil ?_
                      refine X.sq ?_
                      refine V.seq ?_
                      refine V.cut (fun l w' => ∃ j : Nat, l = [(0, .string s), (4, .int .i64 s.size), (5, .slice sa acc.length sn), (6, .int .i64 j), (8, .int .u64 (nv 0 (seg s k j)))] ∧ wr = w' ∧ k < j ∧ j ≤ s.size ∧ nv 0 (seg s k j) < 18446744073709551616 ∧ (bl s).drop j = ((bl s).drop k).dropWhile isDg ∧ seg s k j = ((bl s).drop k).takeWhile isDg) ?_ ?_
                      ·
                        refine V.block ?_
                        refine V.loop (fun m l w' => ∃ j : Nat, l = [(0, .string s), (4, .int .i64 s.size), (5, .slice sa acc.length sn), (6, .int .i64 j), (8, .int .u64 (nv 0 (seg s k j)))] ∧ wr = w' ∧ m = s.size - j ∧ k ≤ j ∧ j ≤ s.size ∧ nv 0 (seg s k j) < 18446744073709551616 ∧ (∀ q, k ≤ q → q < j → ∃ c, (bl s)[q]? = some c ∧ isDg c = true)) ?_ ?_
                        ·
                          exact ⟨_, _, by exact ⟨rfl, rfl, rfl, rfl, by rw [seg_self]; rfl, trivial⟩, k, rfl, rfl, rfl, Nat.le_refl _, by omega, by rw [seg_self]; decide, fun q h1 h2 => by omega⟩
                        ·
                          rintro m l w' ⟨j, rfl, rfl, rfl, hkj, hjs, hnv, hall⟩
                          refine V.seq ?_
                          refine V.seq ?_
                          refine V.region ?_
                          refine L.rd (rd_move rfl) rfl ?_
                          refine L.rd (rd_move rfl) rfl ?_
                          refine L.rd (rd_lss rfl rfl) rfl ?_
                          refine L.rd (rd_move rfl) rfl ?_
                          first | refine L.partG rfl rfl (fun g50 => ?_) (fun g50 => ?_) | refine L.partGB rfl rfl (fun g50 => ?_) (fun g50 => ?_)
                          ·
                            obtain ⟨e, he, he256⟩ := bl_some s j (by omega)
                            refine L.yes rfl rfl ?_
                            refine L.rd (rd_move rfl) rfl ?_
                            refine L.yes rfl rfl ?_
                            refine L.rd (rd_move rfl) rfl ?_
                            refine L.yes rfl rfl ?_
                            refine L.rd (rd_indexStr tok rfl rfl rfl rfl (by assumption)) rfl ?_
                            refine L.yes rfl rfl ?_
                            refine L.rd (rd_geq rfl rfl) rfl ?_
                            refine L.rd (rd_pickT rfl rfl) rfl ?_
                            refine L.rd (rd_move rfl) rfl ?_
                            first | refine L.partG rfl rfl (fun g56 => ?_) (fun g56 => ?_) | refine L.partGB rfl rfl (fun g56 => ?_) (fun g56 => ?_)
                            ·
                              refine L.yes rfl rfl ?_
                              refine L.rd (rd_move rfl) rfl ?_
                              refine L.yes rfl rfl ?_
                              refine L.rd (rd_move rfl) rfl ?_
                              refine L.yes rfl rfl ?_
                              refine L.rd (rd_indexStr tok rfl rfl rfl rfl (by assumption)) rfl ?_
                              refine L.yes rfl rfl ?_
                              refine L.rd (rd_leq rfl rfl) rfl ?_
                              refine L.rd (rd_pickT rfl rfl) rfl ?_
                              refine L.nil ?_
                              refine X.sq ?_
                              first | refine V.cond rfl (fun h61 => ?_) (fun h61 => ?_) | refine V.condB rfl (fun h61 => ?_) (fun h61 => ?_)
                              ·
                                have hde : 48 ≤ e ∧ e ≤ 57 := by omega
                                have hd9 := dv_le e hde
                                refine V.skip ?_
                                refine X.sq ?_
                                refine V.block ?_
                                refine V.seq ?_
                                refine V.region ?_
                                refine L.rd (rd_move rfl) rfl ?_
                                refine L.rd (rd_move rfl) rfl ?_
                                refine L.rd (rd_indexStr tok rfl rfl rfl rfl (by assumption)) rfl ?_
                                refine L.rd (rd_subE rfl rfl (u8sub e hde)) rfl ?_
                                refine L.rd (rd_convE tok rfl rfl rfl rfl rfl (u64_of_nat (dv e) (by omega))) rfl ?_
                                refine L.rd (rd_assign rfl) rfl ?_
                                refine L.nil ?_
                                refine X.sq ?_
                                refine V.seq ?_
                                refine V.seq ?_
                                refine V.region ?_
                                refine L.rd (rd_move rfl) rfl ?_
                                refine L.rd (rd_move rfl) rfl ?_
                                refine L.rd (rd_subE (r := 18446744073709551615 - (dv e : Int)) rfl rfl (wrap_u64_in (by omega))) rfl ?_
                                refine L.rd (rd_quoE (r := (18446744073709551615 - (dv e : Int)) / 10) rfl rfl (by decide) (by rw [Int.tdiv_eq_ediv_of_nonneg (by omega)]; exact wrap_u64_in (by omega))) rfl ?_
                                refine L.rd (rd_gtr rfl rfl) rfl ?_
                                refine L.nil ?_
                                refine X.sq ?_
                                first | refine V.cond rfl (fun h71 => ?_) (fun h71 => ?_) | refine V.condB rfl (fun h71 => ?_) (fun h71 => ?_)
                                ·
                                  refine V.seq ?_
                                  refine V.region ?_
                                  refine L.rd (rd_assign rfl) rfl ?_
                                  refine L.rd (rd_assign rfl) rfl ?_
                                  refine L.nil ?_
                                  refine X.sq ?_
                                  refine V.ret ?_
                                  refine X.sqRet ?_
                                  refine X.bkRet ?_
                                  refine X.lpRet ?_
                                  refine X.bkRet ?_
                                  refine X.ctRet ?_
                                  refine X.sqRet ?_
                                  refine X.sqRet ?_
                                  refine X.bkRet ?_
                                  refine X.lpRet ?_
                                  refine X.bkRet ?_
                                  refine X.sqRet ?_
                                  refine ret_2 Yaam.results25 rfl rfl ?_
                                  exact LexPost.bad hx.ext (by
                                    rw [hlex, ← hlr, lexR_num hcons hsp hfull hdg, if_neg]
                                    have hlt := (List.getElem?_eq_some_iff.1 he).1
                                    refine seg_stop _ (seg s k (j + 1)) (((bl s).drop (k + (j + 1 - k))).takeWhile isDg) (run_pre (bl s) k (j + 1 - k) (by omega) (fun q h1 h2 => ?_)) ?_
                                    · rcases Nat.lt_or_ge q j with h | h
                                      · exact hall q h1 h
                                      · have : q = j := by omega
                                        subst this; exact ⟨e, he, is_digit (by omega)⟩
                                    · rw [seg_snoc s k j e hkj he, nv_snoc]; exact (over_iff _ _ hd9).1 h71)
                                ·
                                  refine V.skip ?_
                                  refine X.sq ?_
                                  refine V.seq ?_
                                  refine V.region ?_
                                  refine L.rd (rd_move rfl) rfl ?_
                                  refine L.rd (rd_mulE (r := (nv 0 (seg s k j) : Int) * 10) rfl rfl (wrap_u64_in (by omega))) rfl ?_
                                  refine L.rd (rd_move rfl) rfl ?_
                                  refine L.rd (rd_addE (r := (nv 0 (seg s k (j + 1)) : Int)) rfl rfl (by rw [seg_snoc s k j e hkj he, nv_snoc]; rw [wrap_u64_in (by omega)]; omega)) rfl ?_
                                  refine L.rd (rd_assign rfl) rfl ?_
                                  refine L.nil ?_
                                  refine X.sq ?_
                                  refine V.region ?_
                                  refine L.rd (rd_move rfl) rfl ?_
                                  (refine L.rd (rd_add3 rfl rfl ?_) rfl ?_; omega)
                                  refine L.rd (rd_assign rfl) rfl ?_
                                  refine L.nil ?_
                                  refine X.bk ?_
                                  have hv' : nv 0 (seg s k (j + 1)) < 18446744073709551616 := by rw [seg_snoc s k j e hkj he, nv_snoc]; omega
                                  exact X.lp ⟨_, _, by omega, (by repeat' (first | exact trivial | refine ⟨rfl, ?_⟩)), j + 1, rfl, rfl, rfl, by omega, by omega, hv', fun q h1 h2 => by
                                    rcases Nat.lt_or_ge q j with h | h
                                    · exact hall q h1 h
                                    · have : q = j := by omega
                                      subst this; exact ⟨e, he, is_digit (by omega)⟩⟩
                              ·
                                refine V.exit ?_
                                refine X.sqExit ?_
                                refine X.lpExit ?_
                                refine X.bkHere ?_
                                have hend : ∀ c, (bl s)[j]? = some c → isDg c = false := by
                                  intro c' hc'
                                  first
                                    | (exfalso; have := (List.getElem?_eq_some_iff.1 hc').1; rw [bl_length] at this; omega)
                                    | (rw [he] at hc'; simp only [Option.some.injEq] at hc'; subst hc'; exact not_digit (by omega))
                                have hlt : k < j := by
                                  rcases Nat.lt_or_ge k j with h | h
                                  · exact h
                                  · have : j = k := by omega
                                    subst this
                                    rw [hend c hc] at hdg; cases hdg
                                have hrun := run_ends (bl s) k j hkj (by rw [bl_length]; omega) hall hend
                                exact X.ct ⟨_, by exact ⟨rfl, rfl, rfl, rfl, rfl, trivial⟩, j, rfl, rfl, hlt, hjs, hnv, hrun.2.symm, hrun.1.symm⟩
                            ·
                              refine L.no rfl rfl rfl rfl ?_
                              refine L.no rfl rfl rfl rfl ?_
                              refine L.no rfl rfl rfl rfl ?_
                              refine L.no rfl rfl rfl rfl ?_
                              refine L.rd (rd_pickF rfl rfl) rfl ?_
                              refine L.nil ?_
                              refine X.sq ?_
                              refine V.condF rfl ?_
                              refine V.exit ?_
                              refine X.sqExit ?_
                              refine X.lpExit ?_
                              refine X.bkHere ?_
                              have hend : ∀ c, (bl s)[j]? = some c → isDg c = false := by
                                intro c' hc'
                                first
                                  | (exfalso; have := (List.getElem?_eq_some_iff.1 hc').1; rw [bl_length] at this; omega)
                                  | (rw [he] at hc'; simp only [Option.some.injEq] at hc'; subst hc'; exact not_digit (by omega))
                              have hlt : k < j := by
                                rcases Nat.lt_or_ge k j with h | h
                                · exact h
                                · have : j = k := by omega
                                  subst this
                                  rw [hend c hc] at hdg; cases hdg
                              have hrun := run_ends (bl s) k j hkj (by rw [bl_length]; omega) hall hend
                              exact X.ct ⟨_, by exact ⟨rfl, rfl, rfl, rfl, rfl, trivial⟩, j, rfl, rfl, hlt, hjs, hnv, hrun.2.symm, hrun.1.symm⟩
                          ·
                            refine L.no rfl rfl rfl rfl ?_
                            refine L.no rfl rfl rfl rfl ?_
                            refine L.no rfl rfl rfl rfl ?_
                            refine L.no rfl rfl rfl rfl ?_
                            refine L.rd (rd_pickF rfl rfl) rfl ?_
                            refine L.rd (rd_move rfl) rfl ?_
                            refine L.no rfl rfl rfl rfl ?_
                            refine L.no rfl rfl rfl rfl ?_
                            refine L.no rfl rfl rfl rfl ?_
                            refine L.no rfl rfl rfl rfl ?_
                            refine L.rd (rd_pickF rfl rfl) rfl ?_
                            refine L.nil ?_
                            refine X.sq ?_
                            refine V.condF rfl ?_
                            refine V.exit ?_
                            refine X.sqExit ?_
                            refine X.lpExit ?_
                            refine X.bkHere ?_
                            have hend : ∀ c, (bl s)[j]? = some c → isDg c = false := by
                              intro c' hc'
                              first
                                | (exfalso; have := (List.getElem?_eq_some_iff.1 hc').1; rw [bl_length] at this; omega)
                                | (rw [he] at hc'; simp only [Option.some.injEq] at hc'; subst hc'; exact not_digit (by omega))
                            have hlt : k < j := by
                              rcases Nat.lt_or_ge k j with h | h
                              · exact h
                              · have : j = k := by omega
                                subst this
                                rw [hend c hc] at hdg; cases hdg
                            have hrun := run_ends (bl s) k j hkj (by rw [bl_length]; omega) hall hend
                            exact X.ct ⟨_, by exact ⟨rfl, rfl, rfl, rfl, rfl, trivial⟩, j, rfl, rfl, hlt, hjs, hnv, hrun.2.symm, hrun.1.symm⟩
                      ·
                        rintro l w' ⟨j, rfl, rfl, hkj, hjs, hnv, hdrop, hseg⟩
                        refine X.sq ?_
                        refine V.seq ?_
                        refine V.region ?_
                        refine L.rd (rd_move rfl) rfl ?_
                        refine L.rd (rd_move rfl) rfl ?_
                        refine L.rd (rd_convE tok rfl rfl rfl rfl rfl (i64_of_nat _ hnv)) rfl ?_
                        refine L.rd (rd_build (out := [_, _]) tok rfl rfl rfl rfl rfl) rfl ?_
                        refine L.ef (e_buildSlice1 (e := 99) (cs := [_, _]) tok rfl rfl rfl rfl rfl rfl rfl rfl rfl (by first | (simp only [size_addB, size_setB, size_drew]; rfl) | rfl) rfl ?_)
                        refine L.ef (e_append tok rfl rfl rfl rfl rfl rfl rfl rfl rfl rfl (hx.own.alloc _) (Bl.new _ _ _).cells rfl (by simp [Value.oneCell']) (by unfold maxLen; omega) (by simp only []; omega) (by have := hx.ext.size; rw [size_addB]; omega) ?_)
                        rintro v1 w1 ho1 hg1
                        refine L.rd (rd_assign rfl) rfl ?_
                        refine L.nil ?_
                        refine X.sq ?_
                        refine V.exit ?_
                        refine X.sqExit ?_
                        refine X.bkHere ?_
                        exact X.lp ⟨_, _, by omega, (by repeat' (first | exact trivial | refine ⟨rfl, ?_⟩)), j, _, _, rfl, rfl, hx.grow ⟨by omega, hjs⟩ ho1 hg1 (by rw [lexR_num hcons hsp hfull hdg, ← hseg, if_pos hnv, hdrop])⟩
                    ·
                      have hdg : isDg c = false := not_digit h46
                      refine V.skip ?_
                      refine X.sq ?_
                      refine V.seq ?_
                      refine V.seq ?_
                      refine V.cut (fun l w' => l = [(0, .string s), (4, .int .i64 s.size), (5, .slice sa acc.length sn), (6, .int .i64 k), (7, .int .u8 c), (89, .bool (decide (97 ≤ (c : Int) ∧ (c : Int) ≤ 122)))] ∧ wr = w') ?_ ?_
                      ·
                        refine V.region ?_
                        refine L.rd (rd_move rfl) rfl ?_
                        refine L.rd (rd_geq rfl rfl) rfl ?_
                        refine L.rd (rd_move rfl) rfl ?_
                        first | refine L.partG rfl rfl (fun g86 => ?_) (fun g86 => ?_) | refine L.partGB rfl rfl (fun g86 => ?_) (fun g86 => ?_)
                        ·
                          refine L.yes rfl rfl ?_
                          refine L.rd (rd_move rfl) rfl ?_
                          refine L.yes rfl rfl ?_
                          refine L.rd (rd_leq rfl rfl) rfl ?_
                          refine L.rd (rd_pickT rfl rfl) rfl ?_
                          refine L.nil ?_
                          exact X.ct ⟨_, by exact ⟨rfl, rfl, rfl, rfl, rfl, bool_dec (by simp; omega), trivial⟩, rfl, rfl⟩
                        ·
                          refine L.no rfl rfl rfl rfl ?_
                          refine L.no rfl rfl rfl rfl ?_
                          refine L.rd (rd_pickF rfl rfl) rfl ?_
                          refine L.nil ?_
                          exact X.ct ⟨_, by exact ⟨rfl, rfl, rfl, rfl, rfl, bool_dec (by simp; omega), trivial⟩, rfl, rfl⟩
                      ·
                        rintro l w' ⟨rfl, rfl⟩
                        refine X.sq ?_
                        first | refine V.cond rfl (fun h89 => ?_) (fun h89 => ?_) | refine V.condB rfl (fun h89 => ?_) (fun h89 => ?_)
                        ·
                          refine V.seq ?_
                          refine V.region ?_
                          refine L.rd (rd_move rfl) rfl ?_
                          refine L.rd (rd_move rfl) rfl ?_
                          refine L.rd (rd_subE (r := (c : Int) - 97) rfl rfl (wrap_u8_in (by omega))) rfl ?_
                          refine L.rd (rd_convE (r := (c : Int) - 97) tok rfl rfl rfl rfl rfl (wrap_i64_in (by omega))) rfl ?_
                          refine L.rd (rd_build (out := [_, _]) tok rfl rfl rfl rfl rfl) rfl ?_
                          refine L.ef (e_buildSlice1 (e := 99) (cs := [_, _]) tok rfl rfl rfl rfl rfl rfl rfl rfl rfl (by first | (simp only [size_addB, size_setB, size_drew]; rfl) | rfl) rfl ?_)
                          refine L.ef (e_append tok rfl rfl rfl rfl rfl rfl rfl rfl rfl rfl (hx.own.alloc _) (Bl.new _ _ _).cells rfl (by simp [Value.oneCell']) (by unfold maxLen; omega) (by simp only []; omega) (by have := hx.ext.size; rw [size_addB]; omega) ?_)
                          rintro v1 w1 ho1 hg1
                          refine L.rd (rd_assign rfl) rfl ?_
                          refine L.nil ?_
                          refine X.sq ?_
                          refine V.seq ?_
                          refine V.region ?_
                          refine L.rd (rd_move rfl) rfl ?_
                          (refine L.rd (rd_add3 rfl rfl ?_) rfl ?_; omega)
                          refine L.rd (rd_assign rfl) rfl ?_
                          refine L.nil ?_
                          refine X.sq ?_
                          refine V.exit ?_
                          refine X.sqExit ?_
                          refine X.bkHere ?_
                          exact X.lp ⟨_, _, by omega, (by repeat' (first | exact trivial | refine ⟨rfl, ?_⟩)), k + 1, _, _, rfl, rfl, hx.grow ⟨by omega, by omega⟩ ho1 hg1 (lexR_var hcons hsp hfull hdg (by omega)).symm⟩
                        ·
                          refine V.skip ?_
                          refine X.sq ?_
                          refine V.seq ?_
                          refine V.region ?_
                          refine L.rd (rd_assign rfl) rfl ?_
                          refine L.nil ?_
                          refine X.sq ?_
                          refine V.seq ?_
                          refine V.seq ?_
                          refine V.region ?_
                          refine L.rd (rd_move rfl) rfl ?_
                          refine L.nil ?_
                          refine X.sq ?_
                          refine V.cut (fun l w' => l = [(0, .string s), (4, .int .i64 s.size), (5, .slice sa acc.length sn), (6, .int .i64 k), (10, .int .i64 (opK c))] ∧ wr = w') ?_ ?_
                          ·
                            refine V.block ?_
                            refine V.seq ?_
                            refine V.region ?_
                            refine L.rd (rd_eql rfl rfl) rfl ?_
                            refine L.rd (rd_assign rfl) rfl ?_
                            refine L.nil ?_
                            refine X.sq ?_
                            first | refine V.cond rfl (fun h100 => ?_) (fun h100 => ?_) | refine V.condB rfl (fun h100 => ?_) (fun h100 => ?_)
                            ·
                              refine V.region ?_
                              refine L.rd (rd_assign rfl) rfl ?_
                              refine L.nil ?_
                              refine X.bk ?_
                              exact X.ct ⟨_, by exact ⟨rfl, rfl, rfl, rfl, congrArg (fun z => some (Value.int .i64 z)) (opK_eq c _ (by omega)).symm, trivial⟩, rfl, rfl⟩
                            ·
                              refine V.seq ?_
                              refine V.region ?_
                              refine L.rd (rd_eql rfl rfl) rfl ?_
                              refine L.rd (rd_assign rfl) rfl ?_
                              refine L.nil ?_
                              refine X.sq ?_
                              first | refine V.cond rfl (fun h102 => ?_) (fun h102 => ?_) | refine V.condB rfl (fun h102 => ?_) (fun h102 => ?_)
                              ·
                                refine V.region ?_
                                refine L.rd (rd_assign rfl) rfl ?_
                                refine L.nil ?_
                                refine X.bk ?_
                                exact X.ct ⟨_, by exact ⟨rfl, rfl, rfl, rfl, congrArg (fun z => some (Value.int .i64 z)) (opK_eq c _ (by omega)).symm, trivial⟩, rfl, rfl⟩
                              ·
                                refine V.seq ?_
                                refine V.region ?_
                                refine L.rd (rd_eql rfl rfl) rfl ?_
                                refine L.rd (rd_assign rfl) rfl ?_
                                refine L.nil ?_
                                refine X.sq ?_
                                first | refine V.cond rfl (fun h104 => ?_) (fun h104 => ?_) | refine V.condB rfl (fun h104 => ?_) (fun h104 => ?_)
                                ·
                                  refine V.region ?_
                                  refine L.rd (rd_assign rfl) rfl ?_
                                  refine L.nil ?_
                                  refine X.bk ?_
                                  exact X.ct ⟨_, by exact ⟨rfl, rfl, rfl, rfl, congrArg (fun z => some (Value.int .i64 z)) (opK_eq c _ (by omega)).symm, trivial⟩, rfl, rfl⟩
                                ·
                                  refine V.seq ?_
                                  refine V.region ?_
                                  refine L.rd (rd_eql rfl rfl) rfl ?_
                                  refine L.rd (rd_assign rfl) rfl ?_
                                  refine L.nil ?_
                                  refine X.sq ?_
                                  first | refine V.cond rfl (fun h106 => ?_) (fun h106 => ?_) | refine V.condB rfl (fun h106 => ?_) (fun h106 => ?_)
                                  ·
                                    refine V.region ?_
                                    refine L.rd (rd_assign rfl) rfl ?_
                                    refine L.nil ?_
                                    refine X.bk ?_
                                    exact X.ct ⟨_, by exact ⟨rfl, rfl, rfl, rfl, congrArg (fun z => some (Value.int .i64 z)) (opK_eq c _ (by omega)).symm, trivial⟩, rfl, rfl⟩
                                  ·
                                    refine V.seq ?_
                                    refine V.region ?_
                                    refine L.rd (rd_eql rfl rfl) rfl ?_
                                    refine L.rd (rd_assign rfl) rfl ?_
                                    refine L.nil ?_
                                    refine X.sq ?_
                                    first | refine V.cond rfl (fun h108 => ?_) (fun h108 => ?_) | refine V.condB rfl (fun h108 => ?_) (fun h108 => ?_)
                                    ·
                                      refine V.region ?_
                                      refine L.rd (rd_assign rfl) rfl ?_
                                      refine L.nil ?_
                                      refine X.bk ?_
                                      exact X.ct ⟨_, by exact ⟨rfl, rfl, rfl, rfl, congrArg (fun z => some (Value.int .i64 z)) (opK_eq c _ (by omega)).symm, trivial⟩, rfl, rfl⟩
                                    ·
                                      refine V.seq ?_
                                      refine V.region ?_
                                      refine L.rd (rd_eql rfl rfl) rfl ?_
                                      refine L.rd (rd_assign rfl) rfl ?_
                                      refine L.nil ?_
                                      refine X.sq ?_
                                      first | refine V.cond rfl (fun h110 => ?_) (fun h110 => ?_) | refine V.condB rfl (fun h110 => ?_) (fun h110 => ?_)
                                      ·
                                        refine V.region ?_
                                        refine L.rd (rd_assign rfl) rfl ?_
                                        refine L.nil ?_
                                        refine X.bk ?_
                                        exact X.ct ⟨_, by exact ⟨rfl, rfl, rfl, rfl, congrArg (fun z => some (Value.int .i64 z)) (opK_eq c _ (by omega)).symm, trivial⟩, rfl, rfl⟩
                                      ·
                                        refine V.skip ?_
                                        refine X.bk ?_
                                        exact X.ct ⟨_, by exact ⟨rfl, rfl, rfl, rfl, congrArg (fun z => some (Value.int .i64 z)) (opK_eq c _ (by omega)).symm, trivial⟩, rfl, rfl⟩
                          ·
                            rintro l w' ⟨rfl, rfl⟩
                            have hop := lexR_op hcons hsp hfull hdg (by omega)
                            refine X.sq ?_
                            refine V.seq ?_
                            refine V.seq ?_
                            refine V.region ?_
                            refine L.rd (rd_move rfl) rfl ?_
                            refine L.rd (rd_eql rfl rfl) rfl ?_
                            refine L.nil ?_
                            refine X.sq ?_
                            first | refine V.cond rfl (fun h113 => ?_) (fun h113 => ?_) | refine V.condB rfl (fun h113 => ?_) (fun h113 => ?_)
                            ·
                              refine V.seq ?_
                              refine V.region ?_
                              refine L.rd (rd_assign rfl) rfl ?_
                              refine L.rd (rd_assign rfl) rfl ?_
                              refine L.nil ?_
                              refine X.sq ?_
                              refine V.ret ?_
                              refine X.sqRet ?_
                              refine X.bkRet ?_
                              refine X.lpRet ?_
                              refine X.bkRet ?_
                              refine X.sqRet ?_
                              refine ret_2 Yaam.results25 rfl rfl ?_
                              exact LexPost.bad hx.ext (by rw [hlex, ← hlr, hop, if_pos h113])
                            ·
                              refine V.skip ?_
                              refine X.sq ?_
                              refine V.seq ?_
                              refine V.region ?_
                              refine L.rd (rd_move rfl) rfl ?_
                              refine L.rd (rd_move rfl) rfl ?_
                              refine L.rd (rd_build (out := [_, _]) tok rfl rfl rfl rfl rfl) rfl ?_
                              refine L.ef (e_buildSlice1 (e := 99) (cs := [_, _]) tok rfl rfl rfl rfl rfl rfl rfl rfl rfl (by first | (simp only [size_addB, size_setB, size_drew]; rfl) | rfl) rfl ?_)
                              refine L.ef (e_append tok rfl rfl rfl rfl rfl rfl rfl rfl rfl rfl (hx.own.alloc _) (Bl.new _ _ _).cells rfl (by simp [Value.oneCell']) (by unfold maxLen; omega) (by simp only []; omega) (by have := hx.ext.size; rw [size_addB]; omega) ?_)
                              rintro v1 w1 ho1 hg1
                              refine L.rd (rd_assign rfl) rfl ?_
                              refine L.nil ?_
                              refine X.sq ?_
                              refine V.region ?_
                              refine L.rd (rd_move rfl) rfl ?_
                              (refine L.rd (rd_add3 rfl rfl ?_) rfl ?_; omega)
                              refine L.rd (rd_assign rfl) rfl ?_
                              refine L.nil ?_
                              refine X.bk ?_
                              exact X.lp ⟨_, _, by omega, (by repeat' (first | exact trivial | refine ⟨rfl, ?_⟩)), k + 1, _, _, rfl, rfl, hx.grow ⟨by omega, by omega⟩ ho1 hg1 (by rw [hop, if_neg h113])⟩
      ·
        refine V.exit ?_
        refine X.sqExit ?_
        refine X.lpExit ?_
        refine X.bkHere ?_
        refine X.sq ?_
        refine V.seq ?_
        refine V.region ?_
        refine L.rd (rd_move rfl) rfl ?_
        refine L.rd (rd_assign rfl) rfl ?_
        refine L.rd (rd_assign rfl) rfl ?_
        refine L.nil ?_
        refine X.sq ?_
        refine V.ret ?_
        refine ret_2 Yaam.results25 rfl rfl ?_
        exact LexPost.good hx (by omega) hs2
end Go.Proofs.Ybxaaw
