/-
  The text of a polynomial, read again: tokens, tree, and the tree's polynomial. Plain.
-/
import Derived.Test.YbxaawGreatFormP
set_option linter.unusedVariables false
set_option linter.unusedSimpArgs false
namespace Go.Mw
open Lexp
/-! ### digits -/
theorem dgsF_nv : ∀ (f u : Nat) (acc : List Nat), u < 10 ^ f → nv 0 (dgsF f u acc) = nv u acc
  | 0, u, acc, h => by
    have : u = 0 := by simp at h; exact h
    subst this; rfl
  | f + 1, u, acc, h => by
    rw [dgsF]
    split
    · rename_i h0; rw [h0]
    · rw [dgsF_nv f (u / 10) _ (by rw [Nat.pow_succ] at h; omega), nv_cons]
      congr 1
      unfold dv; omega
theorem dgsF_dg : ∀ (f u : Nat) (acc : List Nat), (∀ c ∈ acc, isDg c = true) → ∀ c ∈ dgsF f u acc, isDg c = true
  | 0, _, acc, h => by simpa [dgsF] using h
  | f + 1, u, acc, h => by
    rw [dgsF]
    split
    · exact h
    · refine dgsF_dg f _ _ fun x hx => ?_
      rcases List.mem_cons.1 hx with rfl | hx
      · rw [isDg_iff]; omega
      · exact h x hx
theorem dgsF_ne : ∀ (f u : Nat) (acc : List Nat), acc ≠ [] → dgsF f u acc ≠ []
  | 0, _, acc, h => by simpa [dgsF] using h
  | f + 1, u, acc, h => by
    rw [dgsF]
    split
    · exact h
    · exact dgsF_ne f _ _ (by simp)
theorem udec_dg (v : Int) : ∀ c ∈ udec v, isDg c = true := by
  unfold udec
  split
  · intro c hc; simp at hc; subst hc; decide
  · exact dgsF_dg _ _ _ (by simp)
theorem udec_ne (v : Int) : udec v ≠ [] := by
  unfold udec
  split
  · simp
  · rename_i h
    rw [dgsF_step 19 _ _ h]
    exact dgsF_ne _ _ _ (by simp)
theorem udec_nv (v : Int) : nv 0 (udec v) = uns v := by
  unfold udec
  split
  · rename_i h; rw [h]; decide
  · rw [dgsF_nv _ _ _ (by have := uns_lt v; omega)]; rfl
theorem i64_uns {c : Int} (h : w64 c = c) : i64 (uns c) = c := by
  have := w64_rng c
  rw [h] at this
  unfold i64 uns
  split <;> omega
/-! ### tokens -/
/-- no digit first -/
def ND (l : List Nat) : Prop := ∀ c, l.head? = some c → isDg c = false
theorem ND.nil : ND [] := fun c h => by simp at h
theorem ND.cons {c : Nat} (l : List Nat) (h : isDg c = false) : ND (c :: l) := fun d hd => by simp at hd; subst hd; exact h
theorem ND.app {l m : List Nat} (h : ND l) (k : ND m) : ND (l ++ m) := by
  cases l with
  | nil => exact k
  | cons c l => exact ND.cons _ (h c rfl)
theorem run_split : ∀ (l rest : List Nat), (∀ c ∈ l, isDg c = true) → ND rest → (l ++ rest).takeWhile isDg = l ∧ (l ++ rest).dropWhile isDg = rest
  | [], rest, _, h => by
    cases rest with
    | nil => exact ⟨rfl, rfl⟩
    | cons c r =>
      have := h c rfl
      simp [List.takeWhile_cons, List.dropWhile_cons, this]
  | c :: l, rest, h, hr => by
    have ih := run_split l rest (fun d hd => h d (by simp [hd])) hr
    have hc := h c (by simp)
    simp only [List.cons_append, List.takeWhile_cons, List.dropWhile_cons, hc, if_true]
    exact ⟨by rw [ih.1], ih.2⟩
/-- a piece of text gives these tokens -/
def LX (l : List Nat) (ts : List TK) : Prop := ∀ (rest : List Nat) (acc : List TK), ND rest → acc.length + ts.length ≤ 2000000 → lexR (l ++ rest) acc = lexR rest (acc ++ ts)
theorem LX.nil : LX [] [] := fun rest acc _ _ => by simp
theorem LX.app {l m : List Nat} {a b : List TK} (h : LX l a) (k : LX m b) (hm : ND m) : LX (l ++ m) (a ++ b) := fun rest acc hr hl => by
  rw [List.length_append] at hl
  rw [List.append_assoc, h _ _ (hm.app hr) (by omega), k _ _ hr (by rw [List.length_append]; omega), List.append_assoc]
theorem LX.op {c : Nat} {k : Int} {l : List Nat} {a : List TK} (hs : isSp c = false) (hd : isDg c = false) (hv : ¬ (97 ≤ c ∧ c ≤ 122)) (hk : opK c = k) (h0 : k ≠ 0) (h : LX l a) : LX (c :: l) ((k, 0) :: a) := fun rest acc hr hl => by
  simp only [List.length_cons] at hl
  rw [List.cons_append, lexR_cons, hs, if_neg (by simp), if_neg (by omega), hd, if_neg (by simp), if_neg hv, hk, if_neg h0, h _ _ hr (by simp only [List.length_append, List.length_cons, List.length_nil]; omega), List.append_assoc]
  rfl
theorem LX.var {x : Int} {l : List Nat} {a : List TK} (hx : 0 ≤ x ∧ x < 26) (h : LX l a) : LX ((97 + x.toNat) :: l) ((2, x) :: a) := fun rest acc hr hl => by
  simp only [List.length_cons] at hl
  have hs : isSp (97 + x.toNat) = false := by simp only [isSp, Bool.or_eq_false_iff, beq_eq_false_iff_ne]; omega
  have hd : isDg (97 + x.toNat) = false := by
    cases e : isDg (97 + x.toNat) with
    | false => rfl
    | true => rw [isDg_iff] at e; omega
  rw [List.cons_append, lexR_cons, hs, if_neg (by simp), if_neg (by omega), hd, if_neg (by simp), if_pos (by omega), show ((97 + x.toNat : Nat) : Int) - 97 = x by omega, h _ _ hr (by simp only [List.length_append, List.length_cons, List.length_nil]; omega), List.append_assoc]
  rfl
theorem LX.num {c : Int} (hc : w64 c = c) : LX (udec c) [(1, c)] := fun rest acc hr hl => by
  have hd := udec_dg c
  have hs := run_split (udec c) rest hd hr
  have hn := udec_nv c
  obtain ⟨d, l, e⟩ := List.exists_cons_of_ne_nil (udec_ne c)
  have hd0 : isDg d = true := hd d (by rw [e]; simp)
  have hsp : isSp d = false := by
    rw [isDg_iff] at hd0
    simp only [isSp, Bool.or_eq_false_iff, beq_eq_false_iff_ne]; omega
  rw [e, List.cons_append] at hs
  rw [e] at hn
  simp only [List.length_cons, List.length_nil] at hl
  rw [e, List.cons_append, lexR_cons, hsp, if_neg (by simp), if_neg (by omega), if_pos hd0, hs.1, hs.2, hn, if_pos (uns_lt c), i64_uns hc]
def ftk (f : Int × Int) : List TK := (2, f.1) :: (if f.2 = 1 then [] else [(6, 0), (1, f.2)])
def pfk : List (Int × Int) → Bool → List TK
  | [], _ => []
  | f :: fs, first => (if first then [] else [(5, 0)]) ++ (ftk f ++ pfk fs false)
def ttk (t : PT) : List TK := if t.2 = [] then [(1, t.1)] else if t.1 = 1 then pfk t.2 true else (1, t.1) :: pfk t.2 false
def qtk : List PT → Bool → List TK
  | [], _ => []
  | t :: r, b => (if b then [(3, 0)] else []) ++ (ttk t ++ qtk r true)
def ptk (q : List PT) : List TK := if q = [] then [(1, 0)] else qtk q false
/-- factors in range -/
def Fo (fs : List (Int × Int)) : Prop := ∀ f ∈ fs, 0 ≤ f.1 ∧ f.1 < 26 ∧ 1 ≤ f.2 ∧ f.2 ≤ 1000000
theorem fac_lx {f : Int × Int} (h : 0 ≤ f.1 ∧ f.1 < 26 ∧ 1 ≤ f.2 ∧ f.2 ≤ 1000000) : LX (fac f) (ftk f) := by
  unfold fac ftk
  refine LX.var ⟨h.1, h.2.1⟩ ?_
  split
  · exact LX.nil
  · exact LX.op (by decide) (by decide) (by decide) (by decide : opK 94 = 6) (by decide) (LX.num (wrap_i64_in (by omega)))
theorem pf_nd : ∀ fs : List (Int × Int), ND (pf fs false)
  | [] => ND.nil
  | f :: fs => ND.cons _ (by decide : isDg 42 = false)
theorem pf_lx : ∀ (fs : List (Int × Int)) (b : Bool), Fo fs → LX (pf fs b) (pfk fs b)
  | [], _, _ => LX.nil
  | f :: fs, b, h => by
    have h1 := (fac_lx (h f (by simp))).app (pf_lx fs false fun g hg => h g (by simp [hg])) (pf_nd fs)
    rw [pf, pfk]
    cases b with
    | true => exact h1
    | false => exact LX.op (by decide) (by decide) (by decide) (by decide : opK 42 = 5) (by decide) h1
theorem prT_lx {t : PT} (h : Fo t.2) (hc : w64 t.1 = t.1) : LX (prT t) (ttk t) := by
  unfold prT ttk
  split
  · exact LX.num hc
  · split
    · exact pf_lx _ _ h
    · exact (LX.num hc).app (pf_lx _ _ h) (pf_nd _)
theorem prQ_nd : ∀ q : List PT, ND (prQ q true)
  | [] => ND.nil
  | t :: q => ND.cons _ (by decide : isDg 43 = false)
/-- a polynomial that can be printed -/
structure Po (q : List PT) : Prop where
  fo : ∀ t ∈ q, Fo t.2
  cr : ∀ t ∈ q, w64 t.1 = t.1
  fl : ∀ t ∈ q, t.2.length ≤ 26
  len : q.length ≤ 4096
theorem Po.of {q : List PT} (h : canon q = true) (hc : Cq q) : Po q :=
  ⟨fun t ht => (canon_mem h t ht).mem, hc, fun t ht => (canon_mem h t ht).len, canon_len h⟩
theorem prQ_lx : ∀ (q : List PT) (b : Bool), (∀ t ∈ q, Fo t.2) → (∀ t ∈ q, w64 t.1 = t.1) → LX (prQ q b) (qtk q b)
  | [], _, _, _ => LX.nil
  | t :: q, b, h, hc => by
    have h1 := (prT_lx (h t (by simp)) (hc t (by simp))).app (prQ_lx q true (fun g hg => h g (by simp [hg])) (fun g hg => hc g (by simp [hg]))) (prQ_nd q)
    rw [prQ, qtk]
    cases b with
    | false => exact h1
    | true => exact LX.op (by decide) (by decide) (by decide) (by decide : opK 43 = 3) (by decide) h1
theorem printP_lx {q : List PT} (h : Po q) : LX (printP q) (ptk q) := by
  unfold printP ptk
  split
  · exact (LX.num (c := 0) (by decide) : LX (udec 0) _)
  · exact prQ_lx q false h.fo h.cr
/-! ### how long -/
theorem ftk_len (f : Int × Int) : (ftk f).length ≤ 3 := by unfold ftk; split <;> simp
theorem pfk_len : ∀ (fs : List (Int × Int)) (b : Bool), (pfk fs b).length ≤ fs.length * 4
  | [], _ => by simp [pfk]
  | f :: fs, b => by
    have := pfk_len fs false
    have := ftk_len f
    simp only [pfk, List.length_append, List.length_cons, Nat.add_mul]
    split <;> simp only [List.length_cons, List.length_nil] <;> omega
theorem pfk_ge : ∀ (fs : List (Int × Int)), fs.length ≤ (pfk fs false).length
  | [] => by simp [pfk]
  | f :: fs => by
    have := pfk_ge fs
    rw [pfk]
    simp only [List.length_append, List.length_cons, if_neg Bool.false_ne_true, List.length_nil]; omega
theorem ttk_len {t : PT} (h : t.2.length ≤ 26) : (ttk t).length ≤ 105 := by
  unfold ttk
  have h1 := pfk_len t.2 true
  have h2 := pfk_len t.2 false
  split
  · simp
  · split
    · omega
    · simp only [List.length_cons]; omega
theorem qtk_len : ∀ (q : List PT) (b : Bool), (∀ t ∈ q, t.2.length ≤ 26) → (qtk q b).length ≤ q.length * 106
  | [], _, _ => by simp [qtk]
  | t :: q, b, h => by
    have := qtk_len q true fun u hu => h u (by simp [hu])
    have := ttk_len (h t (by simp))
    simp only [qtk, List.length_append, List.length_cons, Nat.add_mul]
    split <;> simp only [List.length_cons, List.length_nil] <;> omega
theorem ptk_len {q : List PT} (h : Po q) : (ptk q).length ≤ 434176 := by
  unfold ptk
  split
  · simp
  · have := qtk_len q false h.fl
    have := h.len
    omega
theorem prT_len {t : PT} (h : t.2.length ≤ 26) : (prT t).length ≤ 618 := by
  unfold prT
  have h1 := pf_len t.2 true
  have h2 := pf_len t.2 false
  have h3 := udec_len t.1
  split
  · omega
  · split
    · omega
    · rw [List.length_append]; omega
theorem prQ_len : ∀ (q : List PT) (b : Bool), (∀ t ∈ q, t.2.length ≤ 26) → (prQ q b).length ≤ q.length * 619
  | [], _, _ => by simp [prQ]
  | t :: q, b, h => by
    have := prQ_len q true fun u hu => h u (by simp [hu])
    have := prT_len (h t (by simp))
    simp only [prQ, List.length_append, List.length_cons, Nat.add_mul]
    split <;> simp only [List.length_cons, List.length_nil] <;> omega
theorem printP_len {q : List PT} (h : Po q) : (printP q).length ≤ 2535424 := by
  unfold printP
  split
  · simp
  · have := prQ_len q false h.fl
    have := h.len
    omega
theorem printP_lex {q : List PT} (h : Po q) : lex (printP q) = some (ptk q) := by
  unfold lex
  have h1 := printP_len h
  have h2 := ptk_len h
  rw [if_neg (by omega)]
  have := printP_lx h [] [] ND.nil (by simp only [List.length_nil]; omega)
  rw [List.append_nil, lexR_nil, List.nil_append] at this
  exact this
/-! ### the tree -/
def ftre (f : Int × Int) : Tre := if f.2 = 1 then lf 2 0 f.1 else u1 7 f.2 (lf 2 0 f.1)
def mfold (fs : List (Int × Int)) (a : Tre) : Tre := fs.foldl (fun a f => b2 6 a (ftre f)) a
def ttre (t : PT) : Tre := match t.2 with
  | [] => lf 1 t.1 0
  | f :: fs => if t.1 = 1 then mfold fs (ftre f) else mfold (f :: fs) (lf 1 t.1 0)
def qfold (q : List PT) (a : Tre) : Tre := q.foldl (fun a t => b2 4 a (ttre t)) a
def ptre (q : List PT) : Tre := match q with
  | [] => lf 1 0 0
  | t :: r => qfold r (ttre t)
section
variable {c : Bool} {E : Nat → List TK → PR} {d : Nat}
theorem prim_var (x : Int) (r : List TK) : prim c E d ((2, x) :: r) = some (lf 2 0 x, r) := rfl
theorem prim_num (x : Int) (r : List TK) : prim c E d ((1, x) :: r) = some (lf 1 x 0, r) := rfl
theorem unry_fac {f : Int × Int} {rest : List TK} (hf : 1 ≤ f.2 ∧ f.2 ≤ 1000000) (h6 : hk rest ≠ 6) : unry c E d (ftk f ++ rest) = some (ftre f, rest) := by
  unfold ftk ftre
  split
  · have e : lead ([((2 : Int), f.1)] ++ rest) = 0 := rfl
    have e2 : powr c E d ([((2 : Int), f.1)] ++ rest) = some (lf 2 0 f.1, rest) := by
      unfold powr
      rw [List.singleton_append, prim_var]
      simp only []
      rw [if_neg h6]
    unfold unry
    rw [e, List.drop_zero, e2]
    rfl
  · have e : lead ((2, f.1) :: [(6, 0), (1, f.2)] ++ rest) = 0 := rfl
    have e2 : powr c E d ((2, f.1) :: [(6, 0), (1, f.2)] ++ rest) = some (u1 7 f.2 (lf 2 0 f.1), rest) := by
      unfold powr
      rw [List.cons_append, prim_var]
      simp only [List.cons_append, List.nil_append, hk, hv, List.tail_cons, if_true]
      rw [if_pos ⟨trivial, by omega, by omega⟩]
    unfold unry
    rw [e, List.drop_zero, e2]
    rfl
theorem unry_num {x : Int} {rest : List TK} (h6 : hk rest ≠ 6) : unry c E d ((1, x) :: rest) = some (lf 1 x 0, rest) := by
  have e : lead ((1, x) :: rest) = 0 := rfl
  have e2 : powr c E d ((1, x) :: rest) = some (lf 1 x 0, rest) := by
    unfold powr
    rw [prim_num]
    simp only []
    rw [if_neg h6]
  unfold unry
  rw [e, List.drop_zero, e2]
  rfl
theorem hk_pfk (fs : List (Int × Int)) (rest : List TK) (h6 : hk rest ≠ 6) : hk (pfk fs false ++ rest) ≠ 6 := by
  cases fs with
  | nil => exact h6
  | cons f fs => exact (by decide : (5 : Int) ≠ 6)
theorem tloop_fac : ∀ (fs : List (Int × Int)) (n : Nat) (a : Tre) (rest : List TK), Fo fs → fs.length ≤ n → hk rest ≠ 5 → hk rest ≠ 6 → tloop c E d n a (pfk fs false ++ rest) = some (mfold fs a, rest)
  | [], 0, a, rest, _, _, _, _ => rfl
  | [], n + 1, a, rest, _, _, h5, _ => by
    show tloop c E d (n + 1) a rest = _
    rw [tloop, if_neg h5]; rfl
  | f :: fs, 0, a, rest, _, h, _, _ => by simp at h
  | f :: fs, n + 1, a, rest, hf, h, h5, h6 => by
    have e : pfk (f :: fs) false ++ rest = (5, 0) :: (ftk f ++ (pfk fs false ++ rest)) := by
      rw [pfk, if_neg Bool.false_ne_true, List.append_assoc, List.append_assoc]; rfl
    rw [e, tloop, if_pos (by rfl), List.tail_cons, unry_fac (hf f (by simp)).2.2 (hk_pfk fs rest h6)]
    simp only []
    rw [tloop_fac fs n _ rest (fun g hg => hf g (by simp [hg])) (by simpa using h) h5 h6]
    rfl
theorem trm_ok {t : PT} {rest : List TK} (hf : Fo t.2) (h5 : hk rest ≠ 5) (h6 : hk rest ≠ 6) : trm c E d (ttk t ++ rest) = some (ttre t, rest) := by
  obtain ⟨v, fs⟩ := t
  have tl : ∀ (gs : List (Int × Int)) (a : Tre), Fo gs → tloop c E d (pfk gs false ++ rest).length a (pfk gs false ++ rest) = some (mfold gs a, rest) := fun gs a hg =>
    tloop_fac gs _ a rest hg (by have := pfk_ge gs; rw [List.length_append]; omega) h5 h6
  cases fs with
  | nil =>
    have := tl [] (lf 1 v 0) (fun f hf => by cases hf)
    show trm c E d ([(1, v)] ++ rest) = _
    unfold trm
    rw [List.singleton_append, unry_num h6]
    exact this
  | cons f fs =>
    unfold ttk ttre
    simp only []
    rw [if_neg (by simp)]
    split
    · have e : pfk (f :: fs) true ++ rest = ftk f ++ (pfk fs false ++ rest) := by
        rw [pfk, if_pos rfl, List.nil_append, List.append_assoc]
      unfold trm
      rw [e, unry_fac (hf f (by simp)).2.2 (hk_pfk fs rest h6)]
      exact tl fs _ fun g hg => hf g (by simp [hg])
    · unfold trm
      rw [List.cons_append, unry_num (hk_pfk (f :: fs) rest h6)]
      exact tl (f :: fs) _ hf
theorem hk_qtk (q : List PT) : hk (qtk q true) ≠ 5 ∧ hk (qtk q true) ≠ 6 := by
  cases q with
  | nil => exact ⟨by decide, by decide⟩
  | cons t q => exact ⟨(by decide : (3 : Int) ≠ 5), (by decide : (3 : Int) ≠ 6)⟩
theorem eloop_ok : ∀ (q : List PT) (n : Nat) (a : Tre), (∀ t ∈ q, Fo t.2) → q.length ≤ n → eloop c E d n a (qtk q true) = some (qfold q a, [])
  | [], 0, a, _, _ => rfl
  | [], n + 1, a, _, _ => by
    rw [qtk, eloop, if_neg (by decide)]; rfl
  | t :: q, 0, a, _, h => by simp at h
  | t :: q, n + 1, a, hf, h => by
    have e : qtk (t :: q) true = (3, 0) :: (ttk t ++ qtk q true) := by rw [qtk, if_pos rfl]; rfl
    rw [e, eloop, if_pos (.inl rfl), List.tail_cons, trm_ok (hf t (by simp)) (hk_qtk q).1 (hk_qtk q).2]
    simp only []
    rw [eloop_ok q n _ (fun u hu => hf u (by simp [hu])) (by simpa using h)]
    rfl
theorem qtk_ge : ∀ q : List PT, q.length ≤ (qtk q true).length
  | [] => by simp [qtk]
  | t :: q => by
    have := qtk_ge q
    rw [qtk]
    simp only [List.length_append, List.length_cons, if_true, List.length_nil]; omega
theorem expr_ok {q : List PT} (h : Po q) : expr c E d (ptk q) = some (ptre q, []) := by
  unfold ptk
  cases q with
  | nil =>
    rw [if_pos rfl]
    have := trm_ok (c := c) (E := E) (d := d) (t := (0, [])) (rest := []) (fun f hf => by cases hf) (by decide) (by decide)
    have e : ttk (0, []) ++ [] = [((1 : Int), (0 : Int))] := rfl
    rw [e] at this
    unfold expr
    rw [this]
    rfl
  | cons t q =>
    rw [if_neg (by simp), qtk, if_neg Bool.false_ne_true, List.nil_append]
    unfold expr
    rw [trm_ok (h.fo t (by simp)) (hk_qtk q).1 (hk_qtk q).2]
    exact eloop_ok q _ _ (fun u hu => h.fo u (by simp [hu])) (qtk_ge q)
end
/-! ### the whole -/
/-- a token that no bracket is, and well formed -/
def Tg (t : TK) : Prop := tokOk t = true ∧ t.1 ≠ 7 ∧ t.1 ≠ 8
def Tgs (l : List TK) : Prop := ∀ t ∈ l, Tg t
theorem Tgs.nil : Tgs [] := fun t ht => by cases ht
theorem Tgs.cons {t : TK} {l : List TK} (h : Tg t) (k : Tgs l) : Tgs (t :: l) := fun u hu => by
  rcases List.mem_cons.1 hu with rfl | hu
  · exact h
  · exact k u hu
theorem Tgs.app {a b : List TK} (h : Tgs a) (k : Tgs b) : Tgs (a ++ b) := fun u hu => (List.mem_append.1 hu).elim (h u) (k u)
theorem tg_num (v : Int) : Tg (1, v) := ⟨by simp [tokOk], (by decide : (1 : Int) ≠ 7), (by decide : (1 : Int) ≠ 8)⟩
theorem tg_var {x : Int} (h : 0 ≤ x ∧ x < 26) : Tg (2, x) := ⟨by
  unfold tokOk
  refine decide_eq_true ⟨(by decide : (1 : Int) ≤ 2), (by decide : (2 : Int) ≤ 8), fun _ => ?_, fun _ h => absurd rfl h⟩
  simp only []; omega, (by decide : (2 : Int) ≠ 7), (by decide : (2 : Int) ≠ 8)⟩
theorem tg_op {k : Int} (h : k = 3 ∨ k = 5 ∨ k = 6) : Tg (k, 0) := by
  rcases h with rfl | rfl | rfl <;> exact ⟨by decide, by decide, by decide⟩
theorem ftk_tg {f : Int × Int} (h : 0 ≤ f.1 ∧ f.1 < 26 ∧ 1 ≤ f.2 ∧ f.2 ≤ 1000000) : Tgs (ftk f) := by
  unfold ftk
  refine Tgs.cons (tg_var ⟨h.1, h.2.1⟩) ?_
  split
  · exact Tgs.nil
  · exact Tgs.cons (tg_op (.inr (.inr rfl))) (Tgs.cons (tg_num _) Tgs.nil)
theorem pfk_tg : ∀ (fs : List (Int × Int)) (b : Bool), Fo fs → Tgs (pfk fs b)
  | [], _, _ => Tgs.nil
  | f :: fs, b, h => by
    have h1 := (ftk_tg (h f (by simp))).app (pfk_tg fs false fun g hg => h g (by simp [hg]))
    rw [pfk]
    cases b with
    | true => exact h1
    | false => exact Tgs.cons (tg_op (.inr (.inl rfl))) h1
theorem ttk_tg {t : PT} (h : Fo t.2) : Tgs (ttk t) := by
  unfold ttk
  split
  · exact Tgs.cons (tg_num _) Tgs.nil
  · split
    · exact pfk_tg _ _ h
    · exact Tgs.cons (tg_num _) (pfk_tg _ _ h)
theorem qtk_tg : ∀ (q : List PT) (b : Bool), (∀ t ∈ q, Fo t.2) → Tgs (qtk q b)
  | [], _, _ => Tgs.nil
  | t :: q, b, h => by
    have h1 := (ttk_tg (h t (by simp))).app (qtk_tg q true fun g hg => h g (by simp [hg]))
    rw [qtk]
    cases b with
    | false => exact h1
    | true => exact Tgs.cons (tg_op (.inl rfl)) h1
theorem ptk_tg {q : List PT} (h : Po q) : Tgs (ptk q) := by
  unfold ptk
  split
  · exact Tgs.cons (tg_num _) Tgs.nil
  · exact qtk_tg q false h.fo
theorem Tgs.dl : ∀ {l : List TK} (d : Nat), Tgs l → dl l d = some d
  | [], d, _ => rfl
  | t :: l, d, h => by
    have := h t (by simp)
    rw [Go.Mw.dl, if_neg this.2.1, if_neg this.2.2]
    exact Tgs.dl d fun u hu => h u (by simp [hu])
theorem ptk_ne (q : List PT) : (ptk q).length ≠ 0 := by
  unfold ptk
  split
  · simp
  · rename_i h
    cases q with
    | nil => exact absurd rfl h
    | cons t q =>
      have : 1 ≤ (ttk t).length := by
        unfold ttk
        split
        · simp
        · rename_i h2
          obtain ⟨f, fs, e⟩ := List.exists_cons_of_ne_nil h2
          split
          · rw [e, pfk]; unfold ftk; simp
          · simp
      rw [qtk]
      simp only [List.length_append]; omega
/-- fewer nodes than tokens -/
theorem printP_src {q : List PT} (h : Po q) : srcP (printP q) = some (ptre q) := by
  unfold srcP
  rw [printP_lex h, Option.bind_some]
  unfold parseP
  have hl := ptk_len h
  have ht := ptk_tg h
  have ha : (ptk q).all tokOk = true := List.all_eq_true.2 fun t hm => (ht t hm).1
  have hp : pE false ((ptk q).length + 1) 0 (ptk q) = some (ptre q, []) := expr_ok h
  have hz := pE_tz false _ _ _ _ _ hp
  simp only [List.length_nil, Nat.add_zero] at hz
  have hcond : ¬ ((ptk q).length = 0 ∨ 2000000 < (ptk q).length ∨ (ptk q).all tokOk = false ∨ dl (ptk q) 0 = none) := by
    rintro (h1 | h1 | h1 | h1)
    · exact ptk_ne q h1
    · omega
    · rw [ha] at h1; cases h1
    · rw [ht.dl] at h1; cases h1
  rw [if_neg hcond, hp]
  simp only []
  rw [if_pos ⟨rfl, by omega⟩]
/-! ### what the tree means -/
theorem addV_addAt : ∀ (u z : List Int) (i : Nat) (p : Int), z = List.replicate u.length 0 → i < u.length → addV u (addAt z i p) = addAt u i p
  | [], z, i, p, _, h => by simp at h
  | x :: u, z, 0, p, hz, h => by
    subst hz
    have := addV_comm u (List.replicate u.length 0)
    rw [addV_zero u] at this
    unfold addV at this
    unfold addV addAt
    simp only [List.length_cons, List.replicate_succ, List.set_cons_zero, List.getD_cons_zero, List.zipWith_cons_cons, this, Int.zero_add]
  | x :: u, z, i + 1, p, hz, h => by
    subst hz
    have ih := addV_addAt u _ i p rfl (by simpa using h)
    unfold addV addAt at ih
    unfold addV addAt
    simp only [List.length_cons, List.replicate_succ, List.set_cons_succ, List.getD_cons_succ, List.zipWith_cons_cons, ih, Int.add_zero]
theorem addAt_addAt {v : List Int} {i : Nat} (a b : Int) (h : i < v.length) : addAt (addAt v i a) i b = addAt v i (a + b) := by
  unfold addAt
  rw [List.set_set, List.getD_eq_getElem?_getD, List.getElem?_set_self h, Option.getD_some, Int.add_assoc]
theorem eV_at {x : Int} (h : 0 ≤ x ∧ x < 26) : eV x = addAt z26 x.toNat 1 := by
  unfold eV addAt
  have : z26.getD x.toNat 0 = 0 := by
    unfold z26
    rw [List.getD_eq_getElem?_getD, List.getElem?_replicate]
    split <;> rfl
  rw [this, Int.zero_add]
theorem eqv_one {c : Int} {u : List Int} {i : Nat} (p : Int) (hu : u.length = 26) (hi : i < 26) : Eqv (prods [(c, u)] [(1, addAt z26 i p)]) [(c, addAt u i p)] := fun g => by
  refine (evG_prods g _ _).trans ?_
  simp only [evG, Int.add_zero, Int.one_mul]
  rw [addV_addAt u z26 i p (by rw [hu]; rfl) (by omega)]
  exact Cg.refl _
theorem pwr_var {x : Int} (h : 0 ≤ x ∧ x < 26) : ∀ n : Nat, Eqv (pwr n [(1, eV x)]) [(1, addAt z26 x.toNat n)]
  | 0 => by
    have : addAt z26 x.toNat ((0 : Nat) : Int) = z26 := addAt_zero
    rw [this]; exact Eqv.refl _
  | n + 1 => by
    refine ((pwr_var h n).prods (Eqv.refl _)).trans ?_
    rw [eV_at h]
    refine (eqv_one 1 (by rw [addAt_len, z26_len]) (by omega)).trans ?_
    rw [addAt_addAt _ _ (by rw [z26_len]; omega)]
    exact Eqv.of_eq (by rw [Int.natCast_succ])
theorem ftre_fp {f : Int × Int} (h : 0 ≤ f.1 ∧ f.1 < 26 ∧ 1 ≤ f.2 ∧ f.2 ≤ 1000000) : Eqv (fp (ftre f)) [(1, addAt z26 f.1.toNat f.2)] := by
  unfold ftre
  split
  · rename_i h1
    rw [h1, ← eV_at ⟨h.1, h.2.1⟩]
    exact Eqv.refl _
  · rw [fp_u7]
    have := pwr_var ⟨h.1, h.2.1⟩ f.2.toNat
    rw [Int.toNat_of_nonneg (by omega)] at this
    exact this
theorem mfold_fp : ∀ (fs : List (Int × Int)) (a : Tre) (c : Int) (u : List Int), Fo fs → u.length = 26 → Eqv (fp a) [(c, u)] → Eqv (fp (mfold fs a)) [(c, vecF fs u)]
  | [], a, c, u, _, _, h => h
  | f :: fs, a, c, u, hf, hu, h => by
    have h0 := hf f (by simp)
    refine mfold_fp fs (b2 6 a (ftre f)) c (addAt u f.1.toNat f.2) (fun g hg => hf g (by simp [hg])) (by rw [addAt_len]; exact hu) ?_
    rw [fp_b6]
    exact (h.prods (ftre_fp h0)).trans (eqv_one f.2 hu (by omega))
theorem ttre_fp {t : PT} (h : Fo t.2) : Eqv (fp (ttre t)) [(t.1, vec t.2)] := by
  obtain ⟨v, fs⟩ := t
  cases fs with
  | nil => exact Eqv.refl _
  | cons f fs =>
    unfold ttre
    simp only []
    split
    · rename_i h1
      rw [h1]
      have h0 := h f (by simp)
      exact mfold_fp fs (ftre f) 1 _ (fun g hg => h g (by simp [hg])) (by rw [addAt_len, z26_len]) (ftre_fp h0)
    · exact mfold_fp (f :: fs) _ v z26 h z26_len (Eqv.refl _)
theorem qfold_fp : ∀ (q : List PT) (a : Tre) (M : List MT), (∀ t ∈ q, Fo t.2) → Eqv (fp a) M → Eqv (fp (qfold q a)) (M ++ ms q)
  | [], a, M, _, h => by
    have : M ++ ms [] = M := by simp [ms]
    rw [this]; exact h
  | t :: q, a, M, hf, h => by
    have := qfold_fp q (b2 4 a (ttre t)) (M ++ [(t.1, vec t.2)]) (fun u hu => hf u (by simp [hu])) (by rw [fp_b4]; exact h.app (ttre_fp (hf t (by simp))))
    have e : M ++ ms (t :: q) = M ++ [(t.1, vec t.2)] ++ ms q := by simp [ms]
    rw [e]
    exact this
theorem ptre_fp {q : List PT} (h : Po q) : Eqv (fp (ptre q)) (ms q) := by
  cases q with
  | nil =>
    intro g
    show Cg (0 * g z26 + 0) 0
    rw [Int.zero_mul]; exact Cg.refl _
  | cons t q => exact qfold_fp q (ttre t) [(t.1, vec t.2)] (fun u hu => h.fo u (by simp [hu])) (ttre_fp (h.fo t (by simp)))
/-- printed and read again -/
theorem round {R : List MT} (h : CM R) : Po (toP R) ∧ srcP (printP (toP R)) = some (ptre (toP R)) ∧ Eqv (fp (ptre (toP R))) R := by
  have hp := Po.of h.canon h.cq
  refine ⟨hp, printP_src hp, ?_⟩
  have := ptre_fp hp
  rwa [h.ms] at this
theorem tpP_of {t : Tre} {R : List MT} (hw : Wt t) (hi : Wi t) (hR : CM R) (he : Eqv (fp t) R) {q : List PT} (h : tpP (cn t) = some q) : q = toP R := by
  unfold tpP at h
  cases hx : xp (cn t) 0 with
  | none => rw [hx] at h; cases h
  | some a =>
    obtain ⟨S, u1⟩ := a
    rw [hx] at h
    simp only [Option.map_some, Option.some.injEq] at h
    subst h
    have h1 := xp_eqv (cn t) (cn_wz t hw).wt (cn_wi t hi) 0 S u1 hx
    rw [h1.1.eq_of hR ((h1.2.trans (cn_fp t hw)).trans he)]
theorem round_back {R : List MT} (h : CM R) {q : List PT} (hq : tpP (cn (ptre (toP R))) = some q) : q = toP R := by
  obtain ⟨h1, h2, h3⟩ := round h
  obtain ⟨k1, k2, k3⟩ := src_wt h2
  exact tpP_of k1 k2 h h3 hq
end Go.Mw
