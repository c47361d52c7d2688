/-
  The lexer, plainly: on lists of bytes as numbers.
-/
set_option linter.unusedVariables false
set_option linter.unusedSimpArgs false
namespace Lexp

def isSp (c : Nat) : Bool := c == 32 || c == 9 || c == 10 || c == 13
def isDg (c : Nat) : Bool := decide (48 ≤ c) && decide (c ≤ 57)
def opK (c : Nat) : Int :=
  if c = 43 then 3 else if c = 45 then 4 else if c = 42 then 5 else if c = 94 then 6 else if c = 40 then 7 else if c = 41 then 8 else 0
def dv (c : Nat) : Nat := c - 48
def nvl : List Nat → Nat → Nat
  | [], v => v
  | d :: r, v => nvl r (v * 10 + dv d)
def nv (v : Nat) (l : List Nat) : Nat := nvl l v
theorem nv_nil (v : Nat) : nv v [] = v := by unfold nv; simp only [nvl]
theorem nv_cons (v d : Nat) (r : List Nat) : nv v (d :: r) = nv (v * 10 + dv d) r := by unfold nv; simp only [nvl]
/-- the number that 64 bits hold, read as a signed one -/
def i64 (v : Nat) : Int := if v < 9223372036854775808 then (v : Int) else (v : Int) - 18446744073709551616

def lexF : Nat → List Nat → List (Int × Int) → Option (List (Int × Int))
  | 0, _, _ => none
  | _ + 1, [], acc => some acc
  | f + 1, c :: cs, acc =>
    if isSp c then lexF f cs acc
    else if 2000000 ≤ acc.length then none
    else if isDg c then
      if nv 0 ((c :: cs).takeWhile isDg) < 18446744073709551616 then lexF f ((c :: cs).dropWhile isDg) (acc ++ [(1, i64 (nv 0 ((c :: cs).takeWhile isDg)))]) else none
    else if 97 ≤ c ∧ c ≤ 122 then lexF f cs (acc ++ [(2, (c : Int) - 97)])
    else if opK c = 0 then none
    else lexF f cs (acc ++ [(opK c, 0)])

theorem dropWhile_len (p : Nat → Bool) : ∀ l : List Nat, (l.dropWhile p).length ≤ l.length
  | [] => by simp
  | c :: cs => by
    simp only [List.dropWhile_cons]
    split
    · have := dropWhile_len p cs; simp; omega
    · simp

theorem lexF_fuel : ∀ (f g : Nat) (l : List Nat) (acc : List (Int × Int)), l.length < f → l.length < g → lexF f l acc = lexF g l acc
  | 0, g, l, acc, h, _ => by omega
  | f + 1, 0, l, acc, _, h => by omega
  | f + 1, g + 1, [], acc, _, _ => rfl
  | f + 1, g + 1, c :: cs, acc, h1, h2 => by
    simp only [List.length_cons] at h1 h2
    have hd : isDg c = true → ((c :: cs).dropWhile isDg).length ≤ cs.length := fun hc => by
      rw [List.dropWhile_cons, hc]; simp; exact dropWhile_len isDg cs
    simp only [lexF]
    rw [lexF_fuel f g cs acc (by omega) (by omega)]
    rw [lexF_fuel f g cs (acc ++ [(2, (c : Int) - 97)]) (by omega) (by omega)]
    rw [lexF_fuel f g cs (acc ++ [(opK c, 0)]) (by omega) (by omega)]
    by_cases hc : isDg c = true
    · rw [lexF_fuel f g ((c :: cs).dropWhile isDg) _ (by have := hd hc; omega) (by have := hd hc; omega)]
    · simp [hc]

def lexR (l : List Nat) (acc : List (Int × Int)) : Option (List (Int × Int)) := lexF (l.length + 1) l acc
theorem lexR_nil (acc : List (Int × Int)) : lexR [] acc = some acc := rfl
theorem lexR_cons (c : Nat) (cs : List Nat) (acc : List (Int × Int)) : lexR (c :: cs) acc =
    if isSp c then lexR cs acc
    else if 2000000 ≤ acc.length then none
    else if isDg c then
      if nv 0 ((c :: cs).takeWhile isDg) < 18446744073709551616 then lexR ((c :: cs).dropWhile isDg) (acc ++ [(1, i64 (nv 0 ((c :: cs).takeWhile isDg)))]) else none
    else if 97 ≤ c ∧ c ≤ 122 then lexR cs (acc ++ [(2, (c : Int) - 97)])
    else if opK c = 0 then none
    else lexR cs (acc ++ [(opK c, 0)]) := by
  unfold lexR
  conv => lhs; unfold lexF
  by_cases hc : isDg c = true
  · have hd : ((c :: cs).dropWhile isDg).length ≤ cs.length := by
      rw [List.dropWhile_cons, hc]; simp; exact dropWhile_len isDg cs
    simp only [List.length_cons]
    rw [lexF_fuel (cs.length + 1) (((c :: cs).dropWhile isDg).length + 1) ((c :: cs).dropWhile isDg) _ (by omega) (by omega)]
  · simp [hc]
def lex (l : List Nat) : Option (List (Int × Int)) := if 20000000 < l.length then none else lexR l []

/-! ### numbers -/
theorem nv_mono (l : List Nat) : ∀ (v : Nat), v ≤ nv v l := by
  induction l with
  | nil => intro v; exact Nat.le_refl _
  | cons d r ih =>
    intro v
    have h := ih (v * 10 + dv d)
    show v ≤ nv (v * 10 + dv d) r
    generalize nv (v * 10 + dv d) r = z at *
    omega
theorem nv_append (a b : List Nat) : ∀ v, nv v (a ++ b) = nv (nv v a) b := by
  induction a with
  | nil => intro v; rfl
  | cons d a ih => intro v; simp only [List.cons_append, nv_cons, ih]
theorem nv_lin (l : List Nat) : ∀ (v : Nat), nv v l = v * 10 ^ l.length + nv 0 l := by
  induction l with
  | nil => intro v; simp [nv_nil, nv_cons]
  | cons d r ih =>
    intro v
    simp only [nv_cons, List.length_cons]
    rw [ih (v * 10 + dv d), ih (0 * 10 + dv d)]
    rw [Nat.pow_succ, Nat.add_mul, Nat.zero_mul, Nat.zero_add, Nat.mul_assoc, Nat.mul_comm 10]
    generalize v * (10 ^ r.length * 10) = a
    generalize dv d * 10 ^ r.length = b
    omega
def dgs (l : List Nat) : Prop := ∀ c ∈ l, 48 ≤ c ∧ c ≤ 57
theorem nv_lt : ∀ (l : List Nat), dgs l → nv 0 l < 10 ^ l.length
  | [], _ => by simp [nv_nil, nv_cons]
  | d :: r, h => by
    have h1 := nv_lt r (fun c hc => h c (by simp [hc]))
    have h2 := h d (by simp)
    simp only [nv_cons, List.length_cons]
    rw [nv_lin, Nat.pow_succ]
    have : (0 * 10 + dv d) ≤ 9 := by unfold dv; omega
    have := Nat.mul_le_mul_right (10 ^ r.length) this
    omega
theorem nv_zeros (c : Nat) (hc : c = 48) (l : List Nat) : nv 0 (c :: l) = nv 0 l := by subst hc; simp [nv_nil, nv_cons, dv]
/-- no leading zero: at least 10^(n-1) -/
theorem nv_ge (d : Nat) (r : List Nat) (h : 49 ≤ d) : 10 ^ r.length ≤ nv 0 (d :: r) := by
  simp only [nv_cons]
  rw [nv_lin]
  have : 1 ≤ (0 * 10 + dv d) := by unfold dv; omega
  have := Nat.mul_le_mul_right (10 ^ r.length) this
  omega
/-- two runs of digits of one length: as the numbers, so the texts -/
def less : List Nat → List Nat → Bool
  | _, [] => false
  | [], _ :: _ => true
  | a :: x, b :: y => decide (a < b) || (decide (a = b) && less x y)
theorem less_iff : ∀ (x y : List Nat), x.length = y.length → dgs x → dgs y → (less x y = true ↔ nv 0 x < nv 0 y)
  | [], [], _, _, _ => by simp [less, nv_nil]
  | [], _ :: _, h, _, _ => by simp at h
  | _ :: _, [], h, _, _ => by simp at h
  | a :: x, b :: y, h, hx, hy => by
    have hl : x.length = y.length := by simpa using h
    have ih := less_iff x y hl (fun c hc => hx c (by simp [hc])) (fun c hc => hy c (by simp [hc]))
    have h1 := nv_lt x (fun c hc => hx c (by simp [hc]))
    have h2 := nv_lt y (fun c hc => hy c (by simp [hc]))
    have ha := hx a (by simp)
    have hb := hy b (by simp)
    simp only [less, nv_cons, Bool.or_eq_true, Bool.and_eq_true, decide_eq_true_eq]
    rw [nv_lin x, nv_lin y, ← hl]
    have key : ∀ (p q : Nat), p < q → p * 10 ^ x.length + nv 0 x < q * 10 ^ x.length + nv 0 y := fun p q hpq => by
      have := Nat.mul_le_mul_right (10 ^ x.length) (Nat.succ_le_of_lt hpq)
      rw [Nat.succ_mul] at this
      omega
    rw [← hl] at h2
    have key' : ∀ (p q : Nat), p < q → p * 10 ^ x.length + nv 0 y < q * 10 ^ x.length + nv 0 x := fun p q hpq => by
      have := Nat.mul_le_mul_right (10 ^ x.length) (Nat.succ_le_of_lt hpq)
      rw [Nat.succ_mul] at this
      omega
    constructor
    · rintro (hlt | ⟨rfl, hl⟩)
      · exact key _ _ (by unfold dv; omega)
      · have := ih.1 hl; omega
    · intro hlt
      rcases Nat.lt_trichotomy a b with hab | hab | hab
      · exact .inl hab
      · subst hab; exact .inr ⟨rfl, ih.2 (by omega)⟩
      · have := key' (0 * 10 + dv b) (0 * 10 + dv a) (by unfold dv; omega)
        omega

theorem nv_inj (x y : List Nat) (hl : x.length = y.length) (hx : dgs x) (hy : dgs y) (h : nv 0 x = nv 0 y) : x = y := by
  induction x generalizing y with
  | nil => cases y with
    | nil => rfl
    | cons _ _ => simp at hl
  | cons a x ih => cases y with
    | nil => simp at hl
    | cons b y =>
      have hl' : x.length = y.length := by simpa using hl
      have hx' : dgs x := fun c hc => hx c (by simp [hc])
      have hy' : dgs y := fun c hc => hy c (by simp [hc])
      have h1 := nv_lt x hx'
      have h2 := nv_lt y hy'
      have ha := hx a (by simp)
      have hb := hy b (by simp)
      rw [nv_cons, nv_cons, nv_lin x, nv_lin y, ← hl'] at h
      rw [← hl'] at h2
      have key : ∀ (p q u v : Nat), p < q → u < 10 ^ x.length → p * 10 ^ x.length + u < q * 10 ^ x.length + v := fun p q u v hpq hu => by
        have := Nat.mul_le_mul_right (10 ^ x.length) (Nat.succ_le_of_lt hpq)
        rw [Nat.succ_mul] at this
        omega
      have hab : a = b := by
        rcases Nat.lt_trichotomy a b with h3 | h3 | h3
        · have := key (0 * 10 + dv a) (0 * 10 + dv b) (nv 0 x) (nv 0 y) (by unfold dv; omega) h1; omega
        · exact h3
        · have := key (0 * 10 + dv b) (0 * 10 + dv a) (nv 0 y) (nv 0 x) (by unfold dv; omega) h2; omega
      subst hab
      rw [ih y hl' hx' hy' (by omega)]

/-! ### the places of a text -/
theorem takeWhile_all (p : Nat → Bool) : ∀ l : List Nat, ∀ c ∈ l.takeWhile p, p c = true
  | [], c, h => by simp at h
  | a :: l, c, h => by
    rw [List.takeWhile_cons] at h
    split at h
    · rcases List.mem_cons.1 h with rfl | h
      · assumption
      · exact takeWhile_all p l c h
    · simp at h
theorem isDg_iff (c : Nat) : isDg c = true ↔ 48 ≤ c ∧ c ≤ 57 := by simp [isDg]
/-- the run of digits from place i on ends at place j -/
theorem run_ends (l : List Nat) (i j : Nat) (hij : i ≤ j) (hj : j ≤ l.length) (hd : ∀ k, i ≤ k → k < j → ∃ c, l[k]? = some c ∧ isDg c = true) (he : ∀ c, l[j]? = some c → isDg c = false) :
    (l.drop i).takeWhile isDg = (l.drop i).take (j - i) ∧ (l.drop i).dropWhile isDg = l.drop j := by
  obtain ⟨m, rfl⟩ : ∃ m, j = i + m := ⟨j - i, by omega⟩
  clear hij
  induction m generalizing i with
  | zero =>
    simp only [Nat.add_zero, Nat.sub_self, List.take_zero] at *
    cases h : l.drop i with
    | nil => simp
    | cons c cs =>
      have hc : l[i]? = some c := by
        have := congrArg (·[0]?) h
        simpa using this
      simp [List.takeWhile_cons, List.dropWhile_cons, he c hc]
  | succ m ih =>
    obtain ⟨c, hc, hdc⟩ := hd i (Nat.le_refl _) (by omega)
    have hlt : i < l.length := by omega
    have hdr : l.drop i = c :: l.drop (i + 1) := by
      rw [List.drop_eq_getElem_cons hlt]
      congr 1
      simpa [hlt] using hc
    have := ih (i + 1) (by omega) (fun k h1 h2 => hd k (by omega) (by omega)) (fun c hc => he c (by rw [show i + (m + 1) = i + 1 + m by omega]; exact hc))
    rw [hdr]
    simp only [List.takeWhile_cons, List.dropWhile_cons, hdc, if_true]
    rw [this.1, this.2]
    constructor
    · rw [show i + (m + 1) - i = (i + 1 + m - (i + 1)) + 1 by omega, List.take_succ_cons]
    · congr 1; omega
theorem run_pre (l : List Nat) (i m : Nat) (hj : i + m ≤ l.length) (hd : ∀ k, i ≤ k → k < i + m → ∃ c, l[k]? = some c ∧ isDg c = true) :
    (l.drop i).takeWhile isDg = (l.drop i).take m ++ (l.drop (i + m)).takeWhile isDg := by
  induction m generalizing i with
  | zero => simp
  | succ m ih =>
    obtain ⟨c, hc, hdc⟩ := hd i (Nat.le_refl _) (by omega)
    have hlt : i < l.length := by omega
    have hdr : l.drop i = c :: l.drop (i + 1) := by
      rw [List.drop_eq_getElem_cons hlt]
      congr 1
      simpa [hlt] using hc
    have := ih (i + 1) (by omega) (fun k h1 h2 => hd k (by omega) (by omega))
    rw [hdr]
    simp only [List.takeWhile_cons, hdc, if_true, List.take_succ_cons, List.cons_append]
    rw [this, show i + 1 + m = i + (m + 1) by omega]
end Lexp
