/-
  impl.max1, impl.negRaw, walked; what ToPoly is to answer.
-/
import Derived.Test.YbxaawGreatXpP
import Derived.Test.YbxaawGreatAmW3
set_option linter.unusedVariables false
set_option linter.unusedSimpArgs false
set_option maxRecDepth 10000
namespace Go.Mw
def ngL (t : Lt) : Lt := (w64 (-t.1), t.2.1, t.2.2)
theorem pol_ngL {Ls : List Lt} {A : List MT} (h : pol Ls = toP A) : pol (Ls.map ngL) = toP (negM A) := by
  rw [toP_neg, ← h]; simp [pol, ngL, Function.comp_def]
/-- the answer is a polynomial that may be read -/
def TPost (R : Option (List PT)) (w : World) (r : Value) (w' : World) : Prop := ∃ v Ls, r = .tuple #[.agg #[v], .bool R.isSome] ∧ Tl w' w.heap.size w'.heap.size v Ls ∧ pol Ls = R.getD [] ∧ Ext w.heap.size w w'
theorem TPost.bad {R : Option (List PT)} {w w' : World} (h : R = none) (he : Ext w.heap.size w w') : TPost R w (.tuple #[.agg #[.slice none 0 0], .bool false]) w' := by
  subst h
  exact ⟨_, [], rfl, Tl.nil _ _ _ _ _, rfl, he⟩
theorem chg_yes {u c : Nat} (h : u + max c 1 ≤ 100000) : chg u c = some (u + max c 1) := by unfold chg; rw [if_pos h]
theorem chg_no {u c : Nat} (h : ¬ u + max c 1 ≤ 100000) : chg u c = none := by unfold chg; rw [if_neg h]
/-- the slice's block is not of type eP -/
def NT (w : World) (eP : TypeId) (v : Value) : Prop := ∀ a n c cs, v = .slice (some a) n c → n ≠ 0 → ¬ Bl w a.block eP cs
theorem NT.bl {w : World} {eP e : TypeId} {b o n c : Nat} {cs : List Value} (h : Bl w b e cs) (hne : Nat.beq eP e = false) : NT w eP (.slice (some ⟨b, o, none⟩) n c) := by
  intro a n' c' cs' hv _ hb
  simp only [Value.slice.injEq, Option.some.injEq] at hv
  obtain ⟨rfl, -⟩ := hv
  have h1 := hb.at_
  rw [h.at_] at h1
  simp only [Option.some.injEq, Obj.cells.injEq] at h1
  have := h1.2.1
  subst this
  rw [Nat.beq_refl] at hne
  cases hne
theorem NT.own {w : World} {eP B e sz n : Nat} {v : Value} {xs : List Value} (h : w.ownsRow B e sz v n xs) (hne : Nat.beq eP e = false) : NT w eP v := by
  rcases own_slc h with ⟨rfl, _⟩ | ⟨g, cap, sp, _, hs⟩
  · intro a n' c' cs' hv; cases hv
  · rw [hs.val]; exact NT.bl hs.bl hne
theorem NT.none (w : World) (eP : TypeId) (n c : Nat) : NT w eP (.slice none n c) := fun a n' c' cs' hv => by cases hv
theorem NT.zero (w : World) (eP : TypeId) (a : Option Addr) (c : Nat) : NT w eP (.slice a 0 c) := fun a n' c' cs' hv h0 => by
  simp only [Value.slice.injEq] at hv
  exact absurd hv.2.1.symm h0
section
variable {w w' : World} {lo sz n : Nat} {eP : TypeId} {v : Value} {xs : List Value}
theorem Rr.blk (h : Rr w lo w.heap.size sz v n xs) {a : Addr} {n' c : Nat} (hv : v = .slice (some a) n' c) (h0 : n' ≠ 0) : n' = n ∧ a.block < w.heap.size := by
  obtain ⟨ad, c', h1, h2⟩ := h.form
  rw [h1] at hv
  simp only [Value.slice.injEq] at hv
  obtain ⟨rfl, rfl, -⟩ := hv
  rcases h2 with h2 | ⟨b, o, h3, _, h4, _⟩
  · exact absurd h2 h0
  · simp only [Option.some.injEq] at h3
    subst h3
    exact ⟨rfl, h4⟩
theorem NT.ext (h : NT w eP v) (hr : Rr w lo w.heap.size sz v n xs) (he : Ext w.heap.size w w') : NT w' eP v := by
  intro a n' c cs hv h0 hb
  exact h a n' c cs hv h0 ⟨(he.block _ (hr.blk hv h0).2).symm.trans hb.at_⟩
theorem NT.set (h : NT w eP v) {b : Nat} {cs : List Value} (hb : Bl w b eP cs) (cs' : List Value) : NT (setB w b eP cs') eP v := by
  intro a n' c cs2 hv h0 h1
  by_cases e : a.block = b
  · exact h a n' c cs hv h0 (e ▸ hb)
  · refine h a n' c cs2 hv h0 ⟨?_⟩
    have := h1.at_
    unfold setB at this
    simp only [] at this
    rwa [Array.getElem?_setIfInBounds_ne (fun e2 => e e2.symm)] at this
theorem Rr.setT (hr : Rr w lo w.heap.size sz v n xs) (h : NT w eP v) {b : Nat} {cs : List Value} (hb : Bl w b eP cs) (cs' : List Value) : Rr (setB w b eP cs') lo (setB w b eP cs').heap.size sz v n xs := by
  obtain ⟨ad, c, hv, hf⟩ := hr.form
  rw [size_setB]
  refine ⟨hr.len, ad, c, hv, hf.elim .inl fun ⟨g, o, ha, h1, h2, hc⟩ => ?_⟩
  by_cases h0 : n = 0
  · exact .inl h0
  refine .inr ⟨g, o, ha, h1, h2, ⟨fun i u hu => ?_⟩⟩
  subst ha
  have h4 : g ≠ b := fun e => h _ _ _ cs hv h0 (e ▸ hb)
  have h3 := hc.at_ i u hu
  have h5 : (setB w b eP cs').heap[g]? = w.heap[g]? := by unfold setB; simp only []; rw [Array.getElem?_setIfInBounds_ne (fun e => h4 e.symm)]
  simpa [World.cell?, h5] using h3
end
/-- a polynomial at hand -/
structure Ph (eP : TypeId) (w : World) (lo : Nat) (v : Value) (A : List MT) : Prop where
  cm : CM A
  ex : ∃ Ls, Tl w lo w.heap.size v Ls ∧ pol Ls = toP A ∧ NT w eP v ∧ ∀ t ∈ Ls, NT w eP t.2.1
section
variable {eP : TypeId} {w w' : World} {lo : Nat} {v : Value} {A : List MT}
theorem Ph.ext (h : Ph eP w lo v A) (he : Ext w.heap.size w w') : Ph eP w' lo v A := by
  obtain ⟨Ls, h1, h2, h3, h4⟩ := h.ex
  exact ⟨h.cm, Ls, (h1.ext he).wide (Nat.le_refl _) he.size, h2, h3.ext h1.top he, fun t ht => (h4 t ht).ext (h1.sub t ht) he⟩
theorem pset {b : Nat} {cs : List Value} (hb : Bl w b eP cs) (h : Ph eP w lo v A) (cs' : List Value) : Ph eP (setB w b eP cs') lo v A := by
  obtain ⟨Ls, h1, h2, h3, h4⟩ := h.ex
  exact ⟨h.cm, Ls, ⟨h1.top.setT h3 hb _, fun t ht => (h1.sub t ht).setT (h4 t ht) hb _⟩, h2, h3.set hb _, fun t ht => (h4 t ht).set hb _⟩
theorem Ph.form (h : Ph eP w lo v A) : ∃ a c, v = .slice a A.length c := by
  obtain ⟨Ls, h1, h2, -⟩ := h.ex
  obtain ⟨a, c, h3, _⟩ := h1.form
  have := congrArg List.length h2
  rw [pol_length, toP_len] at this
  exact ⟨a, c, by rw [h3, this]⟩
theorem Ph.low {lo' : Nat} (h : Ph eP w lo v A) (hl : lo' ≤ lo) : Ph eP w lo' v A := by
  obtain ⟨Ls, h1, h2, h3⟩ := h.ex
  exact ⟨h.cm, Ls, h1.wide hl (Nat.le_refl _), h2, h3⟩
/-- a fresh term without factors -/
theorem Ph.const {b c : Nat} {eT : TypeId} {x : Int} (hA : CM A) (hp : toP A = [(x, [])]) (hb : Bl w b eT [.int .i64 x, .slice none 0 0]) (hne : Nat.beq eP eT = false) (hl : lo ≤ b) : Ph eP w lo (.slice (some ⟨b, 0, none⟩) 1 c) A := by
  refine ⟨hA, [(x, .slice none 0 0, [])], ⟨Rr.of_bl hb rfl hl hb.lt, fun t ht => ?_⟩, by rw [hp]; rfl, NT.bl hb hne, fun t ht => ?_⟩
  · simp only [List.mem_cons, List.not_mem_nil, or_false] at ht
    subst ht
    exact Rr.nil _ _ _ _ _ _
  · simp only [List.mem_cons, List.not_mem_nil, or_false] at ht
    subst ht
    exact NT.none _ _ _ _
theorem Ph.var {b b2 c c2 : Nat} {eT eF : TypeId} {x : Int} (hA : CM A) (hp : toP A = [(1, [(x, 1)])]) (hb : Bl w b eT [.int .i64 1, .slice (some ⟨b2, 0, none⟩) 1 c2]) (hb2 : Bl w b2 eF [.int .i64 x, .int .i64 1]) (hne : Nat.beq eP eT = false) (hne2 : Nat.beq eP eF = false) (hl : lo ≤ b) (hl2 : lo ≤ b2) : Ph eP w lo (.slice (some ⟨b, 0, none⟩) 1 c) A := by
  refine ⟨hA, [(1, .slice (some ⟨b2, 0, none⟩) 1 c2, [(x, 1)])], ⟨Rr.of_bl hb rfl hl hb.lt, fun t ht => ?_⟩, by rw [hp]; rfl, NT.bl hb hne, fun t ht => ?_⟩
  · simp only [List.mem_cons, List.not_mem_nil, or_false] at ht
    subst ht
    exact Rr.of_bl hb2 rfl hl2 hb2.lt
  · simp only [List.mem_cons, List.not_mem_nil, or_false] at ht
    subst ht
    exact NT.bl hb2 hne2
theorem Ph.zero {c : Nat} {a : Option Addr} (hA : CM A) (hp : toP A = []) : Ph eP w lo (.slice a 0 c) A := ⟨hA, [], Tl.nil _ _ _ _ _, by rw [hp]; rfl, NT.zero _ _ _ _, fun t ht => (by cases ht)⟩
end
theorem own_off2 {w : World} {b e B e' sz n : Nat} {v : Value} {cs xs : List Value} (h : w.ownsRow B e' sz v n xs) (hb : Bl w b e cs) (hne : Nat.beq e e' = false) (cs' : List Value) : (setB w b e cs').ownsRow B e' sz v n xs := by
  refine own_same h fun k hk => ?_
  have hkb : k ≠ b := by
    rintro rfl
    rcases own_slc h with ⟨rfl, _⟩ | ⟨g, cap, sp, _, hs⟩
    · cases hk
    · rw [hs.val] at hk
      simp only [Value.ownBlock, Option.some.injEq] at hk
      subst hk
      have h3 := hs.bl.at_
      rw [hb.at_] at h3
      simp only [Option.some.injEq, Obj.cells.injEq] at h3
      have := h3.2.1
      subst this
      rw [Nat.beq_refl] at hne
      cases hne
  unfold setB
  simp only []
  rw [Array.getElem?_setIfInBounds_ne (by omega)]
def Wi : Tre → Prop
  | ⟨k, v, x, 0, _⟩ => w64 v = v
  | ⟨_, _, _, 1, c⟩ => Wi (c 0)
  | ⟨_, _, _, _ + 2, c⟩ => Wi (c 0) ∧ Wi (c 1)
theorem wi_subs : ∀ t : Tre, Wi t → ∀ s ∈ subs t, Wi s := by
  refine Tre.ind (fun k v x c h s hs => ?_) (fun k v x c ih h s hs => ?_) (fun k v x n c ih1 ih2 h s hs => ?_)
  · rw [subs] at hs
    simp only [List.mem_cons, List.not_mem_nil, or_false] at hs; subst hs; exact h
  · rw [subs] at hs
    rcases List.mem_append.1 hs with hs | hs
    · exact ih h s hs
    · simp only [List.mem_cons, List.not_mem_nil, or_false] at hs; subst hs; exact h
  · rw [subs] at hs
    rcases List.mem_append.1 hs with hs | hs
    · rcases List.mem_append.1 hs with hs | hs
      · exact ih1 h.1 s hs
      · exact ih2 h.2 s hs
    · simp only [List.mem_cons, List.not_mem_nil, or_false] at hs; subst hs; exact h
end Go.Mw
namespace Go.Proofs.YbxaawGreat
open Go.Mw
abbrev PhP := Ph 44

theorem max1_ok (n : Nat) (w : World) : Ret Yaam.prog 93 [.int .i64 n] w fun r w' => r = .int .i64 ((max n 1 : Nat) : Int) ∧ w = w' := by
  refine enter1 Yaam.func93 Yaam.ntmps93 (by kernel_rfl) rfl rfl ?_
  refine V.seq ?_
  refine V.region ?_
  refine L.rd (rd_assign rfl) rfl ?_
  refine L.nil ?_
  refine X.sq ?_
  refine V.seq ?_
  refine V.seq ?_
  refine V.region ?_
  refine L.rd (rd_move rfl) rfl ?_
  refine L.rd (rd_lss rfl rfl) rfl ?_
  refine L.nil ?_
  refine X.sq ?_
  first | refine V.cond rfl (fun h4 => ?_) (fun h4 => ?_) | refine V.condB rfl (fun h4 => ?_) (fun h4 => ?_)
  ·
    refine V.seq ?_
    refine V.region ?_
    refine L.rd (rd_assign rfl) rfl ?_
    refine L.nil ?_
    refine X.sq ?_
    refine V.ret ?_
    refine X.sqRet ?_
    refine ret_1 Yaam.results93 rfl ?_
    exact ⟨by rw [Nat.max_eq_right (by omega)]; rfl, rfl⟩
  ·
    refine V.skip ?_
    refine X.sq ?_
    refine V.seq ?_
    refine V.region ?_
    refine L.rd (rd_move rfl) rfl ?_
    refine L.rd (rd_assign rfl) rfl ?_
    refine L.nil ?_
    refine X.sq ?_
    refine V.ret ?_
    refine ret_1 Yaam.results93 rfl ?_
    exact ⟨by rw [Nat.max_eq_left (by omega)], rfl⟩

theorem negRaw_ok (A : List MT) (va : Value) (w : World) {lo : Nat} (hP : PhP w lo va A) (hlo : lo ≤ w.heap.size) : Ret Yaam.prog 94 [.agg #[va]] w fun r w' => ∃ v, r = .agg #[v] ∧ PhP w' lo v (negM A) ∧ Ext w.heap.size w w' := by
  obtain ⟨Ls, hT, hpl, hnt, hnts⟩ := hP.ex
  obtain ⟨aa, ca, rfl, hfa⟩ := hT.form
  have hL : Ls.length ≤ 4096 := by have := congrArg List.length hpl; rw [pol_length, toP_len] at this; have := hP.cm.len; omega
  refine enter1 Yaam.func94 Yaam.ntmps94 (by kernel_rfl) rfl rfl ?_
  refine V.seq ?_
  refine V.region ?_
  refine L.ef (e_box (cs := [_]) rfl rfl (by first | (simp only [size_addB, size_setB, size_drew]; rfl) | rfl) rfl ?_)
  refine L.ef (e_alloc (cs := [_]) tok rfl rfl (by first | (simp only [size_addB, size_setB, size_drew]; rfl) | rfl) rfl ?_)
  refine L.nil ?_
  refine X.sq ?_
  refine V.seq ?_
  have hp := (Bl.new w 44 [.slice aa Ls.length ca]).add 44 [.slice none 0 0]
  have hr := Bl.new' (w := addB w 44 [.slice aa Ls.length ca]) (b := w.heap.size + 1) (by rw [size_addB]) 44 [.slice none 0 0]
  have hE := ((Ext.refl _ w).addNew 44 [.slice aa Ls.length ca]).addNew 44 [.slice none 0 0]
  generalize addB (addB w 44 [.slice aa Ls.length ca]) 44 [.slice none 0 0] = w0 at hp hr hE ⊢
  have hrl := hr.lt
  refine V.region ?_
  refine L.rd (rd_fieldAddr tok rfl rfl rfl rfl rfl rfl) rfl ?_
  refine L.rd (rd_load1 tok rfl rfl rfl (hp.cell rfl)) rfl ?_
  refine L.rd (rd_lenSlice tok rfl rfl rfl) rfl ?_
  refine L.ef (e_make (e := 91) (zs := [_, _]) (m := 0) (c := Ls.length) tok rfl rfl rfl rfl rfl rfl rfl rfl (by first | (simp only [size_addB, size_setB, size_drew]; rfl) | rfl) rfl (by omega) (by simp only []; omega) (by omega) ?_)
  refine L.rd (rd_assign rfl) rfl ?_
  refine L.nil ?_
  refine X.sq ?_
  refine V.seq ?_
  refine V.seq ?_
  refine V.region ?_
  refine L.rd (rd_fieldAddr tok rfl rfl rfl rfl rfl rfl) rfl ?_
  refine L.rd (rd_load1 tok rfl rfl rfl ((hp.add _ _).cell rfl)) rfl ?_
  refine L.rd (rd_lenSlice tok rfl rfl rfl) rfl ?_
  refine L.rd (rd_move rfl) rfl ?_
  refine L.nil ?_
  refine X.sq ?_
  refine V.block ?_
  refine V.loop (fun m l w3 => ∃ (i : Nat) (mv : Value), l = [(2, .pointer (some ⟨w.heap.size + 1, 0, none⟩)), (3, mv), (11, .slice aa Ls.length ca), (12, .int .i64 Ls.length), (13, .int .i64 i)] ∧ m = Ls.length - i ∧ i ≤ Ls.length ∧ Ext w.heap.size w w3 ∧ Bl w3 (w.heap.size + 1) 44 [.slice none 0 0] ∧ w3.ownsRow w0.heap.size 91 2 mv i (((Ls.map ngL).take i).flatMap ltE) ∧ w0.heap.size ≤ w3.heap.size) ?_ ?_
  ·
    exact ⟨_, _, (by repeat' (first | exact trivial | refine ⟨rfl, ?_⟩)), 0, _, rfl, rfl, by omega, hE.addNew _ _, hr.add _ _, own_made (sz := 2) (c := Ls.length) (Bl.new _ _ _) (by rw [List.length_flatten]; simp) (Nat.le_refl _) (by unfold maxLen; omega), by rw [size_addB]; omega⟩
  ·
    clear hp hE hr
    rintro m l w3 ⟨i, mv, rfl, rfl, hi, hE, hr, hO, hs3⟩
    refine V.seq ?_
    refine V.region ?_
    refine L.rd (rd_lss rfl rfl) rfl ?_
    refine L.nil ?_
    refine X.sq ?_
    refine V.seq ?_
    first | refine V.cond rfl (fun h14 => ?_) (fun h14 => ?_) | refine V.condB rfl (fun h14 => ?_) (fun h14 => ?_)
    ·
      obtain ⟨b1, o1, rfl, -, -, hc1⟩ := hfa.resolve_left (by omega)
      obtain ⟨⟨c, fv, fs⟩, ht⟩ := nth_of_lt Ls i (by omega)
      have hcx := Tl.cells (hc1.le hE.leC) ht
      obtain ⟨fa, fc, hfv, -⟩ := hT.nth ht
      simp only at hcx hfv
      subst hfv
      have hmt : (Ls.map ngL)[i]? = some (w64 (-c), .slice fa fs.length fc, fs) := by rw [List.getElem?_map, ht]; rfl
      refine V.skip ?_
      refine X.sq ?_
      refine V.seq ?_
      refine V.block ?_
      refine V.seq ?_
      refine V.region ?_
      (refine L.rd (rd_indexSlice (sz := 2) tok rfl rfl rfl rfl rfl rfl rfl ?_) rfl ?_; omega)
      refine L.rd (rd_loadN tok rfl rfl rfl hcx rfl) rfl ?_
      refine L.ef (e_alloc (cs := [_, _]) tok rfl rfl (by first | (simp only [size_addB, size_setB, size_drew]; rfl) | rfl) rfl ?_)
      refine L.ef (e_store (vs := [_, _]) tok rfl rfl rfl rfl (by (repeat (first | assumption | (refine Bl.new' ?_ _ _; first | with_reducible rfl | (simp only [size_addB, size_setB, size_drew]; done)) | apply Bl.add | apply Bl.drew | (apply Bl.setNe; omega) | (refine Bl.set' ?_ _ _; (try simp only [size_addB, size_setB, size_drew]); omega)))) rfl (by simp [Value.oneCell']) (by simp) ?_)
      refine L.nil ?_
      refine X.sq ?_
      generalize hw4 : setB _ _ _ _ = w4
      have hb4 : Bl w4 w3.heap.size 91 [.int .i64 c, .slice fa fs.length fc] := by rw [← hw4]; refine Bl.set' ?_ _ _; rw [size_addB]; omega
      have he4 : Ext w3.heap.size w3 w4 := by rw [← hw4]; exact ((Ext.refl _ _).addNew _ _).set (Nat.le_refl _) _ _
      have hO4 := own_ext hO he4
      have hr4 := he4.bl hr.lt hr
      have hE4 := hE.next he4
      have hs4 := he4.size
      refine V.region ?_
      refine L.rd (rd_move rfl) rfl ?_
      refine L.rd (rd_fieldAddr tok rfl rfl rfl rfl rfl rfl) rfl ?_
      refine L.rd (rd_load1 tok rfl rfl rfl (hb4.cell rfl)) rfl ?_
      refine L.rd (rd_negW rfl) rfl ?_
      refine L.rd (rd_fieldAddr tok rfl rfl rfl rfl rfl rfl) rfl ?_
      refine L.rd (rd_load1 tok rfl rfl rfl (hb4.cell (i := 1) rfl)) rfl ?_
      refine L.rd (rd_build (out := [_, _]) tok rfl rfl rfl rfl rfl) rfl ?_
      refine L.ef (e_buildSlice1 (e := 91) (cs := [_, _]) tok rfl rfl rfl rfl rfl rfl rfl rfl rfl (by first | (simp only [size_addB, size_setB, size_drew]; rfl) | rfl) rfl ?_)
      refine L.ef (e_append (m := 1) tok rfl rfl rfl rfl rfl rfl rfl rfl rfl rfl (hO4.alloc _) (Bl.new _ _ _).cells rfl (by simp [Value.oneCell']) (by unfold maxLen; omega) (by simp only []; omega) (by rw [size_addB]; omega) ?_)
      rintro v6 w6 ho6 hg6
      have hE6 := (hE4.addNew 91 [.int .i64 (w64 (-c)), .slice fa fs.length fc]).grown hg6 (by rw [size_addB]; omega) (fun q hq => by have := (own_block_lt hO4 hq).1; omega)
      have hp6 := (hr4.add 91 [.int .i64 (w64 (-c)), .slice fa fs.length fc]).off_own (hO4.alloc _) rfl hg6
      have hs6 := hg6.size
      rw [size_addB] at hs6
      refine L.rd (rd_assign rfl) rfl ?_
      refine L.nil ?_
      refine X.bk ?_
      refine X.sq ?_
      refine V.region ?_
      (refine L.rd (rd_add3 rfl rfl ?_) rfl ?_; omega)
      refine L.rd (rd_move rfl) rfl ?_
      refine L.nil ?_
      refine X.lp ⟨_, _, by omega, (by repeat' (first | exact trivial | refine ⟨rfl, ?_⟩)), i + 1, v6, rfl, rfl, by omega, hE6, hp6, ?_, by omega⟩
      rw [take_snoc hmt, List.flatMap_append]
      rw [show List.flatMap ltE [(w64 (-c), (Value.slice fa fs.length fc), fs)] = [.int .i64 (w64 (-c)), .slice fa fs.length fc] from rfl]
      exact ho6
    ·
      refine V.exit ?_
      refine X.sqExit ?_
      refine X.lpExit ?_
      refine X.bkHere ?_
      refine X.sq ?_
      refine V.seq ?_
      obtain rfl : i = Ls.length := by omega
      rw [List.take_of_length_le (by simp)] at hO
      obtain ⟨oa, oc, rfl⟩ := own_form hO
      refine V.region ?_
      refine L.rd (rd_move rfl) rfl ?_
      refine L.rd (rd_build (out := [_]) tok rfl rfl rfl rfl rfl) rfl ?_
      refine L.ef (e_store (vs := [_]) tok rfl rfl rfl rfl hr rfl (by simp [Value.oneCell']) (by simp) ?_)
      refine L.nil ?_
      refine X.sq ?_
      refine V.ret ?_
      refine ret_c tok Yaam.results94 rfl rfl rfl (Bl.cells (hr.set _ _)) rfl ?_
      have hEs := hE.set (b := w.heap.size + 1) (by omega) 44 (putAt [.slice none 0 0] 0 [.slice oa Ls.length oc])
      refine ⟨_, rfl, ⟨hP.cm.neg, Ls.map ngL, ⟨?_, fun t ht => ?_⟩, pol_ngL hpl, ?_, fun t ht => ?_⟩, hEs⟩
      · have hO' := own_off2 hO hr rfl (putAt [.slice none 0 0] 0 [.slice oa Ls.length oc])
        rw [List.length_map]
        exact (Rr.of_own hO' (fun k hk => (own_block_lt hO' hk).2)).wide (by omega) (Nat.le_refl _)
      · rw [List.mem_map] at ht
        obtain ⟨u, hu, rfl⟩ := ht
        exact ((hT.sub u hu).ext hEs).wide (Nat.le_refl _) hEs.size
      · exact NT.own (own_off2 hO hr rfl (putAt [.slice none 0 0] 0 [.slice oa Ls.length oc])) rfl
      · rw [List.mem_map] at ht
        obtain ⟨u, hu, rfl⟩ := ht
        exact (hnts u hu).ext (hT.sub u hu) hEs
end Go.Proofs.YbxaawGreat
