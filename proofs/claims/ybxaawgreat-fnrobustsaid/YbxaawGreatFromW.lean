/-
  spec.fromM, walked: model terms made into a polynomial.
-/
import Derived.Test.YbxaawGreatSortW2
import Derived.Test.YbxaawGreatPolyM2
import Derived.Test.YbxaawGreatBufW
set_option linter.unusedVariables false
set_option linter.unusedSimpArgs false
set_option maxRecDepth 10000
namespace Go.Mw
theorem own_type {w : World} {B B' e e' sz sz' n n' : Nat} {v v' : Value} {xs xs' : List Value} (h : w.ownsRow B e sz v n xs) (h' : w.ownsRow B' e' sz' v' n' xs') (hne : Nat.beq e e' = false) : ∀ k, v.ownBlock = some k → v'.ownBlock ≠ some k := by
  intro k hk hk'
  rcases own_slc h with ⟨rfl, _⟩ | ⟨g, cap, sp, _, hs⟩
  · simp [Value.ownBlock] at hk
  · rcases own_slc h' with ⟨rfl, _⟩ | ⟨g', cap', sp', _, hs'⟩
    · simp [Value.ownBlock] at hk'
    · rw [hs.val] at hk
      rw [hs'.val] at hk'
      simp only [Value.ownBlock, Option.some.injEq] at hk hk'
      subst hk hk'
      have h1 := hs.bl.at_
      rw [hs'.bl.at_] at h1
      simp only [Option.some.injEq, Obj.cells.injEq] at h1
      have : e = e' := h1.2.1.symm
      subst this
      simp at hne
/-- a term is appended -/
theorem OwnT.push {w w' : World} {lo hi : Nat} {eT eF : TypeId} {v v' : Value} {Ls : List Lt} {c : Int} {fv : Value} {fs : List (Int × Int)} (h : OwnT w lo hi eT eF v Ls) (hne : Nat.beq eF eT = false) (hf : w.ownsRow hi eF 2 fv fs.length (prC fs)) (hl : lo ≤ hi)
    (hg : w.grownBy w' v.ownBlock) (hn : w'.ownsRow lo eT 2 v' (Ls.length + 1) (Ls.flatMap ltE ++ [.int .i64 c, fv])) : OwnT w' lo w'.heap.size eT eF v' (Ls ++ [(c, fv, fs)]) := by
  have hsub : ∀ t ∈ Ls ++ [(c, fv, fs)], w'.ownsRow lo eF 2 t.2.1 t.2.2.length (prC t.2.2) := by
    intro t ht
    rcases List.mem_append.1 ht with ht | ht
    · refine (h.sub t ht).kept hg ?_
      cases hv : t.2.1.ownBlock with
      | none => exact .inl rfl
      | some k => exact .inr (fun e => h.ne t ht k hv e.symm)
    · simp at ht; subst ht
      refine own_low (B := hi) ?_ hl
      refine hf.kept hg ?_
      cases hv : fv.ownBlock with
      | none => exact .inl rfl
      | some k => exact .inr (fun e => own_type hf h.top hne k hv e.symm)
  have hget : ∀ j u, (Ls ++ [(c, fv, fs)])[j]? = some u → (j < Ls.length ∧ Ls[j]? = some u) ∨ (j = Ls.length ∧ u = (c, fv, fs)) := by
    intro j u hu
    rcases Nat.lt_trichotomy j Ls.length with hj | hj | hj
    · rw [List.getElem?_append_left hj] at hu; exact .inl ⟨hj, hu⟩
    · subst hj
      rw [List.getElem?_append_right (Nat.le_refl _), Nat.sub_self] at hu
      exact .inr ⟨rfl, by simpa using hu.symm⟩
    · rw [List.getElem?_eq_none (by simp; omega)] at hu; cases hu
  refine ⟨?_, hsub, fun k hk => (own_block_lt hn hk).2, fun t ht k hk => (own_block_lt (hsub t ht) hk).2, fun t ht => own_type (hsub t ht) hn hne, ?_⟩
  · rw [List.length_append, List.flatMap_append]
    exact hn
  · intro i j t u ht hu hij k hk e
    have hfb : ∀ k, fv.ownBlock = some k → hi ≤ k := fun k hk => (own_block_lt hf hk).1
    rcases hget i t ht with ⟨hi1, ht'⟩ | ⟨hi1, rfl⟩ <;> rcases hget j u hu with ⟨hj1, hu'⟩ | ⟨hj1, rfl⟩
    · exact h.nd i j t u ht' hu' hij k hk e
    · have h1 := hfb k e
      have h2 := h.subLt t (List.mem_of_getElem? ht') k hk
      omega
    · have h1 := hfb k hk
      have h2 := h.subLt u (List.mem_of_getElem? hu') k e
      omega
    · omega
theorem OwnT.made {w : World} {b lo hi c : Nat} {eT eF : TypeId} {cs : List Value} (h : Bl w b eT cs) (hl : cs.length = c * 2) (hb : lo ≤ b) (hb2 : b < hi) (hc : c ≤ maxLen) : OwnT w lo hi eT eF (.slice (some ⟨b, 0, none⟩) 0 c) [] :=
  ⟨own_made h hl hb hc, fun t ht => (by cases ht), fun k hk => by simp [Value.ownBlock] at hk; omega, fun t ht => (by cases ht), fun t ht => (by cases ht), fun i j t u ht => by simp at ht⟩
theorem toP_get {R : List MT} {k : Nat} {t : MT} (h : R[k]? = some t) : (toP R)[k]? = some (t.1, spF t.2 0) := by simp [toP, h]
theorem toP_len (R : List MT) : (toP R).length = R.length := by simp [toP]
theorem spF_len : ∀ (v : List Int) (i : Nat), (spF v i).length ≤ v.length
  | [], i => by simp [spF]
  | x :: v, i => by
    have := spF_len v (i + 1)
    rw [spF]
    split <;> simp only [List.length_cons] <;> omega
end Go.Mw
namespace Go.Proofs.YbxaawGreat
open Go.Mw

theorem fromM_ok (R : List MT) (hV : Vl R) (hn : R.length ≤ 1048576) (v : Value) (w : World) (hS : Sl w v R) : Ret Yaam.prog 62 [v] w (CopiedP 91 93 (toP R) w) := by
  obtain ⟨ra, rc, rfl⟩ : ∃ a c, v = .slice a R.length c := by
    rcases hS with ⟨rfl, rfl⟩ | ⟨b, o, c, rfl, -, -⟩
    · exact ⟨_, _, rfl⟩
    · exact ⟨_, _, rfl⟩
  refine enter1 Yaam.func62 Yaam.ntmps62 (by kernel_rfl) rfl rfl ?_
  refine V.seq ?_
  refine V.region ?_
  refine L.ef (e_alloc (cs := [_]) tok rfl rfl (by first | (simp only [size_addB, size_setB, size_drew]; rfl) | rfl) rfl ?_)
  refine L.nil ?_
  refine X.sq ?_
  refine V.seq ?_
  refine V.region ?_
  refine L.rd (rd_move rfl) rfl ?_
  refine L.rd (rd_lenSlice tok rfl rfl rfl) rfl ?_
  refine L.ef (e_make (e := 91) (zs := [_, _]) (m := 0) (c := R.length) tok rfl rfl rfl rfl rfl rfl rfl rfl (by first | (simp only [size_addB, size_setB, size_drew]; rfl) | rfl) rfl (by omega) (by simp only []; omega) (by omega) ?_)
  refine L.rd (rd_assign rfl) rfl ?_
  refine L.nil ?_
  refine X.sq ?_
  refine V.seq ?_
  refine V.seq ?_
  have hE1 := ((Ext.refl _ w).addNew 44 [.slice none 0 0]).addNew 91 ((List.replicate R.length [Value.int .i64 0, .slice none 0 0]).flatten)
  have hb1 : Bl (addB (addB w 44 [.slice none 0 0]) 91 ((List.replicate R.length [Value.int .i64 0, .slice none 0 0]).flatten)) (w.heap.size + 1) 91 ((List.replicate R.length [Value.int .i64 0, .slice none 0 0]).flatten) := Bl.new' (by rw [size_addB]) _ _
  have hp1 : Bl (addB (addB w 44 [.slice none 0 0]) 91 ((List.replicate R.length [Value.int .i64 0, .slice none 0 0]).flatten)) w.heap.size 44 [.slice none 0 0] := (Bl.new _ _ _).add _ _
  refine V.region ?_
  refine L.rd (rd_move rfl) rfl ?_
  refine L.rd (rd_lenSlice tok rfl rfl rfl) rfl ?_
  refine L.rd (rd_move rfl) rfl ?_
  refine L.nil ?_
  refine X.sq ?_
  refine V.block ?_
  refine V.loop (fun m l wr => ∃ (k : Nat) (tv : Value) (Ms : List Lt), l = [(2, .pointer (some ⟨w.heap.size, 0, none⟩)), (3, tv), (11, .slice ra R.length rc), (12, .int .i64 R.length), (13, .int .i64 k)] ∧ m = R.length - k ∧ k ≤ R.length ∧ Ext w.heap.size w wr ∧ Bl wr w.heap.size 44 [.slice none 0 0] ∧ OwnT wr (w.heap.size + 1) wr.heap.size 91 93 tv Ms ∧ pol Ms = (toP R).take k) ?_ ?_
  ·
    exact ⟨_, _, (by repeat' (first | exact trivial | refine ⟨rfl, ?_⟩)), 0, _, [], rfl, rfl, by omega, hE1, hp1, OwnT.made hb1 (by rw [List.length_flatten]; simp) (Nat.le_refl _) (by simp only [size_addB]; omega) (by unfold maxLen; omega), by simp [pol]⟩
  ·
    clear hE1 hb1 hp1
    rintro m l wr ⟨k, tv, Ms, rfl, rfl, hk, hE, hp, hO, hMp⟩
    have hwr := hE.size
    have hpl := hp.lt
    have hMl : Ms.length = k := by
      have := congrArg List.length hMp
      rw [pol_length, List.length_take, toP_len] at this; omega
    refine V.seq ?_
    refine V.region ?_
    refine L.rd (rd_lss rfl rfl) rfl ?_
    refine L.nil ?_
    refine X.sq ?_
    refine V.seq ?_
    first | refine V.cond rfl (fun h14 => ?_) (fun h14 => ?_) | refine V.condB rfl (fun h14 => ?_) (fun h14 => ?_)
    ·
      obtain ⟨rb, ro, rc', hrv, hrc, hcs⟩ := hS.resolve_left (fun h => by rw [h.2] at h14; simp at h14; omega)
      simp only [Value.slice.injEq] at hrv
      obtain ⟨rfl, -, rfl⟩ := hrv
      obtain ⟨⟨c, v⟩, ht⟩ := nth_of_lt R k (by omega)
      have hvv := hV _ (List.mem_of_getElem? ht)
      simp only at hvv
      have hvl := hvv.len
      have hcx := mt_at (hcs.le hE.leC) ht
      have hspl := spF_len v 0
      refine V.skip ?_
      refine X.sq ?_
      refine V.seq ?_
      refine V.block ?_
      refine V.seq ?_
      refine V.region ?_
      (refine L.rd (rd_indexSlice (sz := 27) tok rfl rfl rfl rfl rfl rfl rfl ?_) rfl ?_; omega)
      refine L.rd (rd_loadN tok rfl rfl rfl hcx (mtE_len _).symm) rfl ?_
      refine L.ef (e_alloc (cs := .int .i64 0 :: iC .i32 z26) tok rfl rfl (by first | (simp only [size_addB, size_setB, size_drew]; rfl) | rfl) rfl ?_)
      refine L.ef (e_store (vs := mtE (c, v)) tok rfl rfl rfl rfl (cs := .int .i64 0 :: iC .i32 z26) (by (repeat (first | assumption | (refine Bl.new' ?_ _ _; first | with_reducible rfl | (simp only [size_addB, size_setB, size_drew]; done)) | apply Bl.add | apply Bl.drew | (apply Bl.setNe; omega) | (refine Bl.set' ?_ _ _; (try simp only [size_addB, size_setB, size_drew]); omega)))) (mtE_len _) (mtE_one _) (by rw [mtE_len]; simp [iC, z26]) ?_)
      (rw [putAll _ _ (by rw [mtE_len]; simp [iC, z26])])
      refine L.nil ?_
      refine X.sq ?_
      refine V.seq ?_
      obtain ⟨w5, hw5⟩ : ∃ w5, w5 = setB (addB wr 103 (.int .i64 0 :: iC .i32 z26)) wr.heap.size 103 (mtE (c, v)) := ⟨_, rfl⟩
      have hbt : Bl w5 wr.heap.size 103 (mtE (c, v)) := by rw [hw5]; exact Bl.set' (by rw [size_addB]; omega) _ _
      have hE5 : Ext wr.heap.size wr w5 := by rw [hw5]; exact ((Ext.refl _ _).addNew _ _).set (Nat.le_refl _) _ _
      rw [← hw5]
      have hs5 := hE5.size
      refine V.region ?_
      refine L.rd (rd_assign rfl) rfl ?_
      refine L.nil ?_
      refine X.sq ?_
      refine V.seq ?_
      refine V.seq ?_
      refine V.region ?_
      refine L.rd (rd_assign rfl) rfl ?_
      refine L.nil ?_
      refine X.sq ?_
      refine V.block ?_
      refine V.loop (fun m l w6 => ∃ (i : Nat) (fv : Value) (fs : List (Int × Int)), l = [(2, .pointer (some ⟨w.heap.size, 0, none⟩)), (3, tv), (5, .pointer (some ⟨wr.heap.size, 0, none⟩)), (6, fv), (7, .int .i64 i), (11, .slice (some ⟨rb, ro, none⟩) R.length rc), (12, .int .i64 R.length), (13, .int .i64 k)] ∧ m = 26 - i ∧ i ≤ 26 ∧ Ext w5.heap.size w5 w6 ∧ w6.ownsRow w5.heap.size 93 2 fv fs.length (prC fs) ∧ spF v 0 = fs ++ spF (v.drop i) i) ?_ ?_
      ·
        exact ⟨_, _, (by repeat' (first | exact trivial | refine ⟨rfl, ?_⟩)), 0, _, [], rfl, rfl, by omega, Ext.refl _ _, World.ownsRow_nil _ _ _ _, by simp⟩
      ·
        rintro m l w6 ⟨i, fv, fs, rfl, rfl, hi, hE6, hf6, hsp⟩
        have hbt6 := hE6.bl hbt.lt hbt
        have hs6 := hE6.size
        refine V.seq ?_
        refine V.seq ?_
        refine V.region ?_
        refine L.rd (rd_move rfl) rfl ?_
        refine L.rd (rd_lss rfl rfl) rfl ?_
        refine L.nil ?_
        refine X.sq ?_
        first | refine V.cond rfl (fun h18 => ?_) (fun h18 => ?_) | refine V.condB rfl (fun h18 => ?_) (fun h18 => ?_)
        ·
          obtain ⟨x, hx, hx0, hx1⟩ := hvv.nth (k := i) (by omega)
          have hmx := mtE_get (c := c) hvl hx
          rw [spF_step hx] at hsp
          have hfl : fs.length ≤ 26 := by
            have := congrArg List.length hsp
            rw [List.length_append] at this; omega
          refine V.skip ?_
          refine X.sq ?_
          refine V.seq ?_
          refine V.block ?_
          refine V.seq ?_
          refine V.region ?_
          refine L.rd (rd_move rfl) rfl ?_
          refine L.rd (rd_fieldAddr tok rfl rfl rfl rfl rfl rfl) rfl ?_
          (refine L.rd (rd_indexArr (n := 26) (sz := 1) tok rfl rfl rfl rfl rfl rfl rfl rfl ?_) rfl ?_; omega)
          refine L.rd (rd_load1 tok rfl rfl rfl (cell_at hbt6 hmx (by simp))) rfl ?_
          refine L.rd (rd_neq rfl rfl) rfl ?_
          refine L.nil ?_
          refine X.sq ?_
          first | refine V.cond rfl (fun h25 => ?_) (fun h25 => ?_) | refine V.condB rfl (fun h25 => ?_) (fun h25 => ?_)
          ·
            rw [if_neg h25] at hsp
            refine V.region ?_
            refine L.rd (rd_move rfl) rfl ?_
            refine L.rd (rd_move rfl) rfl ?_
            refine L.rd (rd_move rfl) rfl ?_
            refine L.rd (rd_fieldAddr tok rfl rfl rfl rfl rfl rfl) rfl ?_
            (refine L.rd (rd_indexArr (n := 26) (sz := 1) tok rfl rfl rfl rfl rfl rfl rfl rfl ?_) rfl ?_; omega)
            refine L.rd (rd_load1 tok rfl rfl rfl (cell_at hbt6 hmx (by simp))) rfl ?_
            refine L.rd (rd_convE (r := x) tok rfl rfl rfl rfl rfl (wrap_i64_in (by omega))) rfl ?_
            refine L.rd (rd_build (out := [_, _]) tok rfl rfl rfl rfl rfl) rfl ?_
            refine L.ef (e_buildSlice1 (e := 93) (cs := [_, _]) tok rfl rfl rfl rfl rfl rfl rfl rfl rfl (by first | (simp only [size_addB, size_setB, size_drew]; rfl) | rfl) rfl ?_)
            refine L.ef (e_append (m := 1) tok rfl rfl rfl rfl rfl rfl rfl rfl rfl rfl (hf6.alloc _) (Bl.new _ _ _).cells rfl (by simp [Value.oneCell']) (by unfold maxLen; omega) (by simp only []; omega) (by rw [size_addB]; omega) ?_)
            rintro v7 w7 ho7 hg7
            have hE7 := (hE6.addNew 93 [Value.int .i64 i, .int .i64 x]).grown hg7 (by rw [size_addB]; omega) (fun q hq => (own_block_lt hf6 hq).1)
            refine L.rd (rd_assign rfl) rfl ?_
            refine L.nil ?_
            refine X.bk ?_
            refine X.sq ?_
            refine V.region ?_
            refine L.rd (rd_move rfl) rfl ?_
            (refine L.rd (rd_add3 rfl rfl ?_) rfl ?_; omega)
            refine L.rd (rd_assign rfl) rfl ?_
            refine L.nil ?_
            first
              | exact X.lp ⟨_, _, by omega, (by repeat' (first | exact trivial | refine ⟨rfl, ?_⟩)), i + 1, v7, fs ++ [((i : Int), x)], rfl, rfl, by omega, hE7, by rw [List.length_append]; simpa [prC, prE] using ho7, by rw [hsp]; simp⟩
              | exact X.lp ⟨_, _, by omega, (by repeat' (first | exact trivial | refine ⟨rfl, ?_⟩)), i + 1, fv, fs, rfl, rfl, by omega, hE6, hf6, by rw [hsp, if_pos (Decidable.not_not.1 h25)]⟩
          ·
            refine V.skip ?_
            refine X.bk ?_
            refine X.sq ?_
            refine V.region ?_
            refine L.rd (rd_move rfl) rfl ?_
            (refine L.rd (rd_add3 rfl rfl ?_) rfl ?_; omega)
            refine L.rd (rd_assign rfl) rfl ?_
            refine L.nil ?_
            first
              | exact X.lp ⟨_, _, by omega, (by repeat' (first | exact trivial | refine ⟨rfl, ?_⟩)), i + 1, v7, fs ++ [((i : Int), x)], rfl, rfl, by omega, hE7, by rw [List.length_append]; simpa [prC, prE] using ho7, by rw [hsp]; simp⟩
              | exact X.lp ⟨_, _, by omega, (by repeat' (first | exact trivial | refine ⟨rfl, ?_⟩)), i + 1, fv, fs, rfl, rfl, by omega, hE6, hf6, by rw [hsp, if_pos (Decidable.not_not.1 h25)]⟩
        ·
          refine V.exit ?_
          refine X.sqExit ?_
          refine X.lpExit ?_
          refine X.bkHere ?_
          refine X.sq ?_
          rw [drop_end (by omega)] at hsp
          simp only [spF, List.append_nil] at hsp
          obtain ⟨fa, fc, rfl⟩ : ∃ a c, fv = .slice a fs.length c := by
            rcases own_slc hf6 with ⟨rfl, h0, _⟩ | ⟨g, cap, sp, _, hs⟩
            · rw [h0]; exact ⟨_, _, rfl⟩
            · exact ⟨_, _, hs.val⟩
          have hE56 := hE5.next hE6
          have hO6 := hO.ext hE56
          refine V.region ?_
          refine L.rd (rd_move rfl) rfl ?_
          refine L.rd (rd_fieldAddr tok rfl rfl rfl rfl rfl rfl) rfl ?_
          refine L.rd (rd_load1 tok rfl rfl rfl (hbt6.cell rfl)) rfl ?_
          refine L.rd (rd_move rfl) rfl ?_
          refine L.rd (rd_build (out := [_, _]) tok rfl rfl rfl rfl rfl) rfl ?_
          refine L.ef (e_buildSlice1 (e := 91) (cs := [_, _]) tok rfl rfl rfl rfl rfl rfl rfl rfl rfl (by first | (simp only [size_addB, size_setB, size_drew]; rfl) | rfl) rfl ?_)
          refine L.ef (e_append (m := 1) tok rfl rfl rfl rfl rfl rfl rfl rfl rfl rfl (hO6.top.alloc _) (Bl.new _ _ _).cells rfl (by simp [Value.oneCell']) (by unfold maxLen; omega) (by simp only []; omega) (by rw [size_addB]; omega) ?_)
          rintro v8 w8 ho8 hg8
          have hEa : Ext w6.heap.size w6 (addB w6 91 [Value.int .i64 c, .slice fa fs.length fc]) := (Ext.refl _ _).addNew _ _
          have hO8 := (hO6.ext hEa).push (w' := w8) (c := c) (fs := fs) rfl (own_ext (own_low hf6 hs5) hEa) (by omega) hg8 ho8
          have hE8 := (hE.next hE56).next hEa |>.grown hg8 (by rw [size_addB]; omega) (fun q hq => by have := (own_block_lt hO.top hq).1; omega)
          have hp8 := (((hE56.bl hp.lt hp).add 91 [Value.int .i64 c, .slice fa fs.length fc])).off_own (hO6.ext hEa).top rfl hg8
          refine L.rd (rd_assign rfl) rfl ?_
          refine L.nil ?_
          refine X.bk ?_
          refine X.sq ?_
          refine V.region ?_
          (refine L.rd (rd_add3 rfl rfl ?_) rfl ?_; omega)
          refine L.rd (rd_move rfl) rfl ?_
          refine L.nil ?_
          refine X.lp ⟨_, _, by omega, (by repeat' (first | exact trivial | refine ⟨rfl, ?_⟩)), k + 1, v8, Ms ++ [(c, .slice fa fs.length fc, fs)], rfl, rfl, by omega, hE8, hp8, hO8, ?_⟩
          rw [take_snoc (toP_get ht), ← hMp]
          simp only [pol, List.map_append, List.map_cons, List.map_nil, hsp]
    ·
      refine V.exit ?_
      refine X.sqExit ?_
      refine X.lpExit ?_
      refine X.bkHere ?_
      refine X.sq ?_
      refine V.seq ?_
      obtain ⟨ta, tc, rfl⟩ : ∃ a c, tv = .slice a Ms.length c := by
        rcases own_slc hO.top with ⟨rfl, h0, _⟩ | ⟨g, cap, sp, _, hs⟩
        · rw [h0]; exact ⟨_, _, rfl⟩
        · exact ⟨_, _, hs.val⟩
      refine V.region ?_
      refine L.rd (rd_move rfl) rfl ?_
      refine L.rd (rd_build (out := [_]) tok rfl rfl rfl rfl rfl) rfl ?_
      refine L.ef (e_store (vs := [_]) tok rfl rfl rfl rfl (by (repeat (first | assumption | (refine Bl.new' ?_ _ _; first | with_reducible rfl | (simp only [size_addB, size_setB, size_drew]; done)) | apply Bl.add | apply Bl.drew | (apply Bl.setNe; omega) | (refine Bl.set' ?_ _ _; (try simp only [size_addB, size_setB, size_drew]); omega)))) rfl (by simp [Value.oneCell']) (by simp) ?_)
      refine L.nil ?_
      refine X.sq ?_
      refine V.ret ?_
      refine ret_c tok Yaam.results62 rfl rfl rfl (Bl.cells (hp.set _ _)) rfl ?_
      refine ⟨_, rfl, Ms, ?_, ?_, hE.set (Nat.le_refl _) _ _⟩
      · rw [size_setB]
        exact (hO.rg (Rg.set (lo := w.heap.size) (hi := w.heap.size + 1) (by omega) _ _) (by omega)).low (by omega)
      · rw [hMp, List.take_of_length_le (by rw [toP_len]; omega)]
end Go.Proofs.YbxaawGreat
