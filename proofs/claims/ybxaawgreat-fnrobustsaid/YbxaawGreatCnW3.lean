/-
  The implementation's pool of canonical nodes, walked.
-/
import Derived.Test.YbxaawGreatRevW
set_option linter.unusedVariables false
set_option linter.unusedSimpArgs false
set_option maxRecDepth 10000
namespace Go.Mw
/-- blocks below lo are kept, but for bp -/
structure KP (bp lo : Nat) (w w' : World) : Prop where
  os : w'.os = w.os
  tape : w'.tape = w.tape
  output : w'.output = w.output
  size : w.heap.size ≤ w'.heap.size
  block : ∀ k, k < lo → k ≠ bp → w'.heap[k]? = w.heap[k]?
section
variable {bp lo : Nat} {w w' w2 : World}
theorem KP.refl (bp lo : Nat) (w : World) : KP bp lo w w := ⟨rfl, rfl, rfl, Nat.le_refl _, fun _ _ _ => rfl⟩
theorem KP.trans (h : KP bp lo w w') (k : KP bp lo w' w2) : KP bp lo w w2 :=
  ⟨k.os.trans h.os, k.tape.trans h.tape, k.output.trans h.output, Nat.le_trans h.size k.size, fun i hi hn => (k.block i hi hn).trans (h.block i hi hn)⟩
theorem KP.ext (h : Ext w.heap.size w w') (hl : lo ≤ w.heap.size) (bp : Nat) : KP bp lo w w' := ⟨h.os, h.tape, h.output, h.size, fun k hk _ => h.block k (by omega)⟩
theorem KP.low (h : KP bp lo w w') {B : Nat} (hB : B ≤ bp) (hl : B ≤ lo) : Ext B w w' := ⟨h.os, h.tape, h.output, h.size, fun k hk => h.block k (by omega) (by omega)⟩
theorem KP.bl (h : KP bp lo w w') {b : Nat} {e : TypeId} {cs : List Value} (k : Bl w b e cs) (h1 : b < lo) (h2 : b ≠ bp) : Bl w' b e cs := ⟨(h.block b h1 h2).trans k.at_⟩
theorem KP.grown {r : Option Nat} (h : w.grownBy w' r) (hr : ∀ k, r = some k → lo ≤ k) (hl : lo ≤ w.heap.size) (bp : Nat) : KP bp lo w w' :=
  ⟨h.os, h.tape, h.output, h.size, fun k hk _ => h.block k (by omega) (fun e => by have := hr k e.symm; omega)⟩
theorem KP.set (w : World) (bp lo : Nat) (e : TypeId) (cs : List Value) : KP bp lo w (setB w bp e cs) :=
  ⟨rfl, rfl, rfl, by rw [size_setB]; exact Nat.le_refl _, fun k hk hn => by unfold setB; simp only []; rw [Array.getElem?_setIfInBounds_ne (by omega)]⟩
theorem KP.less (h : KP bp lo w w') {lo' : Nat} (hl : lo' ≤ lo) : KP bp lo' w w' := ⟨h.os, h.tape, h.output, h.size, fun k hk hn => h.block k (by omega) hn⟩
theorem KP.setHi (w : World) (bp : Nat) {lo b : Nat} (hb : lo ≤ b) (e : TypeId) (cs : List Value) : KP bp lo w (setB w b e cs) :=
  ⟨rfl, rfl, rfl, by rw [size_setB]; exact Nat.le_refl _, fun k hk hn => by unfold setB; simp only []; rw [Array.getElem?_setIfInBounds_ne (by omega)]⟩
/-- a pool behind a pointer -/
structure CP (eC eP : TypeId) {α : Type} (enc : α → List Value) (sz bp lo : Nat) (w : World) (pool : List α) : Prop where
  ex : ∃ pv, Bl w bp eC [pv] ∧ w.ownsRow lo eP sz pv pool.length (pool.flatMap enc)
  lt : bp < lo
  le : lo ≤ w.heap.size
variable {eC eP : TypeId} {α : Type} {enc : α → List Value} {sz : Nat} {pool : List α}
theorem CP.ext (h : CP eC eP enc sz bp lo w pool) (he : Ext w.heap.size w w') : CP eC eP enc sz bp lo w' pool := by
  obtain ⟨pv, h1, h2⟩ := h.ex
  exact ⟨⟨pv, he.bl h1.lt h1, own_ext h2 he⟩, h.lt, Nat.le_trans h.le he.size⟩
theorem CP.rg {a b : Nat} (h : CP eC eP enc sz bp lo w pool) (hr : Rg a b w w') (h1 : bp < a) (h2 : b ≤ lo) : CP eC eP enc sz bp lo w' pool := by
  obtain ⟨pv, h3, h4⟩ := h.ex
  refine ⟨⟨pv, h3.rg' hr (.inl h1), own_same h4 fun k hk => ?_⟩, h.lt, Nat.le_trans h.le hr.size⟩
  have := own_block_lt h4 hk
  exact hr.block k this.2 (by omega)
theorem CP.made {cs : List Value} {pv : Value} (hb : Bl w bp eC cs) (ho : w.ownsRow lo eP sz pv pool.length (pool.flatMap enc)) (hlt : bp < lo) (hle : lo ≤ w.heap.size) (hw : setB w bp eC [pv] = w') : CP eC eP enc sz bp lo w' pool ∧ KP bp lo w w' := by
  subst hw
  refine ⟨⟨⟨pv, hb.set _ _, own_same ho fun k hk => ?_⟩, hlt, by rw [size_setB]; exact hle⟩, KP.set _ _ _ _ _⟩
  have := (own_block_lt ho hk).1
  unfold setB
  simp only []
  rw [Array.getElem?_setIfInBounds_ne (by omega)]
/-- reading an element of the pool -/
theorem CP.get (henc : ∀ x, (enc x).length = sz) (h : CP eC eP enc sz bp lo w pool) {j : Nat} {x : α} (hj : pool[j]? = some x) : ∃ g c, lo ≤ g ∧ Bl w bp eC [.slice (some ⟨g, 0, none⟩) pool.length c] ∧ Cells w g (0 + j * sz) (enc x) := by
  obtain ⟨pv, h1, h2⟩ := h.ex
  have hl := (List.getElem?_eq_some_iff.1 hj).1
  obtain ⟨g, c, rfl, -, hg, hc⟩ := own_some h2 (by omega)
  exact ⟨g, c, hg, h1, hc.sub (j * sz) (enc x) (fun q u hu => fm_get henc pool j x hj q u hu)⟩
end
/-- what a rule gives back -/
def NPost (eC eP : TypeId) (bp lo : Nat) (pool : List Nd) (t : Tre) (w : World) (v : Value) (w' : World) : Prop :=
  ∃ (i : Int) (ex : List Nd), v = .int .i64 i ∧ ex.length ≤ 1 ∧ CP eC eP ndE 5 bp lo w' (pool ++ ex) ∧ Pt (pool ++ ex) t i ∧ KP bp lo w w'
end Go.Mw
namespace Go.Proofs.YbxaawGreat
open Go.Mw
abbrev CPq := CP 128 132 ndE 5
abbrev NPo := NPost 128 132

theorem nw_ok {bp lo : Nat} {pool : List Nd} (nd : Nd) (w : World) (h : CPq bp lo w pool) (hl : pool.length ≤ 1000000) : Ret Yaam.prog 87 [.pointer (some ⟨bp, 0, none⟩), .agg (ndE nd).toArray] w fun v w' => v = .int .i64 pool.length ∧ CPq bp lo w' (pool ++ [nd]) ∧ KP bp lo w w' := by
  obtain ⟨k, v, x, l, r2⟩ := nd
  refine enter2 Yaam.func87 Yaam.ntmps87 (by kernel_rfl) rfl rfl ?_
  refine V.seq ?_
  refine V.region ?_
  refine L.ef (e_box (cs := [_, _, _, _, _]) rfl rfl (by first | (simp only [size_addB, size_setB, size_drew]; rfl) | rfl) rfl ?_)
  refine L.rd (rd_assign rfl) rfl ?_
  refine L.nil ?_
  refine X.sq ?_
  refine V.seq ?_
  have hnd := Bl.new w 132 (ndE (k, v, x, l, r2))
  have hE := (Ext.refl _ w).addNew 132 (ndE (k, v, x, l, r2))
  have hnd' : Bl (addB w 132 [.int .i64 k, .int .i64 v, .int .i64 x, .int .i64 l, .int .i64 r2]) w.heap.size 132 (ndE (k, v, x, l, r2)) := hnd
  replace hE : Ext w.heap.size w (addB w 132 [.int .i64 k, .int .i64 v, .int .i64 x, .int .i64 l, .int .i64 r2]) := hE
  clear hnd
  generalize addB w 132 [.int .i64 k, .int .i64 v, .int .i64 x, .int .i64 l, .int .i64 r2] = w0 at hnd' hE ⊢
  have h0 := h.ext hE
  have hs0 := hE.size
  have hlo := h.le
  have hblo := h.lt
  obtain ⟨pv, hpb, hpo⟩ := h0.ex
  obtain ⟨na, nc, rfl⟩ := own_form hpo
  refine V.draw [7, 10] mixed ?_
  refine D.takeP 0 [true, false, false, false, false, false, false, false, false, false, false] (.sq .bd) rfl (fun _ => rd_move rfl) rfl (by kernel_rfl) rfl ?_
  refine D.takeP 1 [true, true, false, false, false, false, false, false, false, false, false] (.sq .bd) rfl (fun _ => rd_move rfl) rfl (by kernel_rfl) rfl ?_
  refine D.takeP 2 [true, true, true, false, false, false, false, false, false, false, false] (.sq .bd) rfl (fun _ => rd_nilCheck rfl) rfl (by kernel_rfl) rfl ?_
  refine D.takeP 3 [true, true, true, true, false, false, false, false, false, false, false] (.sq .bd) rfl (fun _ => rd_fieldAddr tok rfl rfl rfl rfl rfl rfl) rfl (by kernel_rfl) rfl ?_
  refine D.takeW 4 [true, true, true, true, true, false, false, false, false, false, false] (.sq .bd) rfl (rd_load1 tok rfl rfl rfl (hpb.cell rfl)) rfl (by kernel_rfl) rfl (LeC.drew _) ?_
  refine D.takeW 5 [true, true, true, true, true, true, false, false, false, false, false] (.sq .bd) rfl (rd_loadN tok rfl rfl rfl hnd'.cells rfl) rfl (by kernel_rfl) rfl (LeC.drew _) ?_
  refine D.one 6 [true, true, true, true, true, true, true, false, false, false, false] rfl (by kernel_rfl) rfl (e_buildSlice1 (e := 132) (cs := ndE (k, v, x, l, r2)) tok rfl rfl rfl rfl rfl rfl rfl rfl rfl (by first | (simp only [size_addB, size_setB, size_drew]; rfl) | rfl) rfl ?_)
  have heb := ((Ext.refl _ w0).drew).addNew 132 (ndE (k, v, x, l, r2))
  have hleb := heb.leC
  refine ⟨fun _ => hleb, ?_⟩
  refine D.one 7 [true, true, true, true, true, true, true, true, false, false, false] rfl (by kernel_rfl) rfl (e_append (m := 1) tok rfl rfl rfl rfl rfl rfl rfl rfl rfl rfl (own_ext hpo heb) (Bl.new _ _ _).cells (ndE_len _) (ndE_one _) (by unfold maxLen; omega) (by simp only []; omega) (by rw [size_addB, size_drew]; omega) ?_)
  rintro v6 w6 ho6 hg6
  have hown := own_ext hpo heb
  have hk6 : KP bp lo w0 w6 := (KP.ext heb (by omega) _).trans (KP.grown hg6 (fun q hq => (own_block_lt hown hq).1) (by rw [size_addB, size_drew]; omega) _)
  have hb6 := (heb.bl hpb.lt hpb).off_own hown rfl hg6
  obtain ⟨na6, nc6, rfl⟩ := own_form ho6
  have ho6' : w6.ownsRow lo 132 5 (.slice na6 (pool.length + 1) nc6) (pool ++ [(k, v, x, l, r2)]).length ((pool ++ [(k, v, x, l, r2)]).flatMap ndE) := by
    rw [List.length_append, List.flatMap_append]
    simpa using ho6
  have hs6 := hk6.size
  refine ⟨fun h => (by cases h), ?_⟩
  refine D.takeP 8 [true, true, true, true, true, true, true, true, true, false, false] (.sq .bd) rfl (fun _ => rd_nilCheck rfl) rfl (by kernel_rfl) rfl ?_
  refine D.takeP 9 [true, true, true, true, true, true, true, true, true, true, false] (.sq .bd) rfl (fun _ => rd_fieldAddr tok rfl rfl rfl rfl rfl rfl) rfl (by kernel_rfl) rfl ?_
  refine D.one 10 [true, true, true, true, true, true, true, true, true, true, true] rfl (by kernel_rfl) rfl (e_store (vs := [_]) tok rfl rfl rfl rfl hb6 rfl (by simp [Value.oneCell']) (by simp) ⟨fun h => (by cases h), ?_⟩)
  refine D.done (by kernel_rfl) ?_
  refine X.sq ?_
  refine V.seq ?_
  generalize hw7 : setB _ _ _ _ = w7
  obtain ⟨hip, hk7⟩ : CPq bp lo w7 (pool ++ [(k, v, x, l, r2)]) ∧ KP bp lo w6 w7 := CP.made hb6 ho6' hblo (by omega) hw7
  have hb7 : Bl w7 bp 128 [.slice na6 (pool.length + 1) nc6] := by rw [← hw7]; exact hb6.set _ _
  refine V.region ?_
  refine L.rd (rd_move rfl) rfl ?_
  refine L.rd (rd_nilCheck rfl) rfl ?_
  refine L.rd (rd_fieldAddr tok rfl rfl rfl rfl rfl rfl) rfl ?_
  refine L.rd (rd_load1 tok rfl rfl rfl (hb7.cell rfl)) rfl ?_
  refine L.rd (rd_lenSlice tok rfl rfl rfl) rfl ?_
  (refine L.rd (rd_sub3 rfl rfl ?_) rfl ?_; omega)
  refine L.rd (rd_assign rfl) rfl ?_
  refine L.nil ?_
  refine X.sq ?_
  refine V.ret ?_
  refine ret_1 Yaam.results87 rfl ?_
  refine ⟨?_, hip, ((KP.ext hE hlo _).trans hk6).trans hk7⟩
  first | rfl | (congr 1; omega)

theorem cnum_ok {bp lo : Nat} {pool : List Nd} (v : Int) (w : World) (h : CPq bp lo w pool) (hl : pool.length ≤ 1000000) : Ret Yaam.prog 86 [.pointer (some ⟨bp, 0, none⟩), .int .i64 v] w (NPo bp lo pool (lf 1 v 0) w) := by
  refine enter2 Yaam.func86 Yaam.ntmps86 (by kernel_rfl) rfl rfl ?_
  refine V.seq ?_
  refine V.region ?_
  refine L.rd (rd_assign rfl) rfl ?_
  refine L.nil ?_
  refine X.sq ?_
  refine V.seq ?_
  refine V.region ?_
  refine L.rd (rd_move rfl) rfl ?_
  refine L.rd (rd_move rfl) rfl ?_
  refine L.rd (rd_build (out := [_, _, _, _, _]) tok rfl rfl rfl rfl rfl) rfl ?_
  refine L.ef (e_call rfl (nw_ok (1, v, 0, -1, -1) _ h hl) rfl ?_)
  rintro _ w1 ⟨rfl, h1, hk1⟩
  refine L.rd (rd_assign rfl) rfl ?_
  refine L.nil ?_
  refine X.sq ?_
  refine V.ret ?_
  refine ret_1 Yaam.results86 rfl ?_
  exact ⟨_, [(1, v, 0, -1, -1)], rfl, by simp, h1, Pt.leaf _ _ _ _ _ _, hk1⟩

theorem cneg_ok {bp lo : Nat} {pool : List Nd} (a : Tre) (hw : Wt a) (ia : Int) (w : World) (h : CPq bp lo w pool) (hl : pool.length ≤ 1000000) (ha : Pt pool a ia) : Ret Yaam.prog 88 [.pointer (some ⟨bp, 0, none⟩), .int .i64 ia] w (NPo bp lo pool (negR a) w) := by
  obtain ⟨j, lx, rx, rfl, hj, hkd⟩ := ha.node
  obtain ⟨g, c, hg, hpb, hcx⟩ := h.get ndE_len hj
  have hjl := (List.getElem?_eq_some_iff.1 hj).1
  refine enter2 Yaam.func88 Yaam.ntmps88 (by kernel_rfl) rfl rfl ?_
  refine V.seq ?_
  refine V.region ?_
  refine L.rd (rd_assign rfl) rfl ?_
  refine L.nil ?_
  refine X.sq ?_
  refine V.seq ?_
  refine V.region ?_
  refine L.rd (rd_move rfl) rfl ?_
  refine L.rd (rd_nilCheck rfl) rfl ?_
  refine L.rd (rd_fieldAddr tok rfl rfl rfl rfl rfl rfl) rfl ?_
  refine L.rd (rd_load1 tok rfl rfl rfl (hpb.cell rfl)) rfl ?_
  refine L.rd (rd_move rfl) rfl ?_
  (refine L.rd (rd_indexSlice (sz := 5) tok rfl rfl rfl rfl rfl rfl rfl ?_) rfl ?_; omega)
  refine L.rd (rd_loadN tok rfl rfl rfl hcx rfl) rfl ?_
  refine L.ef (e_alloc (cs := [_, _, _, _, _]) tok rfl rfl (by first | (simp only [size_addB, size_setB, size_drew]; rfl) | rfl) rfl ?_)
  refine L.ef (e_store (vs := [_, _, _, _, _]) tok rfl rfl rfl rfl (by (repeat (first | assumption | (refine Bl.new' ?_ _ _; first | with_reducible rfl | (simp only [size_addB, size_setB, size_drew]; done)) | apply Bl.add | apply Bl.drew | (apply Bl.setNe; omega) | (refine Bl.set' ?_ _ _; (try simp only [size_addB, size_setB, size_drew]); omega)))) rfl (by simp [Value.oneCell']) (by simp) ?_)
  refine L.nil ?_
  refine X.sq ?_
  refine V.seq ?_
  refine V.seq ?_
  generalize hw3 : setB _ _ _ _ = w3
  have hb3 : Bl w3 w.heap.size 132 (ndE (a.k, a.v, a.x, lx, rx)) := by rw [← hw3]; refine Bl.set' ?_ _ _; rw [size_addB]; omega
  have he3 : Ext w.heap.size w w3 := by rw [← hw3]; exact ((Ext.refl _ _).addNew _ _).set (Nat.le_refl _) _ _
  have h3 := h.ext he3
  have hk3 := KP.ext he3 h.le bp
  refine V.region ?_
  refine L.rd (rd_fieldAddr tok rfl rfl rfl rfl rfl rfl) rfl ?_
  refine L.rd (rd_load1 tok rfl rfl rfl (hb3.cell rfl)) rfl ?_
  refine L.rd (rd_eql rfl rfl) rfl ?_
  refine L.nil ?_
  refine X.sq ?_
  first | refine V.cond rfl (fun h15 => ?_) (fun h15 => ?_) | refine V.condB rfl (fun h15 => ?_) (fun h15 => ?_)
  ·
    refine V.seq ?_
    refine V.region ?_
    refine L.rd (rd_move rfl) rfl ?_
    refine L.rd (rd_fieldAddr tok rfl rfl rfl rfl rfl rfl) rfl ?_
    refine L.rd (rd_load1 tok rfl rfl rfl (hb3.cell (i := 1) rfl)) rfl ?_
    refine L.rd (rd_negW rfl) rfl ?_
    refine L.ef (e_call rfl (cnum_ok (w64 (-a.v)) _ h3 hl) rfl ?_)
    rintro _ w4 ⟨i4, ex, rfl, hex, h4, hp4, hk4⟩
    refine L.rd (rd_assign rfl) rfl ?_
    refine L.nil ?_
    refine X.sq ?_
    refine V.ret ?_
    refine X.sqRet ?_
    refine ret_1 Yaam.results88 rfl ?_
    exact ⟨_, ex, rfl, hex, h4, by unfold negR; rw [if_pos h15]; exact hp4, hk3.trans hk4⟩
  ·
    refine V.skip ?_
    refine X.sq ?_
    refine V.seq ?_
    refine V.seq ?_
    refine V.region ?_
    refine L.rd (rd_fieldAddr tok rfl rfl rfl rfl rfl rfl) rfl ?_
    refine L.rd (rd_load1 tok rfl rfl rfl (hb3.cell rfl)) rfl ?_
    refine L.rd (rd_eql rfl rfl) rfl ?_
    refine L.nil ?_
    refine X.sq ?_
    first | refine V.cond rfl (fun h23 => ?_) (fun h23 => ?_) | refine V.condB rfl (fun h23 => ?_) (fun h23 => ?_)
    ·
      refine V.seq ?_
      refine V.region ?_
      refine L.rd (rd_fieldAddr tok rfl rfl rfl rfl rfl rfl) rfl ?_
      refine L.rd (rd_load1 tok rfl rfl rfl (hb3.cell (i := 3) rfl)) rfl ?_
      refine L.rd (rd_assign rfl) rfl ?_
      refine L.nil ?_
      refine X.sq ?_
      refine V.ret ?_
      refine X.sqRet ?_
      refine ret_1 Yaam.results88 rfl ?_
      refine ⟨_, [], rfl, by simp, by rw [List.append_nil]; exact h3, ?_, hk3⟩
      unfold negR
      rw [if_neg h15, if_pos h23, List.append_nil]
      exact hkd (by have := (wt_kid hw (.inl h23)).1; omega)
    ·
      refine V.skip ?_
      refine X.sq ?_
      refine V.seq ?_
      refine V.region ?_
      refine L.rd (rd_move rfl) rfl ?_
      refine L.rd (rd_move rfl) rfl ?_
      refine L.rd (rd_build (out := [_, _, _, _, _]) tok rfl rfl rfl rfl rfl) rfl ?_
      refine L.ef (e_call rfl (nw_ok (3, 0, 0, (j : Int), -1) _ h3 hl) rfl ?_)
      rintro _ w4 ⟨rfl, h4, hk4⟩
      refine L.rd (rd_assign rfl) rfl ?_
      refine L.nil ?_
      refine X.sq ?_
      refine V.ret ?_
      refine ret_1 Yaam.results88 rfl ?_
      refine ⟨_, [(3, 0, 0, (j : Int), -1)], rfl, by simp, h4, ?_, hk3.trans hk4⟩
      unfold negR
      rw [if_neg h15, if_neg h23]
      exact Pt.un 3 0 (-1) ha
end Go.Proofs.YbxaawGreat
