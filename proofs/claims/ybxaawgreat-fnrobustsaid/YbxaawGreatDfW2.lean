/-
  impl.capS, leafD, the pool of the derivative, walked.
-/
import Derived.Test.YbxaawGreatDfQ
import Derived.Test.YbxaawGreatDraw3
import Derived.Test.YbxaawGreatSxW
import Derived.Test.YbxaawGreatTermW
set_option linter.unusedVariables false
set_option linter.unusedSimpArgs false
set_option maxRecDepth 10000
set_option maxHeartbeats 4000000
namespace Go.Mw
/-- blocks below lo are kept; of the others, only bp and blocks of type eP may differ -/
structure KD (eP : TypeId) (bp lo : Nat) (w w' : World) : Prop where
  os : w'.os = w.os
  tape : w'.tape = w.tape
  output : w'.output = w.output
  size : w.heap.size ≤ w'.heap.size
  low : ∀ k, k < lo → w'.heap[k]? = w.heap[k]?
  oth : ∀ k, k < w.heap.size → k ≠ bp → (∀ cs, ¬ Bl w k eP cs) → w'.heap[k]? = w.heap[k]?
section
variable {eC eP : TypeId} {bp lo : Nat} {w w' w2 : World}
theorem KD.refl (eP : TypeId) (bp lo : Nat) (w : World) : KD eP bp lo w w := ⟨rfl, rfl, rfl, Nat.le_refl _, fun _ _ => rfl, fun _ _ _ _ => rfl⟩
theorem KD.trans (h : KD eP bp lo w w') (k : KD eP bp lo w' w2) : KD eP bp lo w w2 :=
  ⟨k.os.trans h.os, k.tape.trans h.tape, k.output.trans h.output, Nat.le_trans h.size k.size, fun i hi => (k.low i hi).trans (h.low i hi), fun i hi hn hb => by
    have h1 := h.oth i hi hn hb
    refine (k.oth i (Nat.lt_of_lt_of_le hi h.size) hn fun cs hc => hb cs ⟨h1.symm.trans hc.at_⟩).trans h1⟩
theorem KD.ext (h : Ext w.heap.size w w') (hl : lo ≤ w.heap.size) (eP : TypeId) (bp : Nat) : KD eP bp lo w w' := ⟨h.os, h.tape, h.output, h.size, fun k hk => h.block k (by omega), fun k hk _ _ => h.block k hk⟩
theorem KD.toExt (h : KD eP bp lo w w') {B : Nat} (hl : B ≤ lo) : Ext B w w' := ⟨h.os, h.tape, h.output, h.size, fun k hk => h.low k (by omega)⟩
theorem KD.bl (h : KD eP bp lo w w') {b : Nat} {e : TypeId} {cs xs : List Value} (k : Bl w b e cs) (hC : Bl w bp eC xs) (h1 : Nat.beq e eP = false) (h2 : Nat.beq e eC = false) : Bl w' b e cs :=
  ⟨(h.oth b k.lt (bl_ne k hC h2) fun cs' hb => bl_ne k hb h1 rfl).trans k.at_⟩
/-- a block of another type, above lo, is written -/
theorem KD.set {b : Nat} (hb : lo ≤ b) (eP : TypeId) (bp : Nat) (e : TypeId) (cs : List Value) (h : b = bp) : KD eP bp lo w (setB w b e cs) := by
  subst h
  refine ⟨rfl, rfl, rfl, by rw [size_setB]; exact Nat.le_refl _, fun k hk => ?_, fun k hk hn _ => ?_⟩
  · unfold setB; simp only []; rw [Array.getElem?_setIfInBounds_ne (by omega)]
  · unfold setB; simp only []; rw [Array.getElem?_setIfInBounds_ne (by omega)]
theorem KD.grown {B sz n : Nat} {v : Value} {xs : List Value} (ho : w.ownsRow B eP sz v n xs) (hB : lo ≤ B) (h : w.grownBy w' v.ownBlock) (hl : lo ≤ w.heap.size) (bp : Nat) : KD eP bp lo w w' := by
  refine ⟨h.os, h.tape, h.output, h.size, fun k hk => h.block k (by omega) fun e => ?_, fun k hk _ hb => h.block k hk fun e => ?_⟩
  · have := (own_block_lt ho e.symm).1; omega
  · rcases own_slc ho with ⟨rfl, _⟩ | ⟨g, cap, sp, _, hs⟩
    · cases e
    · rw [hs.val] at e
      simp only [Value.ownBlock, Option.some.injEq] at e
      subst e
      exact hb _ hs.bl
/-- the pool of the derivative -/
structure CD (eC eP : TypeId) (bp lo : Nat) (w : World) (pool : List DN) : Prop where
  ex : ∃ pv, Bl w bp eC [pv] ∧ w.ownsRow lo eP 7 pv pool.length (pool.flatMap dnE)
  le : lo ≤ bp
theorem CD.lt {pool : List DN} (h : CD eC eP bp lo w pool) : bp < w.heap.size := by
  obtain ⟨pv, h1, -⟩ := h.ex
  exact h1.lt
theorem CD.ext {pool : List DN} (h : CD eC eP bp lo w pool) (he : Ext w.heap.size w w') : CD eC eP bp lo w' pool := by
  obtain ⟨pv, h1, h2⟩ := h.ex
  exact ⟨⟨pv, he.bl h1.lt h1, own_ext h2 he⟩, h.le⟩
/-- a block of another type is written -/
theorem CD.set {pool : List DN} {b : Nat} {e : TypeId} {cs : List Value} (h : CD eC eP bp lo w pool) (hb : Bl w b e cs) (h1 : Nat.beq eC e = false) (h2 : Nat.beq e eP = false) (cs' : List Value) : CD eC eP bp lo (setB w b e cs') pool := by
  obtain ⟨pv, h3, h4⟩ := h.ex
  exact ⟨⟨pv, h3.setNe (fun e2 => bl_ne h3 hb h1 e2.symm) _ _, own_off2 h4 hb h2 _⟩, h.le⟩
theorem CD.get {pool : List DN} (h : CD eC eP bp lo w pool) {j : Nat} {x : DN} (hj : pool[j]? = some x) : ∃ g c, Bl w bp eC [.slice (some ⟨g, 0, none⟩) pool.length c] ∧ Cells w g (0 + j * 7) (dnE x) := by
  obtain ⟨pv, h1, h2⟩ := h.ex
  have hl := (List.getElem?_eq_some_iff.1 hj).1
  obtain ⟨g, c, rfl, -, hg, hc⟩ := own_some h2 (by omega)
  exact ⟨g, c, h1, hc.sub (j * 7) (dnE x) (fun q u hu => fm_get dnE_len pool j x hj q u hu)⟩
theorem CD.kbl {pool : List DN} (h : CD eC eP bp lo w pool) (hk : KD eP bp lo w w') {b : Nat} {e : TypeId} {cs : List Value} (k : Bl w b e cs) (h1 : Nat.beq e eP = false) (h2 : Nat.beq e eC = false) : Bl w' b e cs := by
  obtain ⟨pv, hpb, -⟩ := h.ex
  exact hk.bl k hpb h1 h2
theorem KD.own {B e sz n : Nat} {v : Value} {xs : List Value} {pool : List DN} (hC : CD eC eP bp lo w pool) (hk : KD eP bp lo w w') (h : w.ownsRow B e sz v n xs) (h1 : Nat.beq e eP = false) (h2 : Nat.beq e eC = false) : w'.ownsRow B e sz v n xs := by
  obtain ⟨pv, hpb, -⟩ := hC.ex
  refine own_same h fun k hk2 => ?_
  rcases own_slc h with ⟨rfl, _⟩ | ⟨g, cap, sp, _, hs⟩
  · cases hk2
  · rw [hs.val] at hk2
    simp only [Value.ownBlock, Option.some.injEq] at hk2
    subst hk2
    exact hk.oth g hs.bl.lt (bl_ne hs.bl hpb h2) fun cs hb => bl_ne hs.bl hb h1 rfl
end
end Go.Mw
namespace Go.Proofs.YbxaawGreat
open Go.Mw
abbrev CDq := CD 146 152
abbrev KDq := KD 152

theorem capS_ok (n : Nat) (hn : n ≤ 4611686018427387904) (w : World) : Ret Yaam.prog 98 [.int .i64 n] w fun r w' => r = .int .i64 ((min n 500001 : Nat) : Int) ∧ w = w' := by
  refine enter1 Yaam.func98 Yaam.ntmps98 (by kernel_rfl) rfl rfl ?_
  refine V.seq ?_
  refine V.region ?_
  refine L.rd (rd_assign rfl) rfl ?_
  refine L.nil ?_
  refine X.sq ?_
  refine V.seq ?_
  refine V.seq ?_
  refine V.region ?_
  refine L.rd (rd_move rfl) rfl ?_
  refine L.rd (rd_gtr rfl rfl) rfl ?_
  refine L.nil ?_
  refine X.sq ?_
  first | refine V.cond rfl (fun h4 => ?_) (fun h4 => ?_) | refine V.condB rfl (fun h4 => ?_) (fun h4 => ?_)
  ·
    refine V.seq ?_
    refine V.region ?_
    refine L.rd (rd_assign rfl) rfl ?_
    refine L.nil ?_
    refine X.sq ?_
    refine V.ret ?_
    refine X.sqRet ?_
    refine ret_1 Yaam.results98 rfl ?_
    exact ⟨by rw [Nat.min_eq_right (by omega)]; rfl, rfl⟩
  ·
    refine V.skip ?_
    refine X.sq ?_
    refine V.seq ?_
    refine V.region ?_
    refine L.rd (rd_move rfl) rfl ?_
    refine L.rd (rd_assign rfl) rfl ?_
    refine L.nil ?_
    refine X.sq ?_
    refine V.ret ?_
    refine ret_1 Yaam.results98 rfl ?_
    exact ⟨by rw [Nat.min_eq_left (by omega)], rfl⟩

theorem leafD_ok (v : Int) (w : World) : Ret Yaam.prog 100 [.int .i64 v] w fun r w' => r = .agg (dnE (1, v, 0, (false, -1), (false, -1))).toArray ∧ Ext w.heap.size w w' := by
  refine enter1 Yaam.func100 Yaam.ntmps100 (by kernel_rfl) rfl rfl ?_
  refine V.seq ?_
  refine V.region ?_
  refine L.ef (e_alloc (cs := [_, _, _, _, _, _, _]) tok rfl rfl (by first | (simp only [size_addB, size_setB, size_drew]; rfl) | rfl) rfl ?_)
  refine L.nil ?_
  refine X.sq ?_
  refine V.seq ?_
  refine V.region ?_
  refine L.rd (rd_move rfl) rfl ?_
  refine L.rd (rd_build (out := [_, _]) tok rfl rfl rfl rfl rfl) rfl ?_
  refine L.rd (rd_build (out := [_, _]) tok rfl rfl rfl rfl rfl) rfl ?_
  refine L.rd (rd_build (out := [_, _, _, _, _, _, _]) tok rfl rfl rfl rfl rfl) rfl ?_
  refine L.ef (e_store (vs := [_, _, _, _, _, _, _]) tok rfl rfl rfl rfl (by (repeat (first | assumption | (refine Bl.new' ?_ _ _; first | with_reducible rfl | (simp only [size_addB, size_setB, size_drew]; done)) | apply Bl.add | apply Bl.drew | (apply Bl.setNe; omega) | (refine Bl.set' ?_ _ _; (try simp only [size_addB, size_setB, size_drew]); omega)))) rfl (by simp [Value.oneCell']) (by simp) ?_)
  refine L.nil ?_
  refine X.sq ?_
  refine V.ret ?_
  refine ret_c tok Yaam.results100 rfl rfl rfl (Bl.cells (by (repeat (first | assumption | (refine Bl.new' ?_ _ _; first | with_reducible rfl | (simp only [size_addB, size_setB, size_drew]; done)) | apply Bl.add | apply Bl.drew | (apply Bl.setNe; omega) | (refine Bl.set' ?_ _ _; (try simp only [size_addB, size_setB, size_drew]); omega))))) rfl ?_
  exact ⟨rfl, ((Ext.refl _ _).addNew _ _).set (Nat.le_refl _) _ _⟩

theorem dadd_ok {bp lo : Nat} {pool : List DN} (nd : DN) (w : World) (h : CDq bp lo w pool) (hl : pool.length ≤ 10000000) : Ret Yaam.prog 99 [.pointer (some ⟨bp, 0, none⟩), .agg (dnE nd).toArray] w fun v w' => v = .agg #[.bool false, .int .i64 pool.length] ∧ CDq bp lo w' (pool ++ [nd]) ∧ KDq bp lo w w' := by
  obtain ⟨k, v, x, ⟨ls, li⟩, ⟨rs, ri⟩⟩ := nd
  refine enter2 Yaam.func99 Yaam.ntmps99 (by kernel_rfl) rfl rfl ?_
  refine V.seq ?_
  refine V.region ?_
  refine L.ef (e_box (cs := [_, _, _, _, _, _, _]) rfl rfl (by first | (simp only [size_addB, size_setB, size_drew]; rfl) | rfl) rfl ?_)
  refine L.ef (e_alloc (cs := [_, _]) tok rfl rfl (by first | (simp only [size_addB, size_setB, size_drew]; rfl) | rfl) rfl ?_)
  refine L.nil ?_
  refine X.sq ?_
  refine V.seq ?_
  have hnd := (Bl.new w 152 (dnE (k, v, x, (ls, li), (rs, ri)))).add 149 [.bool false, .int .i64 0]
  have hr := Bl.new' (w := addB w 152 (dnE (k, v, x, (ls, li), (rs, ri)))) (b := w.heap.size + 1) (by rw [size_addB]) 149 [.bool false, .int .i64 0]
  have hE := ((Ext.refl _ w).addNew 152 (dnE (k, v, x, (ls, li), (rs, ri)))).addNew 149 [.bool false, .int .i64 0]
  simp only [dnE] at hnd hr hE
  generalize addB (addB w 152 [.int .i64 k, .int .i64 v, .int .i64 x, .bool ls, .int .i64 li, .bool rs, .int .i64 ri]) 149 [.bool false, .int .i64 0] = w0 at hnd hr hE ⊢
  have h0 := h.ext hE
  have hs0 := hE.size
  have hlo := h.le
  have hlt := h.lt
  have hrl := hr.lt
  obtain ⟨pv, hpb, hpo⟩ := h0.ex
  obtain ⟨na, nc, rfl⟩ := own_form hpo
  refine V.draw [7, 10] mixed ?_
  refine D.takeP 0 [true, false, false, false, false, false, false, false, false, false, false] (.sq .bd) rfl (fun _ => rd_move rfl) rfl (by kernel_rfl) rfl ?_
  refine D.takeP 1 [true, true, false, false, false, false, false, false, false, false, false] (.sq .bd) rfl (fun _ => rd_move rfl) rfl (by kernel_rfl) rfl ?_
  refine D.takeP 2 [true, true, true, false, false, false, false, false, false, false, false] (.sq .bd) rfl (fun _ => rd_nilCheck rfl) rfl (by kernel_rfl) rfl ?_
  refine D.takeP 3 [true, true, true, true, false, false, false, false, false, false, false] (.sq .bd) rfl (fun _ => rd_fieldAddr tok rfl rfl rfl rfl rfl rfl) rfl (by kernel_rfl) rfl ?_
  refine D.takeW 4 [true, true, true, true, true, false, false, false, false, false, false] (.sq .bd) rfl (rd_load1 tok rfl rfl rfl (hpb.cell rfl)) rfl (by kernel_rfl) rfl (LeC.drew _) ?_
  refine D.takeW 5 [true, true, true, true, true, true, false, false, false, false, false] (.sq .bd) rfl (rd_loadN tok rfl rfl rfl hnd.cells rfl) rfl (by kernel_rfl) rfl (LeC.drew _) ?_
  refine D.one 6 [true, true, true, true, true, true, true, false, false, false, false] rfl (by kernel_rfl) rfl (e_buildSlice1 (e := 152) (cs := [.int .i64 k, .int .i64 v, .int .i64 x, .bool ls, .int .i64 li, .bool rs, .int .i64 ri]) tok rfl rfl rfl rfl rfl rfl rfl rfl rfl (by first | (simp only [size_addB, size_setB, size_drew]; rfl) | rfl) rfl ?_)
  have heb := ((Ext.refl _ w0).drew).addNew 152 [.int .i64 k, .int .i64 v, .int .i64 x, .bool ls, .int .i64 li, .bool rs, .int .i64 ri]
  have hleb := heb.leC
  refine ⟨fun _ => hleb, ?_⟩
  refine D.one 7 [true, true, true, true, true, true, true, true, false, false, false] rfl (by kernel_rfl) rfl (e_append (m := 1) tok rfl rfl rfl rfl rfl rfl rfl rfl rfl rfl (own_ext hpo heb) (Bl.new _ _ _).cells rfl (by simp [Value.oneCell']) (by unfold maxLen; omega) (by simp only []; omega) (by rw [size_addB, size_drew]; omega) ?_)
  rintro v6 w6 ho6 hg6
  have hown := own_ext hpo heb
  have hk6 : KDq bp lo w0 w6 := (KD.ext heb (by omega) _ _).trans (KD.grown hown (Nat.le_refl _) hg6 (by rw [size_addB, size_drew]; omega) _)
  have hb6 := (heb.bl hpb.lt hpb).off_own hown rfl hg6
  have hr6 := (heb.bl hr.lt hr).off_own hown rfl hg6
  obtain ⟨na6, nc6, rfl⟩ := own_form ho6
  have ho6' : w6.ownsRow lo 152 7 (.slice na6 (pool.length + 1) nc6) (pool ++ [(k, v, x, (ls, li), (rs, ri))]).length ((pool ++ [(k, v, x, (ls, li), (rs, ri))]).flatMap dnE) := by
    rw [List.length_append, List.flatMap_append]
    simpa [dnE] using ho6
  have hs6 := hk6.size
  refine ⟨fun h => (by cases h), ?_⟩
  refine D.takeP 8 [true, true, true, true, true, true, true, true, true, false, false] (.sq .bd) rfl (fun _ => rd_nilCheck rfl) rfl (by kernel_rfl) rfl ?_
  refine D.takeP 9 [true, true, true, true, true, true, true, true, true, true, false] (.sq .bd) rfl (fun _ => rd_fieldAddr tok rfl rfl rfl rfl rfl rfl) rfl (by kernel_rfl) rfl ?_
  refine D.one 10 [true, true, true, true, true, true, true, true, true, true, true] rfl (by kernel_rfl) rfl (e_store (vs := [_]) tok rfl rfl rfl rfl hb6 rfl (by simp [Value.oneCell']) (by simp) ⟨fun h => (by cases h), ?_⟩)
  refine D.done (by kernel_rfl) ?_
  refine X.sq ?_
  refine V.seq ?_
  generalize hw7 : setB _ _ _ _ = w7
  have hb7 : Bl w7 bp 146 [.slice na6 (pool.length + 1) nc6] := by rw [← hw7]; exact hb6.set _ _
  have hr7 : Bl w7 (w.heap.size + 1) 149 [.bool false, .int .i64 0] := by rw [← hw7]; exact hr6.setNe (fun e => bl_ne hr6 hb6 rfl e.symm) _ _
  have ho7 : w7.ownsRow lo 152 7 (.slice na6 (pool.length + 1) nc6) (pool ++ [(k, v, x, (ls, li), (rs, ri))]).length ((pool ++ [(k, v, x, (ls, li), (rs, ri))]).flatMap dnE) := by rw [← hw7]; exact own_off2 ho6' hb6 rfl _
  have hk7 : KDq bp lo w6 w7 := by rw [← hw7]; exact KD.set hlo _ _ _ _ rfl
  have hC7 : CDq bp lo w7 (pool ++ [(k, v, x, (ls, li), (rs, ri))]) := ⟨⟨_, hb7, ho7⟩, hlo⟩
  have hs7 := hk7.size
  refine V.region ?_
  refine L.rd (rd_move rfl) rfl ?_
  refine L.rd (rd_nilCheck rfl) rfl ?_
  refine L.rd (rd_fieldAddr tok rfl rfl rfl rfl rfl rfl) rfl ?_
  refine L.rd (rd_load1 tok rfl rfl rfl (hb7.cell rfl)) rfl ?_
  refine L.rd (rd_lenSlice tok rfl rfl rfl) rfl ?_
  (refine L.rd (rd_sub3 rfl rfl ?_) rfl ?_; omega)
  refine L.rd (rd_build (out := [_, _]) tok rfl rfl rfl rfl rfl) rfl ?_
  refine L.ef (e_store (vs := [_, _]) tok rfl rfl rfl rfl hr7 rfl (by simp [Value.oneCell']) (by simp) ?_)
  refine L.nil ?_
  refine X.sq ?_
  refine V.ret ?_
  refine ret_c tok Yaam.results99 rfl rfl rfl (Bl.cells (hr7.set _ _)) rfl ?_
  have hK := ((KD.ext hE (by omega) 152 bp).trans hk6).trans hk7
  have hfin : KDq bp lo w (setB w7 (w.heap.size + 1) 149 (putAt [.bool false, .int .i64 0] 0 [.bool false, .int .i64 ((pool.length + 1 : Nat) - 1 : Int)])) := by
    refine ⟨hK.os, hK.tape, hK.output, by rw [size_setB]; exact hK.size, fun q hq => ?_, fun q hq hn hb => ?_⟩
    · rw [← hK.low q hq]; unfold setB; simp only []; rw [Array.getElem?_setIfInBounds_ne (by omega)]
    · rw [← hK.oth q hq hn hb]; unfold setB; simp only []; rw [Array.getElem?_setIfInBounds_ne (by omega)]
  refine ⟨?_, hC7.set hr7 rfl rfl _, ?_⟩
  · have e : ((pool.length + 1 : Nat) : Int) - 1 = pool.length := by omega
    simp only [Int.natCast_add, Int.natCast_one] at e ⊢
    first | rfl | (rw [e]; rfl) | (simp [putAt, e])
  · exact hfin
end Go.Proofs.YbxaawGreat
