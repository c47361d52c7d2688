/-
  spec.polyToM, walked: a canonical polynomial as a row of (coefficient, exponent vector).
-/
import Derived.Test.YbxacwStrW
import Derived.Test.YbxacwPrintP
import Derived.Test.YbxacwCanW2
set_option linter.unusedVariables false
set_option linter.unusedSimpArgs false
set_option maxRecDepth 10000
namespace Go.Mw
abbrev MT := Int × List Int
def pad26 (v : List Int) : List Int := (v ++ List.replicate 26 0).take 26
theorem pad26_len (v : List Int) : (pad26 v).length = 26 := by simp [pad26]
theorem pad26_eq {v : List Int} (h : v.length = 26) : pad26 v = v := by simp [pad26, h]
/-- a term of the model in memory: 27 cells -/
def mtE (t : MT) : List Value := .int .i64 t.1 :: iC .i32 (pad26 t.2)
theorem mtE_len (t : MT) : (mtE t).length = 27 := by simp [mtE, iC_len, pad26_len]
theorem mtE_eq {c : Int} {v : List Int} (h : v.length = 26) : mtE (c, v) = .int .i64 c :: iC .i32 v := by simp only [mtE, pad26_eq h]
theorem mtE_one (t : MT) : ∀ u ∈ mtE t, u.oneCell' = true := by
  intro u hu
  rcases List.mem_cons.1 hu with rfl | h
  · rfl
  · exact iC_one _ _ u h
def ms (q : List PT) : List MT := q.map fun t => (t.1, vec t.2)
theorem ms_len (q : List PT) : (ms q).length = q.length := by simp [ms]
theorem ms_get {q : List PT} {k : Nat} {t : PT} (h : q[k]? = some t) : (ms q)[k]? = some (t.1, vec t.2) := by simp [ms, h]
theorem take_snoc {α : Type} {a : List α} {k : Nat} {x : α} (h : a[k]? = some x) : a.take (k + 1) = a.take k ++ [x] := by
  obtain ⟨h1, h2⟩ := List.getElem?_eq_some_iff.1 h
  rw [List.take_succ_eq_append_getElem h1, h2]
theorem Fl.good {fs : List (Int × Int)} {j : Nat} {last : Int} {v : List Int} {f : Int × Int} (h : Fl fs j last v) (hok : facOk fs (-1) = true) (hf : fs[j]? = some f) : last < f.1 ∧ f.1 < 26 ∧ 1 ≤ f.2 ∧ f.2 ≤ 1000000 := by
  have h1 := h.ok
  rw [hok, drop_cons hf, facOk] at h1
  have := h1.symm
  simp only [Bool.and_eq_true, decide_eq_true_eq] at this
  exact this.1
theorem cI_putE (c : Int) (v : List Int) (i : Nat) (x : Int) (h : i < v.length) : putAt (.int .i64 c :: iC .i32 v) (1 + i) [.int .i32 x] = .int .i64 c :: iC .i32 (v.set i x) := by
  rw [putAt_one _ _ _ (by simp [iC]; omega), Nat.add_comm]
  simp [iC, List.map_set]
theorem mt_cells {w : World} {b o : Nat} {c : Int} {v : List Int} (h : Cells w b o (mtE (c, v))) (hv : v.length = 26) : Cells w b (o + 1) (iC .i32 v) := by
  rw [mtE_eq hv] at h
  exact h.tail
theorem mtE_get {c : Int} {v : List Int} {i : Nat} {x : Int} (hv : v.length = 26) (h : v[i]? = some x) : (mtE (c, v))[1 + i]? = some (.int .i32 x) := by
  rw [mtE_eq hv, Nat.add_comm, List.getElem?_cons_succ]
  exact iC_get h
theorem spF_step {v : List Int} {i : Nat} {x : Int} (h : v[i]? = some x) : spF (v.drop i) i = if x = 0 then spF (v.drop (i + 1)) (i + 1) else ((i : Int), x) :: spF (v.drop (i + 1)) (i + 1) := by
  rw [drop_cons h, spF]
theorem row_cells {w : World} {g e sz : Nat} {α : Type} {enc : α → List Value} (henc : ∀ x, (enc x).length = sz) {a : List α} {sp : List Value} (h : Bl w g e (a.flatMap enc ++ sp)) {k : Nat} {x : α} (hx : a[k]? = some x) : Cells w g (0 + k * sz) (enc x) :=
  h.cells.sub (k * sz) (enc x) fun j v hv => by
    have h1 := fm_get henc a k x hx j v hv
    rw [List.getElem?_append_left (List.getElem?_eq_some_iff.1 h1).1]; exact h1
end Go.Mw
namespace Go.Proofs.Ybxacw
open Go.Mw

theorem polyToM_ok (va : Value) (Ls : List Lt) (w : World) {lo hi : Nat} (hT : Tl w lo hi va Ls) (hC : canon (pol Ls) = true) :
    Ret Yacm.prog 53 [.agg #[va]] w fun r w' => w'.ownsRow w.heap.size 102 27 r Ls.length ((ms (pol Ls)).flatMap mtE) ∧ Ext w.heap.size w w' := by
  obtain ⟨aa, ca, rfl, hfa⟩ := hT.form
  have hL : Ls.length ≤ 4096 := by have := canon_len hC; rwa [pol_length] at this
  refine enter1 Yacm.func53 Yacm.ntmps53 (by kernel_rfl) rfl rfl ?_
  refine V.seq ?_
  refine V.region ?_
  refine L.ef (e_box (cs := [_]) rfl rfl (by first | (simp only [size_addB, size_setB, size_drew]; rfl) | rfl) rfl ?_)
  refine L.rd (rd_assign rfl) rfl ?_
  refine L.nil ?_
  refine X.sq ?_
  refine V.seq ?_
  have hp := Bl.new w 46 [.slice aa Ls.length ca]
  have hE := (Ext.refl _ w).addNew 46 [.slice aa Ls.length ca]
  refine V.region ?_
  refine L.rd (rd_fieldAddr tok rfl rfl rfl rfl rfl rfl) rfl ?_
  refine L.rd (rd_load1 tok rfl rfl rfl (hp.cell rfl)) rfl ?_
  refine L.rd (rd_lenSlice tok rfl rfl rfl) rfl ?_
  refine L.ef (e_make (e := 102) (zs := .int .i64 0 :: iC .i32 z26) tok rfl rfl rfl rfl rfl rfl (m := 0) rfl rfl (by first | (simp only [size_addB, size_setB, size_drew]; rfl) | rfl) rfl (by omega) (by simp only []; omega) (by omega) ?_)
  refine L.rd (rd_assign rfl) rfl ?_
  refine L.nil ?_
  refine X.sq ?_
  refine V.seq ?_
  refine V.seq ?_
  have hmk := Bl.new' (w := addB w 46 [.slice aa Ls.length ca]) (b := w.heap.size + 1) (by rw [size_addB]) 102 ((List.replicate Ls.length (.int .i64 0 :: iC .i32 z26)).flatten)
  have hO : (addB (addB w 46 [.slice aa Ls.length ca]) 102 ((List.replicate Ls.length (.int .i64 0 :: iC .i32 z26)).flatten)).ownsRow w.heap.size 102 27 (.slice (some ⟨w.heap.size + 1, 0, none⟩) 0 Ls.length) 0 [] := own_made hmk (by rw [List.length_flatten]; simp [iC, z26]) (by omega) (by unfold maxLen; omega)
  refine V.region ?_
  refine L.rd (rd_fieldAddr tok rfl rfl rfl rfl rfl rfl) rfl ?_
  refine L.rd (rd_load1 tok rfl rfl rfl ((hp.add _ _).cell rfl)) rfl ?_
  refine L.rd (rd_lenSlice tok rfl rfl rfl) rfl ?_
  refine L.rd (rd_move rfl) rfl ?_
  refine L.nil ?_
  refine X.sq ?_
  refine V.block ?_
  refine V.loop (fun m l wr => ∃ (k : Nat) (v : Value), l = [(3, v), (14, .slice aa Ls.length ca), (15, .int .i64 Ls.length), (16, .int .i64 k)] ∧ m = Ls.length - k ∧ k ≤ Ls.length ∧ Ext w.heap.size w wr ∧ wr.ownsRow w.heap.size 102 27 v k (((ms (pol Ls)).take k).flatMap mtE)) ?_ ?_
  ·
    exact ⟨_, _, (by repeat' (first | exact trivial | refine ⟨rfl, ?_⟩)), 0, _, rfl, rfl, by omega, hE.addNew _ _, hO⟩
  ·
    clear hE hO hp hmk
    rintro m l wr ⟨k, ov, rfl, rfl, hk, hE, hO⟩
    refine V.seq ?_
    refine V.region ?_
    refine L.rd (rd_lss rfl rfl) rfl ?_
    refine L.nil ?_
    refine X.sq ?_
    refine V.seq ?_
    first | refine V.cond rfl (fun h17 => ?_) (fun h17 => ?_) | refine V.condB rfl (fun h17 => ?_) (fun h17 => ?_)
    ·
      obtain ⟨b1, o1, rfl, -, -, hc1⟩ := hfa.resolve_left (by omega)
      obtain ⟨⟨c, fv, fs⟩, ht⟩ := nth_of_lt Ls k (by omega)
      have hcx := Tl.cells (hc1.le hE.leC) ht
      have hCT := canon_nth hC (pol_get ht)
      have hwr := hE.size
      obtain ⟨fa, fc, hfv, hff⟩ := (hT.ext hE).nth ht
      have hok := hCT.ok
      have hfsl := hCT.len
      simp only at hfv hff hcx hok hfsl
      subst hfv
      refine V.skip ?_
      refine X.sq ?_
      refine V.seq ?_
      refine V.block ?_
      refine V.seq ?_
      refine V.region ?_
      (refine L.rd (rd_indexSlice (sz := 2) tok rfl rfl rfl rfl rfl rfl rfl ?_) rfl ?_; omega)
      refine L.rd (rd_loadN tok rfl rfl rfl hcx rfl) rfl ?_
      refine L.ef (e_alloc (cs := [_, _]) tok rfl rfl (by first | (simp only [size_addB, size_setB, size_drew]; rfl) | rfl) rfl ?_)
      refine L.ef (e_store (vs := [_, _]) tok rfl rfl rfl rfl (by (repeat (first | assumption | (refine Bl.new' ?_ _ _; first | with_reducible rfl | (simp only [size_addB, size_setB, size_drew]; done)) | apply Bl.add | apply Bl.drew | (apply Bl.setNe; omega) | (refine Bl.set' ?_ _ _; (try simp only [size_addB, size_setB, size_drew]); omega)))) rfl (by simp [Value.oneCell']) (by simp) ?_)
      refine L.nil ?_
      refine X.sq ?_
      refine V.seq ?_
      refine V.region ?_
      refine L.ef (e_alloc (cs := .int .i64 0 :: iC .i32 z26) tok rfl rfl (by first | (simp only [size_addB, size_setB, size_drew]; rfl) | rfl) rfl ?_)
      refine L.nil ?_
      refine X.sq ?_
      refine V.seq ?_
      refine V.region ?_
      refine L.rd (rd_fieldAddr tok rfl rfl rfl rfl rfl rfl) rfl ?_
      refine L.rd (rd_load1 tok rfl rfl rfl (by first | assumption | exact Bl.cell (by (repeat (first | assumption | (refine Bl.new' ?_ _ _; first | with_reducible rfl | (simp only [size_addB, size_setB, size_drew]; done)) | apply Bl.add | apply Bl.drew | (apply Bl.setNe; omega) | (refine Bl.set' ?_ _ _; (try simp only [size_addB, size_setB, size_drew]); omega)))) rfl)) rfl ?_
      refine L.rd (rd_fieldAddr tok rfl rfl rfl rfl rfl rfl) rfl ?_
      refine L.ef (e_store (vs := [_]) tok rfl rfl rfl rfl (by (repeat (first | assumption | (refine Bl.new' ?_ _ _; first | with_reducible rfl | (simp only [size_addB, size_setB, size_drew]; done)) | apply Bl.add | apply Bl.drew | (apply Bl.setNe; omega) | (refine Bl.set' ?_ _ _; (try simp only [size_addB, size_setB, size_drew]); omega)))) rfl (by simp [Value.oneCell']) (by simp) ?_)
      rw [show putAt (.int .i64 0 :: iC .i32 z26) (0 + 0) [.int .i64 c] = .int .i64 c :: iC .i32 z26 from rfl]
      refine L.nil ?_
      refine X.sq ?_
      refine V.seq ?_
      refine V.seq ?_
      have hE2 : Ext wr.heap.size wr (setB (addB (setB (addB wr 110 [Value.int .i64 0, .slice none 0 0]) wr.heap.size 110 (putAt [Value.int .i64 0, .slice none 0 0] 0 [Value.int .i64 c, .slice fa fs.length fc])) 102 (.int .i64 0 :: iC .i32 z26)) (wr.heap.size + 1) 102 (.int .i64 c :: iC .i32 z26)) := ((((Ext.refl _ wr).addNew _ _).set (Nat.le_refl _) _ _).addNew _ _).set (by omega) _ _
      refine V.region ?_
      refine L.rd (rd_fieldAddr tok rfl rfl rfl rfl rfl rfl) rfl ?_
      refine L.rd (rd_load1 tok rfl rfl rfl (by first | assumption | exact Bl.cell (by (repeat (first | assumption | (refine Bl.new' ?_ _ _; first | with_reducible rfl | (simp only [size_addB, size_setB, size_drew]; done)) | apply Bl.add | apply Bl.drew | (apply Bl.setNe; omega) | (refine Bl.set' ?_ _ _; (try simp only [size_addB, size_setB, size_drew]); omega)))) rfl)) rfl ?_
      refine L.rd (rd_lenSlice tok rfl rfl rfl) rfl ?_
      refine L.rd (rd_move rfl) rfl ?_
      refine L.nil ?_
      refine X.sq ?_
      refine V.block ?_
      refine V.loop (fun m l w2 => ∃ (j : Nat) (last : Int) (v : List Int), l = [(3, ov), (6, .pointer (some ⟨wr.heap.size + 1, 0, none⟩)), (14, .slice (some ⟨b1, o1, none⟩) Ls.length ca), (15, .int .i64 Ls.length), (16, .int .i64 k), (24, .slice fa fs.length fc), (25, .int .i64 fs.length), (26, .int .i64 j)] ∧ m = fs.length - j ∧ j ≤ fs.length ∧ Ext wr.heap.size wr w2 ∧ Bl w2 (wr.heap.size + 1) 102 (.int .i64 c :: iC .i32 v) ∧ Fl fs j last v) ?_ ?_
      ·
        refine ⟨_, _, (by repeat' (first | exact trivial | refine ⟨rfl, ?_⟩)), 0, -1, z26, rfl, rfl, by omega, hE2, Bl.set' (by simp only [size_addB, size_setB]; omega) _ _, Fl.start fs⟩
      ·
        clear hE2
        rintro m l w2 ⟨j, last, v, rfl, rfl, hj, hE2, hbm, hfl⟩
        have hla := hfl.fv.last
        have hvl := hfl.fv.len
        have hml := hbm.lt
        refine V.seq ?_
        refine V.region ?_
        refine L.rd (rd_lss rfl rfl) rfl ?_
        refine L.nil ?_
        refine X.sq ?_
        refine V.seq ?_
        first | refine V.cond rfl (fun h27 => ?_) (fun h27 => ?_) | refine V.condB rfl (fun h27 => ?_) (fun h27 => ?_)
        ·
          obtain ⟨b2, o2, rfl, -, -, hc2⟩ := hff.resolve_left (by omega)
          obtain ⟨⟨fva, fpo⟩, hf⟩ := nth_of_lt fs j (by omega)
          have hcf := (hc2.le hE2.leC).sub (j * 2) _ (pr_get fs j _ hf)
          have hgood := hfl.good hok hf
          simp only at hgood
          refine V.skip ?_
          refine X.sq ?_
          refine V.seq ?_
          refine V.block ?_
          refine V.seq ?_
          refine V.region ?_
          (refine L.rd (rd_indexSlice (sz := 2) tok rfl rfl rfl rfl rfl rfl rfl ?_) rfl ?_; omega)
          refine L.rd (rd_loadN tok rfl rfl rfl hcf rfl) rfl ?_
          refine L.ef (e_alloc (cs := [_, _]) tok rfl rfl (by first | (simp only [size_addB, size_setB, size_drew]; rfl) | rfl) rfl ?_)
          refine L.ef (e_store (vs := [_, _]) tok rfl rfl rfl rfl (by (repeat (first | assumption | (refine Bl.new' ?_ _ _; first | with_reducible rfl | (simp only [size_addB, size_setB, size_drew]; done)) | apply Bl.add | apply Bl.drew | (apply Bl.setNe; omega) | (refine Bl.set' ?_ _ _; (try simp only [size_addB, size_setB, size_drew]); omega)))) rfl (by simp [Value.oneCell']) (by simp) ?_)
          refine L.nil ?_
          refine X.sq ?_
          refine V.region ?_
          refine L.rd (rd_fieldAddr tok rfl rfl rfl rfl rfl rfl) rfl ?_
          refine L.rd (rd_load1 tok rfl rfl rfl (by first | assumption | exact Bl.cell (by (repeat (first | assumption | (refine Bl.new' ?_ _ _; first | with_reducible rfl | (simp only [size_addB, size_setB, size_drew]; done)) | apply Bl.add | apply Bl.drew | (apply Bl.setNe; omega) | (refine Bl.set' ?_ _ _; (try simp only [size_addB, size_setB, size_drew]); omega)))) rfl)) rfl ?_
          refine L.rd (rd_fieldAddr tok rfl rfl rfl rfl rfl rfl) rfl ?_
          refine L.rd (rd_load1 tok rfl rfl rfl (by first | assumption | exact Bl.cell (by (repeat (first | assumption | (refine Bl.new' ?_ _ _; first | with_reducible rfl | (simp only [size_addB, size_setB, size_drew]; done)) | apply Bl.add | apply Bl.drew | (apply Bl.setNe; omega) | (refine Bl.set' ?_ _ _; (try simp only [size_addB, size_setB, size_drew]); omega)))) rfl)) rfl ?_
          refine L.rd (rd_convE (r := fpo) tok rfl rfl rfl rfl rfl (wrap_i32_in (by omega))) rfl ?_
          refine L.rd (rd_fieldAddr tok rfl rfl rfl rfl rfl rfl) rfl ?_
          (refine L.rd (rd_indexArr (n := 26) (sz := 1) tok rfl rfl rfl rfl rfl rfl rfl rfl ?_) rfl ?_; omega)
          refine L.ef (e_store (vs := [_]) tok rfl rfl rfl rfl (cs := .int .i64 c :: iC .i32 v) (by (repeat (first | assumption | (refine Bl.new' ?_ _ _; first | with_reducible rfl | (simp only [size_addB, size_setB, size_drew]; done)) | apply Bl.add | apply Bl.drew | (apply Bl.setNe; omega) | (refine Bl.set' ?_ _ _; (try simp only [size_addB, size_setB, size_drew]); omega)))) rfl (by simp [Value.oneCell']) (by simp only [List.length_cons, iC_len, List.length_nil]; omega) ?_)
          (simp only [Nat.zero_add, Nat.mul_one])
          rw [cI_putE c v fva.toNat fpo (by omega)]
          refine L.nil ?_
          refine X.bk ?_
          refine X.sq ?_
          refine V.region ?_
          (refine L.rd (rd_add3 rfl rfl ?_) rfl ?_; omega)
          refine L.rd (rd_move rfl) rfl ?_
          refine L.nil ?_
          refine X.lp ⟨_, _, by omega, (by repeat' (first | exact trivial | refine ⟨rfl, ?_⟩)), j + 1, fva, v.set fva.toNat fpo, rfl, rfl, by omega, ?_, ?_, hfl.next hf hgood⟩
          · exact (((hE2.addNew _ _).set (by have := hE2.size; omega) _ _).set (by omega) _ _)
          · exact Bl.set' (by simp only [size_addB, size_setB]; omega) _ _
        ·
          refine V.exit ?_
          refine X.sqExit ?_
          refine X.lpExit ?_
          refine X.bkHere ?_
          refine X.sq ?_
          obtain ⟨-, hvec⟩ := hfl.done (by omega)
          rw [← mtE_eq hvl, ← hvec] at hbm
          have hO2 := own_same (w' := w2) hO fun q hq => hE2.block q (own_block_lt hO hq).2
          refine V.region ?_
          refine L.rd (rd_move rfl) rfl ?_
          refine L.rd (rd_loadN tok rfl rfl rfl hbm.cells (mtE_len _).symm) rfl ?_
          refine L.ef (e_buildSlice1 (e := 102) (cs := mtE (c, vec fs)) tok rfl rfl rfl rfl rfl rfl rfl rfl (by rw [mtE_len]; rfl) (by first | (simp only [size_addB, size_setB, size_drew]; rfl) | rfl) rfl ?_)
          refine L.ef (e_append (m := 1) tok rfl rfl rfl rfl rfl rfl rfl rfl rfl rfl (hO2.alloc _) (Bl.new _ _ _).cells (mtE_len _) (mtE_one _) (by unfold maxLen; omega) (by simp only []; omega) (by rw [size_addB]; have := hE2.size; omega) ?_)
          rintro v1 w3 ho3 hg3
          refine L.rd (rd_assign rfl) rfl ?_
          refine L.nil ?_
          refine X.bk ?_
          refine X.sq ?_
          refine V.region ?_
          (refine L.rd (rd_add3 rfl rfl ?_) rfl ?_; omega)
          refine L.rd (rd_move rfl) rfl ?_
          refine L.nil ?_
          have hms := ms_get (pol_get ht)
          refine X.lp ⟨_, _, by omega, (by repeat' (first | exact trivial | refine ⟨rfl, ?_⟩)), k + 1, v1, rfl, rfl, by omega, ?_, ?_⟩
          · exact ((hE.next hE2).addNew _ _).grown hg3 (by rw [size_addB]; have := hE2.size; omega) (fun q hq => (own_block_lt hO hq).1)
          · rw [take_snoc hms, List.flatMap_append]
            simpa using ho3
    ·
      refine V.exit ?_
      refine X.sqExit ?_
      refine X.lpExit ?_
      refine X.bkHere ?_
      refine X.sq ?_
      refine V.seq ?_
      refine V.region ?_
      refine L.rd (rd_move rfl) rfl ?_
      refine L.rd (rd_assign rfl) rfl ?_
      refine L.nil ?_
      refine X.sq ?_
      refine V.ret ?_
      refine ret_1 Yacm.results53 rfl ?_
      have hka : k = Ls.length := by omega
      subst hka
      rw [List.take_of_length_le (by rw [ms_len, pol_length]; omega)] at hO
      exact ⟨hO, hE⟩
end Go.Proofs.Ybxacw
