/-
  spec.mergeTerms, walked.
-/
import Derived.Test.YbxaawGreatSortW
set_option linter.unusedVariables false
set_option linter.unusedSimpArgs false
set_option maxRecDepth 10000
namespace Go.Mw
theorem Cells.off {w : World} {b o o' : Nat} {vs : List Value} (h : Cells w b o vs) (e : o' = o) : Cells w b o' vs := e ▸ h
theorem own_nn {w : World} {B e sz n : Nat} {v : Value} {xs : List Value} (h : w.ownsRow B e sz v n xs) (hne : v ≠ .slice none 0 0) : ∃ g c, v = .slice (some ⟨g, 0, none⟩) n c ∧ n ≤ c ∧ B ≤ g ∧ Cells w g 0 xs := by
  rcases own_slc h with ⟨h0, _⟩ | ⟨g, cap, sp, hB, hs⟩
  · exact absurd h0 hne
  · refine ⟨g, cap, hs.val, hs.capn, hB, ⟨fun i u hu => ?_⟩⟩
    exact hs.bl.cells.at_ i u (by rw [List.getElem?_append_left (List.getElem?_eq_some_iff.1 hu).1]; exact hu)
theorem own_ext {w w' : World} {B e sz n : Nat} {v : Value} {xs : List Value} (h : w.ownsRow B e sz v n xs) (he : Ext w.heap.size w w') : w'.ownsRow B e sz v n xs := own_same h fun k hk => he.block k (own_block_lt h hk).2
theorem nzf_snoc {C : List MT} {k : Nat} {t : MT} (h : C[k]? = some t) : nzf (C.take (k + 1)) = nzf (C.take k) ++ (if t.1 = 0 then [] else [t]) := by
  rw [take_snoc h]
  unfold nzf
  rw [List.filter_append]
  congr 1
  by_cases e : t.1 = 0 <;> simp [e]
theorem set_last {α : Type} (C : List α) (x : α) (h : 0 < C.length) : C.set (C.length - 1) x = C.take (C.length - 1) ++ [x] := by
  rw [List.set_eq_take_append_cons_drop, if_pos (by omega), List.drop_eq_nil_of_le (by omega)]
/-- coefficients are in the range of int64 -/
def Cr (A : List MT) : Prop := ∀ t ∈ A, w64 t.1 = t.1
end Go.Mw
namespace Go.Proofs.YbxaawGreat
open Go.Mw
theorem eqA26 : EqA Yaam.prog tys 101 26 .i32 := ⟨⟨_, _, rfl, rfl, rfl, rfl, rfl, rfl, by kernel_rfl⟩, by kernel_rfl⟩

def MergePost (A : List MT) (w : World) (r : Value) (w' : World) : Prop := w'.ownsRow w.heap.size 103 27 r (nf A).length ((nf A).flatMap mtE) ∧ Ext w.heap.size w w'

theorem mergeTerms_ok (A : List MT) (hV : Vl A) (hC : Cr A) (hn : A.length ≤ 1048576) (v : Value) (w : World) (hS : Sl w v A) : Ret Yaam.prog 60 [v] w (MergePost A w) := by
  refine enter1 Yaam.func60 Yaam.ntmps60 (by kernel_rfl) rfl rfl ?_
  refine V.seq ?_
  refine V.region ?_
  refine L.rd (rd_assign rfl) rfl ?_
  refine L.nil ?_
  refine X.sq ?_
  refine V.seq ?_
  refine V.region ?_
  refine L.rd (rd_move rfl) rfl ?_
  refine L.ef (e_call rfl (sortTerms_ok A.length A (Nat.le_refl _) hV hn _ _ hS) rfl ?_)
  rintro v1 w1 ⟨S, hO1, hSrt, he1, hne1⟩
  obtain ⟨g1, c1, rfl, hcc1, -, hc1⟩ := own_nn hO1 hne1
  have hSl := hSrt.len
  have hVS := hSrt.vl hV
  have hCS : Cr S := fun t ht => hC t (hSrt.mem t ht)
  refine L.rd (rd_assign rfl) rfl ?_
  refine L.nil ?_
  refine X.sq ?_
  refine V.seq ?_
  refine V.region ?_
  refine L.rd (rd_assign rfl) rfl ?_
  refine L.nil ?_
  refine X.sq ?_
  refine V.seq ?_
  refine V.seq ?_
  refine V.region ?_
  refine L.rd (rd_move rfl) rfl ?_
  refine L.rd (rd_lenSlice tok rfl rfl rfl) rfl ?_
  refine L.rd (rd_move rfl) rfl ?_
  refine L.nil ?_
  refine X.sq ?_
  refine V.block ?_
  refine V.loop (fun m l wr => ∃ (k : Nat) (av : Value) (C : List MT), l = [(4, av), (14, .slice (some ⟨g1, 0, none⟩) S.length c1), (15, .int .i64 S.length), (16, .int .i64 k)] ∧ m = S.length - k ∧ k ≤ S.length ∧ Ext w1.heap.size w1 wr ∧ wr.ownsRow w1.heap.size 103 27 av C.length (C.flatMap mtE) ∧ Gr S k C ∧ Cr C ∧ C.length ≤ k) ?_ ?_
  ·
    exact ⟨_, _, (by repeat' (first | exact trivial | refine ⟨rfl, ?_⟩)), 0, _, [], rfl, rfl, by omega, Ext.refl _ _, World.ownsRow_nil _ _ _ _, Gr.start S, fun t ht => (by cases ht), by simp⟩
  ·
    rintro m l wr ⟨k, av, C, rfl, rfl, hk, hE, hO, hG, hCC, hCk⟩
    have hwr := hE.size
    refine V.seq ?_
    refine V.region ?_
    refine L.rd (rd_lss rfl rfl) rfl ?_
    refine L.nil ?_
    refine X.sq ?_
    refine V.seq ?_
    first | refine V.cond rfl (fun h17 => ?_) (fun h17 => ?_) | refine V.condB rfl (fun h17 => ?_) (fun h17 => ?_)
    ·
      obtain ⟨⟨tc, tv⟩, ht⟩ := nth_of_lt S k (by omega)
      have htv := hVS _ (List.mem_of_getElem? ht)
      have htc := hCS _ (List.mem_of_getElem? ht)
      simp only at htv htc
      have hcx := mt_at (hc1.le hE.leC) ht
      obtain ⟨aa, ac, rfl⟩ : ∃ a c, av = .slice a C.length c := by
        rcases own_slc hO with ⟨rfl, h0, _⟩ | ⟨g, cap, sp, _, hs⟩
        · rw [h0]; exact ⟨_, _, rfl⟩
        · exact ⟨_, _, hs.val⟩
      refine V.skip ?_
      refine X.sq ?_
      refine V.seq ?_
      refine V.cut (fun l w' => ∃ (av' : Value) (C' : List MT), l = [(4, av'), (14, .slice (some ⟨g1, 0, none⟩) S.length c1), (15, .int .i64 S.length), (16, .int .i64 k)] ∧ Ext w1.heap.size w1 w' ∧ w'.ownsRow w1.heap.size 103 27 av' C'.length (C'.flatMap mtE) ∧ Gr S (k + 1) C' ∧ Cr C' ∧ C'.length ≤ k + 1) ?_ ?_
      ·
        refine V.block ?_
        refine V.seq ?_
        refine V.region ?_
        (refine L.rd (rd_indexSlice (sz := 27) tok rfl rfl rfl rfl rfl rfl rfl ?_) rfl ?_; omega)
        refine L.rd (rd_loadN tok rfl rfl rfl hcx (mtE_len _).symm) rfl ?_
        refine L.ef (e_alloc (cs := .int .i64 0 :: iC .i32 z26) tok rfl rfl (by first | (simp only [size_addB, size_setB, size_drew]; rfl) | rfl) rfl ?_)
        refine L.ef (e_store (vs := mtE (tc, tv)) tok rfl rfl rfl rfl (cs := .int .i64 0 :: iC .i32 z26) (by (repeat (first | assumption | (refine Bl.new' ?_ _ _; first | with_reducible rfl | (simp only [size_addB, size_setB, size_drew]; done)) | apply Bl.add | apply Bl.drew | (apply Bl.setNe; omega) | (refine Bl.set' ?_ _ _; (try simp only [size_addB, size_setB, size_drew]); omega)))) (mtE_len _) (mtE_one _) (by rw [mtE_len]; simp [iC, z26]) ?_)
        (rw [putAll _ _ (by rw [mtE_len]; simp [iC, z26])])
        refine L.nil ?_
        refine X.sq ?_
        refine V.seq ?_
        obtain ⟨w5, hw5⟩ : ∃ w5, w5 = setB (addB wr 103 (.int .i64 0 :: iC .i32 z26)) wr.heap.size 103 (mtE (tc, tv)) := ⟨_, rfl⟩
        have hbt : Bl w5 wr.heap.size 103 (mtE (tc, tv)) := by rw [hw5]; exact Bl.set' (by rw [size_addB]; omega) _ _
        have hE5 : Ext wr.heap.size wr w5 := by rw [hw5]; exact ((Ext.refl _ _).addNew _ _).set (Nat.le_refl _) _ _
        rw [← hw5]
        have hO5 := own_ext hO hE5
        have hE15 := hE.next hE5
        have hw15 := hE15.size
        refine V.region ?_
        refine L.rd (rd_move rfl) rfl ?_
        refine L.rd (rd_lenSlice tok rfl rfl rfl) rfl ?_
        refine L.rd (rd_assign rfl) rfl ?_
        refine L.nil ?_
        refine X.sq ?_
        refine V.seq ?_
        refine V.draw [] mixed ?_
        refine D.take 0 [true, false, false, false, false, false, false, false, false, false, false, false, false] (.sq (.bk (.ct (.sq (.lp (.bk (.sq .bd))))))) rfl (rd_move rfl) rfl (by kernel_rfl) rfl (LeC.drew _) ?_
        refine D.take 1 [true, true, false, false, false, false, false, false, false, false, false, false, false] (.sq (.bk (.ct (.sq (.lp (.bk (.sq .bd))))))) rfl (rd_gtr rfl rfl) rfl (by kernel_rfl) rfl (LeC.drew _) ?_
        refine D.take 2 [true, true, true, false, false, false, false, false, false, false, false, false, false] (.sq (.bk (.ct (.sq (.lp (.bk (.sq .bd))))))) rfl (rd_move rfl) rfl (by kernel_rfl) rfl (LeC.drew _) ?_
        first | refine D.part 24 rfl (fun g24 => ?_) (fun g24 => ?_) | refine D.partB 24 rfl (fun g24 => ?_) (fun g24 => ?_)
        ·
          obtain ⟨ga, ca', hav, hcca, hgaB, hca⟩ := own_some hO5 (by omega)
          simp only [Value.slice.injEq] at hav
          obtain ⟨rfl, -, rfl⟩ := hav
          obtain ⟨⟨lc, lv⟩, hl⟩ := nth_of_lt C (C.length - 1) (by omega)
          have hlv := hG.vl hVS _ (List.mem_of_getElem? hl)
          simp only at hlv
          have hcl := mt_at hca hl
          refine D.takeYes 3 [true, true, true, true, false, false, false, false, false, false, false, false, false] (.sq (.bk (.ct (.sq (.lp (.bk (.sq .bd))))))) rfl rfl rfl (rd_move rfl) rfl (by kernel_rfl) rfl (LeC.drew _) ?_
          refine D.takeYes 4 [true, true, true, true, true, false, false, false, false, false, false, false, false] (.sq (.bk (.ct (.sq (.lp (.bk (.sq .bd))))))) rfl rfl rfl (rd_move rfl) rfl (by kernel_rfl) rfl (LeC.drew _) ?_
          (refine D.takeYes 5 [true, true, true, true, true, true, false, false, false, false, false, false, false] (.sq (.bk (.ct (.sq (.lp (.bk (.sq .bd))))))) rfl rfl rfl (rd_sub3 rfl rfl ?_) rfl (by kernel_rfl) rfl (LeC.drew _) ?_; omega)
          (refine D.takeYes 6 [true, true, true, true, true, true, true, false, false, false, false, false, false] (.sq (.bk (.ct (.sq (.lp (.bk (.sq .bd))))))) rfl rfl rfl (rd_indexSlice (sz := 27) tok rfl rfl rfl rfl rfl rfl rfl ?_) rfl (by kernel_rfl) rfl (LeC.drew _) ?_; omega)
          refine D.takeYes 7 [true, true, true, true, true, true, true, true, false, false, false, false, false] (.sq (.bk (.ct (.sq (.lp (.bk (.sq .bd))))))) rfl rfl rfl (rd_fieldAddr tok rfl rfl rfl rfl rfl rfl) rfl (by kernel_rfl) rfl (LeC.drew _) ?_
          refine D.takeYes 8 [true, true, true, true, true, true, true, true, true, false, false, false, false] (.sq (.bk (.ct (.sq (.lp (.bk (.sq .bd))))))) rfl rfl rfl (rd_loadN tok rfl rfl rfl ((mt_cells hcl hlv.len).off (by omega)) (hlv.c26 _)) rfl (by kernel_rfl) rfl (LeC.drew _) ?_
          refine D.takeYes 9 [true, true, true, true, true, true, true, true, true, true, false, false, false] (.sq (.bk (.ct (.sq (.lp (.bk (.sq .bd))))))) rfl rfl rfl (rd_fieldAddr tok rfl rfl rfl rfl rfl rfl) rfl (by kernel_rfl) rfl (LeC.drew _) ?_
          refine D.takeYes 10 [true, true, true, true, true, true, true, true, true, true, true, false, false] (.sq (.bk (.ct (.sq (.lp (.bk (.sq .bd))))))) rfl rfl rfl (rd_loadN tok rfl rfl rfl (mt_cells hbt.cells htv.len) (htv.c26 _)) rfl (by kernel_rfl) rfl (LeC.drew _) ?_
          refine D.takeYes 11 [true, true, true, true, true, true, true, true, true, true, true, true, false] (.sq (.bk (.ct (.sq (.lp (.bk (.sq .bd))))))) rfl rfl rfl (rd_eqlArr tok eqA26 rfl rfl hlv.len htv.len) rfl (by kernel_rfl) rfl (LeC.drew _) ?_
          refine D.take 12 [true, true, true, true, true, true, true, true, true, true, true, true, true] (.sq (.bk (.ct (.sq (.lp (.bk (.sq .bd))))))) rfl (rd_pickT rfl rfl) rfl (by kernel_rfl) rfl (LeC.drew _) ?_
          refine D.done (by kernel_rfl) ?_
          refine X.sq ?_
          first | refine V.cond rfl (fun h34 => ?_) (fun h34 => ?_) | refine V.condB rfl (fun h34 => ?_) (fun h34 => ?_)
          ·
            obtain rfl : lv = tv := h34
            obtain ⟨sp, -, -, hbl6, hln6, hre6⟩ := own_at mtE_len hO5
            have hCsp : C = C.take (C.length - 1) ++ [(lc, lv)] := by
              rw [← take_snoc hl, Nat.sub_add_cancel (by omega), List.take_of_length_le (Nat.le_refl _)]
            refine V.seq ?_
            refine V.draw [] mixed ?_
            refine D.take 0 [true, false, false, false, false, false, false, false, false, false] (.sq (.bk (.ct (.sq (.lp (.bk (.sq .bd))))))) rfl (rd_move rfl) rfl (by kernel_rfl) rfl (LeC.drew _) ?_
            refine D.take 1 [true, true, false, false, false, false, false, false, false, false] (.sq (.bk (.ct (.sq (.lp (.bk (.sq .bd))))))) rfl (rd_move rfl) rfl (by kernel_rfl) rfl (LeC.drew _) ?_
            (refine D.take 2 [true, true, true, false, false, false, false, false, false, false] (.sq (.bk (.ct (.sq (.lp (.bk (.sq .bd))))))) rfl (rd_sub3 rfl rfl ?_) rfl (by kernel_rfl) rfl (LeC.drew _) ?_; omega)
            (refine D.take 3 [true, true, true, true, false, false, false, false, false, false] (.sq (.bk (.ct (.sq (.lp (.bk (.sq .bd))))))) rfl (rd_indexSlice (sz := 27) tok rfl rfl rfl rfl rfl rfl rfl ?_) rfl (by kernel_rfl) rfl (LeC.drew _) ?_; omega)
            refine D.take 4 [true, true, true, true, true, false, false, false, false, false] (.sq (.bk (.ct (.sq (.lp (.bk (.sq .bd))))))) rfl (rd_fieldAddr tok rfl rfl rfl rfl rfl rfl) rfl (by kernel_rfl) rfl (LeC.drew _) ?_
            refine D.take 5 [true, true, true, true, true, true, false, false, false, false] (.sq (.bk (.ct (.sq (.lp (.bk (.sq .bd))))))) rfl (rd_load1 tok rfl rfl rfl (cells_at (hcl.le (LeC.drew _)) (i := 0) rfl (by omega))) rfl (by kernel_rfl) rfl (LeC.drew _) ?_
            refine D.take 6 [true, true, true, true, true, true, true, false, false, false] (.sq (.bk (.ct (.sq (.lp (.bk (.sq .bd))))))) rfl (rd_fieldAddr tok rfl rfl rfl rfl rfl rfl) rfl (by kernel_rfl) rfl (LeC.drew _) ?_
            refine D.take 7 [true, true, true, true, true, true, true, true, false, false] (.sq (.bk (.ct (.sq (.lp (.bk (.sq .bd))))))) rfl (rd_load1 tok rfl rfl rfl (hbt.drew.cell rfl)) rfl (by kernel_rfl) rfl (LeC.drew _) ?_
            refine D.take 8 [true, true, true, true, true, true, true, true, true, false] (.sq (.bk (.ct (.sq (.lp (.bk (.sq .bd))))))) rfl (rd_addE (r := w64 (lc + tc)) rfl rfl rfl) rfl (by kernel_rfl) rfl (LeC.drew _) ?_
            refine D.take 9 [true, true, true, true, true, true, true, true, true, true] (.sq (.bk (.ct (.sq (.lp (.bk (.sq .bd))))))) rfl (rd_assign rfl) rfl (by kernel_rfl) rfl (LeC.drew _) ?_
            refine D.done (by kernel_rfl) ?_
            refine X.sq ?_
            refine V.region ?_
            refine L.rd (rd_move rfl) rfl ?_
            refine L.rd (rd_move rfl) rfl ?_
            (refine L.rd (rd_sub3 rfl rfl ?_) rfl ?_; omega)
            refine L.rd (rd_move rfl) rfl ?_
            (refine L.rd (rd_indexSlice (sz := 27) tok rfl rfl rfl rfl rfl rfl rfl ?_) rfl ?_; omega)
            refine L.rd (rd_fieldAddr tok rfl rfl rfl rfl rfl rfl) rfl ?_
            refine L.ef (e_store (vs := [_]) tok rfl rfl rfl rfl (cs := C.flatMap mtE ++ sp) (hbl6.drew.drew) rfl (by simp [Value.oneCell']) (by have := hln6 (C.length - 1) (by omega); simp only [List.length_cons, List.length_nil]; omega) ?_)
            refine L.nil ?_
            refine X.bk ?_
            have hput := fm_put1 mtE_len sp C (C.length - 1) 0 (lc, lv) (w64 (lc + tc), lv) (.int .i64 (w64 (lc + tc))) hl (by decide) rfl
            have hset : C.set (C.length - 1) (w64 (lc + tc), lv) = C.take (C.length - 1) ++ [(w64 (lc + tc), lv)] := by
              exact set_last C _ (by omega)
            have hG2 : Gr S (k + 1) (C.take (C.length - 1) ++ [(w64 (lc + tc), lv)]) := Gr.same (c := lc) (t := (tc, lv)) (by rw [← hCsp]; exact hG) hSrt.wk ht
            have hlen2 : (C.take (C.length - 1) ++ [(w64 (lc + tc), lv)]).length = C.length := by rw [← hset, List.length_set]
            refine X.ct ⟨_, (by repeat' (first | exact trivial | refine ⟨rfl, ?_⟩)), _, C.take (C.length - 1) ++ [(w64 (lc + tc), lv)], rfl, (hE15.drew.drew).set hgaB _ _, ?_, hG2, ?_, by omega⟩
            · rw [hlen2]
              refine hre6 _ _ hlen2 ?_
              rw [← hset, ← hput]
              have e0 : 0 + ((C.length : Int) - 1).toNat * 27 + 0 = (C.length - 1) * 27 + 0 := by omega
              rw [e0]
              exact (hbl6.drew.drew).set _ _
            · intro t htm
              rcases List.mem_append.1 htm with htm | htm
              · exact hCC t (List.mem_of_mem_take htm)
              · simp at htm; subst htm; exact w64_wr _
          ·
            have hne10 : ∀ x, C.getLast? = some x → x.2 ≠ tv := by
              intro x hx e
              first
                | (have h0 : C = [] := List.eq_nil_of_length_eq_zero (by omega)
                   rw [h0] at hx; simp at hx)
                | (rw [List.getLast?_eq_getElem?, hl] at hx
                   simp only [Option.some.injEq] at hx
                   subst hx
                   exact h34 e)
            have hG2 := hG.new (t := (tc, tv)) hSrt.wk hVS.len ht hne10
            refine V.region ?_
            refine L.rd (rd_move rfl) rfl ?_
            refine L.rd (rd_loadN tok rfl rfl rfl hbt.drew.cells (mtE_len _).symm) rfl ?_
            refine L.ef (e_buildSlice1 (e := 103) (cs := mtE (tc, tv)) tok rfl rfl rfl rfl rfl rfl rfl rfl (by rw [mtE_len]; rfl) (by first | (simp only [size_addB, size_setB, size_drew]; rfl) | rfl) rfl ?_)
            refine L.ef (e_append (m := 1) tok rfl rfl rfl rfl rfl rfl rfl rfl rfl rfl ((own_ext hO5 (Ext.refl _ _).drew).alloc _) (Bl.new _ _ _).cells (mtE_len _) (mtE_one _) (by unfold maxLen; omega) (by simp only []; omega) (by rw [size_addB, size_drew]; omega) ?_)
            rintro v6 w6 ho6 hg6
            refine L.rd (rd_assign rfl) rfl ?_
            refine L.nil ?_
            refine X.bk ?_
            have hE6 := (hE15.drew.addNew 103 (mtE (tc, tv))).grown hg6 (by rw [size_addB, size_drew]; omega) (fun q hq => (own_block_lt hO5 hq).1)
            refine X.ct ⟨_, (by repeat' (first | exact trivial | refine ⟨rfl, ?_⟩)), v6, C ++ [(tc, tv)], rfl, hE6, by rw [List.flatMap_append, List.length_append]; simpa using ho6, hG2, ?_, by rw [List.length_append]; simp; omega⟩
            intro t htm
            rcases List.mem_append.1 htm with htm | htm
            · exact hCC t htm
            · simp at htm; subst htm; exact htc
        ·
          refine D.takeNo 3 [true, true, true, true, false, false, false, false, false, false, false, false, false] (.sq (.bk (.ct (.sq (.lp (.bk (.sq .bd))))))) rfl rfl rfl rfl rfl (by kernel_rfl) rfl (LeC.drew _) ?_
          refine D.takeNo 4 [true, true, true, true, true, false, false, false, false, false, false, false, false] (.sq (.bk (.ct (.sq (.lp (.bk (.sq .bd))))))) rfl rfl rfl rfl rfl (by kernel_rfl) rfl (LeC.drew _) ?_
          refine D.takeNo 5 [true, true, true, true, true, true, false, false, false, false, false, false, false] (.sq (.bk (.ct (.sq (.lp (.bk (.sq .bd))))))) rfl rfl rfl rfl rfl (by kernel_rfl) rfl (LeC.drew _) ?_
          refine D.takeNo 6 [true, true, true, true, true, true, true, false, false, false, false, false, false] (.sq (.bk (.ct (.sq (.lp (.bk (.sq .bd))))))) rfl rfl rfl rfl rfl (by kernel_rfl) rfl (LeC.drew _) ?_
          refine D.takeNo 7 [true, true, true, true, true, true, true, true, false, false, false, false, false] (.sq (.bk (.ct (.sq (.lp (.bk (.sq .bd))))))) rfl rfl rfl rfl rfl (by kernel_rfl) rfl (LeC.drew _) ?_
          refine D.takeNo 8 [true, true, true, true, true, true, true, true, true, false, false, false, false] (.sq (.bk (.ct (.sq (.lp (.bk (.sq .bd))))))) rfl rfl rfl rfl rfl (by kernel_rfl) rfl (LeC.drew _) ?_
          refine D.takeNo 9 [true, true, true, true, true, true, true, true, true, true, false, false, false] (.sq (.bk (.ct (.sq (.lp (.bk (.sq .bd))))))) rfl rfl rfl rfl rfl (by kernel_rfl) rfl (LeC.drew _) ?_
          refine D.takeNo 10 [true, true, true, true, true, true, true, true, true, true, true, false, false] (.sq (.bk (.ct (.sq (.lp (.bk (.sq .bd))))))) rfl rfl rfl rfl rfl (by kernel_rfl) rfl (LeC.drew _) ?_
          refine D.takeNo 11 [true, true, true, true, true, true, true, true, true, true, true, true, false] (.sq (.bk (.ct (.sq (.lp (.bk (.sq .bd))))))) rfl rfl rfl rfl rfl (by kernel_rfl) rfl (LeC.drew _) ?_
          refine D.take 12 [true, true, true, true, true, true, true, true, true, true, true, true, true] (.sq (.bk (.ct (.sq (.lp (.bk (.sq .bd))))))) rfl (rd_pickF rfl rfl) rfl (by kernel_rfl) rfl (LeC.drew _) ?_
          refine D.done (by kernel_rfl) ?_
          refine X.sq ?_
          refine V.condF rfl ?_
          have hne10 : ∀ x, C.getLast? = some x → x.2 ≠ tv := by
            intro x hx e
            first
              | (have h0 : C = [] := List.eq_nil_of_length_eq_zero (by omega)
                 rw [h0] at hx; simp at hx)
              | (rw [List.getLast?_eq_getElem?, hl] at hx
                 simp only [Option.some.injEq] at hx
                 subst hx
                 exact h34 e)
          have hG2 := hG.new (t := (tc, tv)) hSrt.wk hVS.len ht hne10
          refine V.region ?_
          refine L.rd (rd_move rfl) rfl ?_
          refine L.rd (rd_loadN tok rfl rfl rfl hbt.drew.cells (mtE_len _).symm) rfl ?_
          refine L.ef (e_buildSlice1 (e := 103) (cs := mtE (tc, tv)) tok rfl rfl rfl rfl rfl rfl rfl rfl (by rw [mtE_len]; rfl) (by first | (simp only [size_addB, size_setB, size_drew]; rfl) | rfl) rfl ?_)
          refine L.ef (e_append (m := 1) tok rfl rfl rfl rfl rfl rfl rfl rfl rfl rfl ((own_ext hO5 (Ext.refl _ _).drew).alloc _) (Bl.new _ _ _).cells (mtE_len _) (mtE_one _) (by unfold maxLen; omega) (by simp only []; omega) (by rw [size_addB, size_drew]; omega) ?_)
          rintro v6 w6 ho6 hg6
          refine L.rd (rd_assign rfl) rfl ?_
          refine L.nil ?_
          refine X.bk ?_
          have hE6 := (hE15.drew.addNew 103 (mtE (tc, tv))).grown hg6 (by rw [size_addB, size_drew]; omega) (fun q hq => (own_block_lt hO5 hq).1)
          refine X.ct ⟨_, (by repeat' (first | exact trivial | refine ⟨rfl, ?_⟩)), v6, C ++ [(tc, tv)], rfl, hE6, by rw [List.flatMap_append, List.length_append]; simpa using ho6, hG2, ?_, by rw [List.length_append]; simp; omega⟩
          intro t htm
          rcases List.mem_append.1 htm with htm | htm
          · exact hCC t htm
          · simp at htm; subst htm; exact htc
      ·
        rintro l w7 ⟨av7, C7, rfl, hE7, hO7, hG7, hC7, hl7⟩
        refine X.sq ?_
        refine V.region ?_
        (refine L.rd (rd_add3 rfl rfl ?_) rfl ?_; omega)
        refine L.rd (rd_move rfl) rfl ?_
        refine L.nil ?_
        exact X.lp ⟨_, _, by omega, (by repeat' (first | exact trivial | refine ⟨rfl, ?_⟩)), k + 1, av7, C7, rfl, rfl, by omega, hE7, hO7, hG7, hC7, hl7⟩
    ·
      refine V.exit ?_
      refine X.sqExit ?_
      refine X.lpExit ?_
      refine X.bkHere ?_
      refine X.sq ?_
      refine V.seq ?_
      obtain ⟨aa, ac, rfl⟩ : ∃ a c, av = .slice a C.length c := by
        rcases own_slc hO with ⟨rfl, h0, _⟩ | ⟨g, cap, sp, _, hs⟩
        · rw [h0]; exact ⟨_, _, rfl⟩
        · exact ⟨_, _, hs.val⟩
      have hkS : k = S.length := by omega
      subst hkS
      have hnorm := ((nzf_norm hG hVS hCC).of_srt hSrt).nf hV.len
      refine V.region ?_
      refine L.rd (rd_move rfl) rfl ?_
      refine L.rd (rd_lenSlice tok rfl rfl rfl) rfl ?_
      refine L.ef (e_make (e := 103) (zs := .int .i64 0 :: iC .i32 z26) (m := 0) (c := C.length) tok rfl rfl rfl rfl rfl rfl rfl rfl (by first | (simp only [size_addB, size_setB, size_drew]; rfl) | rfl) rfl (by omega) (by simp only []; omega) (by omega) ?_)
      refine L.rd (rd_assign rfl) rfl ?_
      refine L.nil ?_
      refine X.sq ?_
      refine V.seq ?_
      refine V.seq ?_
      refine V.region ?_
      refine L.rd (rd_move rfl) rfl ?_
      refine L.rd (rd_lenSlice tok rfl rfl rfl) rfl ?_
      refine L.rd (rd_move rfl) rfl ?_
      refine L.nil ?_
      refine X.sq ?_
      refine V.block ?_
      have hO3 := own_made (base := wr.heap.size) (sz := 27) (c := C.length) (Bl.new wr 103 ((List.replicate C.length (.int .i64 0 :: iC .i32 z26)).flatten)) (by rw [List.length_flatten]; simp [iC, z26]) (Nat.le_refl _) (by unfold maxLen; omega)
      refine V.loop (fun m l w2 => ∃ (i : Nat) (ov : Value) (R : List MT), l = [(9, ov), (58, .slice aa C.length ac), (59, .int .i64 C.length), (60, .int .i64 i)] ∧ m = C.length - i ∧ i ≤ C.length ∧ Ext wr.heap.size wr w2 ∧ w2.ownsRow wr.heap.size 103 27 ov R.length (R.flatMap mtE) ∧ R = nzf (C.take i) ∧ R.length ≤ i) ?_ ?_
      ·
        exact ⟨_, _, (by repeat' (first | exact trivial | refine ⟨rfl, ?_⟩)), 0, _, [], rfl, rfl, by omega, (Ext.refl _ _).addNew _ _, hO3, by simp [nzf], by simp⟩
      ·
        rintro m l w2 ⟨i, ov, R, rfl, rfl, hi, hE2, hO2, hR, hRi⟩
        have hw2 := hE2.size
        refine V.seq ?_
        refine V.region ?_
        refine L.rd (rd_lss rfl rfl) rfl ?_
        refine L.nil ?_
        refine X.sq ?_
        refine V.seq ?_
        first | refine V.cond rfl (fun h61 => ?_) (fun h61 => ?_) | refine V.condB rfl (fun h61 => ?_) (fun h61 => ?_)
        ·
          obtain ⟨ga, ca', hav, hcca, hgaB, hca⟩ := own_some (own_ext hO hE2) (by omega)
          simp only [Value.slice.injEq] at hav
          obtain ⟨rfl, -, rfl⟩ := hav
          obtain ⟨⟨xc, xv⟩, hx⟩ := nth_of_lt C i (by omega)
          have hcx := mt_at hca hx
          have hsn := nzf_snoc hx
          rw [← hR] at hsn
          simp only at hsn
          refine V.skip ?_
          refine X.sq ?_
          refine V.seq ?_
          refine V.block ?_
          refine V.seq ?_
          refine V.region ?_
          (refine L.rd (rd_indexSlice (sz := 27) tok rfl rfl rfl rfl rfl rfl rfl ?_) rfl ?_; omega)
          refine L.rd (rd_loadN tok rfl rfl rfl hcx (mtE_len _).symm) rfl ?_
          refine L.ef (e_alloc (cs := .int .i64 0 :: iC .i32 z26) tok rfl rfl (by first | (simp only [size_addB, size_setB, size_drew]; rfl) | rfl) rfl ?_)
          refine L.ef (e_store (vs := mtE (xc, xv)) tok rfl rfl rfl rfl (cs := .int .i64 0 :: iC .i32 z26) (by (repeat (first | assumption | (refine Bl.new' ?_ _ _; first | with_reducible rfl | (simp only [size_addB, size_setB, size_drew]; done)) | apply Bl.add | apply Bl.drew | (apply Bl.setNe; omega) | (refine Bl.set' ?_ _ _; (try simp only [size_addB, size_setB, size_drew]); omega)))) (mtE_len _) (mtE_one _) (by rw [mtE_len]; simp [iC, z26]) ?_)
          (rw [putAll _ _ (by rw [mtE_len]; simp [iC, z26])])
          refine L.nil ?_
          refine X.sq ?_
          refine V.seq ?_
          have hbt : Bl (setB (addB w2 103 (.int .i64 0 :: iC .i32 z26)) w2.heap.size 103 (mtE (xc, xv))) w2.heap.size 103 (mtE (xc, xv)) := Bl.set' (by rw [size_addB]; omega) _ _
          have hE5 : Ext w2.heap.size w2 (setB (addB w2 103 (.int .i64 0 :: iC .i32 z26)) w2.heap.size 103 (mtE (xc, xv))) := ((Ext.refl _ _).addNew _ _).set (Nat.le_refl _) _ _
          have hO5 := own_ext hO2 hE5
          have hE25 := hE2.next hE5
          refine V.region ?_
          refine L.rd (rd_fieldAddr tok rfl rfl rfl rfl rfl rfl) rfl ?_
          refine L.rd (rd_load1 tok rfl rfl rfl (hbt.cell rfl)) rfl ?_
          refine L.rd (rd_neq rfl rfl) rfl ?_
          refine L.nil ?_
          refine X.sq ?_
          first | refine V.cond rfl (fun h66 => ?_) (fun h66 => ?_) | refine V.condB rfl (fun h66 => ?_) (fun h66 => ?_)
          ·
            refine V.region ?_
            refine L.rd (rd_move rfl) rfl ?_
            refine L.rd (rd_loadN tok rfl rfl rfl hbt.cells (mtE_len _).symm) rfl ?_
            refine L.ef (e_buildSlice1 (e := 103) (cs := mtE (xc, xv)) tok rfl rfl rfl rfl rfl rfl rfl rfl (by rw [mtE_len]; rfl) (by first | (simp only [size_addB, size_setB, size_drew]; rfl) | rfl) rfl ?_)
            refine L.ef (e_append (m := 1) tok rfl rfl rfl rfl rfl rfl rfl rfl rfl rfl (hO5.alloc _) (Bl.new' (by simp only [size_addB, size_setB]) _ _).cells (mtE_len _) (mtE_one _) (by unfold maxLen; omega) (by simp only []; omega) (by rw [size_addB]; have := hE25.size; omega) ?_)
            rintro v6 w6 ho6 hg6
            have hE6 := (hE25.addNew 103 (mtE (xc, xv))).grown hg6 (by rw [size_addB]; have := hE25.size; omega) (fun q hq => (own_block_lt hO5 hq).1)
            refine L.rd (rd_assign rfl) rfl ?_
            refine L.nil ?_
            refine X.bk ?_
            refine X.sq ?_
            refine V.region ?_
            (refine L.rd (rd_add3 rfl rfl ?_) rfl ?_; omega)
            refine L.rd (rd_move rfl) rfl ?_
            refine L.nil ?_
            first
              | (rw [if_neg h66] at hsn
                 exact X.lp ⟨_, _, by omega, (by repeat' (first | exact trivial | refine ⟨rfl, ?_⟩)), i + 1, v6, R ++ [(xc, xv)], rfl, rfl, by omega, hE6, by rw [List.flatMap_append, List.length_append]; simpa using ho6, hsn.symm, by rw [List.length_append]; simp; omega⟩)
              | (rw [if_pos (Decidable.not_not.1 h66), List.append_nil] at hsn
                 exact X.lp ⟨_, _, by omega, (by repeat' (first | exact trivial | refine ⟨rfl, ?_⟩)), i + 1, _, R, rfl, rfl, by omega, hE25, hO5, hsn.symm, by omega⟩)
          ·
            refine V.skip ?_
            refine X.bk ?_
            refine X.sq ?_
            refine V.region ?_
            (refine L.rd (rd_add3 rfl rfl ?_) rfl ?_; omega)
            refine L.rd (rd_move rfl) rfl ?_
            refine L.nil ?_
            first
              | (rw [if_neg h66] at hsn
                 exact X.lp ⟨_, _, by omega, (by repeat' (first | exact trivial | refine ⟨rfl, ?_⟩)), i + 1, v6, R ++ [(xc, xv)], rfl, rfl, by omega, hE6, by rw [List.flatMap_append, List.length_append]; simpa using ho6, hsn.symm, by rw [List.length_append]; simp; omega⟩)
              | (rw [if_pos (Decidable.not_not.1 h66), List.append_nil] at hsn
                 exact X.lp ⟨_, _, by omega, (by repeat' (first | exact trivial | refine ⟨rfl, ?_⟩)), i + 1, _, R, rfl, rfl, by omega, hE25, hO5, hsn.symm, by omega⟩)
        ·
          refine V.exit ?_
          refine X.sqExit ?_
          refine X.lpExit ?_
          refine X.bkHere ?_
          refine X.sq ?_
          refine V.seq ?_
          refine V.region ?_
          refine L.rd (rd_move rfl) rfl ?_
          refine L.rd (rd_assign rfl) rfl ?_
          refine L.nil ?_
          refine X.sq ?_
          refine V.ret ?_
          refine ret_1 Yaam.results60 rfl ?_
          have hiC : i = C.length := by omega
          subst hiC
          rw [List.take_of_length_le (Nat.le_refl _), hnorm] at hR
          subst hR
          exact ⟨own_low hO2 (by have := (he1.next hE).size; omega), (he1.next hE).next hE2⟩
end Go.Proofs.YbxaawGreat
