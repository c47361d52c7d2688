/-
  spec.sortTerms and spec.mergeTerms, walked.
-/
import Derived.Test.YbxaawSortP
import Derived.Test.YbxaawOps3
import Derived.Test.YbxaawCanW
set_option linter.unusedVariables false
set_option linter.unusedSimpArgs false
set_option maxRecDepth 10000
namespace Go.Mw
theorem fm_drop {α : Type} {enc : α → List Value} {sz : Nat} (h : ∀ x, (enc x).length = sz) : ∀ (a : List α) (k : Nat), (a.flatMap enc).drop (k * sz) = (a.drop k).flatMap enc
  | [], k => by simp
  | x :: a, 0 => by simp
  | x :: a, k + 1 => by
    rw [List.flatMap_cons, Nat.add_mul, Nat.one_mul, Nat.add_comm, List.drop_append, List.drop_eq_nil_of_le (by rw [h]; omega), h, List.nil_append, show sz + k * sz - sz = k * sz by omega, fm_drop h a k]
    rfl
theorem fm_take {α : Type} {enc : α → List Value} {sz : Nat} (h : ∀ x, (enc x).length = sz) : ∀ (a : List α) (k : Nat), (a.flatMap enc).take (k * sz) = (a.take k).flatMap enc
  | [], k => by simp
  | x :: a, 0 => by simp
  | x :: a, k + 1 => by
    rw [List.flatMap_cons, Nat.add_mul, Nat.one_mul, Nat.add_comm, List.take_append, List.take_of_length_le (by rw [h]; omega), h, show sz + k * sz - sz = k * sz by omega, fm_take h a k]
    rfl
/-- a slice of model terms that is read -/
def Sl (w : World) (v : Value) (A : List MT) : Prop := (v = .slice none 0 0 ∧ A = []) ∨ ∃ b o c, v = .slice (some ⟨b, o, none⟩) A.length c ∧ A.length ≤ c ∧ Cells w b o (A.flatMap mtE)
theorem Sl.of_own {w : World} {B e : Nat} {v : Value} {A : List MT} (h : w.ownsRow B e 27 v A.length (A.flatMap mtE)) : Sl w v A := by
  rcases own_slc h with ⟨rfl, h0, _⟩ | ⟨g, cap, sp, _, hs⟩
  · exact .inl ⟨rfl, List.eq_nil_of_length_eq_zero h0⟩
  · refine .inr ⟨g, 0, cap, hs.val, hs.capn, ⟨fun i u hu => ?_⟩⟩
    exact hs.bl.cells.at_ i u (by rw [List.getElem?_append_left (List.getElem?_eq_some_iff.1 hu).1]; exact hu)
theorem Sl.le {w w' : World} {v : Value} {A : List MT} (h : Sl w v A) (hle : LeC w w') : Sl w' v A := or_map h id fun ⟨b, o, c, hv, hc, hcs⟩ => ⟨b, o, c, hv, hc, hcs.le hle⟩
theorem fm_one (A : List MT) : ∀ u ∈ A.flatMap mtE, u.oneCell' = true := by
  intro u hu
  rw [List.mem_flatMap] at hu
  obtain ⟨t, _, ht⟩ := hu
  exact mtE_one t u ht
theorem own_some {w : World} {B e sz n : Nat} {v : Value} {xs : List Value} (h : w.ownsRow B e sz v n xs) (hn : 0 < n) : ∃ g c, v = .slice (some ⟨g, 0, none⟩) n c ∧ n ≤ c ∧ B ≤ g ∧ Cells w g 0 xs := by
  rcases own_slc h with ⟨_, h0, _⟩ | ⟨g, cap, sp, hB, hs⟩
  · omega
  · refine ⟨g, cap, hs.val, hs.capn, hB, ⟨fun i u hu => ?_⟩⟩
    exact hs.bl.cells.at_ i u (by rw [List.getElem?_append_left (List.getElem?_eq_some_iff.1 hu).1]; exact hu)
/-- the k-th term of a row -/
theorem mt_at {w : World} {b o k : Nat} {A : List MT} {t : MT} (h : Cells w b o (A.flatMap mtE)) (ht : A[k]? = some t) : Cells w b (o + k * 27) (mtE t) := h.sub (k * 27) _ (fm_get mtE_len A k t ht)
end Go.Mw
namespace Go.Proofs.Ybxaaw
open Go.Mw

def SortPost (A : List MT) (w : World) (r : Value) (w' : World) : Prop := ∃ S, w'.ownsRow w.heap.size 92 27 r S.length (S.flatMap mtE) ∧ Srt A S ∧ Ext w.heap.size w w' ∧ r ≠ .slice none 0 0

/-- the empty list -/
theorem sortTerms_nil (w : World) : Ret Yaam.prog 117 [.slice none 0 0] w (SortPost [] w) := by
  refine enter1 Yaam.func117 Yaam.ntmps117 (by kernel_rfl) rfl rfl ?_
  refine V.seq ?_
  refine V.region ?_
  refine L.rd (rd_assign rfl) rfl ?_
  refine L.nil ?_
  refine X.sq ?_
  refine V.seq ?_
  refine V.seq ?_
  refine V.region ?_
  refine L.rd (rd_move rfl) rfl ?_
  refine L.rd (rd_lenSlice tok rfl rfl rfl) rfl ?_
  refine L.rd (rd_leq rfl rfl) rfl ?_
  refine L.nil ?_
  refine X.sq ?_
  first | refine V.cond rfl (fun h12 => ?_) (fun h12 => ?_) | refine V.condB rfl (fun h12 => ?_) (fun h12 => ?_)
  ·
    refine V.seq ?_
    refine V.region ?_
    refine L.rd (rd_move rfl) rfl ?_
    refine L.rd (rd_lenSlice tok rfl rfl rfl) rfl ?_
    refine L.ef (e_make (e := 92) (zs := .int .i64 0 :: iC .i32 z26) (m := 0) (c := 0) tok rfl rfl rfl rfl rfl rfl rfl rfl (by first | (simp only [size_addB, size_setB, size_drew]; rfl) | rfl) rfl (by omega) (by simp only []; omega) (by omega) ?_)
    refine L.rd (rd_assign rfl) rfl ?_
    refine L.nil ?_
    refine X.sq ?_
    refine V.seq ?_
    refine V.region ?_
    refine L.rd (rd_move rfl) rfl ?_
    refine L.rd (rd_move rfl) rfl ?_
    refine L.ef (e_copyNil tok rfl rfl rfl rfl rfl rfl rfl ?_)
    refine L.nil ?_
    refine X.sq ?_
    refine V.seq ?_
    refine V.region ?_
    refine L.rd (rd_move rfl) rfl ?_
    refine L.rd (rd_assign rfl) rfl ?_
    refine L.nil ?_
    refine X.sq ?_
    refine V.ret ?_
    refine X.sqRet ?_
    refine ret_1 Yaam.results117 rfl ?_
    exact ⟨[], own_empty (Bl.new _ _ _) (Nat.le_refl _), Srt.short (by simp), (Ext.refl _ _).addNew _ _, by simp⟩
  ·
    exact absurd (by decide) h12

theorem sortTerms_step (A : List MT) (hV : Vl A) (hn : A.length ≤ 1048576) (ih : ∀ A' : List MT, A'.length < A.length → Vl A' → ∀ v w, Sl w v A' → Ret Yaam.prog 117 [v] w (SortPost A' w)) (w : World) {b o c : Nat} (hAc : A.length ≤ c) (hcs : Cells w b o (A.flatMap mtE)) :
    Ret Yaam.prog 117 [.slice (some ⟨b, o, none⟩) A.length c] w (SortPost A w) := by
  refine enter1 Yaam.func117 Yaam.ntmps117 (by kernel_rfl) rfl rfl ?_
  refine V.seq ?_
  refine V.region ?_
  refine L.rd (rd_assign rfl) rfl ?_
  refine L.nil ?_
  refine X.sq ?_
  refine V.seq ?_
  refine V.seq ?_
  refine V.region ?_
  refine L.rd (rd_move rfl) rfl ?_
  refine L.rd (rd_lenSlice tok rfl rfl rfl) rfl ?_
  refine L.rd (rd_leq rfl rfl) rfl ?_
  refine L.nil ?_
  refine X.sq ?_
  first | refine V.cond rfl (fun h12 => ?_) (fun h12 => ?_) | refine V.condB rfl (fun h12 => ?_) (fun h12 => ?_)
  ·
    refine V.seq ?_
    refine V.region ?_
    refine L.rd (rd_move rfl) rfl ?_
    refine L.rd (rd_lenSlice tok rfl rfl rfl) rfl ?_
    refine L.ef (e_make (e := 92) (zs := .int .i64 0 :: iC .i32 z26) (m := A.length) (c := A.length) tok rfl rfl rfl rfl rfl rfl rfl rfl (by first | (simp only [size_addB, size_setB, size_drew]; rfl) | rfl) rfl (by omega) (by simp only []; omega) (by omega) ?_)
    refine L.rd (rd_assign rfl) rfl ?_
    refine L.nil ?_
    refine X.sq ?_
    refine V.seq ?_
    have hb0 := Bl.new w 92 ((List.replicate A.length (.int .i64 0 :: iC .i32 z26)).flatten)
    have hl0 : ((List.replicate A.length (Value.int .i64 0 :: iC .i32 z26)).flatten).length = A.length * 27 := by rw [List.length_flatten]; simp [iC, z26]
    have hlA := fm_length mtE_len A
    refine V.region ?_
    refine L.rd (rd_move rfl) rfl ?_
    refine L.rd (rd_move rfl) rfl ?_
    refine L.ef (e_copy (sz := 27) tok rfl rfl rfl rfl rfl rfl rfl rfl hb0 (hcs.le (Ext.leC ((Ext.refl _ _).addNew _ _))) hlA (fm_one A) (by omega) ?_)
    (rw [putAll _ _ (by omega)])
    refine L.nil ?_
    refine X.sq ?_
    refine V.seq ?_
    refine V.region ?_
    refine L.rd (rd_move rfl) rfl ?_
    refine L.rd (rd_assign rfl) rfl ?_
    refine L.nil ?_
    refine X.sq ?_
    refine V.ret ?_
    refine X.sqRet ?_
    refine ret_1 Yaam.results117 rfl ?_
    refine ⟨A, own_of_bl (hb0.set _ _) hlA (Nat.le_refl _) (by unfold maxLen; omega), Srt.short (by omega), ((Ext.refl _ _).addNew _ _).set (Nat.le_refl _) _ _, by simp⟩
  ·
    refine V.skip ?_
    refine X.sq ?_
    refine V.seq ?_
    refine V.region ?_
    refine L.rd (rd_move rfl) rfl ?_
    refine L.rd (rd_lenSlice tok rfl rfl rfl) rfl ?_
    refine L.rd (rd_quoE (r := ((A.length / 2 : Nat) : Int)) rfl rfl (by decide) (by rw [Int.tdiv_eq_ediv_of_nonneg (by omega), wrap_i64_in (by omega)]; omega)) rfl ?_
    refine L.rd (rd_assign rfl) rfl ?_
    refine L.nil ?_
    refine X.sq ?_
    refine V.seq ?_
    have hspl : A = A.take (A.length / 2) ++ A.drop (A.length / 2) := (List.take_append_drop _ _).symm
    have hl1 : (A.take (A.length / 2)).length = A.length / 2 := by rw [List.length_take]; omega
    have hl2 : (A.drop (A.length / 2)).length = A.length - A.length / 2 := List.length_drop
    have hlA := fm_length mtE_len A
    have hs1 : Sl w (.slice (some ⟨b, o, none⟩) (A.length / 2) c) (A.take (A.length / 2)) := .inr ⟨b, o, c, by rw [hl1], by omega, by
      rw [← fm_take mtE_len]
      have := hcs.sub 0 ((A.flatMap mtE).take (A.length / 2 * 27)) (fun j u hu => by
        rw [Nat.zero_add]
        rw [List.getElem?_take] at hu
        split at hu
        · exact hu
        · cases hu)
      simpa using this⟩
    have hs2 : Sl w (.slice (some ⟨b, rsl c (A.length / 2) o (A.length / 2 * 27), none⟩) (A.length - A.length / 2) (c - A.length / 2)) (A.drop (A.length / 2)) := .inr ⟨_, _, _, by rw [hl2], by omega, by
      rw [← fm_drop mtE_len]; exact rsl_cells hcs hlA hAc (by omega)⟩
    refine V.region ?_
    refine L.rd (rd_move rfl) rfl ?_
    refine L.rd (rd_move rfl) rfl ?_
    refine L.rd (rd_reslH (sz := 27) tok rfl rfl rfl rfl rfl rfl rfl (by omega)) rfl ?_
    refine L.ef (e_call rfl (ih _ (by omega) (fun t ht => hV t (List.mem_of_mem_take ht)) _ _ hs1) rfl ?_)
    rintro v1 w1 ⟨S1, hO1, hS1, he1, hn1⟩
    refine L.rd (rd_assign rfl) rfl ?_
    refine L.nil ?_
    refine X.sq ?_
    refine V.seq ?_
    refine V.region ?_
    refine L.rd (rd_move rfl) rfl ?_
    refine L.rd (rd_move rfl) rfl ?_
    refine L.rd (rd_reslL (sz := 27) tok rfl rfl rfl rfl rfl rfl rfl (by omega)) rfl ?_
    refine L.ef (e_call rfl (ih _ (by omega) (fun t ht => hV t (List.mem_of_mem_drop ht)) _ _ (hs2.le he1.leC)) rfl ?_)
    rintro v2 w2 ⟨S2, hO2, hS2, he2, hn2⟩
    have hsl1 := hS1.len
    have hsl2 := hS2.len
    obtain ⟨g1, c1, rfl, hcc1, -, hc1⟩ := own_some (own_same (w' := w2) hO1 fun k hk => he2.block k (own_block_lt hO1 hk).2) (by omega)
    obtain ⟨g2, c2, rfl, hcc2, -, hc2⟩ := own_some hO2 (by omega)
    have hV1 := hS1.vl (fun t ht => hV t (List.mem_of_mem_take ht))
    have hV2 := hS2.vl (fun t ht => hV t (List.mem_of_mem_drop ht))
    have hE2 := he1.next he2
    refine L.rd (rd_assign rfl) rfl ?_
    refine L.nil ?_
    refine X.sq ?_
    refine V.seq ?_
    refine V.region ?_
    refine L.rd (rd_move rfl) rfl ?_
    refine L.rd (rd_lenSlice tok rfl rfl rfl) rfl ?_
    refine L.ef (e_make (e := 92) (zs := .int .i64 0 :: iC .i32 z26) (m := 0) (c := A.length) tok rfl rfl rfl rfl rfl rfl rfl rfl (by first | (simp only [size_addB, size_setB, size_drew]; rfl) | rfl) rfl (by omega) (by simp only []; omega) (by omega) ?_)
    refine L.rd (rd_assign rfl) rfl ?_
    refine L.nil ?_
    refine X.sq ?_
    refine V.seq ?_
    refine V.region ?_
    refine L.rd (rd_assign rfl) rfl ?_
    refine L.nil ?_
    refine X.sq ?_
    refine V.seq ?_
    refine V.region ?_
    refine L.rd (rd_assign rfl) rfl ?_
    refine L.nil ?_
    refine X.sq ?_
    refine V.seq ?_
    refine V.block ?_
    have hO3 := own_made (base := w2.heap.size) (sz := 27) (c := A.length) (Bl.new w2 92 ((List.replicate A.length (.int .i64 0 :: iC .i32 z26)).flatten)) (by rw [List.length_flatten]; simp [iC, z26]) (Nat.le_refl _) (by unfold maxLen; omega)
    refine V.loop (fun m l wr => ∃ (i j : Nat) (ov : Value) (O : List MT), l = [(5, .slice (some ⟨g1, 0, none⟩) S1.length c1), (6, .slice (some ⟨g2, 0, none⟩) S2.length c2), (7, ov), (8, .int .i64 i), (9, .int .i64 j)] ∧ m = (S1.length - i) + (S2.length - j) ∧ i ≤ S1.length ∧ j ≤ S2.length ∧ Ext w2.heap.size w2 wr ∧ wr.ownsRow w2.heap.size 92 27 ov O.length (O.flatMap mtE) ∧ Mg S1 S2 i j O) ?_ ?_
    ·
      exact ⟨_, _, (by repeat' (first | exact trivial | refine ⟨rfl, ?_⟩)), 0, 0, _, [], rfl, rfl, by omega, by omega, (Ext.refl _ _).addNew _ _, hO3, Mg.start _ _⟩
    ·
      rintro m l wr ⟨i, j, ov, O, rfl, rfl, hi, hj, hE, hO, hM⟩
      have hOl := hM.len
      have hwr := hE.size
      refine V.seq ?_
      refine V.seq ?_
      refine V.region ?_
      refine L.rd (rd_move rfl) rfl ?_
      refine L.rd (rd_move rfl) rfl ?_
      refine L.rd (rd_lenSlice tok rfl rfl rfl) rfl ?_
      refine L.rd (rd_lss rfl rfl) rfl ?_
      refine L.rd (rd_move rfl) rfl ?_
      first | refine L.partG rfl rfl (fun g38 => ?_) (fun g38 => ?_) | refine L.partGB rfl rfl (fun g38 => ?_) (fun g38 => ?_)
      ·
        refine L.yes rfl rfl ?_
        refine L.rd (rd_move rfl) rfl ?_
        refine L.yes rfl rfl ?_
        refine L.rd (rd_move rfl) rfl ?_
        refine L.yes rfl rfl ?_
        refine L.rd (rd_lenSlice tok rfl rfl rfl) rfl ?_
        refine L.yes rfl rfl ?_
        refine L.rd (rd_lss rfl rfl) rfl ?_
        refine L.rd (rd_pickT rfl rfl) rfl ?_
        refine L.nil ?_
        refine X.sq ?_
        first | refine V.cond rfl (fun h43 => ?_) (fun h43 => ?_) | refine V.condB rfl (fun h43 => ?_) (fun h43 => ?_)
        ·
          refine V.skip ?_
          refine X.sq ?_
          refine V.block ?_
          refine V.seq ?_
          obtain ⟨x, hx⟩ := nth_of_lt S1 i (by omega)
          obtain ⟨y, hy⟩ := nth_of_lt S2 j (by omega)
          obtain ⟨xc, xv⟩ := x
          obtain ⟨yc, yv⟩ := y
          have hxv := hV1 _ (List.mem_of_getElem? hx)
          have hyv := hV2 _ (List.mem_of_getElem? hy)
          simp only at hxv hyv
          have hcx := mt_at (hc1.le hE.leC) hx
          have hcy := mt_at (hc2.le hE.leC) hy
          refine V.draw [] mixed ?_
          refine D.take 0 [true, false, false, false, false, false, false, false, false, false, false] (.sq (.bk (.lp (.bk (.sq .bd))))) rfl (rd_move rfl) rfl (by kernel_rfl) rfl (LeC.drew _) ?_
          refine D.take 1 [true, true, false, false, false, false, false, false, false, false, false] (.sq (.bk (.lp (.bk (.sq .bd))))) rfl (rd_move rfl) rfl (by kernel_rfl) rfl (LeC.drew _) ?_
          (refine D.take 2 [true, true, true, false, false, false, false, false, false, false, false] (.sq (.bk (.lp (.bk (.sq .bd))))) rfl (rd_indexSlice (sz := 27) tok rfl rfl rfl rfl rfl rfl rfl ?_) rfl (by kernel_rfl) rfl (LeC.drew _) ?_; omega)
          refine D.take 3 [true, true, true, true, false, false, false, false, false, false, false] (.sq (.bk (.lp (.bk (.sq .bd))))) rfl (rd_fieldAddr tok rfl rfl rfl rfl rfl rfl) rfl (by kernel_rfl) rfl (LeC.drew _) ?_
          refine D.take 4 [true, true, true, true, true, false, false, false, false, false, false] (.sq (.bk (.lp (.bk (.sq .bd))))) rfl (rd_loadN tok rfl rfl rfl (mt_cells hcy hyv.len) (hyv.c26 _)) rfl (by kernel_rfl) rfl (LeC.drew _) ?_
          refine D.take 5 [true, true, true, true, true, true, false, false, false, false, false] (.sq (.bk (.lp (.bk (.sq .bd))))) rfl (rd_move rfl) rfl (by kernel_rfl) rfl (LeC.drew _) ?_
          refine D.take 6 [true, true, true, true, true, true, true, false, false, false, false] (.sq (.bk (.lp (.bk (.sq .bd))))) rfl (rd_move rfl) rfl (by kernel_rfl) rfl (LeC.drew _) ?_
          (refine D.take 7 [true, true, true, true, true, true, true, true, false, false, false] (.sq (.bk (.lp (.bk (.sq .bd))))) rfl (rd_indexSlice (sz := 27) tok rfl rfl rfl rfl rfl rfl rfl ?_) rfl (by kernel_rfl) rfl (LeC.drew _) ?_; omega)
          refine D.take 8 [true, true, true, true, true, true, true, true, true, false, false] (.sq (.bk (.lp (.bk (.sq .bd))))) rfl (rd_fieldAddr tok rfl rfl rfl rfl rfl rfl) rfl (by kernel_rfl) rfl (LeC.drew _) ?_
          refine D.take 9 [true, true, true, true, true, true, true, true, true, true, false] (.sq (.bk (.lp (.bk (.sq .bd))))) rfl (rd_loadN tok rfl rfl rfl (mt_cells hcx hxv.len) (hxv.c26 _)) rfl (by kernel_rfl) rfl (LeC.drew _) ?_
          refine D.one 10 [true, true, true, true, true, true, true, true, true, true, true] rfl (by kernel_rfl) rfl (e_call rfl (monoBefore_ok yv xv hyv hxv _) rfl ?_)
          rintro _ w4 ⟨rfl, he4'⟩
          have he4 : Ext wr.heap.size wr w4 := (Ext.refl _ _).drew.trans he4'
          have hO4 := own_same (w' := w4) hO fun k hk => he4.block k (own_block_lt hO hk).2
          have hE4 := hE.next he4
          have hwr4 := hE4.size
          refine ⟨fun _ => he4.leC, ?_⟩
          refine D.done (by kernel_rfl) ?_
          refine X.sq ?_
          first | refine V.cond rfl (fun h54 => ?_) (fun h54 => ?_) | refine V.condB rfl (fun h54 => ?_) (fun h54 => ?_)
          ·
            refine V.seq ?_
            refine V.region ?_
            refine L.rd (rd_move rfl) rfl ?_
            refine L.rd (rd_move rfl) rfl ?_
            refine L.rd (rd_move rfl) rfl ?_
            (refine L.rd (rd_indexSlice (sz := 27) tok rfl rfl rfl rfl rfl rfl rfl ?_) rfl ?_; omega)
            refine L.rd (rd_loadN tok rfl rfl rfl (hcy.le he4.leC) (mtE_len _).symm) rfl ?_
            refine L.ef (e_buildSlice1 (e := 92) (cs := mtE (yc, yv)) tok rfl rfl rfl rfl rfl rfl rfl rfl (by rw [mtE_len]; rfl) (by first | (simp only [size_addB, size_setB, size_drew]; rfl) | rfl) rfl ?_)
            refine L.ef (e_append (m := 1) tok rfl rfl rfl rfl rfl rfl rfl rfl rfl rfl (hO4.alloc _) (Bl.new _ _ _).cells (mtE_len _) (mtE_one _) (by unfold maxLen; omega) (by simp only []; omega) (by rw [size_addB]; omega) ?_)
            rintro v5 w5 ho5 hg5
            have hE5 := (hE4.addNew 92 (mtE (yc, yv))).grown hg5 (by rw [size_addB]; omega) (fun q hq => (own_block_lt hO hq).1)
            refine L.rd (rd_assign rfl) rfl ?_
            refine L.nil ?_
            refine X.sq ?_
            refine V.region ?_
            refine L.rd (rd_move rfl) rfl ?_
            (refine L.rd (rd_add3 rfl rfl ?_) rfl ?_; omega)
            refine L.rd (rd_assign rfl) rfl ?_
            refine L.nil ?_
            refine X.bk ?_
            refine X.lp ⟨_, _, by omega, (by repeat' (first | exact trivial | refine ⟨rfl, ?_⟩)), i, j + 1, v5, O ++ [(yc, yv)], rfl, rfl, by omega, by omega, hE5, by rw [List.flatMap_append, List.length_append]; simpa using ho5, hM.takeB hS1.wk hS2.wk hV1.len hV2.len hx hy h54⟩
          ·
            refine V.seq ?_
            refine V.region ?_
            refine L.rd (rd_move rfl) rfl ?_
            refine L.rd (rd_move rfl) rfl ?_
            refine L.rd (rd_move rfl) rfl ?_
            (refine L.rd (rd_indexSlice (sz := 27) tok rfl rfl rfl rfl rfl rfl rfl ?_) rfl ?_; omega)
            refine L.rd (rd_loadN tok rfl rfl rfl (hcx.le he4.leC) (mtE_len _).symm) rfl ?_
            refine L.ef (e_buildSlice1 (e := 92) (cs := mtE (xc, xv)) tok rfl rfl rfl rfl rfl rfl rfl rfl (by rw [mtE_len]; rfl) (by first | (simp only [size_addB, size_setB, size_drew]; rfl) | rfl) rfl ?_)
            refine L.ef (e_append (m := 1) tok rfl rfl rfl rfl rfl rfl rfl rfl rfl rfl (hO4.alloc _) (Bl.new _ _ _).cells (mtE_len _) (mtE_one _) (by unfold maxLen; omega) (by simp only []; omega) (by rw [size_addB]; omega) ?_)
            rintro v5 w5 ho5 hg5
            have hE5 := (hE4.addNew 92 (mtE (xc, xv))).grown hg5 (by rw [size_addB]; omega) (fun q hq => (own_block_lt hO hq).1)
            refine L.rd (rd_assign rfl) rfl ?_
            refine L.nil ?_
            refine X.sq ?_
            refine V.region ?_
            refine L.rd (rd_move rfl) rfl ?_
            (refine L.rd (rd_add3 rfl rfl ?_) rfl ?_; omega)
            refine L.rd (rd_assign rfl) rfl ?_
            refine L.nil ?_
            refine X.bk ?_
            refine X.lp ⟨_, _, by omega, (by repeat' (first | exact trivial | refine ⟨rfl, ?_⟩)), i + 1, j, v5, O ++ [(xc, xv)], rfl, rfl, by omega, by omega, hE5, by rw [List.flatMap_append, List.length_append]; simpa using ho5, hM.takeA hS1.wk hS2.wk hV1.len hV2.len hx (fun b' hb' => by rw [hy] at hb'; simp only [Option.some.injEq] at hb'; subst hb'; exact h54)⟩
        ·
          refine V.exit ?_
          refine X.sqExit ?_
          refine X.lpExit ?_
          refine X.bkHere ?_
          refine X.sq ?_
          refine V.seq ?_
          have hend : S1.length ≤ i ∨ S2.length ≤ j := by omega
          have hlx1 := fm_length mtE_len S1
          have hlx2 := fm_length mtE_len S2
          have hr1 := rsl_cells (lo := i) (hc1.le hE.leC) hlx1 hcc1 hi
          rw [fm_drop mtE_len] at hr1
          refine V.region ?_
          refine L.rd (rd_move rfl) rfl ?_
          refine L.rd (rd_move rfl) rfl ?_
          refine L.rd (rd_move rfl) rfl ?_
          refine L.rd (rd_reslL (sz := 27) tok rfl rfl rfl rfl rfl rfl rfl hi) rfl ?_
          refine L.ef (e_append (m := S1.length - i) tok rfl rfl rfl rfl rfl rfl rfl rfl rfl rfl hO hr1 (by rw [fm_length mtE_len, List.length_drop]) (fm_one _) (by unfold maxLen; omega) (by simp only []; omega) hwr ?_)
          rintro v6 w6 ho6 hg6
          have hE6 := hE.grown hg6 hwr (fun q hq => (own_block_lt hO hq).1)
          have hr2 := rsl_cells (lo := j) (hc2.le hE6.leC) hlx2 hcc2 hj
          rw [fm_drop mtE_len] at hr2
          rw [← List.flatMap_append] at ho6
          refine L.rd (rd_assign rfl) rfl ?_
          refine L.nil ?_
          refine X.sq ?_
          refine V.seq ?_
          refine V.region ?_
          refine L.rd (rd_move rfl) rfl ?_
          refine L.rd (rd_move rfl) rfl ?_
          refine L.rd (rd_move rfl) rfl ?_
          refine L.rd (rd_reslL (sz := 27) tok rfl rfl rfl rfl rfl rfl rfl hj) rfl ?_
          refine L.ef (e_append (m := S2.length - j) tok rfl rfl rfl rfl rfl rfl rfl rfl rfl rfl ho6 hr2 (by rw [fm_length mtE_len, List.length_drop]) (fm_one _) (by unfold maxLen; omega) (by simp only []; omega) hE6.size ?_)
          rintro v7 w7 ho7 hg7
          have hE7 := hE6.grown hg7 hE6.size (fun q hq => (own_block_lt ho6 hq).1)
          rw [← List.flatMap_append] at ho7
          refine L.rd (rd_assign rfl) rfl ?_
          refine L.nil ?_
          refine X.sq ?_
          refine V.seq ?_
          refine V.region ?_
          refine L.rd (rd_move rfl) rfl ?_
          refine L.rd (rd_assign rfl) rfl ?_
          refine L.nil ?_
          refine X.sq ?_
          refine V.ret ?_
          refine ret_1 Yaam.results117 rfl ?_
          have hsrt := hM.rest hS1.wk hS2.wk hi hj hend
          refine ⟨_, ?_, Srt.two hspl hS1 hS2 hsrt, hE2.next hE7, ?_⟩
          · refine own_low (B := w2.heap.size) ?_ hE2.size
            simp only [List.length_append, List.length_drop]
            exact ho7
          · intro e
            subst e
            have h0 := hsrt.len
            obtain ⟨g7, c7, hv7, -⟩ := own_some ho7 (by omega)
            cases hv7
      ·
        refine L.no rfl rfl rfl rfl ?_
        refine L.no rfl rfl rfl rfl ?_
        refine L.no rfl rfl rfl rfl ?_
        refine L.no rfl rfl rfl rfl ?_
        refine L.rd (rd_pickF rfl rfl) rfl ?_
        refine L.nil ?_
        refine X.sq ?_
        refine V.condF rfl ?_
        refine V.exit ?_
        refine X.sqExit ?_
        refine X.lpExit ?_
        refine X.bkHere ?_
        refine X.sq ?_
        refine V.seq ?_
        have hend : S1.length ≤ i ∨ S2.length ≤ j := by omega
        have hlx1 := fm_length mtE_len S1
        have hlx2 := fm_length mtE_len S2
        have hr1 := rsl_cells (lo := i) (hc1.le hE.leC) hlx1 hcc1 hi
        rw [fm_drop mtE_len] at hr1
        refine V.region ?_
        refine L.rd (rd_move rfl) rfl ?_
        refine L.rd (rd_move rfl) rfl ?_
        refine L.rd (rd_move rfl) rfl ?_
        refine L.rd (rd_reslL (sz := 27) tok rfl rfl rfl rfl rfl rfl rfl hi) rfl ?_
        refine L.ef (e_append (m := S1.length - i) tok rfl rfl rfl rfl rfl rfl rfl rfl rfl rfl hO hr1 (by rw [fm_length mtE_len, List.length_drop]) (fm_one _) (by unfold maxLen; omega) (by simp only []; omega) hwr ?_)
        rintro v6 w6 ho6 hg6
        have hE6 := hE.grown hg6 hwr (fun q hq => (own_block_lt hO hq).1)
        have hr2 := rsl_cells (lo := j) (hc2.le hE6.leC) hlx2 hcc2 hj
        rw [fm_drop mtE_len] at hr2
        rw [← List.flatMap_append] at ho6
        refine L.rd (rd_assign rfl) rfl ?_
        refine L.nil ?_
        refine X.sq ?_
        refine V.seq ?_
        refine V.region ?_
        refine L.rd (rd_move rfl) rfl ?_
        refine L.rd (rd_move rfl) rfl ?_
        refine L.rd (rd_move rfl) rfl ?_
        refine L.rd (rd_reslL (sz := 27) tok rfl rfl rfl rfl rfl rfl rfl hj) rfl ?_
        refine L.ef (e_append (m := S2.length - j) tok rfl rfl rfl rfl rfl rfl rfl rfl rfl rfl ho6 hr2 (by rw [fm_length mtE_len, List.length_drop]) (fm_one _) (by unfold maxLen; omega) (by simp only []; omega) hE6.size ?_)
        rintro v7 w7 ho7 hg7
        have hE7 := hE6.grown hg7 hE6.size (fun q hq => (own_block_lt ho6 hq).1)
        rw [← List.flatMap_append] at ho7
        refine L.rd (rd_assign rfl) rfl ?_
        refine L.nil ?_
        refine X.sq ?_
        refine V.seq ?_
        refine V.region ?_
        refine L.rd (rd_move rfl) rfl ?_
        refine L.rd (rd_assign rfl) rfl ?_
        refine L.nil ?_
        refine X.sq ?_
        refine V.ret ?_
        refine ret_1 Yaam.results117 rfl ?_
        have hsrt := hM.rest hS1.wk hS2.wk hi hj hend
        refine ⟨_, ?_, Srt.two hspl hS1 hS2 hsrt, hE2.next hE7, ?_⟩
        · refine own_low (B := w2.heap.size) ?_ hE2.size
          simp only [List.length_append, List.length_drop]
          exact ho7
        · intro e
          subst e
          have h0 := hsrt.len
          obtain ⟨g7, c7, hv7, -⟩ := own_some ho7 (by omega)
          cases hv7
theorem sortTerms_ok : ∀ (N : Nat) (A : List MT), A.length ≤ N → Vl A → A.length ≤ 1048576 → ∀ v w, Sl w v A → Ret Yaam.prog 117 [v] w (SortPost A w) := by
  intro N
  induction N with
  | zero =>
    intro A hA hV hn v w hS
    rcases hS with ⟨rfl, rfl⟩ | ⟨b, o, c, rfl, hAc, hcs⟩
    · exact sortTerms_nil w
    · exact sortTerms_step A hV hn (fun A' h => by omega) w hAc hcs
  | succ N ih =>
    intro A hA hV hn v w hS
    rcases hS with ⟨rfl, rfl⟩ | ⟨b, o, c, rfl, hAc, hcs⟩
    · exact sortTerms_nil w
    · exact sortTerms_step A hV hn (fun A' h hV' => ih A' (by omega) hV' (by omega)) w hAc hcs
end Go.Proofs.Ybxaaw
