/-
  impl.monoOf, walked.
-/
import Derived.Test.YbxaawGreatFinW2
set_option linter.unusedVariables false
set_option linter.unusedSimpArgs false
set_option maxRecDepth 10000
namespace Go.Mw
/-- factors that may be summed -/
structure Fg (fs : List (Int × Int)) : Prop where
  len : fs.length ≤ 256
  rng : ∀ f ∈ fs, 0 ≤ f.1 ∧ f.1 < 26 ∧ 0 ≤ f.2 ∧ f.2 ≤ 1000000
structure Va (fs : List (Int × Int)) (j : Nat) (v : List Int) : Prop where
  len : v.length = 26
  rng : ∀ x ∈ v, 0 ≤ x ∧ x ≤ j * 1000000
  sum : 0 ≤ isum v ∧ isum v ≤ j * 1000000
  vc : vec fs = vecF (fs.drop j) v
theorem Va.start (fs : List (Int × Int)) : Va fs 0 z26 := ⟨z26_len, fun x hx => by simp [z26] at hx; omega, by rw [isum_z26]; omega, rfl⟩
theorem addAt_mem {v : List Int} {i : Nat} {k x : Int} (h : x ∈ addAt v i k) : x ∈ v ∨ (i < v.length ∧ x = v.getD i 0 + k) := by
  unfold addAt at h
  by_cases hi : i < v.length
  · rcases List.mem_or_eq_of_mem_set h with h | h
    · exact .inl h
    · exact .inr ⟨hi, h⟩
  · rw [List.set_eq_of_length_le (by omega)] at h; exact .inl h
theorem Va.next {fs : List (Int × Int)} {j : Nat} {v : List Int} {f : Int × Int} (h : Va fs j v) (hf : fs[j]? = some f) (hr : 0 ≤ f.1 ∧ f.1 < 26 ∧ 0 ≤ f.2 ∧ f.2 ≤ 1000000) : Va fs (j + 1) (addAt v f.1.toNat f.2) := by
  have hl := h.len
  have hs := isum_addAt v f.1.toNat f.2 (by omega)
  refine ⟨by rw [addAt_len]; exact hl, fun x hx => ?_, by rw [hs]; have := h.sum; omega, ?_⟩
  · rcases addAt_mem hx with hx | ⟨hi, rfl⟩
    · have := h.rng x hx; omega
    · have hm : v.getD f.1.toNat 0 ∈ v := by rw [List.getD_eq_getElem?_getD, List.getElem?_eq_getElem hi]; simp
      have := h.rng _ hm; omega
  · rw [h.vc, drop_cons hf, vecF]
theorem addAt_zero {v : List Int} {i : Nat} : addAt v i 0 = v := by
  unfold addAt
  rw [Int.add_zero]
  by_cases hi : i < v.length
  · rw [List.getD_eq_getElem?_getD, List.getElem?_eq_getElem hi]
    simp
  · exact List.set_eq_of_length_le (by omega)
theorem Va.rv {fs : List (Int × Int)} {j : Nat} {v : List Int} (h : Va fs j v) (hj : j ≤ 256) : Rv v := ⟨h.len, fun x hx => by have := h.rng x hx; omega⟩
theorem Va.done {fs : List (Int × Int)} {j : Nat} {v : List Int} (h : Va fs j v) (hj : fs.length ≤ j) : vec fs = v := by
  have := h.vc
  rwa [drop_end hj] at this
theorem Fg.of_ct {t : PT} (h : CT t) : Fg t.2 := ⟨by have := h.len; omega, fun f hf => by have := h.mem f hf; omega⟩
end Go.Mw
namespace Go.Proofs.YbxaawGreat
open Go.Mw

theorem monoOf_ok (c : Int) (fv : Value) (fs : List (Int × Int)) (w : World) (hR : Rs w 2 fv fs.length (prC fs)) (hF : Fg fs) : Ret Yaam.prog 58 [.agg #[.int .i64 c, fv]] w fun r w' => r = .agg (mnE (c, vec fs)).toArray ∧ Rv (vec fs) ∧ Ext w.heap.size w w' := by
  obtain ⟨fa, fc, rfl, hff⟩ := hR.form
  have hFl := hF.len
  refine enter1 Yaam.func58 Yaam.ntmps58 (by kernel_rfl) rfl rfl ?_
  refine V.seq ?_
  refine V.region ?_
  refine L.ef (e_box (cs := [_, _]) rfl rfl (by first | (simp only [size_addB, size_setB, size_drew]; rfl) | rfl) rfl ?_)
  refine L.ef (e_alloc (cs := mC 0 z26 0) tok rfl rfl (by first | (simp only [size_addB, size_setB, size_drew]; rfl) | rfl) rfl ?_)
  refine L.nil ?_
  refine X.sq ?_
  refine V.seq ?_
  refine V.region ?_
  refine L.ef (e_alloc (cs := mC 0 z26 0) tok rfl rfl (by first | (simp only [size_addB, size_setB, size_drew]; rfl) | rfl) rfl ?_)
  refine L.nil ?_
  refine X.sq ?_
  refine V.seq ?_
  refine V.region ?_
  refine L.rd (rd_fieldAddr tok rfl rfl rfl rfl rfl rfl) rfl ?_
  refine L.rd (rd_load1 tok rfl rfl rfl (by first | assumption | exact Bl.cell (by (repeat (first | assumption | (refine Bl.new' ?_ _ _; first | with_reducible rfl | (simp only [size_addB, size_setB, size_drew]; done)) | apply Bl.add | apply Bl.drew | (apply Bl.setNe; omega) | (refine Bl.set' ?_ _ _; (try simp only [size_addB, size_setB, size_drew]); omega)))) rfl)) rfl ?_
  refine L.rd (rd_fieldAddr tok rfl rfl rfl rfl rfl rfl) rfl ?_
  refine L.ef (e_store (vs := [_]) tok rfl rfl rfl rfl (cs := mC 0 z26 0) (by (repeat (first | assumption | (refine Bl.new' ?_ _ _; first | with_reducible rfl | (simp only [size_addB, size_setB, size_drew]; done)) | apply Bl.add | apply Bl.drew | (apply Bl.setNe; omega) | (refine Bl.set' ?_ _ _; (try simp only [size_addB, size_setB, size_drew]); omega)))) rfl (by simp [Value.oneCell']) (by simp [mC_len]) ?_)
  (simp only [Nat.zero_add])
  rw [mC_putC]
  refine L.nil ?_
  refine X.sq ?_
  refine V.seq ?_
  refine V.seq ?_
  obtain ⟨w1, hw1⟩ : ∃ w1, w1 = setB (addB (addB (addB w 91 [.int .i64 c, .slice fa fs.length fc]) 97 (mC 0 z26 0)) 97 (mC 0 z26 0)) (w.heap.size + 2) 97 (mC c z26 0) := ⟨_, rfl⟩
  have hb1 : Bl w1 w.heap.size 91 [.int .i64 c, .slice fa fs.length fc] := by rw [hw1]; exact (((Bl.new _ _ _).add _ _).add _ _).setNe (by omega) _ _
  have hb2 : Bl w1 (w.heap.size + 1) 97 (mC 0 z26 0) := by rw [hw1]; exact ((Bl.new' (by rw [size_addB]) _ _).add _ _).setNe (by omega) _ _
  have hb3 : Bl w1 (w.heap.size + 2) 97 (mC c z26 0) := by rw [hw1]; exact Bl.set' (by simp only [size_addB]; omega) _ _
  have hE1 : Ext w.heap.size w w1 := by rw [hw1]; exact ((((Ext.refl _ _).addNew _ _).addNew _ _).addNew _ _).set (by omega) _ _
  rw [show (setB (addB (addB (addB w 91 [.int .i64 c, .slice fa fs.length fc]) 97 (mC 0 z26 0)) 97 (mC 0 z26 0)) (w.heap.size + 2) 97 (mC c z26 0)) = w1 from hw1.symm]
  refine V.region ?_
  refine L.rd (rd_assign rfl) rfl ?_
  refine L.nil ?_
  refine X.sq ?_
  refine V.block ?_
  refine V.loop (fun m l wr => ∃ (j : Nat) (v : List Int), l = [(1, .pointer (some ⟨w.heap.size, 0, none⟩)), (2, .pointer (some ⟨w.heap.size + 1, 0, none⟩)), (3, .pointer (some ⟨w.heap.size + 2, 0, none⟩)), (4, .int .i64 j)] ∧ m = fs.length - j ∧ j ≤ fs.length ∧ Ext w.heap.size w wr ∧ Bl wr w.heap.size 91 [.int .i64 c, .slice fa fs.length fc] ∧ Bl wr (w.heap.size + 1) 97 (mC 0 z26 0) ∧ Bl wr (w.heap.size + 2) 97 (mC c v (isum v)) ∧ Va fs j v) ?_ ?_
  ·
    exact ⟨_, _, (by repeat' (first | exact trivial | refine ⟨rfl, ?_⟩)), 0, z26, rfl, rfl, by omega, hE1, hb1, hb2, by rw [isum_z26]; exact hb3, Va.start fs⟩
  ·
    clear hb1 hb2 hb3 hE1
    rintro m l wr ⟨j, v, rfl, rfl, hj, hE, hb1, hb2, hb3, hva⟩
    have hvl := hva.len
    have hl3 := hb3.lt
    have hsum := hva.sum
    refine V.seq ?_
    refine V.seq ?_
    refine V.region ?_
    refine L.rd (rd_move rfl) rfl ?_
    refine L.rd (rd_fieldAddr tok rfl rfl rfl rfl rfl rfl) rfl ?_
    refine L.rd (rd_load1 tok rfl rfl rfl (by first | assumption | exact Bl.cell (by (repeat (first | assumption | (refine Bl.new' ?_ _ _; first | with_reducible rfl | (simp only [size_addB, size_setB, size_drew]; done)) | apply Bl.add | apply Bl.drew | (apply Bl.setNe; omega) | (refine Bl.set' ?_ _ _; (try simp only [size_addB, size_setB, size_drew]); omega)))) rfl)) rfl ?_
    refine L.rd (rd_lenSlice tok rfl rfl rfl) rfl ?_
    refine L.rd (rd_lss rfl rfl) rfl ?_
    refine L.nil ?_
    refine X.sq ?_
    first | refine V.cond rfl (fun h13 => ?_) (fun h13 => ?_) | refine V.condB rfl (fun h13 => ?_) (fun h13 => ?_)
    ·
      obtain ⟨b2, o2, rfl, hc2⟩ := hff.resolve_left (by omega)
      obtain ⟨⟨a, p⟩, hf⟩ := nth_of_lt fs j (by omega)
      have hcf := (hc2.le hE.leC).sub (j * 2) _ (pr_get fs j _ hf)
      have hr := hF.rng _ (List.mem_of_getElem? hf)
      have hnx := hva.next hf hr
      simp only at hr hnx
      obtain ⟨e, he⟩ := nth_of_lt v a.toNat (by omega)
      have her := hva.rng e (List.mem_of_getElem? he)
      have hadd : addAt v a.toNat p = v.set a.toNat (e + p) := by unfold addAt; rw [List.getD_eq_getElem?_getD, he]; rfl
      have hsum2 := isum_addAt v a.toNat p (by omega)
      refine V.skip ?_
      refine X.sq ?_
      refine V.seq ?_
      refine V.block ?_
      refine V.seq ?_
      refine V.region ?_
      refine L.rd (rd_fieldAddr tok rfl rfl rfl rfl rfl rfl) rfl ?_
      refine L.rd (rd_load1 tok rfl rfl rfl (by first | assumption | exact Bl.cell (by (repeat (first | assumption | (refine Bl.new' ?_ _ _; first | with_reducible rfl | (simp only [size_addB, size_setB, size_drew]; done)) | apply Bl.add | apply Bl.drew | (apply Bl.setNe; omega) | (refine Bl.set' ?_ _ _; (try simp only [size_addB, size_setB, size_drew]); omega)))) rfl)) rfl ?_
      refine L.rd (rd_move rfl) rfl ?_
      (refine L.rd (rd_indexSlice (sz := 2) tok rfl rfl rfl rfl rfl rfl rfl ?_) rfl ?_; omega)
      refine L.rd (rd_loadN tok rfl rfl rfl hcf rfl) rfl ?_
      refine L.ef (e_alloc (cs := [_, _]) tok rfl rfl (by first | (simp only [size_addB, size_setB, size_drew]; rfl) | rfl) rfl ?_)
      refine L.ef (e_store (vs := [_, _]) tok rfl rfl rfl rfl (by (repeat (first | assumption | (refine Bl.new' ?_ _ _; first | with_reducible rfl | (simp only [size_addB, size_setB, size_drew]; done)) | apply Bl.add | apply Bl.drew | (apply Bl.setNe; omega) | (refine Bl.set' ?_ _ _; (try simp only [size_addB, size_setB, size_drew]); omega)))) rfl (by simp [Value.oneCell']) (by simp) ?_)
      refine L.nil ?_
      refine X.sq ?_
      refine V.seq ?_
      refine V.region ?_
      refine L.rd (rd_fieldAddr tok rfl rfl rfl rfl rfl rfl) rfl ?_
      refine L.rd (rd_load1 tok rfl rfl rfl (by first | assumption | exact Bl.cell (by (repeat (first | assumption | (refine Bl.new' ?_ _ _; first | with_reducible rfl | (simp only [size_addB, size_setB, size_drew]; done)) | apply Bl.add | apply Bl.drew | (apply Bl.setNe; omega) | (refine Bl.set' ?_ _ _; (try simp only [size_addB, size_setB, size_drew]); omega)))) rfl)) rfl ?_
      refine L.rd (rd_geq rfl rfl) rfl ?_
      refine L.rd (rd_move rfl) rfl ?_
      first | refine L.partG rfl rfl (fun g24 => ?_) (fun g24 => ?_) | refine L.partGB rfl rfl (fun g24 => ?_) (fun g24 => ?_)
      ·
        refine L.yes rfl rfl ?_
        refine L.rd (rd_fieldAddr tok rfl rfl rfl rfl rfl rfl) rfl ?_
        refine L.yes rfl rfl ?_
        refine L.rd (rd_load1 tok rfl rfl rfl (by first | assumption | exact Bl.cell (by (repeat (first | assumption | (refine Bl.new' ?_ _ _; first | with_reducible rfl | (simp only [size_addB, size_setB, size_drew]; done)) | apply Bl.add | apply Bl.drew | (apply Bl.setNe; omega) | (refine Bl.set' ?_ _ _; (try simp only [size_addB, size_setB, size_drew]); omega)))) rfl)) rfl ?_
        refine L.yes rfl rfl ?_
        refine L.rd (rd_lss rfl rfl) rfl ?_
        refine L.rd (rd_pickT rfl rfl) rfl ?_
        refine L.rd (rd_move rfl) rfl ?_
        first | refine L.partG rfl rfl (fun g29 => ?_) (fun g29 => ?_) | refine L.partGB rfl rfl (fun g29 => ?_) (fun g29 => ?_)
        ·
          refine L.yes rfl rfl ?_
          refine L.rd (rd_fieldAddr tok rfl rfl rfl rfl rfl rfl) rfl ?_
          refine L.yes rfl rfl ?_
          refine L.rd (rd_load1 tok rfl rfl rfl (by first | assumption | exact Bl.cell (by (repeat (first | assumption | (refine Bl.new' ?_ _ _; first | with_reducible rfl | (simp only [size_addB, size_setB, size_drew]; done)) | apply Bl.add | apply Bl.drew | (apply Bl.setNe; omega) | (refine Bl.set' ?_ _ _; (try simp only [size_addB, size_setB, size_drew]); omega)))) rfl)) rfl ?_
          refine L.yes rfl rfl ?_
          refine L.rd (rd_gtr rfl rfl) rfl ?_
          refine L.rd (rd_pickT rfl rfl) rfl ?_
          refine L.nil ?_
          refine X.sq ?_
          refine V.cut (fun l w' => l = [(1, .pointer (some ⟨w.heap.size, 0, none⟩)), (2, .pointer (some ⟨w.heap.size + 1, 0, none⟩)), (3, .pointer (some ⟨w.heap.size + 2, 0, none⟩)), (4, .int .i64 j)] ∧ Ext w.heap.size w w' ∧ Bl w' w.heap.size 91 [.int .i64 c, .slice (some ⟨b2, o2, none⟩) fs.length fc] ∧ Bl w' (w.heap.size + 1) 97 (mC 0 z26 0) ∧ Bl w' (w.heap.size + 2) 97 (mC c (addAt v a.toNat p) (isum (addAt v a.toNat p)))) ?_ ?_
          ·
            first | refine V.cond rfl (fun h33 => ?_) (fun h33 => ?_) | refine V.condB rfl (fun h33 => ?_) (fun h33 => ?_)
            ·
              refine V.seq ?_
              obtain ⟨w3, hw3⟩ : ∃ w3, w3 = setB (addB wr 93 [Value.int .i64 0, .int .i64 0]) wr.heap.size 93 (putAt [Value.int .i64 0, .int .i64 0] 0 [Value.int .i64 a, .int .i64 p]) := ⟨_, rfl⟩
              have hf3 : Bl w3 wr.heap.size 93 [Value.int .i64 a, .int .i64 p] := by rw [hw3]; exact Bl.set' (by rw [size_addB]; omega) _ _
              have h31 : Bl w3 w.heap.size 91 [.int .i64 c, .slice (some ⟨b2, o2, none⟩) fs.length fc] := by rw [hw3]; exact (hb1.add _ _).setNe (by omega) _ _
              have h32 : Bl w3 (w.heap.size + 1) 97 (mC 0 z26 0) := by rw [hw3]; exact (hb2.add _ _).setNe (by omega) _ _
              have h33' : Bl w3 (w.heap.size + 2) 97 (mC c v (isum v)) := by rw [hw3]; exact (hb3.add _ _).setNe (by omega) _ _
              have hE3 : Ext w.heap.size w w3 := by rw [hw3]; exact (hE.addNew _ _).set (by omega) _ _
              have hs3 : w3.heap.size = wr.heap.size + 1 := by rw [hw3, size_setB, size_addB]
              rw [show (setB (addB wr 93 [Value.int .i64 0, .int .i64 0]) wr.heap.size 93 (putAt [Value.int .i64 0, .int .i64 0] 0 [Value.int .i64 a, .int .i64 p])) = w3 from hw3.symm]
              refine V.draw [10] mixed ?_
              refine D.take 0 [true, false, false, false, false, false, false, false, false, false, false] (.sq (.ct (.bk (.sq (.lp (.bk (.sq .bd))))))) rfl (rd_fieldAddr tok rfl rfl rfl rfl rfl rfl) rfl (by kernel_rfl) rfl (LeC.drew _) ?_
              refine D.take 1 [true, true, false, false, false, false, false, false, false, false, false] (.sq (.ct (.bk (.sq (.lp (.bk (.sq .bd))))))) rfl (rd_load1 tok rfl rfl rfl (hf3.cell rfl)) rfl (by kernel_rfl) rfl (LeC.drew _) ?_
              refine D.take 2 [true, true, true, false, false, false, false, false, false, false, false] (.sq (.ct (.bk (.sq (.lp (.bk (.sq .bd))))))) rfl (rd_fieldAddr tok rfl rfl rfl rfl rfl rfl) rfl (by kernel_rfl) rfl (LeC.drew _) ?_
              (refine D.take 3 [true, true, true, true, false, false, false, false, false, false, false] (.sq (.ct (.bk (.sq (.lp (.bk (.sq .bd))))))) rfl (rd_indexArr (n := 26) (sz := 1) tok rfl rfl rfl rfl rfl rfl rfl rfl ?_) rfl (by kernel_rfl) rfl (LeC.drew _) ?_; omega)
              refine D.take 4 [true, true, true, true, true, false, false, false, false, false, false] (.sq (.ct (.bk (.sq (.lp (.bk (.sq .bd))))))) rfl (rd_load1 tok rfl rfl rfl (cell_at h33' (mC_get he) (by simp))) rfl (by kernel_rfl) rfl (LeC.drew _) ?_
              refine D.take 5 [true, true, true, true, true, true, false, false, false, false, false] (.sq (.ct (.bk (.sq (.lp (.bk (.sq .bd))))))) rfl (rd_fieldAddr tok rfl rfl rfl rfl rfl rfl) rfl (by kernel_rfl) rfl (LeC.drew _) ?_
              refine D.take 6 [true, true, true, true, true, true, true, false, false, false, false] (.sq (.ct (.bk (.sq (.lp (.bk (.sq .bd))))))) rfl (rd_load1 tok rfl rfl rfl (hf3.cell (i := 1) rfl)) rfl (by kernel_rfl) rfl (LeC.drew _) ?_
              (refine D.take 7 [true, true, true, true, true, true, true, true, false, false, false] (.sq (.ct (.bk (.sq (.lp (.bk (.sq .bd))))))) rfl (rd_add3 rfl rfl ?_) rfl (by kernel_rfl) rfl (LeC.drew _) ?_; omega)
              refine D.take 8 [true, true, true, true, true, true, true, true, true, false, false] (.sq (.ct (.bk (.sq (.lp (.bk (.sq .bd))))))) rfl (rd_fieldAddr tok rfl rfl rfl rfl rfl rfl) rfl (by kernel_rfl) rfl (LeC.drew _) ?_
              (refine D.take 9 [true, true, true, true, true, true, true, true, true, true, false] (.sq (.ct (.bk (.sq (.lp (.bk (.sq .bd))))))) rfl (rd_indexArr (n := 26) (sz := 1) tok rfl rfl rfl rfl rfl rfl rfl rfl ?_) rfl (by kernel_rfl) rfl (LeC.drew _) ?_; omega)
              refine D.one 10 [true, true, true, true, true, true, true, true, true, true, true] rfl (by kernel_rfl) rfl (e_store (vs := [_]) tok rfl rfl rfl rfl h33'.drew rfl (by simp [Value.oneCell']) (by simp only [mC_len, List.length_cons, List.length_nil]; omega) ⟨fun h => (by cases h), ?_⟩)
              refine D.done (by kernel_rfl) ?_
              refine X.sq ?_
              simp only [Nat.zero_add, Nat.mul_one]
              rw [mC_putE c v (isum v) a.toNat (e + p) (by omega), ← hadd]
              refine V.region ?_
              refine L.rd (rd_fieldAddr tok rfl rfl rfl rfl rfl rfl) rfl ?_
              refine L.rd (rd_load1 tok rfl rfl rfl (cell_at (i := 27) (cs := mC c (addAt v a.toNat p) (isum v)) (Bl.set' (by rw [size_drew]; omega) _ _) (mC_deg (by rw [addAt_len]; exact hvl)) rfl)) rfl ?_
              refine L.rd (rd_fieldAddr tok rfl rfl rfl rfl rfl rfl) rfl ?_
              refine L.rd (rd_load1 tok rfl rfl rfl ((hf3.drew.setNe (by omega) _ _).cell (i := 1) rfl)) rfl ?_
              (refine L.rd (rd_add3 rfl rfl ?_) rfl ?_; omega)
              refine L.rd (rd_fieldAddr tok rfl rfl rfl rfl rfl rfl) rfl ?_
              refine L.ef (e_store (vs := [_]) tok rfl rfl rfl rfl (cs := mC c (addAt v a.toNat p) (isum v)) (Bl.set' (by rw [size_drew]; omega) _ _) rfl (by simp [Value.oneCell']) (by simp only [mC_len, addAt_len, List.length_cons, List.length_nil]; omega) ?_)
              (simp only [Nat.zero_add])
              rw [mC_putD c (addAt v a.toNat p) (isum v) (isum v + p) (by rw [addAt_len]; exact hvl), ← hsum2]
              refine L.nil ?_
              refine X.ct ⟨_, (by repeat' (first | exact trivial | refine ⟨rfl, ?_⟩)), rfl, ((hE3.drew.set (by omega) _ _).set (by omega) _ _), ?_, ?_, Bl.set' (by rw [size_setB, size_drew]; omega) _ _⟩
              · exact ((h31.drew).setNe (by omega) _ _).setNe (by omega) _ _
              · exact ((h32.drew).setNe (by omega) _ _).setNe (by omega) _ _
            ·
              refine V.skip ?_
              have hp0 : p = 0 := by simp only [] at *; omega
              subst hp0
              refine X.ct ⟨_, (by repeat' (first | exact trivial | refine ⟨rfl, ?_⟩)), rfl, (hE.addNew _ _).set (by omega) _ _, (hb1.add _ _).setNe (by omega) _ _, (hb2.add _ _).setNe (by omega) _ _, ?_⟩
              rw [addAt_zero]; exact (hb3.add _ _).setNe (by omega) _ _
          ·
            rintro l w5 ⟨rfl, hE5, h51, h52, h53⟩
            refine X.bk ?_
            refine X.sq ?_
            refine V.region ?_
            refine L.rd (rd_move rfl) rfl ?_
            (refine L.rd (rd_add3 rfl rfl ?_) rfl ?_; omega)
            refine L.rd (rd_assign rfl) rfl ?_
            refine L.nil ?_
            exact X.lp ⟨_, _, by omega, (by repeat' (first | exact trivial | refine ⟨rfl, ?_⟩)), j + 1, addAt v a.toNat p, rfl, rfl, by omega, hE5, h51, h52, h53, hnx⟩
        ·
          exact absurd (by simp only [] at *; omega) g29
      ·
        exact absurd (by omega) g24
    ·
      refine V.exit ?_
      refine X.sqExit ?_
      refine X.lpExit ?_
      refine X.bkHere ?_
      refine X.sq ?_
      refine V.seq ?_
      have hvd := hva.done (by omega)
      have hrv := hva.rv (by omega)
      rw [← mnE_eq hvl, ← hvd] at hb3
      refine V.region ?_
      refine L.rd (rd_loadN tok rfl rfl rfl hb3.cells (mnE_len _).symm) rfl ?_
      refine L.ef (e_store (vs := mnE (c, vec fs)) tok rfl rfl rfl rfl hb2 (mnE_len _) (mnE_one _) (by rw [mnE_len, mC_len, z26_len]; decide) ?_)
      (rw [putAll _ _ (by rw [mnE_len, mC_len, z26_len])])
      refine L.nil ?_
      refine X.sq ?_
      refine V.ret ?_
      refine ret_c tok Yaam.results58 rfl rfl rfl (Bl.cells (hb2.set _ _)) (mnE_len _).symm ?_
      exact ⟨rfl, by rw [hvd]; exact hrv, hE.set (by omega) _ _⟩
end Go.Proofs.YbxaawGreat
