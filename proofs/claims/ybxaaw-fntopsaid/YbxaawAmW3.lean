/-
  spec.mulM, impl.mulRaw, walked.
-/
import Derived.Test.YbxaawAmW
set_option linter.unusedVariables false
set_option linter.unusedSimpArgs false
set_option maxRecDepth 10000
namespace Go.Mw
theorem Sl.ext {w w' : World} {v : Value} {A : List MT} (h : Sl w v A) (he : Ext w.heap.size w w') : Sl w' v A := or_map h id fun ⟨b, o, c, h1, h2, h3⟩ => ⟨b, o, c, h1, h2, h3.le he.leC⟩
end Go.Mw
namespace Go.Proofs.Ybxaaw
open Go.Mw

theorem mulM_ok (A B : List MT) (hA : Hv A) (hB : Hv B) (hn : A.length * B.length ≤ 1048576) (hAl : A.length ≤ 1048576) (hBl : B.length ≤ 1048576) (va vb : Value) (w : World) (hSA : Sl w va A) (hSB : Sl w vb B) : Ret Yaam.prog 102 [va, vb] w (MergePost (prods A B) w) := by
  obtain ⟨aa, ca, rfl⟩ : ∃ a c, va = .slice a A.length c := by
    rcases hSA with ⟨rfl, rfl⟩ | ⟨b, o, c, rfl, -, -⟩
    · exact ⟨_, _, rfl⟩
    · exact ⟨_, _, rfl⟩
  obtain ⟨ab, cb, rfl⟩ : ∃ a c, vb = .slice a B.length c := by
    rcases hSB with ⟨rfl, rfl⟩ | ⟨b, o, c, rfl, -, -⟩
    · exact ⟨_, _, rfl⟩
    · exact ⟨_, _, rfl⟩
  obtain ⟨N, hN⟩ : ∃ N, N = A.length * B.length := ⟨_, rfl⟩
  rw [← hN] at hn
  have hNi : (A.length : Int) * (B.length : Int) = (N : Int) := by rw [hN, Int.natCast_mul]
  refine enter2 Yaam.func102 Yaam.ntmps102 (by kernel_rfl) rfl rfl ?_
  refine V.seq ?_
  refine V.region ?_
  refine L.rd (rd_assign rfl) rfl ?_
  refine L.nil ?_
  refine X.sq ?_
  refine V.seq ?_
  refine V.region ?_
  refine L.rd (rd_move rfl) rfl ?_
  refine L.rd (rd_lenSlice tok rfl rfl rfl) rfl ?_
  refine L.rd (rd_move rfl) rfl ?_
  refine L.rd (rd_lenSlice tok rfl rfl rfl) rfl ?_
  refine L.rd (rd_mulE (r := (N : Int)) rfl rfl (by rw [hNi]; exact wrap_i64_in (by omega))) rfl ?_
  refine L.ef (e_make (e := 92) (zs := .int .i64 0 :: iC .i32 z26) (m := 0) (c := N) tok rfl rfl rfl rfl rfl rfl rfl rfl (by first | (simp only [size_addB, size_setB, size_drew]; rfl) | rfl) rfl (by omega) (by simp only []; omega) (by omega) ?_)
  refine L.rd (rd_assign rfl) rfl ?_
  refine L.nil ?_
  refine X.sq ?_
  refine V.seq ?_
  refine V.seq ?_
  refine V.region ?_
  refine L.rd (rd_move rfl) rfl ?_
  refine L.rd (rd_lenSlice tok rfl rfl rfl) rfl ?_
  refine L.rd (rd_move rfl) rfl ?_
  refine L.nil ?_
  refine X.sq ?_
  refine V.block ?_
  refine V.loop (fun m l wr => ∃ (i : Nat) (pv : Value), l = [(1, .slice ab B.length cb), (5, pv), (18, .slice aa A.length ca), (19, .int .i64 A.length), (20, .int .i64 i)] ∧ m = A.length - i ∧ i ≤ A.length ∧ Ext w.heap.size w wr ∧ wr.ownsRow w.heap.size 92 27 pv (i * B.length) ((prods (A.take i) B).flatMap mtE)) ?_ ?_
  ·
    exact ⟨_, _, (by repeat' (first | exact trivial | refine ⟨rfl, ?_⟩)), 0, _, rfl, rfl, by omega, (Ext.refl _ _).addNew _ _, by simpa [prods] using own_made (sz := 27) (c := N) (Bl.new w 92 ((List.replicate N (.int .i64 0 :: iC .i32 z26)).flatten)) (by rw [List.length_flatten]; simp [iC, z26]) (Nat.le_refl _) (by unfold maxLen; omega)⟩
  ·
    rintro m l wr ⟨i, pv, rfl, rfl, hi, hE, hO⟩
    have hwr := hE.size
    refine V.seq ?_
    refine V.region ?_
    refine L.rd (rd_lss rfl rfl) rfl ?_
    refine L.nil ?_
    refine X.sq ?_
    refine V.seq ?_
    first | refine V.cond rfl (fun h21 => ?_) (fun h21 => ?_) | refine V.condB rfl (fun h21 => ?_) (fun h21 => ?_)
    ·
      obtain ⟨ra, ro, rc', hrv, hrc, hcs⟩ := hSA.resolve_left (fun h => by rw [h.2] at h21; simp at h21; omega)
      simp only [Value.slice.injEq] at hrv
      obtain ⟨rfl, -, rfl⟩ := hrv
      obtain ⟨⟨xc, xv⟩, hx⟩ := nth_of_lt A i (by omega)
      have hxx := hA _ (List.mem_of_getElem? hx)
      simp only at hxx
      have hcx := mt_at (hcs.le hE.leC) hx
      have hsn := prods_snoc (B := B) hx
      have hb1 : i * B.length + B.length ≤ N := by rw [hN, ← Nat.succ_mul]; exact Nat.mul_le_mul_right _ (by omega)
      refine V.skip ?_
      refine X.sq ?_
      refine V.seq ?_
      refine V.block ?_
      refine V.seq ?_
      refine V.region ?_
      (refine L.rd (rd_indexSlice (sz := 27) tok rfl rfl rfl rfl rfl rfl rfl ?_) rfl ?_; omega)
      refine L.rd (rd_loadN tok rfl rfl rfl hcx (mtE_len _).symm) rfl ?_
      refine L.ef (e_alloc (cs := .int .i64 0 :: iC .i32 z26) tok rfl rfl (by first | (simp only [size_addB, size_setB, size_drew]; rfl) | rfl) rfl ?_)
      refine L.ef (e_store (vs := mtE (xc, xv)) tok rfl rfl rfl rfl (cs := .int .i64 0 :: iC .i32 z26) (by (repeat (first | assumption | (refine Bl.new' ?_ _ _; first | with_reducible rfl | (simp only [size_addB, size_setB, size_drew]; done)) | apply Bl.add | apply Bl.drew | (apply Bl.setNe; omega) | (refine Bl.set' ?_ _ _; (try simp only [size_addB, size_setB, size_drew]); omega)))) (mtE_len _) (mtE_one _) (by rw [mtE_len]; simp [iC, z26]) ?_)
      (rw [putAll _ _ (by rw [mtE_len]; simp [iC, z26])])
      refine L.nil ?_
      refine X.sq ?_
      refine V.seq ?_
      generalize hw4 : setB _ _ _ _ = w4
      have hbx : Bl w4 wr.heap.size 92 (mtE (xc, xv)) := by rw [← hw4]; refine Bl.set' ?_ _ _; rw [size_addB]; omega
      have he4 : Ext wr.heap.size wr w4 := by rw [← hw4]; exact ((Ext.refl _ _).addNew _ _).set (Nat.le_refl _) _ _
      have hE4 := hE.next he4
      have hO4 := own_ext hO he4
      have hs4 := hE4.size
      have hxl := hbx.lt
      have hne4 : ∀ k, pv.ownBlock = some k → k ≠ wr.heap.size := fun k hk e => by have := (own_block_lt hO hk).2; omega
      refine V.region ?_
      refine L.rd (rd_move rfl) rfl ?_
      refine L.rd (rd_lenSlice tok rfl rfl rfl) rfl ?_
      refine L.rd (rd_move rfl) rfl ?_
      refine L.nil ?_
      refine X.sq ?_
      refine V.block ?_
      refine V.loop (fun m l w5 => ∃ (j : Nat) (qv : Value), l = [(1, .slice ab B.length cb), (5, qv), (7, .pointer (some ⟨wr.heap.size, 0, none⟩)), (18, .slice (some ⟨ra, ro, none⟩) A.length ca), (19, .int .i64 A.length), (20, .int .i64 i), (24, .slice ab B.length cb), (25, .int .i64 B.length), (26, .int .i64 j)] ∧ m = B.length - j ∧ j ≤ B.length ∧ Ext w.heap.size w w5 ∧ Bl w5 wr.heap.size 92 (mtE (xc, xv)) ∧ w5.ownsRow w.heap.size 92 27 qv (i * B.length + j) ((prods (A.take i) B ++ (B.take j).map (mulT (xc, xv))).flatMap mtE) ∧ (∀ k, qv.ownBlock = some k → k ≠ wr.heap.size)) ?_ ?_
      ·
        exact ⟨_, _, (by repeat' (first | exact trivial | refine ⟨rfl, ?_⟩)), 0, _, rfl, rfl, by omega, hE4, hbx, by simpa using hO4, hne4⟩
      ·
        clear hbx hO4 hne4 he4
        rintro m l w5 ⟨j, qv, rfl, rfl, hj, hE5, hbx, hO5, hne5⟩
        have hs5 := hE5.size
        have hxl5 := hbx.lt
        refine V.seq ?_
        refine V.region ?_
        refine L.rd (rd_lss rfl rfl) rfl ?_
        refine L.nil ?_
        refine X.sq ?_
        refine V.seq ?_
        first | refine V.cond rfl (fun h27 => ?_) (fun h27 => ?_) | refine V.condB rfl (fun h27 => ?_) (fun h27 => ?_)
        ·
          obtain ⟨rb, rbo, rc', hrv, hrc2, hcb⟩ := hSB.resolve_left (fun h => by rw [h.2] at h27; simp at h27; omega)
          simp only [Value.slice.injEq] at hrv
          obtain ⟨rfl, -, rfl⟩ := hrv
          obtain ⟨⟨yc, yv⟩, hy⟩ := nth_of_lt B j (by omega)
          have hyy := hB _ (List.mem_of_getElem? hy)
          simp only at hyy
          have hcy := mt_at (hcb.le hE5.leC) hy
          have hsn2 := map_snoc (f := mulT (xc, xv)) hy
          have huv := addV_len hxx.1 hyy.1
          refine V.skip ?_
          refine X.sq ?_
          refine V.seq ?_
          refine V.block ?_
          refine V.seq ?_
          refine V.region ?_
          (refine L.rd (rd_indexSlice (sz := 27) tok rfl rfl rfl rfl rfl rfl rfl ?_) rfl ?_; omega)
          refine L.rd (rd_loadN tok rfl rfl rfl hcy (mtE_len _).symm) rfl ?_
          refine L.ef (e_alloc (cs := .int .i64 0 :: iC .i32 z26) tok rfl rfl (by first | (simp only [size_addB, size_setB, size_drew]; rfl) | rfl) rfl ?_)
          refine L.ef (e_store (vs := mtE (yc, yv)) tok rfl rfl rfl rfl (cs := .int .i64 0 :: iC .i32 z26) (by (repeat (first | assumption | (refine Bl.new' ?_ _ _; first | with_reducible rfl | (simp only [size_addB, size_setB, size_drew]; done)) | apply Bl.add | apply Bl.drew | (apply Bl.setNe; omega) | (refine Bl.set' ?_ _ _; (try simp only [size_addB, size_setB, size_drew]); omega)))) (mtE_len _) (mtE_one _) (by rw [mtE_len]; simp [iC, z26]) ?_)
          (rw [putAll _ _ (by rw [mtE_len]; simp [iC, z26])])
          refine L.nil ?_
          refine X.sq ?_
          refine V.seq ?_
          generalize hw6 : setB _ _ _ _ = w6
          have hby : Bl w6 w5.heap.size 92 (mtE (yc, yv)) := by rw [← hw6]; refine Bl.set' ?_ _ _; rw [size_addB]; omega
          have he6 : Ext w5.heap.size w5 w6 := by rw [← hw6]; exact ((Ext.refl _ _).addNew _ _).set (Nat.le_refl _) _ _
          have hE6 := hE5.next he6
          have hO6 := own_ext hO5 he6
          have hbx6 := he6.bl hbx.lt hbx
          have hs6 := he6.size
          have hyl := hby.lt
          refine V.region ?_
          refine L.ef (e_alloc (cs := .int .i64 0 :: iC .i32 z26) tok rfl rfl (by first | (simp only [size_addB, size_setB, size_drew]; rfl) | rfl) rfl ?_)
          refine L.nil ?_
          refine X.sq ?_
          refine V.seq ?_
          refine V.region ?_
          refine L.rd (rd_fieldAddr tok rfl rfl rfl rfl rfl rfl) rfl ?_
          refine L.rd (rd_load1 tok rfl rfl rfl ((hbx6.add _ _).cell rfl)) rfl ?_
          refine L.rd (rd_fieldAddr tok rfl rfl rfl rfl rfl rfl) rfl ?_
          refine L.rd (rd_load1 tok rfl rfl rfl ((hby.add _ _).cell rfl)) rfl ?_
          refine L.rd (rd_mulE (r := w64 (xc * yc)) rfl rfl rfl) rfl ?_
          refine L.rd (rd_fieldAddr tok rfl rfl rfl rfl rfl rfl) rfl ?_
          refine L.ef (e_store (vs := [_]) tok rfl rfl rfl rfl (cs := .int .i64 0 :: iC .i32 z26) (by (repeat (first | assumption | (refine Bl.new' ?_ _ _; first | with_reducible rfl | (simp only [size_addB, size_setB, size_drew]; done)) | apply Bl.add | apply Bl.drew | (apply Bl.setNe; omega) | (refine Bl.set' ?_ _ _; (try simp only [size_addB, size_setB, size_drew]); omega)))) rfl (by simp [Value.oneCell']) (by simp) ?_)
          (simp only [Nat.zero_add])
          rw [cI_putC]
          refine L.nil ?_
          refine X.sq ?_
          refine V.seq ?_
          refine V.seq ?_
          generalize hw7 : setB _ _ _ _ = w7
          have hbt : Bl w7 w6.heap.size 92 (.int .i64 (w64 (xc * yc)) :: iC .i32 z26) := by rw [← hw7]; refine Bl.set' ?_ _ _; rw [size_addB]; omega
          have he7 : Ext w6.heap.size w6 w7 := by rw [← hw7]; exact ((Ext.refl _ _).addNew _ _).set (Nat.le_refl _) _ _
          have hE7 := hE6.next he7
          have hO7 := own_ext hO6 he7
          have hbx7 := he7.bl hbx6.lt hbx6
          have hby7 := he7.bl hby.lt hby
          have hne7 : ∀ k, qv.ownBlock = some k → k < w6.heap.size := fun k hk => (own_block_lt hO6 hk).2
          have hsd7 := hbt.lt
          refine V.region ?_
          refine L.rd (rd_assign rfl) rfl ?_
          refine L.nil ?_
          refine X.sq ?_
          refine V.block ?_
          refine V.loop (fun m l w8 => ∃ (e : Nat), l = [(1, .slice (some ⟨rb, rbo, none⟩) B.length cb), (5, qv), (7, .pointer (some ⟨wr.heap.size, 0, none⟩)), (9, .pointer (some ⟨w5.heap.size, 0, none⟩)), (10, .pointer (some ⟨w6.heap.size, 0, none⟩)), (11, .int .i64 e), (18, .slice (some ⟨ra, ro, none⟩) A.length ca), (19, .int .i64 A.length), (20, .int .i64 i), (24, .slice (some ⟨rb, rbo, none⟩) B.length cb), (25, .int .i64 B.length), (26, .int .i64 j)] ∧ m = 26 - e ∧ e ≤ 26 ∧ Ext w6.heap.size w6 w8 ∧ Bl w8 w6.heap.size 92 (.int .i64 (w64 (xc * yc)) :: iC .i32 (mix (addV xv yv) e))) ?_ ?_
          ·
            exact ⟨_, _, (by repeat' (first | exact trivial | refine ⟨rfl, ?_⟩)), 0, rfl, rfl, by omega, he7, by rw [mix_zero]; exact hbt⟩
          ·
            clear hbt hO7 hbx7 hby7 he7 hE7
            rintro m l w8 ⟨e, rfl, rfl, hee, he8, hbt⟩
            have hbx8 := he8.bl hbx6.lt hbx6
            have hby8 := he8.bl hby.lt hby
            have htl := hbt.lt
            refine V.seq ?_
            refine V.seq ?_
            refine V.region ?_
            refine L.rd (rd_move rfl) rfl ?_
            refine L.rd (rd_lss rfl rfl) rfl ?_
            refine L.nil ?_
            refine X.sq ?_
            first | refine V.cond rfl (fun h37 => ?_) (fun h37 => ?_) | refine V.condB rfl (fun h37 => ?_) (fun h37 => ?_)
            ·
              obtain ⟨xe, hxe⟩ := nth_of_lt xv e (by omega)
              obtain ⟨ye, hye⟩ := nth_of_lt yv e (by omega)
              have hxr := hxx.2 xe (List.mem_of_getElem? hxe)
              have hyr := hyy.2 ye (List.mem_of_getElem? hye)
              have hmx := mix_set huv (addV_get hxe hye)
              refine V.skip ?_
              refine X.sq ?_
              refine V.seq ?_
              refine V.block ?_
              refine V.draw [12] mixed ?_
              refine D.take 0 [true, false, false, false, false, false, false, false, false, false, false, false, false] (.bk (.sq (.lp (.bk (.sq (.bk (.sq (.lp (.bk (.bk (.sq (.lp (.bk (.sq .bd)))))))))))))) rfl (rd_move rfl) rfl (by kernel_rfl) rfl (LeC.drew _) ?_
              refine D.take 1 [true, true, false, false, false, false, false, false, false, false, false, false, false] (.bk (.sq (.lp (.bk (.sq (.bk (.sq (.lp (.bk (.bk (.sq (.lp (.bk (.sq .bd)))))))))))))) rfl (rd_move rfl) rfl (by kernel_rfl) rfl (LeC.drew _) ?_
              refine D.take 2 [true, true, true, false, false, false, false, false, false, false, false, false, false] (.bk (.sq (.lp (.bk (.sq (.bk (.sq (.lp (.bk (.bk (.sq (.lp (.bk (.sq .bd)))))))))))))) rfl (rd_fieldAddr tok rfl rfl rfl rfl rfl rfl) rfl (by kernel_rfl) rfl (LeC.drew _) ?_
              (refine D.take 3 [true, true, true, true, false, false, false, false, false, false, false, false, false] (.bk (.sq (.lp (.bk (.sq (.bk (.sq (.lp (.bk (.bk (.sq (.lp (.bk (.sq .bd)))))))))))))) rfl (rd_indexArr (n := 26) (sz := 1) tok rfl rfl rfl rfl rfl rfl rfl rfl ?_) rfl (by kernel_rfl) rfl (LeC.drew _) ?_; omega)
              refine D.take 4 [true, true, true, true, true, false, false, false, false, false, false, false, false] (.bk (.sq (.lp (.bk (.sq (.bk (.sq (.lp (.bk (.bk (.sq (.lp (.bk (.sq .bd)))))))))))))) rfl (rd_load1 tok rfl rfl rfl (cell_at hbx8 (mtE_get hxx.1 hxe) (by simp))) rfl (by kernel_rfl) rfl (LeC.drew _) ?_
              refine D.take 5 [true, true, true, true, true, true, false, false, false, false, false, false, false] (.bk (.sq (.lp (.bk (.sq (.bk (.sq (.lp (.bk (.bk (.sq (.lp (.bk (.sq .bd)))))))))))))) rfl (rd_move rfl) rfl (by kernel_rfl) rfl (LeC.drew _) ?_
              refine D.take 6 [true, true, true, true, true, true, true, false, false, false, false, false, false] (.bk (.sq (.lp (.bk (.sq (.bk (.sq (.lp (.bk (.bk (.sq (.lp (.bk (.sq .bd)))))))))))))) rfl (rd_fieldAddr tok rfl rfl rfl rfl rfl rfl) rfl (by kernel_rfl) rfl (LeC.drew _) ?_
              (refine D.take 7 [true, true, true, true, true, true, true, true, false, false, false, false, false] (.bk (.sq (.lp (.bk (.sq (.bk (.sq (.lp (.bk (.bk (.sq (.lp (.bk (.sq .bd)))))))))))))) rfl (rd_indexArr (n := 26) (sz := 1) tok rfl rfl rfl rfl rfl rfl rfl rfl ?_) rfl (by kernel_rfl) rfl (LeC.drew _) ?_; omega)
              refine D.take 8 [true, true, true, true, true, true, true, true, true, false, false, false, false] (.bk (.sq (.lp (.bk (.sq (.bk (.sq (.lp (.bk (.bk (.sq (.lp (.bk (.sq .bd)))))))))))))) rfl (rd_load1 tok rfl rfl rfl (cell_at hby8 (mtE_get hyy.1 hye) (by simp))) rfl (by kernel_rfl) rfl (LeC.drew _) ?_
              refine D.take 9 [true, true, true, true, true, true, true, true, true, true, false, false, false] (.bk (.sq (.lp (.bk (.sq (.bk (.sq (.lp (.bk (.bk (.sq (.lp (.bk (.sq .bd)))))))))))))) rfl (rd_addE (r := xe + ye) rfl rfl (wrap_i32_in (by omega))) rfl (by kernel_rfl) rfl (LeC.drew _) ?_
              refine D.take 10 [true, true, true, true, true, true, true, true, true, true, true, false, false] (.bk (.sq (.lp (.bk (.sq (.bk (.sq (.lp (.bk (.bk (.sq (.lp (.bk (.sq .bd)))))))))))))) rfl (rd_fieldAddr tok rfl rfl rfl rfl rfl rfl) rfl (by kernel_rfl) rfl (LeC.drew _) ?_
              (refine D.take 11 [true, true, true, true, true, true, true, true, true, true, true, true, false] (.bk (.sq (.lp (.bk (.sq (.bk (.sq (.lp (.bk (.bk (.sq (.lp (.bk (.sq .bd)))))))))))))) rfl (rd_indexArr (n := 26) (sz := 1) tok rfl rfl rfl rfl rfl rfl rfl rfl ?_) rfl (by kernel_rfl) rfl (LeC.drew _) ?_; omega)
              refine D.one 12 [true, true, true, true, true, true, true, true, true, true, true, true, true] rfl (by kernel_rfl) rfl (e_store (vs := [_]) tok rfl rfl rfl rfl hbt.drew rfl (by simp [Value.oneCell']) (by simp only [iC_len, List.length_cons, List.length_nil, mix_len huv hee]; simp; omega) ⟨fun h => (by cases h), ?_⟩)
              (simp only [Nat.zero_add, Nat.mul_one, Int.toNat_natCast])
              rw [cI_putE _ _ _ _ (by rw [mix_len huv hee]; omega), hmx]
              refine D.done (by kernel_rfl) ?_
              refine X.bk ?_
              refine X.sq ?_
              refine V.region ?_
              refine L.rd (rd_move rfl) rfl ?_
              (refine L.rd (rd_add3 rfl rfl ?_) rfl ?_; omega)
              refine L.rd (rd_assign rfl) rfl ?_
              refine L.nil ?_
              exact X.lp ⟨_, _, by omega, (by repeat' (first | exact trivial | refine ⟨rfl, ?_⟩)), e + 1, rfl, rfl, by omega, he8.drew.set (Nat.le_refl _) _ _, Bl.set' (by rw [size_drew]; exact htl) _ _⟩
            ·
              refine V.exit ?_
              refine X.sqExit ?_
              refine X.lpExit ?_
              refine X.bkHere ?_
              refine X.sq ?_
              obtain rfl : e = 26 := by omega
              rw [mix_all huv, ← mtE_eq huv] at hbt
              have hE8 := hE6.next he8
              have hO8 := own_ext hO6 he8
              have hs8 := hE8.size
              refine V.region ?_
              refine L.rd (rd_move rfl) rfl ?_
              refine L.rd (rd_loadN tok rfl rfl rfl hbt.cells (mtE_len _).symm) rfl ?_
              refine L.ef (e_buildSlice1 (e := 92) (cs := mtE (w64 (xc * yc), addV xv yv)) tok rfl rfl rfl rfl rfl rfl rfl rfl (by rw [mtE_len]; rfl) (by first | (simp only [size_addB, size_setB, size_drew]; rfl) | rfl) rfl ?_)
              refine L.ef (e_appendAt (m := 1) tok rfl rfl rfl rfl rfl rfl rfl rfl rfl rfl (hO8.alloc _) (Bl.new _ _ _).cells (mtE_len _) (mtE_one _) (by unfold maxLen; omega) (by simp only []; omega) (by rw [size_addB]; omega) ?_)
              rintro v9 w9 ho9 hg9 hat9
              have hE9 := (hE8.addNew 92 (mtE (w64 (xc * yc), addV xv yv))).grown hg9 (by rw [size_addB]; omega) (fun q hq => (own_block_lt hO8 hq).1)
              have hs9 := hg9.size
              rw [size_addB] at hs9
              have hbx9 : Bl w9 wr.heap.size 92 (mtE (xc, xv)) := ⟨(hg9.block _ (hbx8.add _ _).lt (fun e => hne5 _ e.symm rfl)).trans (hbx8.add _ _).at_⟩
              refine L.rd (rd_assign rfl) rfl ?_
              refine L.nil ?_
              refine X.bk ?_
              refine X.sq ?_
              refine V.region ?_
              (refine L.rd (rd_add3 rfl rfl ?_) rfl ?_; omega)
              refine L.rd (rd_move rfl) rfl ?_
              refine L.nil ?_
              refine X.lp ⟨_, _, by omega, (by repeat' (first | exact trivial | refine ⟨rfl, ?_⟩)), j + 1, v9, rfl, rfl, by omega, hE9, hbx9, ?_, fun k hk e => ?_⟩
              · rw [hsn2, ← List.append_assoc, List.flatMap_append]
                simpa [mulT, Nat.add_assoc] using ho9
              · rw [hk] at hat9
                rcases hat9 with h | h
                · exact hne5 k h.symm e
                · rw [size_addB] at h
                  simp only [Option.some.injEq] at h
                  have := hbx8.lt
                  omega
        ·
          refine V.exit ?_
          refine X.sqExit ?_
          refine X.lpExit ?_
          refine X.bkHere ?_
          refine X.bk ?_
          refine X.sq ?_
          refine V.region ?_
          (refine L.rd (rd_add3 rfl rfl ?_) rfl ?_; omega)
          refine L.rd (rd_move rfl) rfl ?_
          refine L.nil ?_
          obtain rfl : j = B.length := by omega
          rw [List.take_of_length_le (Nat.le_refl _), ← hsn] at hO5
          exact X.lp ⟨_, _, by omega, (by repeat' (first | exact trivial | refine ⟨rfl, ?_⟩)), i + 1, qv, rfl, rfl, by omega, hE5, by rw [Nat.succ_mul]; exact hO5⟩
    ·
      refine V.exit ?_
      refine X.sqExit ?_
      refine X.lpExit ?_
      refine X.bkHere ?_
      refine X.sq ?_
      refine V.seq ?_
      obtain rfl : i = A.length := by omega
      rw [List.take_of_length_le (Nat.le_refl _), ← prods_len] at hO
      have hpl := prods_len A B
      refine V.region ?_
      refine L.rd (rd_move rfl) rfl ?_
      refine L.ef (e_call rfl (mergeTerms_ok _ (prods_vl hA hB) (prods_cr A B) (by omega) _ _ (Sl.of_own hO)) rfl ?_)
      rintro v9 w9 ⟨hO9, he9⟩
      refine L.rd (rd_assign rfl) rfl ?_
      refine L.nil ?_
      refine X.sq ?_
      refine V.ret ?_
      refine ret_1 Yaam.results102 rfl ?_
      exact ⟨own_low hO9 hwr, hE.next he9⟩

theorem mulRaw_ok (va vb : Value) (As Bs : List Lt) (w : World) {lo hi lo' hi' : Nat} (hA : Tl w lo hi va As) (hB : Tl w lo' hi' vb Bs) (hCA : canon (pol As) = true) (hCB : canon (pol Bs) = true) (hn : (pol As).length * (pol Bs).length ≤ 100000) : Ret Yaam.prog 77 [.agg #[va], .agg #[vb]] w (RPost 58 109 (rawP (prods (ms (pol As)) (ms (pol Bs)))) w) := by
  obtain ⟨aa, ca, rfl, hfa⟩ := hA.form
  obtain ⟨ab, cb, rfl, hfb⟩ := hB.form
  have hla : (ms (pol As)).length ≤ 4096 := by have := canon_len hCA; rwa [ms_len]
  have hlb : (ms (pol Bs)).length ≤ 4096 := by have := canon_len hCB; rwa [ms_len]
  have hHA := canon_hv hCA
  have hHB := canon_hv hCB
  rw [← ms_len (pol As), ← ms_len (pol Bs)] at hn
  refine enter2 Yaam.func77 Yaam.ntmps77 (by kernel_rfl) rfl rfl ?_
  refine V.seq ?_
  refine V.region ?_
  refine L.ef (e_box (cs := [_]) rfl rfl (by first | (simp only [size_addB, size_setB, size_drew]; rfl) | rfl) rfl ?_)
  refine L.ef (e_box (cs := [_]) rfl rfl (by first | (simp only [size_addB, size_setB, size_drew]; rfl) | rfl) rfl ?_)
  refine L.ef (e_alloc (cs := [_]) tok rfl rfl (by first | (simp only [size_addB, size_setB, size_drew]; rfl) | rfl) rfl ?_)
  refine L.rd (rd_assign rfl) rfl ?_
  refine L.nil ?_
  refine X.sq ?_
  refine V.seq ?_
  have hp := ((Bl.new w 34 [.slice aa As.length ca]).add 34 [.slice ab Bs.length cb]).add 34 [.slice none 0 0]
  have hq := (Bl.new' (w := addB w 34 [.slice aa As.length ca]) (b := w.heap.size + 1) (by rw [size_addB]) 34 [.slice ab Bs.length cb]).add 34 [.slice none 0 0]
  have hr := Bl.new' (w := addB (addB w 34 [.slice aa As.length ca]) 34 [.slice ab Bs.length cb]) (b := w.heap.size + 2) (by simp only [size_addB]) 34 [.slice none 0 0]
  have hE := (((Ext.refl _ w).addNew 34 [.slice aa As.length ca]).addNew 34 [.slice ab Bs.length cb]).addNew 34 [.slice none 0 0]
  generalize addB (addB (addB w 34 [.slice aa As.length ca]) 34 [.slice ab Bs.length cb]) 34 [.slice none 0 0] = w0 at hp hq hr hE ⊢
  have hrl := hr.lt
  have hs0 := hE.size
  refine V.region ?_
  refine L.rd (rd_loadN tok rfl rfl rfl hp.cells rfl) rfl ?_
  refine L.ef (e_call rfl (monosOf_ok _ As _ (hA.ext hE) hCA) rfl ?_)
  rintro v1 w1 ⟨hO1, he1⟩
  have hq1 := he1.bl hq.lt hq
  have hr1 := he1.bl hr.lt hr
  have hE1 := hE.next he1
  have hs1 := he1.size
  refine L.rd (rd_assign rfl) rfl ?_
  refine L.nil ?_
  refine X.sq ?_
  refine V.seq ?_
  refine V.region ?_
  refine L.rd (rd_loadN tok rfl rfl rfl hq1.cells rfl) rfl ?_
  refine L.ef (e_call rfl (monosOf_ok _ Bs _ (hB.ext hE1) hCB) rfl ?_)
  rintro v2 w2 ⟨hO2, he2⟩
  have hr2 := he2.bl hr1.lt hr1
  have hE2 := hE1.next he2
  have hs2 := he2.size
  have hO1b := own_ext hO1 he2
  obtain ⟨a1, c1, rfl⟩ := own_form hO1
  obtain ⟨a2, c2, rfl⟩ := own_form hO2
  generalize ms (pol Bs) = B at hO2 hlb hn hHB ⊢
  generalize ms (pol As) = A at hO1b hla hn hHA ⊢
  obtain ⟨N, hN⟩ : ∃ N, N = A.length * B.length := ⟨_, rfl⟩
  rw [← hN] at hn
  have hNi : (A.length : Int) * (B.length : Int) = (N : Int) := by rw [hN, Int.natCast_mul]
  have hrl2 := hr2.lt
  refine L.rd (rd_assign rfl) rfl ?_
  refine L.nil ?_
  refine X.sq ?_
  refine V.seq ?_
  refine V.region ?_
  refine L.rd (rd_move rfl) rfl ?_
  refine L.rd (rd_lenSlice tok rfl rfl rfl) rfl ?_
  refine L.rd (rd_move rfl) rfl ?_
  refine L.rd (rd_lenSlice tok rfl rfl rfl) rfl ?_
  refine L.rd (rd_mulE (r := (N : Int)) rfl rfl (by rw [hNi]; exact wrap_i64_in (by omega))) rfl ?_
  refine L.ef (e_make (e := 143) (zs := mC 0 z26 0) (m := 0) (c := N) tok rfl rfl rfl rfl rfl rfl rfl rfl (by first | (simp only [size_addB, size_setB, size_drew]; rfl) | rfl) rfl (by omega) (by simp only []; omega) (by omega) ?_)
  refine L.rd (rd_assign rfl) rfl ?_
  refine L.nil ?_
  refine X.sq ?_
  refine V.seq ?_
  refine V.seq ?_
  refine V.region ?_
  refine L.rd (rd_assign rfl) rfl ?_
  refine L.nil ?_
  refine X.sq ?_
  refine V.block ?_
  refine V.loop (fun m l wr => ∃ (i : Nat) (pv : Value), l = [(4, .pointer (some ⟨w.heap.size + 2, 0, none⟩)), (6, .slice a1 A.length c1), (7, .slice a2 B.length c2), (8, pv), (9, .int .i64 i)] ∧ m = A.length - i ∧ i ≤ A.length ∧ Ext w2.heap.size w2 wr ∧ wr.ownsRow w2.heap.size 143 28 pv (i * B.length) ((prods (A.take i) B).flatMap mnE)) ?_ ?_
  ·
    exact ⟨_, _, (by repeat' (first | exact trivial | refine ⟨rfl, ?_⟩)), 0, _, rfl, rfl, by omega, (Ext.refl _ _).addNew _ _, by simpa [prods] using own_made (sz := 28) (c := N) (Bl.new w2 143 ((List.replicate N (mC 0 z26 0)).flatten)) (by rw [List.length_flatten]; simp [mC_len, z26_len]) (Nat.le_refl _) (by unfold maxLen; omega)⟩
  ·
    rintro m l wr ⟨i, pv, rfl, rfl, hi, hE3, hO⟩
    have hwr := hE3.size
    refine V.seq ?_
    refine V.seq ?_
    refine V.region ?_
    refine L.rd (rd_move rfl) rfl ?_
    refine L.rd (rd_move rfl) rfl ?_
    refine L.rd (rd_lenSlice tok rfl rfl rfl) rfl ?_
    refine L.rd (rd_lss rfl rfl) rfl ?_
    refine L.nil ?_
    refine X.sq ?_
    first | refine V.cond rfl (fun h26 => ?_) (fun h26 => ?_) | refine V.condB rfl (fun h26 => ?_) (fun h26 => ?_)
    ·
      obtain ⟨g1, c1', hv1, -, -, hc1⟩ := own_some hO1b (by omega)
      simp only [Value.slice.injEq] at hv1
      obtain ⟨rfl, -, rfl⟩ := hv1
      obtain ⟨⟨xc, xv⟩, hx⟩ := nth_of_lt A i (by omega)
      have hxx := hHA _ (List.mem_of_getElem? hx)
      simp only at hxx
      have hcx := mn_at hc1 hx
      rw [mnE_eq hxx.1] at hcx
      have hsn := prods_snoc (B := B) hx
      have hb1 : i * B.length + B.length ≤ N := by rw [hN, ← Nat.succ_mul]; exact Nat.mul_le_mul_right _ (by omega)
      refine V.skip ?_
      refine X.sq ?_
      refine V.seq ?_
      refine V.block ?_
      refine V.seq ?_
      refine V.region ?_
      refine L.rd (rd_assign rfl) rfl ?_
      refine L.nil ?_
      refine X.sq ?_
      refine V.block ?_
      refine V.loop (fun m l w5 => ∃ (j : Nat) (qv : Value), l = [(4, .pointer (some ⟨w.heap.size + 2, 0, none⟩)), (6, .slice (some ⟨g1, 0, none⟩) A.length c1), (7, .slice a2 B.length c2), (8, qv), (9, .int .i64 i), (10, .int .i64 j)] ∧ m = B.length - j ∧ j ≤ B.length ∧ Ext w2.heap.size w2 w5 ∧ w5.ownsRow w2.heap.size 143 28 qv (i * B.length + j) ((prods (A.take i) B ++ (B.take j).map (mulT (xc, xv))).flatMap mnE)) ?_ ?_
      ·
        exact ⟨_, _, (by repeat' (first | exact trivial | refine ⟨rfl, ?_⟩)), 0, _, rfl, rfl, by omega, hE3, by simpa using hO⟩
      ·
        rintro m l w5 ⟨j, qv, rfl, rfl, hj, hE5, hO5⟩
        have hs5 := hE5.size
        have hcx5 := hcx.le hE5.leC
        refine V.seq ?_
        refine V.seq ?_
        refine V.region ?_
        refine L.rd (rd_move rfl) rfl ?_
        refine L.rd (rd_move rfl) rfl ?_
        refine L.rd (rd_lenSlice tok rfl rfl rfl) rfl ?_
        refine L.rd (rd_lss rfl rfl) rfl ?_
        refine L.nil ?_
        refine X.sq ?_
        first | refine V.cond rfl (fun h32 => ?_) (fun h32 => ?_) | refine V.condB rfl (fun h32 => ?_) (fun h32 => ?_)
        ·
          obtain ⟨g2, c2', hv2, -, -, hc2⟩ := own_some hO2 (by omega)
          simp only [Value.slice.injEq] at hv2
          obtain ⟨rfl, -, rfl⟩ := hv2
          obtain ⟨⟨yc, yv⟩, hy⟩ := nth_of_lt B j (by omega)
          have hyy := hHB _ (List.mem_of_getElem? hy)
          simp only at hyy
          have hcy := mn_at hc2 hy
          rw [mnE_eq hyy.1] at hcy
          have hcy5 := hcy.le hE5.leC
          have hsn2 := map_snoc (f := mulT (xc, xv)) hy
          have huv := addV_len hxx.1 hyy.1
          have hsum := isum_addV xv yv (hxx.1.trans hyy.1.symm)
          refine V.skip ?_
          refine X.sq ?_
          refine V.seq ?_
          refine V.block ?_
          refine V.seq ?_
          refine V.region ?_
          refine L.ef (e_alloc (cs := mC 0 z26 0) tok rfl rfl (by first | (simp only [size_addB, size_setB, size_drew]; rfl) | rfl) rfl ?_)
          refine L.nil ?_
          refine X.sq ?_
          refine V.seq ?_
          have hbm0 := Bl.new w5 143 (mC 0 z26 0)
          have he50 := (Ext.refl _ w5).addNew 143 (mC 0 z26 0)
          generalize addB w5 143 (mC 0 z26 0) = w6 at hbm0 he50 ⊢
          have hcx6 := hcx5.le he50.leC
          have hcy6 := hcy5.le he50.leC
          have hml6 := hbm0.lt
          refine V.draw [12] mixed ?_
          refine D.take 0 [true, false, false, false, false, false, false, false, false, false, false, false, false] (.sq (.bk (.sq (.lp (.bk (.bk (.sq (.lp (.bk (.sq .bd)))))))))) rfl (rd_move rfl) rfl (by kernel_rfl) rfl (LeC.drew _) ?_
          refine D.take 1 [true, true, false, false, false, false, false, false, false, false, false, false, false] (.sq (.bk (.sq (.lp (.bk (.bk (.sq (.lp (.bk (.sq .bd)))))))))) rfl (rd_move rfl) rfl (by kernel_rfl) rfl (LeC.drew _) ?_
          (refine D.take 2 [true, true, true, false, false, false, false, false, false, false, false, false, false] (.sq (.bk (.sq (.lp (.bk (.bk (.sq (.lp (.bk (.sq .bd)))))))))) rfl (rd_indexSlice (sz := 28) tok rfl rfl rfl rfl rfl rfl rfl ?_) rfl (by kernel_rfl) rfl (LeC.drew _) ?_; omega)
          refine D.take 3 [true, true, true, true, false, false, false, false, false, false, false, false, false] (.sq (.bk (.sq (.lp (.bk (.bk (.sq (.lp (.bk (.sq .bd)))))))))) rfl (rd_fieldAddr tok rfl rfl rfl rfl rfl rfl) rfl (by kernel_rfl) rfl (LeC.drew _) ?_
          refine D.take 4 [true, true, true, true, true, false, false, false, false, false, false, false, false] (.sq (.bk (.sq (.lp (.bk (.bk (.sq (.lp (.bk (.sq .bd)))))))))) rfl (rd_load1 tok rfl rfl rfl (cells_at (i := 0) hcx6 rfl rfl)) rfl (by kernel_rfl) rfl (LeC.drew _) ?_
          refine D.take 5 [true, true, true, true, true, true, false, false, false, false, false, false, false] (.sq (.bk (.sq (.lp (.bk (.bk (.sq (.lp (.bk (.sq .bd)))))))))) rfl (rd_move rfl) rfl (by kernel_rfl) rfl (LeC.drew _) ?_
          refine D.take 6 [true, true, true, true, true, true, true, false, false, false, false, false, false] (.sq (.bk (.sq (.lp (.bk (.bk (.sq (.lp (.bk (.sq .bd)))))))))) rfl (rd_move rfl) rfl (by kernel_rfl) rfl (LeC.drew _) ?_
          (refine D.take 7 [true, true, true, true, true, true, true, true, false, false, false, false, false] (.sq (.bk (.sq (.lp (.bk (.bk (.sq (.lp (.bk (.sq .bd)))))))))) rfl (rd_indexSlice (sz := 28) tok rfl rfl rfl rfl rfl rfl rfl ?_) rfl (by kernel_rfl) rfl (LeC.drew _) ?_; omega)
          refine D.take 8 [true, true, true, true, true, true, true, true, true, false, false, false, false] (.sq (.bk (.sq (.lp (.bk (.bk (.sq (.lp (.bk (.sq .bd)))))))))) rfl (rd_fieldAddr tok rfl rfl rfl rfl rfl rfl) rfl (by kernel_rfl) rfl (LeC.drew _) ?_
          refine D.take 9 [true, true, true, true, true, true, true, true, true, true, false, false, false] (.sq (.bk (.sq (.lp (.bk (.bk (.sq (.lp (.bk (.sq .bd)))))))))) rfl (rd_load1 tok rfl rfl rfl (cells_at (i := 0) hcy6 rfl rfl)) rfl (by kernel_rfl) rfl (LeC.drew _) ?_
          refine D.take 10 [true, true, true, true, true, true, true, true, true, true, true, false, false] (.sq (.bk (.sq (.lp (.bk (.bk (.sq (.lp (.bk (.sq .bd)))))))))) rfl (rd_mulE (r := w64 (xc * yc)) rfl rfl rfl) rfl (by kernel_rfl) rfl (LeC.drew _) ?_
          refine D.take 11 [true, true, true, true, true, true, true, true, true, true, true, true, false] (.sq (.bk (.sq (.lp (.bk (.bk (.sq (.lp (.bk (.sq .bd)))))))))) rfl (rd_fieldAddr tok rfl rfl rfl rfl rfl rfl) rfl (by kernel_rfl) rfl (LeC.drew _) ?_
          refine D.one 12 [true, true, true, true, true, true, true, true, true, true, true, true, true] rfl (by kernel_rfl) rfl (e_store (vs := [_]) tok rfl rfl rfl rfl hbm0.drew rfl (by simp [Value.oneCell']) (by simp [mC_len]) ⟨fun h => (by cases h), ?_⟩)
          (simp only [Nat.zero_add])
          rw [mC_putC]
          refine D.done (by kernel_rfl) ?_
          refine X.sq ?_
          refine V.seq ?_
          refine V.seq ?_
          generalize hw7 : setB _ _ _ _ = w7
          have hbm : Bl w7 w5.heap.size 143 (mC (w64 (xc * yc)) z26 0) := by rw [← hw7]; refine Bl.set' ?_ _ _; rw [size_drew]; exact hml6
          have he7 : Ext w5.heap.size w5 w7 := by rw [← hw7]; exact he50.drew.set (Nat.le_refl _) _ _
          refine V.region ?_
          refine L.rd (rd_assign rfl) rfl ?_
          refine L.nil ?_
          refine X.sq ?_
          refine V.block ?_
          refine V.loop (fun m l w8 => ∃ (e : Nat), l = [(4, .pointer (some ⟨w.heap.size + 2, 0, none⟩)), (6, .slice (some ⟨g1, 0, none⟩) A.length c1), (7, .slice (some ⟨g2, 0, none⟩) B.length c2), (8, qv), (9, .int .i64 i), (10, .int .i64 j), (11, .pointer (some ⟨w5.heap.size, 0, none⟩)), (12, .int .i64 e)] ∧ m = 26 - e ∧ e ≤ 26 ∧ Ext w5.heap.size w5 w8 ∧ Bl w8 w5.heap.size 143 (mC (w64 (xc * yc)) (mix (addV xv yv) e) 0)) ?_ ?_
          ·
            exact ⟨_, _, (by repeat' (first | exact trivial | refine ⟨rfl, ?_⟩)), 0, rfl, rfl, by omega, he7, by rw [mix_zero]; exact hbm⟩
          ·
            clear hbm he7 hcx6 hcy6
            rintro m l w8 ⟨e, rfl, rfl, hee, he8, hbm⟩
            have hcx8 := hcx5.le he8.leC
            have hcy8 := hcy5.le he8.leC
            have htl := hbm.lt
            have hmxl := mix_len huv hee
            refine V.seq ?_
            refine V.seq ?_
            refine V.region ?_
            refine L.rd (rd_move rfl) rfl ?_
            refine L.rd (rd_lss rfl rfl) rfl ?_
            refine L.nil ?_
            refine X.sq ?_
            first | refine V.cond rfl (fun h48 => ?_) (fun h48 => ?_) | refine V.condB rfl (fun h48 => ?_) (fun h48 => ?_)
            ·
              obtain ⟨xe, hxe⟩ := nth_of_lt xv e (by omega)
              obtain ⟨ye, hye⟩ := nth_of_lt yv e (by omega)
              have hxr := hxx.2 xe (List.mem_of_getElem? hxe)
              have hyr := hyy.2 ye (List.mem_of_getElem? hye)
              have hmx := mix_set huv (addV_get hxe hye)
              refine V.skip ?_
              refine X.sq ?_
              refine V.seq ?_
              refine V.block ?_
              refine V.draw [18] mixed ?_
              refine D.take 0 [true, false, false, false, false, false, false, false, false, false, false, false, false, false, false, false, false, false, false] (.bk (.sq (.lp (.bk (.sq (.bk (.sq (.lp (.bk (.bk (.sq (.lp (.bk (.sq .bd)))))))))))))) rfl (rd_move rfl) rfl (by kernel_rfl) rfl (LeC.drew _) ?_
              refine D.take 1 [true, true, false, false, false, false, false, false, false, false, false, false, false, false, false, false, false, false, false] (.bk (.sq (.lp (.bk (.sq (.bk (.sq (.lp (.bk (.bk (.sq (.lp (.bk (.sq .bd)))))))))))))) rfl (rd_move rfl) rfl (by kernel_rfl) rfl (LeC.drew _) ?_
              refine D.take 2 [true, true, true, false, false, false, false, false, false, false, false, false, false, false, false, false, false, false, false] (.bk (.sq (.lp (.bk (.sq (.bk (.sq (.lp (.bk (.bk (.sq (.lp (.bk (.sq .bd)))))))))))))) rfl (rd_move rfl) rfl (by kernel_rfl) rfl (LeC.drew _) ?_
              refine D.take 3 [true, true, true, true, false, false, false, false, false, false, false, false, false, false, false, false, false, false, false] (.bk (.sq (.lp (.bk (.sq (.bk (.sq (.lp (.bk (.bk (.sq (.lp (.bk (.sq .bd)))))))))))))) rfl (rd_move rfl) rfl (by kernel_rfl) rfl (LeC.drew _) ?_
              (refine D.take 4 [true, true, true, true, true, false, false, false, false, false, false, false, false, false, false, false, false, false, false] (.bk (.sq (.lp (.bk (.sq (.bk (.sq (.lp (.bk (.bk (.sq (.lp (.bk (.sq .bd)))))))))))))) rfl (rd_indexSlice (sz := 28) tok rfl rfl rfl rfl rfl rfl rfl ?_) rfl (by kernel_rfl) rfl (LeC.drew _) ?_; omega)
              refine D.take 5 [true, true, true, true, true, true, false, false, false, false, false, false, false, false, false, false, false, false, false] (.bk (.sq (.lp (.bk (.sq (.bk (.sq (.lp (.bk (.bk (.sq (.lp (.bk (.sq .bd)))))))))))))) rfl (rd_fieldAddr tok rfl rfl rfl rfl rfl rfl) rfl (by kernel_rfl) rfl (LeC.drew _) ?_
              (refine D.take 6 [true, true, true, true, true, true, true, false, false, false, false, false, false, false, false, false, false, false, false] (.bk (.sq (.lp (.bk (.sq (.bk (.sq (.lp (.bk (.bk (.sq (.lp (.bk (.sq .bd)))))))))))))) rfl (rd_indexArr (n := 26) (sz := 1) tok rfl rfl rfl rfl rfl rfl rfl rfl ?_) rfl (by kernel_rfl) rfl (LeC.drew _) ?_; omega)
              refine D.take 7 [true, true, true, true, true, true, true, true, false, false, false, false, false, false, false, false, false, false, false] (.bk (.sq (.lp (.bk (.sq (.bk (.sq (.lp (.bk (.bk (.sq (.lp (.bk (.sq .bd)))))))))))))) rfl (rd_load1 tok rfl rfl rfl (cells_at hcx8 (mC_get hxe) (by simp; omega))) rfl (by kernel_rfl) rfl (LeC.drew _) ?_
              refine D.take 8 [true, true, true, true, true, true, true, true, true, false, false, false, false, false, false, false, false, false, false] (.bk (.sq (.lp (.bk (.sq (.bk (.sq (.lp (.bk (.bk (.sq (.lp (.bk (.sq .bd)))))))))))))) rfl (rd_move rfl) rfl (by kernel_rfl) rfl (LeC.drew _) ?_
              refine D.take 9 [true, true, true, true, true, true, true, true, true, true, false, false, false, false, false, false, false, false, false] (.bk (.sq (.lp (.bk (.sq (.bk (.sq (.lp (.bk (.bk (.sq (.lp (.bk (.sq .bd)))))))))))))) rfl (rd_move rfl) rfl (by kernel_rfl) rfl (LeC.drew _) ?_
              refine D.take 10 [true, true, true, true, true, true, true, true, true, true, true, false, false, false, false, false, false, false, false] (.bk (.sq (.lp (.bk (.sq (.bk (.sq (.lp (.bk (.bk (.sq (.lp (.bk (.sq .bd)))))))))))))) rfl (rd_move rfl) rfl (by kernel_rfl) rfl (LeC.drew _) ?_
              (refine D.take 11 [true, true, true, true, true, true, true, true, true, true, true, true, false, false, false, false, false, false, false] (.bk (.sq (.lp (.bk (.sq (.bk (.sq (.lp (.bk (.bk (.sq (.lp (.bk (.sq .bd)))))))))))))) rfl (rd_indexSlice (sz := 28) tok rfl rfl rfl rfl rfl rfl rfl ?_) rfl (by kernel_rfl) rfl (LeC.drew _) ?_; omega)
              refine D.take 12 [true, true, true, true, true, true, true, true, true, true, true, true, true, false, false, false, false, false, false] (.bk (.sq (.lp (.bk (.sq (.bk (.sq (.lp (.bk (.bk (.sq (.lp (.bk (.sq .bd)))))))))))))) rfl (rd_fieldAddr tok rfl rfl rfl rfl rfl rfl) rfl (by kernel_rfl) rfl (LeC.drew _) ?_
              (refine D.take 13 [true, true, true, true, true, true, true, true, true, true, true, true, true, true, false, false, false, false, false] (.bk (.sq (.lp (.bk (.sq (.bk (.sq (.lp (.bk (.bk (.sq (.lp (.bk (.sq .bd)))))))))))))) rfl (rd_indexArr (n := 26) (sz := 1) tok rfl rfl rfl rfl rfl rfl rfl rfl ?_) rfl (by kernel_rfl) rfl (LeC.drew _) ?_; omega)
              refine D.take 14 [true, true, true, true, true, true, true, true, true, true, true, true, true, true, true, false, false, false, false] (.bk (.sq (.lp (.bk (.sq (.bk (.sq (.lp (.bk (.bk (.sq (.lp (.bk (.sq .bd)))))))))))))) rfl (rd_load1 tok rfl rfl rfl (cells_at hcy8 (mC_get hye) (by simp; omega))) rfl (by kernel_rfl) rfl (LeC.drew _) ?_
              (refine D.take 15 [true, true, true, true, true, true, true, true, true, true, true, true, true, true, true, true, false, false, false] (.bk (.sq (.lp (.bk (.sq (.bk (.sq (.lp (.bk (.bk (.sq (.lp (.bk (.sq .bd)))))))))))))) rfl (rd_add3 rfl rfl ?_) rfl (by kernel_rfl) rfl (LeC.drew _) ?_; omega)
              refine D.take 16 [true, true, true, true, true, true, true, true, true, true, true, true, true, true, true, true, true, false, false] (.bk (.sq (.lp (.bk (.sq (.bk (.sq (.lp (.bk (.bk (.sq (.lp (.bk (.sq .bd)))))))))))))) rfl (rd_fieldAddr tok rfl rfl rfl rfl rfl rfl) rfl (by kernel_rfl) rfl (LeC.drew _) ?_
              (refine D.take 17 [true, true, true, true, true, true, true, true, true, true, true, true, true, true, true, true, true, true, false] (.bk (.sq (.lp (.bk (.sq (.bk (.sq (.lp (.bk (.bk (.sq (.lp (.bk (.sq .bd)))))))))))))) rfl (rd_indexArr (n := 26) (sz := 1) tok rfl rfl rfl rfl rfl rfl rfl rfl ?_) rfl (by kernel_rfl) rfl (LeC.drew _) ?_; omega)
              refine D.one 18 [true, true, true, true, true, true, true, true, true, true, true, true, true, true, true, true, true, true, true] rfl (by kernel_rfl) rfl (e_store (vs := [_]) tok rfl rfl rfl rfl hbm.drew rfl (by simp [Value.oneCell']) (by simp only [mC_len, hmxl, List.length_cons, List.length_nil]; simp; omega) ⟨fun h => (by cases h), ?_⟩)
              (simp only [Nat.zero_add, Nat.mul_one, Int.toNat_natCast])
              rw [mC_putE _ _ _ _ _ (by rw [hmxl]; omega), hmx]
              refine D.done (by kernel_rfl) ?_
              refine X.bk ?_
              refine X.sq ?_
              refine V.region ?_
              refine L.rd (rd_move rfl) rfl ?_
              (refine L.rd (rd_add3 rfl rfl ?_) rfl ?_; omega)
              refine L.rd (rd_assign rfl) rfl ?_
              refine L.nil ?_
              exact X.lp ⟨_, _, by omega, (by repeat' (first | exact trivial | refine ⟨rfl, ?_⟩)), e + 1, rfl, rfl, by omega, he8.drew.set (Nat.le_refl _) _ _, Bl.set' (by rw [size_drew]; exact htl) _ _⟩
            ·
              refine V.exit ?_
              refine X.sqExit ?_
              refine X.lpExit ?_
              refine X.bkHere ?_
              refine X.sq ?_
              refine V.seq ?_
              obtain rfl : e = 26 := by omega
              rw [mix_all huv] at hbm
              have hsx := hHA.vl _ (List.mem_of_getElem? hx) |>.sum
              have hsy := hHB.vl _ (List.mem_of_getElem? hy) |>.sum
              simp only at hsx hsy
              refine V.draw [12] mixed ?_
              refine D.take 0 [true, false, false, false, false, false, false, false, false, false, false, false, false] (.sq (.bk (.sq (.lp (.bk (.bk (.sq (.lp (.bk (.sq .bd)))))))))) rfl (rd_move rfl) rfl (by kernel_rfl) rfl (LeC.drew _) ?_
              refine D.take 1 [true, true, false, false, false, false, false, false, false, false, false, false, false] (.sq (.bk (.sq (.lp (.bk (.bk (.sq (.lp (.bk (.sq .bd)))))))))) rfl (rd_move rfl) rfl (by kernel_rfl) rfl (LeC.drew _) ?_
              (refine D.take 2 [true, true, true, false, false, false, false, false, false, false, false, false, false] (.sq (.bk (.sq (.lp (.bk (.bk (.sq (.lp (.bk (.sq .bd)))))))))) rfl (rd_indexSlice (sz := 28) tok rfl rfl rfl rfl rfl rfl rfl ?_) rfl (by kernel_rfl) rfl (LeC.drew _) ?_; omega)
              refine D.take 3 [true, true, true, true, false, false, false, false, false, false, false, false, false] (.sq (.bk (.sq (.lp (.bk (.bk (.sq (.lp (.bk (.sq .bd)))))))))) rfl (rd_fieldAddr tok rfl rfl rfl rfl rfl rfl) rfl (by kernel_rfl) rfl (LeC.drew _) ?_
              refine D.take 4 [true, true, true, true, true, false, false, false, false, false, false, false, false] (.sq (.bk (.sq (.lp (.bk (.bk (.sq (.lp (.bk (.sq .bd)))))))))) rfl (rd_load1 tok rfl rfl rfl (cells_at (i := 27) hcx8 (mC_deg hxx.1) rfl)) rfl (by kernel_rfl) rfl (LeC.drew _) ?_
              refine D.take 5 [true, true, true, true, true, true, false, false, false, false, false, false, false] (.sq (.bk (.sq (.lp (.bk (.bk (.sq (.lp (.bk (.sq .bd)))))))))) rfl (rd_move rfl) rfl (by kernel_rfl) rfl (LeC.drew _) ?_
              refine D.take 6 [true, true, true, true, true, true, true, false, false, false, false, false, false] (.sq (.bk (.sq (.lp (.bk (.bk (.sq (.lp (.bk (.sq .bd)))))))))) rfl (rd_move rfl) rfl (by kernel_rfl) rfl (LeC.drew _) ?_
              (refine D.take 7 [true, true, true, true, true, true, true, true, false, false, false, false, false] (.sq (.bk (.sq (.lp (.bk (.bk (.sq (.lp (.bk (.sq .bd)))))))))) rfl (rd_indexSlice (sz := 28) tok rfl rfl rfl rfl rfl rfl rfl ?_) rfl (by kernel_rfl) rfl (LeC.drew _) ?_; omega)
              refine D.take 8 [true, true, true, true, true, true, true, true, true, false, false, false, false] (.sq (.bk (.sq (.lp (.bk (.bk (.sq (.lp (.bk (.sq .bd)))))))))) rfl (rd_fieldAddr tok rfl rfl rfl rfl rfl rfl) rfl (by kernel_rfl) rfl (LeC.drew _) ?_
              refine D.take 9 [true, true, true, true, true, true, true, true, true, true, false, false, false] (.sq (.bk (.sq (.lp (.bk (.bk (.sq (.lp (.bk (.sq .bd)))))))))) rfl (rd_load1 tok rfl rfl rfl (cells_at (i := 27) hcy8 (mC_deg hyy.1) rfl)) rfl (by kernel_rfl) rfl (LeC.drew _) ?_
              (refine D.take 10 [true, true, true, true, true, true, true, true, true, true, true, false, false] (.sq (.bk (.sq (.lp (.bk (.bk (.sq (.lp (.bk (.sq .bd)))))))))) rfl (rd_add3 rfl rfl ?_) rfl (by kernel_rfl) rfl (LeC.drew _) ?_; omega)
              refine D.take 11 [true, true, true, true, true, true, true, true, true, true, true, true, false] (.sq (.bk (.sq (.lp (.bk (.bk (.sq (.lp (.bk (.sq .bd)))))))))) rfl (rd_fieldAddr tok rfl rfl rfl rfl rfl rfl) rfl (by kernel_rfl) rfl (LeC.drew _) ?_
              refine D.one 12 [true, true, true, true, true, true, true, true, true, true, true, true, true] rfl (by kernel_rfl) rfl (e_store (vs := [_]) tok rfl rfl rfl rfl hbm.drew rfl (by simp [Value.oneCell']) (by simp only [mC_len, huv, List.length_cons, List.length_nil]; omega) ⟨fun h => (by cases h), ?_⟩)
              (simp only [Nat.zero_add])
              rw [mC_putD _ _ _ _ huv, ← hsum, ← mnE_eq huv]
              refine D.done (by kernel_rfl) ?_
              refine X.sq ?_
              generalize hw9 : setB _ _ _ _ = w9
              have hbm9 : Bl w9 w5.heap.size 143 (mnE (w64 (xc * yc), addV xv yv)) := by rw [← hw9]; refine Bl.set' ?_ _ _; rw [size_drew]; exact htl
              have he9 : Ext w5.heap.size w5 w9 := by rw [← hw9]; exact he8.drew.set (Nat.le_refl _) _ _
              have hE9 := hE5.next he9
              have hO9 := own_ext hO5 he9
              have hs9 := hE9.size
              refine V.region ?_
              refine L.rd (rd_move rfl) rfl ?_
              refine L.rd (rd_loadN tok rfl rfl rfl hbm9.cells (mnE_len _).symm) rfl ?_
              refine L.ef (e_buildSlice1 (e := 143) (cs := mnE (w64 (xc * yc), addV xv yv)) tok rfl rfl rfl rfl rfl rfl rfl rfl (by rw [mnE_len]; rfl) (by first | (simp only [size_addB, size_setB, size_drew]; rfl) | rfl) rfl ?_)
              refine L.ef (e_append (m := 1) tok rfl rfl rfl rfl rfl rfl rfl rfl rfl rfl (hO9.alloc _) (Bl.new _ _ _).cells (mnE_len _) (mnE_one _) (by unfold maxLen; omega) (by simp only []; omega) (by rw [size_addB]; omega) ?_)
              rintro v10 w10 ho10 hg10
              have hE10 := (hE9.addNew 143 (mnE (w64 (xc * yc), addV xv yv))).grown hg10 (by rw [size_addB]; omega) (fun q hq => (own_block_lt hO9 hq).1)
              refine L.rd (rd_assign rfl) rfl ?_
              refine L.nil ?_
              refine X.bk ?_
              refine X.sq ?_
              refine V.region ?_
              refine L.rd (rd_move rfl) rfl ?_
              (refine L.rd (rd_add3 rfl rfl ?_) rfl ?_; omega)
              refine L.rd (rd_assign rfl) rfl ?_
              refine L.nil ?_
              refine X.lp ⟨_, _, by omega, (by repeat' (first | exact trivial | refine ⟨rfl, ?_⟩)), j + 1, v10, rfl, rfl, by omega, hE10, ?_⟩
              rw [hsn2, ← List.append_assoc, List.flatMap_append]
              simpa [mulT, Nat.add_assoc] using ho10
        ·
          refine V.exit ?_
          refine X.sqExit ?_
          refine X.lpExit ?_
          refine X.bkHere ?_
          refine X.bk ?_
          refine X.sq ?_
          refine V.region ?_
          refine L.rd (rd_move rfl) rfl ?_
          (refine L.rd (rd_add3 rfl rfl ?_) rfl ?_; omega)
          refine L.rd (rd_assign rfl) rfl ?_
          refine L.nil ?_
          obtain rfl : j = B.length := by omega
          rw [List.take_of_length_le (Nat.le_refl _), ← hsn] at hO5
          exact X.lp ⟨_, _, by omega, (by repeat' (first | exact trivial | refine ⟨rfl, ?_⟩)), i + 1, qv, rfl, rfl, by omega, hE5, by rw [Nat.succ_mul]; exact hO5⟩
    ·
      refine V.exit ?_
      refine X.sqExit ?_
      refine X.lpExit ?_
      refine X.bkHere ?_
      refine X.sq ?_
      refine V.seq ?_
      obtain rfl : i = A.length := by omega
      rw [List.take_of_length_le (Nat.le_refl _), ← prods_len] at hO
      have hpl := prods_len A B
      have hr3 := hE3.bl hr2.lt hr2
      have hE4 := hE2.next hE3
      refine V.region ?_
      refine L.rd (rd_move rfl) rfl ?_
      refine L.ef (e_call rfl (finish_ok _ (prods_vl hHA hHB) (prods_cr A B) (by omega) _ _ _ hO (by omega)) rfl ?_)
      rintro _ w5 ⟨v5, L5, rfl, hO5, hq5, hg5⟩
      obtain ⟨a5, c5, rfl⟩ := own_form hO5.top
      have hE5 : Ext w2.heap.size w2 w5 := hE3.grown hg5 hwr (fun q hq => (own_block_lt hO hq).1)
      have hr5 := hE5.bl hr2.lt hr2
      refine L.rd (rd_ext0 rfl) rfl ?_
      refine L.rd (rd_ext1 rfl) rfl ?_
      refine L.ef (e_store (vs := [_]) tok rfl rfl rfl rfl hr5 rfl (by simp [Value.oneCell']) (by simp) ?_)
      refine L.rd (rd_assign rfl) rfl ?_
      refine L.nil ?_
      refine X.sq ?_
      refine V.ret ?_
      refine ret_c1 tok Yaam.results77 rfl rfl rfl rfl (Bl.cells (hr5.set _ _)) rfl ?_
      refine ⟨_, L5, by unfold rawP; cases nfOk (nf (prods A B)) <;> rfl, ?_, by rw [hq5]; unfold rawP; cases nfOk (nf (prods A B)) <;> rfl, (hE2.next hE5).set (by omega) _ _⟩
      rw [size_setB]
      exact (hO5.rg (Rg.set (lo := w.heap.size + 2) (hi := w.heap.size + 3) (by omega) _ _) (by omega)).low (by omega)
end Go.Proofs.Ybxaaw
