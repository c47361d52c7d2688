/-
  impl.sortM, walked.
-/
import Derived.Test.YbxaawGreatSortP2
set_option linter.unusedVariables false
set_option linter.unusedSimpArgs false
set_option maxRecDepth 10000
namespace Go.Mw
theorem take_set_snoc {α : Type} (C : List α) (k : Nat) (t : α) (h : k < C.length) : (C.set k t).take (k + 1) = C.take k ++ [t] := by
  rw [take_snoc (List.getElem?_set_self h), List.take_set_of_le (Nat.le_refl _)]
end Go.Mw
namespace Go.Proofs.YbxaawGreat
open Go.Mw
theorem cmpV_lt {a b : List Int} (h : cmpV a b < 0) : before a b = true := by
  unfold cmpV at h
  cases e : before a b with
  | true => rfl
  | false => rw [e] at h; simp only [Bool.false_eq_true, if_false] at h; split at h <;> omega
theorem cmpV_nlt {a b : List Int} (h : ¬ cmpV a b < 0) : before a b = false := by
  unfold cmpV at h
  cases e : before a b with
  | false => rfl
  | true => rw [e] at h; simp at h

theorem minInt_ok (a b : Nat) (w : World) : Ret Yaam.prog 133 [.int .i64 a, .int .i64 b] w fun r w' => r = .int .i64 ((min a b : Nat) : Int) ∧ w = w' := by
  refine enter2 Yaam.func133 Yaam.ntmps133 (by kernel_rfl) rfl rfl ?_
  refine V.seq ?_
  refine V.region ?_
  refine L.rd (rd_assign rfl) rfl ?_
  refine L.nil ?_
  refine X.sq ?_
  refine V.seq ?_
  refine V.seq ?_
  refine V.region ?_
  refine L.rd (rd_move rfl) rfl ?_
  refine L.rd (rd_move rfl) rfl ?_
  refine L.rd (rd_lss rfl rfl) rfl ?_
  refine L.nil ?_
  refine X.sq ?_
  first | refine V.cond rfl (fun h7 => ?_) (fun h7 => ?_) | refine V.condB rfl (fun h7 => ?_) (fun h7 => ?_)
  ·
    refine V.seq ?_
    refine V.region ?_
    refine L.rd (rd_move rfl) rfl ?_
    refine L.rd (rd_assign rfl) rfl ?_
    refine L.nil ?_
    refine X.sq ?_
    refine V.ret ?_
    refine X.sqRet ?_
    refine ret_1 Yaam.results133 rfl ?_
    exact ⟨by rw [Nat.min_eq_left (by omega)], rfl⟩
  ·
    refine V.skip ?_
    refine X.sq ?_
    refine V.seq ?_
    refine V.region ?_
    refine L.rd (rd_move rfl) rfl ?_
    refine L.rd (rd_assign rfl) rfl ?_
    refine L.nil ?_
    refine X.sq ?_
    refine V.ret ?_
    refine ret_1 Yaam.results133 rfl ?_
    exact ⟨by rw [Nat.min_eq_right (by omega)], rfl⟩

theorem sortM_ok (A : List MT) (hV : Vl A) (hn : A.length ≤ 1048576) (va : Value) (w : World) (B : Nat) (ho : w.ownsRow B 97 28 va A.length (A.flatMap mnE)) (hB : B ≤ w.heap.size) :
    Ret Yaam.prog 109 [va] w fun r w' => ∃ S, w'.ownsRow B 97 28 r S.length (S.flatMap mnE) ∧ Srt A S ∧ w.grownBy w' va.ownBlock := by
  obtain ⟨aa, ca, hva⟩ : ∃ a c, va = .slice a A.length c := by
    rcases own_slc ho with ⟨rfl, h0, _⟩ | ⟨g, cap, sp, _, hs⟩
    · rw [h0]; exact ⟨_, _, rfl⟩
    · exact ⟨_, _, hs.val⟩
  subst hva
  obtain ⟨n, hnA⟩ : ∃ n, n = A.length := ⟨_, rfl⟩
  refine enter1 Yaam.func109 Yaam.ntmps109 (by kernel_rfl) rfl rfl ?_
  refine V.seq ?_
  refine V.region ?_
  refine L.rd (rd_assign rfl) rfl ?_
  refine L.nil ?_
  refine X.sq ?_
  refine V.seq ?_
  refine V.region ?_
  refine L.rd (rd_move rfl) rfl ?_
  refine L.rd (rd_lenSlice tok rfl rfl rfl) rfl ?_
  refine L.rd (rd_assign rfl) rfl ?_
  refine L.nil ?_
  refine X.sq ?_
  refine V.seq ?_
  refine V.region ?_
  refine L.rd (rd_move rfl) rfl ?_
  refine L.ef (e_make (e := 97) (zs := mnE (0, z26)) (m := A.length) (c := A.length) tok rfl rfl rfl rfl rfl rfl rfl rfl (by first | (simp only [size_addB, size_setB, size_drew]; rfl) | rfl) rfl (by omega) (by simp only []; omega) (by omega) ?_)
  refine L.rd (rd_assign rfl) rfl ?_
  refine L.nil ?_
  refine X.sq ?_
  refine V.seq ?_
  refine V.seq ?_
  refine V.region ?_
  refine L.rd (rd_assign rfl) rfl ?_
  refine L.nil ?_
  refine X.sq ?_
  refine V.block ?_
  have hbuf := Bl.new w 97 ((List.replicate A.length (mnE (0, z26))).flatten)
  rw [fm_replicate mnE_len] at hbuf
  have hobuf := own_of_bl (base := B) (sz := 28) (n := A.length) hbuf (by rw [fm_length mnE_len]; simp) hB (by unfold maxLen; omega)
  have hTwo : Two 97 B w (addB w 97 ((List.replicate A.length (mnE (0, z26))).flatten)) (.slice aa A.length ca) (.slice aa A.length ca) (.slice (some ⟨w.heap.size, 0, none⟩) A.length A.length) A (List.replicate A.length (0, z26)) := by
    refine ⟨ho.alloc _, ?_, ?_, grown_ext _ ((Ext.refl _ _).addNew _ _), fun k hk => .inl hk, fun k hk => ?_⟩
    · rw [fm_replicate mnE_len, List.length_replicate]; exact hobuf
    · intro k hk e
      simp only [Value.ownBlock, Option.some.injEq] at e
      have := (own_block_lt ho hk).2
      omega
    · simp only [Value.ownBlock, Option.some.injEq] at hk
      exact .inr (by omega)
  refine V.loop (fun m l wr => ∃ (q : Nat) (x y : Value) (A' C : List MT), l = [(0, x), (3, .int .i64 A.length), (4, y), (5, .int .i64 q)] ∧ m = A.length - q ∧ 1 ≤ q ∧ q ≤ 2097152 ∧ Two 97 B w wr (.slice aa A.length ca) x y A' C ∧ Rn q A' ∧ (∀ v, csum A' v = csum A v) ∧ A'.length = A.length ∧ C.length = A.length ∧ (∀ t ∈ A', t ∈ A)) ?_ ?_
  ·
    exact ⟨_, _, (by repeat' (first | exact trivial | refine ⟨rfl, ?_⟩)), 1, _, _, A, _, rfl, rfl, by omega, by omega, hTwo, Rn.one A, fun v => rfl, rfl, by simp, fun t ht => ht⟩
  ·
    clear hbuf hobuf hTwo
    rintro m l wr ⟨q, x, y, A', C, rfl, rfl, hq1, hq2, hW, hRn, hsum, hA'l, hCl, hmem⟩
    refine V.seq ?_
    refine V.seq ?_
    refine V.region ?_
    refine L.rd (rd_move rfl) rfl ?_
    refine L.rd (rd_move rfl) rfl ?_
    refine L.rd (rd_lss rfl rfl) rfl ?_
    refine L.nil ?_
    refine X.sq ?_
    first | refine V.cond rfl (fun h18 => ?_) (fun h18 => ?_) | refine V.condB rfl (fun h18 => ?_) (fun h18 => ?_)
    ·
      obtain ⟨gx, cx, rfl, hccx, -, hcx⟩ := own_some hW.ox (by omega)
      obtain ⟨gy, cy, rfl, hccy, -, -⟩ := own_some hW.oy (by omega)
      rw [hA'l] at hW hccx
      rw [hCl] at hW hccy
      rw [hA'l, hCl]
      have hVA : Vl A' := fun t ht => hV t (hmem t ht)
      refine V.skip ?_
      refine X.sq ?_
      refine V.seq ?_
      refine V.block ?_
      refine V.seq ?_
      refine V.seq ?_
      refine V.region ?_
      refine L.rd (rd_assign rfl) rfl ?_
      refine L.nil ?_
      refine X.sq ?_
      refine V.block ?_
      refine V.loop (fun m l w2 => ∃ (lo : Nat) (C Dn : List MT), l = [(0, .slice (some ⟨gx, 0, none⟩) A.length cx), (3, .int .i64 A.length), (4, .slice (some ⟨gy, 0, none⟩) A.length cy), (5, .int .i64 q), (6, .int .i64 lo)] ∧ m = A.length - lo ∧ lo % (2 * q) = 0 ∧ lo ≤ 8388608 ∧ Two 97 B w w2 (.slice aa A.length ca) (.slice (some ⟨gx, 0, none⟩) A.length cx) (.slice (some ⟨gy, 0, none⟩) A.length cy) A' C ∧ C.length = A.length ∧ Ps A' q lo Dn ∧ C.take (min lo A.length) = Dn) ?_ ?_
      ·
        exact ⟨_, _, (by repeat' (first | exact trivial | refine ⟨rfl, ?_⟩)), 0, C, [], rfl, rfl, by simp, by omega, hW, hCl, Ps.start A' q, by simp⟩
      ·
        clear hW hCl
        rintro m l w2 ⟨lo, C, Dn, rfl, rfl, hlo, hlo2, hW, hCl, hPs, hCD⟩
        refine V.seq ?_
        refine V.seq ?_
        refine V.region ?_
        refine L.rd (rd_move rfl) rfl ?_
        refine L.rd (rd_move rfl) rfl ?_
        refine L.rd (rd_lss rfl rfl) rfl ?_
        refine L.nil ?_
        refine X.sq ?_
        first | refine V.cond rfl (fun h23 => ?_) (fun h23 => ?_) | refine V.condB rfl (fun h23 => ?_) (fun h23 => ?_)
        ·
          have hDl := hPs.len
          refine V.skip ?_
          refine X.sq ?_
          refine V.seq ?_
          refine V.block ?_
          refine V.seq ?_
          refine V.region ?_
          refine L.rd (rd_move rfl) rfl ?_
          refine L.rd (rd_move rfl) rfl ?_
          refine L.rd (rd_addE (r := ((lo + q : Nat) : Int)) rfl rfl (by rw [wrap_i64_in (by omega)]; omega)) rfl ?_
          refine L.rd (rd_move rfl) rfl ?_
          refine L.ef (e_call rfl (minInt_ok (lo + q) A.length _) rfl ?_)
          rintro _ _ ⟨rfl, rfl⟩
          refine L.rd (rd_assign rfl) rfl ?_
          refine L.nil ?_
          refine X.sq ?_
          refine V.seq ?_
          refine V.region ?_
          refine L.rd (rd_move rfl) rfl ?_
          refine L.rd (rd_move rfl) rfl ?_
          refine L.rd (rd_mulE (r := ((2 * q : Nat) : Int)) rfl rfl (by rw [wrap_i64_in (by omega)]; omega)) rfl ?_
          refine L.rd (rd_addE (r := ((lo + 2 * q : Nat) : Int)) rfl rfl (by rw [wrap_i64_in (by omega)]; omega)) rfl ?_
          refine L.rd (rd_move rfl) rfl ?_
          refine L.ef (e_call rfl (minInt_ok (lo + 2 * q) A.length _) rfl ?_)
          rintro _ _ ⟨rfl, rfl⟩
          obtain ⟨mid, hmid⟩ : ∃ mid, mid = min (lo + q) A.length := ⟨_, rfl⟩
          obtain ⟨hi, hhi⟩ : ∃ hi, hi = min (lo + 2 * q) A.length := ⟨_, rfl⟩
          rw [← hmid, ← hhi]
          have hlq : lo % q = 0 := Nat.mod_eq_zero_of_dvd (Nat.dvd_trans ⟨2, by omega⟩ (Nat.dvd_of_mod_eq_zero hlo))
          have hwk1 : Wk (hf1 A' lo mid) := hRn.chunk (by omega) hlq (by omega)
          have hwk2 : Wk (hf1 A' mid hi) := by
            rcases Nat.le_total (lo + q) A.length with h1 | h1
            · have e : mid = lo + q := by omega
              rw [e]
              exact hRn.chunk (by omega) (by rw [Nat.add_mod_right]; exact hlq) (by omega)
            · have e : hi - mid = 0 := by omega
              unfold hf1
              rw [e]; exact List.Pairwise.nil
          have hl1 : (hf1 A' lo mid).length = mid - lo := hf_len (by omega) (by omega)
          have hl2 : (hf1 A' mid hi).length = hi - mid := hf_len (by omega) (by omega)
          have hv1 : ∀ t ∈ hf1 A' lo mid, t.2.length = 26 := fun t ht => (hVA t (hf_mem ht)).len
          have hv2 : ∀ t ∈ hf1 A' mid hi, t.2.length = 26 := fun t ht => (hVA t (hf_mem ht)).len
          refine L.rd (rd_assign rfl) rfl ?_
          refine L.nil ?_
          refine X.sq ?_
          refine V.seq ?_
          refine V.region ?_
          refine L.rd (rd_move rfl) rfl ?_
          refine L.rd (rd_assign rfl) rfl ?_
          refine L.nil ?_
          refine X.sq ?_
          refine V.seq ?_
          refine V.region ?_
          refine L.rd (rd_move rfl) rfl ?_
          refine L.rd (rd_assign rfl) rfl ?_
          refine L.nil ?_
          refine X.sq ?_
          refine V.seq ?_
          refine V.region ?_
          refine L.rd (rd_move rfl) rfl ?_
          refine L.rd (rd_assign rfl) rfl ?_
          refine L.nil ?_
          refine X.sq ?_
          refine V.seq ?_
          refine V.block ?_
          refine V.loop (fun m l w3 => ∃ (i j k : Nat) (C O : List MT), l = [(0, .slice (some ⟨gx, 0, none⟩) A.length cx), (3, .int .i64 A.length), (4, .slice (some ⟨gy, 0, none⟩) A.length cy), (5, .int .i64 q), (6, .int .i64 lo), (7, .int .i64 mid), (8, .int .i64 hi), (9, .int .i64 i), (10, .int .i64 j), (11, .int .i64 k)] ∧ m = (mid - i) + (hi - j) ∧ lo ≤ i ∧ i ≤ mid ∧ mid ≤ j ∧ j ≤ hi ∧ k = i + (j - mid) ∧ Two 97 B w w3 (.slice aa A.length ca) (.slice (some ⟨gx, 0, none⟩) A.length cx) (.slice (some ⟨gy, 0, none⟩) A.length cy) A' C ∧ C.length = A.length ∧ Mg (hf1 A' lo mid) (hf1 A' mid hi) (i - lo) (j - mid) O ∧ C.take k = Dn ++ O) ?_ ?_
          ·
            exact ⟨_, _, (by repeat' (first | exact trivial | refine ⟨rfl, ?_⟩)), lo, mid, lo, C, [], rfl, rfl, by omega, by omega, by omega, by omega, by omega, hW, hCl, by rw [Nat.sub_self, Nat.sub_self]; exact Mg.start _ _, by rw [← hCD, Nat.min_eq_left (by omega)]; simp⟩
          ·
            clear hW hCl hCD
            rintro m l w3 ⟨i, j, k, C, O, rfl, rfl, hi1, hi2, hj1, hj2, hk, hW, hCl, hM, hCO⟩
            refine V.seq ?_
            refine V.seq ?_
            refine V.region ?_
            refine L.rd (rd_move rfl) rfl ?_
            refine L.rd (rd_move rfl) rfl ?_
            refine L.rd (rd_lss rfl rfl) rfl ?_
            refine L.rd (rd_move rfl) rfl ?_
            first | refine L.partG rfl rfl (fun g45 => ?_) (fun g45 => ?_) | refine L.partGB rfl rfl (fun g45 => ?_) (fun g45 => ?_)
            ·
              refine L.yes rfl rfl ?_
              refine L.rd (rd_move rfl) rfl ?_
              refine L.yes rfl rfl ?_
              refine L.rd (rd_move rfl) rfl ?_
              refine L.yes rfl rfl ?_
              refine L.rd (rd_lss rfl rfl) rfl ?_
              refine L.rd (rd_pickT rfl rfl) rfl ?_
              refine L.nil ?_
              refine X.sq ?_
              first | refine V.cond rfl (fun h49 => ?_) (fun h49 => ?_) | refine V.condB rfl (fun h49 => ?_) (fun h49 => ?_)
              ·
                refine V.skip ?_
                refine X.sq ?_
                refine V.block ?_
                refine V.seq ?_
                refine V.seq ?_
                obtain ⟨⟨ic, iv⟩, hI⟩ := nth_of_lt A' i (by omega)
                obtain ⟨⟨jc, jv⟩, hJ⟩ := nth_of_lt A' j (by omega)
                have hiv := hVA _ (List.mem_of_getElem? hI)
                have hjv := hVA _ (List.mem_of_getElem? hJ)
                simp only at hiv hjv
                obtain ⟨gx', cx', hvx, -, -, hcx⟩ := own_some hW.ox (by omega)
                simp only [Value.slice.injEq, Option.some.injEq, Addr.mk.injEq] at hvx
                obtain ⟨⟨rfl, -, -⟩, -, -⟩ := hvx
                have hci := mn_at hcx hI
                have hcj := mn_at hcx hJ
                have hmi : Mn w3.drew gx (0 + i * 28) ic iv := ⟨by rw [← mnE_eq hiv.len]; exact hci.le (LeC.drew _), hiv⟩
                have hmj : Mn w3.drew gx (0 + j * 28) jc jv := ⟨by rw [← mnE_eq hjv.len]; exact hcj.le (LeC.drew _), hjv⟩
                have hgI := hf_get (lo := lo) (mid := mid) (by omega) hi1 hI
                have hgJ := hf_get (lo := mid) (mid := hi) (by omega) hj1 hJ
                refine V.draw [] mixed ?_
                refine D.take 0 [true, false, false, false, false, false, false, false] (.sq (.sq (.bk (.lp (.bk (.sq (.bk (.sq (.lp (.bk (.sq (.bk (.sq (.lp (.bk (.sq .bd)))))))))))))))) rfl (rd_move rfl) rfl (by kernel_rfl) rfl (LeC.drew _) ?_
                refine D.take 1 [true, true, false, false, false, false, false, false] (.sq (.sq (.bk (.lp (.bk (.sq (.bk (.sq (.lp (.bk (.sq (.bk (.sq (.lp (.bk (.sq .bd)))))))))))))))) rfl (rd_move rfl) rfl (by kernel_rfl) rfl (LeC.drew _) ?_
                (refine D.take 2 [true, true, true, false, false, false, false, false] (.sq (.sq (.bk (.lp (.bk (.sq (.bk (.sq (.lp (.bk (.sq (.bk (.sq (.lp (.bk (.sq .bd)))))))))))))))) rfl (rd_indexSlice (sz := 28) tok rfl rfl rfl rfl rfl rfl rfl ?_) rfl (by kernel_rfl) rfl (LeC.drew _) ?_; omega)
                refine D.take 3 [true, true, true, true, false, false, false, false] (.sq (.sq (.bk (.lp (.bk (.sq (.bk (.sq (.lp (.bk (.sq (.bk (.sq (.lp (.bk (.sq .bd)))))))))))))))) rfl (rd_move rfl) rfl (by kernel_rfl) rfl (LeC.drew _) ?_
                refine D.take 4 [true, true, true, true, true, false, false, false] (.sq (.sq (.bk (.lp (.bk (.sq (.bk (.sq (.lp (.bk (.sq (.bk (.sq (.lp (.bk (.sq .bd)))))))))))))))) rfl (rd_move rfl) rfl (by kernel_rfl) rfl (LeC.drew _) ?_
                (refine D.take 5 [true, true, true, true, true, true, false, false] (.sq (.sq (.bk (.lp (.bk (.sq (.bk (.sq (.lp (.bk (.sq (.bk (.sq (.lp (.bk (.sq .bd)))))))))))))))) rfl (rd_indexSlice (sz := 28) tok rfl rfl rfl rfl rfl rfl rfl ?_) rfl (by kernel_rfl) rfl (LeC.drew _) ?_; omega)
                refine D.one 6 [true, true, true, true, true, true, true, false] rfl (by kernel_rfl) rfl (e_call rfl (cmpMono_ok _ _ _ _ jc ic jv iv _ hmj hmi) rfl ?_)
                rintro _ w4 ⟨rfl, he4'⟩
                have he4 : Ext w3.heap.size w3 w4 := (Ext.refl _ _).drew.trans he4'
                have hW4 := hW.next he4
                have hle4 := he4.leC
                refine ⟨fun _ => hle4, ?_⟩
                refine D.take 7 [true, true, true, true, true, true, true, true] (.sq (.sq (.bk (.lp (.bk (.sq (.bk (.sq (.lp (.bk (.sq (.bk (.sq (.lp (.bk (.sq .bd)))))))))))))))) rfl (rd_lss rfl rfl) rfl (by kernel_rfl) rfl hle4 ?_
                refine D.done (by kernel_rfl) ?_
                refine X.sq ?_
                refine V.cut (fun l w' => ∃ (i' j' : Nat) (C' O' : List MT), l = [(0, .slice (some ⟨gx, 0, none⟩) A.length cx), (3, .int .i64 A.length), (4, .slice (some ⟨gy, 0, none⟩) A.length cy), (5, .int .i64 q), (6, .int .i64 lo), (7, .int .i64 mid), (8, .int .i64 hi), (9, .int .i64 i'), (10, .int .i64 j'), (11, .int .i64 k)] ∧ i ≤ i' ∧ j ≤ j' ∧ i' + j' = i + j + 1 ∧ i' ≤ mid ∧ j' ≤ hi ∧ Two 97 B w w' (.slice aa A.length ca) (.slice (some ⟨gx, 0, none⟩) A.length cx) (.slice (some ⟨gy, 0, none⟩) A.length cy) A' C' ∧ C'.length = A.length ∧ Mg (hf1 A' lo mid) (hf1 A' mid hi) (i' - lo) (j' - mid) O' ∧ C'.take (k + 1) = Dn ++ O') ?_ ?_
                ·
                  first | refine V.cond rfl (fun h57 => ?_) (fun h57 => ?_) | refine V.condB rfl (fun h57 => ?_) (fun h57 => ?_)
                  ·
                    obtain ⟨cs, hbs, hln, hW5⟩ := hW4.put (k := k) (t := (jc, jv)) (by omega)
                    refine V.seq ?_
                    refine V.region ?_
                    refine L.rd (rd_move rfl) rfl ?_
                    refine L.rd (rd_move rfl) rfl ?_
                    refine L.rd (rd_move rfl) rfl ?_
                    refine L.rd (rd_move rfl) rfl ?_
                    (refine L.rd (rd_indexSlice (sz := 28) tok rfl rfl rfl rfl rfl rfl rfl ?_) rfl ?_; omega)
                    refine L.rd (rd_loadN tok rfl rfl rfl (hcj.le hle4) (mnE_len _).symm) rfl ?_
                    (refine L.rd (rd_indexSlice (sz := 28) tok rfl rfl rfl rfl rfl rfl rfl ?_) rfl ?_; omega)
                    refine L.ef (e_store (vs := mnE (jc, jv)) tok rfl rfl rfl rfl hbs (mnE_len _) (mnE_one _) (by rw [mnE_len]; simp; omega) ?_)
                    refine L.nil ?_
                    refine X.sq ?_
                    refine V.region ?_
                    refine L.rd (rd_move rfl) rfl ?_
                    (refine L.rd (rd_add3 rfl rfl ?_) rfl ?_; omega)
                    refine L.rd (rd_assign rfl) rfl ?_
                    refine L.nil ?_
                    simp only [Nat.zero_add, Int.toNat_natCast]
                    refine X.ct ⟨_, (by repeat' (first | exact trivial | refine ⟨rfl, ?_⟩)), i, j + 1, C.set k (jc, jv), O ++ [(jc, jv)], rfl, by omega, by omega, by omega, by omega, by omega, hW5, by simpa using hCl, ?_, ?_⟩
                    · have h5 := hM.takeB hwk1 hwk2 hv1 hv2 hgI hgJ (cmpV_lt h57)
                      rw [show j + 1 - mid = j - mid + 1 by omega]; exact h5
                    · rw [take_set_snoc C k _ (by omega), hCO, List.append_assoc]
                  ·
                    obtain ⟨cs, hbs, hln, hW5⟩ := hW4.put (k := k) (t := (ic, iv)) (by omega)
                    refine V.seq ?_
                    refine V.region ?_
                    refine L.rd (rd_move rfl) rfl ?_
                    refine L.rd (rd_move rfl) rfl ?_
                    refine L.rd (rd_move rfl) rfl ?_
                    refine L.rd (rd_move rfl) rfl ?_
                    (refine L.rd (rd_indexSlice (sz := 28) tok rfl rfl rfl rfl rfl rfl rfl ?_) rfl ?_; omega)
                    refine L.rd (rd_loadN tok rfl rfl rfl (hci.le hle4) (mnE_len _).symm) rfl ?_
                    (refine L.rd (rd_indexSlice (sz := 28) tok rfl rfl rfl rfl rfl rfl rfl ?_) rfl ?_; omega)
                    refine L.ef (e_store (vs := mnE (ic, iv)) tok rfl rfl rfl rfl hbs (mnE_len _) (mnE_one _) (by rw [mnE_len]; simp; omega) ?_)
                    refine L.nil ?_
                    refine X.sq ?_
                    refine V.region ?_
                    refine L.rd (rd_move rfl) rfl ?_
                    (refine L.rd (rd_add3 rfl rfl ?_) rfl ?_; omega)
                    refine L.rd (rd_assign rfl) rfl ?_
                    refine L.nil ?_
                    simp only [Nat.zero_add, Int.toNat_natCast]
                    refine X.ct ⟨_, (by repeat' (first | exact trivial | refine ⟨rfl, ?_⟩)), i + 1, j, C.set k (ic, iv), O ++ [(ic, iv)], rfl, by omega, by omega, by omega, by omega, by omega, hW5, by simpa using hCl, ?_, ?_⟩
                    · have h5 := hM.takeA hwk1 hwk2 hv1 hv2 hgI (fun b' hb' => by rw [hgJ] at hb'; simp only [Option.some.injEq] at hb'; subst hb'; exact cmpV_nlt h57)
                      rw [show i + 1 - lo = i - lo + 1 by omega]; exact h5
                    · rw [take_set_snoc C k _ (by omega), hCO, List.append_assoc]
                ·
                  clear hW4
                  rintro l w5 ⟨i', j', C', O', rfl, h51, h52, h53, h54, h55, hW5, hC5, hM5, hCO5⟩
                  refine X.sq ?_
                  refine V.region ?_
                  refine L.rd (rd_move rfl) rfl ?_
                  (refine L.rd (rd_add3 rfl rfl ?_) rfl ?_; omega)
                  refine L.rd (rd_assign rfl) rfl ?_
                  refine L.nil ?_
                  refine X.bk ?_
                  exact X.lp ⟨_, _, by omega, (by repeat' (first | exact trivial | refine ⟨rfl, ?_⟩)), i', j', k + 1, C', O', rfl, rfl, by omega, by omega, by omega, by omega, by omega, hW5, hC5, hM5, hCO5⟩
              ·
                refine V.exit ?_
                refine X.sqExit ?_
                refine X.lpExit ?_
                refine X.bkHere ?_
                refine X.sq ?_
                refine V.seq ?_
                refine V.block ?_
                refine V.loop (fun m l w3 => ∃ (i k : Nat) (C O : List MT), l = [(0, .slice (some ⟨gx, 0, none⟩) A.length cx), (3, .int .i64 A.length), (4, .slice (some ⟨gy, 0, none⟩) A.length cy), (5, .int .i64 q), (6, .int .i64 lo), (7, .int .i64 mid), (8, .int .i64 hi), (9, .int .i64 i), (10, .int .i64 j), (11, .int .i64 k)] ∧ m = mid - i ∧ lo ≤ i ∧ i ≤ mid ∧ (i < mid → j = hi) ∧ k = i + (j - mid) ∧ Two 97 B w w3 (.slice aa A.length ca) (.slice (some ⟨gx, 0, none⟩) A.length cx) (.slice (some ⟨gy, 0, none⟩) A.length cy) A' C ∧ C.length = A.length ∧ Mg (hf1 A' lo mid) (hf1 A' mid hi) (i - lo) (j - mid) O ∧ C.take k = Dn ++ O) ?_ ?_
                ·
                  exact ⟨_, _, (by repeat' (first | exact trivial | refine ⟨rfl, ?_⟩)), i, k, C, O, rfl, rfl, by omega, by omega, by omega, by omega, hW, hCl, hM, hCO⟩
                ·
                  clear hW hCl hM hCO hi1 hi2 hk
                  rintro m l w3 ⟨i, k, C, O, rfl, rfl, hi1, hi2, hij, hk, hW, hCl, hM, hCO⟩
                  refine V.seq ?_
                  refine V.seq ?_
                  refine V.region ?_
                  refine L.rd (rd_move rfl) rfl ?_
                  refine L.rd (rd_move rfl) rfl ?_
                  refine L.rd (rd_lss rfl rfl) rfl ?_
                  refine L.nil ?_
                  refine X.sq ?_
                  first | refine V.cond rfl (fun h80 => ?_) (fun h80 => ?_) | refine V.condB rfl (fun h80 => ?_) (fun h80 => ?_)
                  ·
                    obtain ⟨⟨ic, iv⟩, hI⟩ := nth_of_lt A' i (by omega)
                    obtain ⟨gx', cx', hvx, -, -, hcx⟩ := own_some hW.ox (by omega)
                    simp only [Value.slice.injEq, Option.some.injEq, Addr.mk.injEq] at hvx
                    obtain ⟨⟨rfl, -, -⟩, -, -⟩ := hvx
                    have hci := mn_at hcx hI
                    have hgI := hf_get (lo := lo) (mid := mid) (by omega) hi1 hI
                    obtain ⟨cs, hbs, hln, hW5⟩ := hW.put (k := k) (t := (ic, iv)) (by omega)
                    refine V.skip ?_
                    refine X.sq ?_
                    refine V.block ?_
                    refine V.seq ?_
                    refine V.region ?_
                    refine L.rd (rd_move rfl) rfl ?_
                    refine L.rd (rd_move rfl) rfl ?_
                    refine L.rd (rd_move rfl) rfl ?_
                    refine L.rd (rd_move rfl) rfl ?_
                    (refine L.rd (rd_indexSlice (sz := 28) tok rfl rfl rfl rfl rfl rfl rfl ?_) rfl ?_; omega)
                    refine L.rd (rd_loadN tok rfl rfl rfl hci (mnE_len _).symm) rfl ?_
                    (refine L.rd (rd_indexSlice (sz := 28) tok rfl rfl rfl rfl rfl rfl rfl ?_) rfl ?_; omega)
                    refine L.ef (e_store (vs := mnE (ic, iv)) tok rfl rfl rfl rfl hbs (mnE_len _) (mnE_one _) (by rw [mnE_len]; simp; omega) ?_)
                    refine L.nil ?_
                    refine X.sq ?_
                    refine V.seq ?_
                    refine V.region ?_
                    refine L.rd (rd_move rfl) rfl ?_
                    (refine L.rd (rd_add3 rfl rfl ?_) rfl ?_; omega)
                    refine L.rd (rd_assign rfl) rfl ?_
                    refine L.nil ?_
                    refine X.sq ?_
                    refine V.region ?_
                    refine L.rd (rd_move rfl) rfl ?_
                    (refine L.rd (rd_add3 rfl rfl ?_) rfl ?_; omega)
                    refine L.rd (rd_assign rfl) rfl ?_
                    refine L.nil ?_
                    refine X.bk ?_
                    simp only [Nat.zero_add, Int.toNat_natCast]
                    refine X.lp ⟨_, _, by omega, (by repeat' (first | exact trivial | refine ⟨rfl, ?_⟩)), i + 1, k + 1, C.set k (ic, iv), O ++ [(ic, iv)], rfl, rfl, by omega, by omega, by omega, by omega, hW5, by simpa using hCl, ?_, ?_⟩
                    · have h5 := hM.takeA hwk1 hwk2 hv1 hv2 hgI (fun b' hb' => by
                        have := (List.getElem?_eq_some_iff.1 hb').1
                        rw [hl2] at this; omega)
                      rw [show i + 1 - lo = i - lo + 1 by omega]; exact h5
                    · rw [take_set_snoc C k _ (by omega), hCO, List.append_assoc]
                  ·
                    refine V.exit ?_
                    refine X.sqExit ?_
                    refine X.lpExit ?_
                    refine X.bkHere ?_
                    refine X.sq ?_
                    refine V.block ?_
                    have him : i = mid := by omega
                    subst him
                    refine V.loop (fun m l w3 => ∃ (j k : Nat) (C O : List MT), l = [(0, .slice (some ⟨gx, 0, none⟩) A.length cx), (3, .int .i64 A.length), (4, .slice (some ⟨gy, 0, none⟩) A.length cy), (5, .int .i64 q), (6, .int .i64 lo), (8, .int .i64 hi), (10, .int .i64 j), (11, .int .i64 k)] ∧ m = hi - j ∧ i ≤ j ∧ j ≤ hi ∧ k = j ∧ Two 97 B w w3 (.slice aa A.length ca) (.slice (some ⟨gx, 0, none⟩) A.length cx) (.slice (some ⟨gy, 0, none⟩) A.length cy) A' C ∧ C.length = A.length ∧ Mg (hf1 A' lo i) (hf1 A' i hi) (i - lo) (j - i) O ∧ C.take k = Dn ++ O) ?_ ?_
                    ·
                      exact ⟨_, _, (by repeat' (first | exact trivial | refine ⟨rfl, ?_⟩)), j, k, C, O, rfl, rfl, by omega, by omega, by omega, hW, hCl, hM, hCO⟩
                    ·
                      clear hW hCl hM hCO hk hij hj1 hj2
                      rintro m l w3 ⟨j, k, C, O, rfl, rfl, hj1, hj2, rfl, hW, hCl, hM, hCO⟩
                      refine V.seq ?_
                      refine V.seq ?_
                      refine V.region ?_
                      refine L.rd (rd_move rfl) rfl ?_
                      refine L.rd (rd_move rfl) rfl ?_
                      refine L.rd (rd_lss rfl rfl) rfl ?_
                      refine L.nil ?_
                      refine X.sq ?_
                      first | refine V.cond rfl (fun h94 => ?_) (fun h94 => ?_) | refine V.condB rfl (fun h94 => ?_) (fun h94 => ?_)
                      ·
                        obtain ⟨⟨jc, jv⟩, hJ⟩ := nth_of_lt A' k (by omega)
                        obtain ⟨gx', cx', hvx, -, -, hcx⟩ := own_some hW.ox (by omega)
                        simp only [Value.slice.injEq, Option.some.injEq, Addr.mk.injEq] at hvx
                        obtain ⟨⟨rfl, -, -⟩, -, -⟩ := hvx
                        have hcj := mn_at hcx hJ
                        have hgJ := hf_get (lo := i) (mid := hi) (by omega) hj1 hJ
                        obtain ⟨cs, hbs, hln, hW5⟩ := hW.put (k := k) (t := (jc, jv)) (by omega)
                        refine V.skip ?_
                        refine X.sq ?_
                        refine V.block ?_
                        refine V.seq ?_
                        refine V.region ?_
                        refine L.rd (rd_move rfl) rfl ?_
                        refine L.rd (rd_move rfl) rfl ?_
                        refine L.rd (rd_move rfl) rfl ?_
                        refine L.rd (rd_move rfl) rfl ?_
                        (refine L.rd (rd_indexSlice (sz := 28) tok rfl rfl rfl rfl rfl rfl rfl ?_) rfl ?_; omega)
                        refine L.rd (rd_loadN tok rfl rfl rfl hcj (mnE_len _).symm) rfl ?_
                        (refine L.rd (rd_indexSlice (sz := 28) tok rfl rfl rfl rfl rfl rfl rfl ?_) rfl ?_; omega)
                        refine L.ef (e_store (vs := mnE (jc, jv)) tok rfl rfl rfl rfl hbs (mnE_len _) (mnE_one _) (by rw [mnE_len]; simp; omega) ?_)
                        refine L.nil ?_
                        refine X.sq ?_
                        refine V.seq ?_
                        refine V.region ?_
                        refine L.rd (rd_move rfl) rfl ?_
                        (refine L.rd (rd_add3 rfl rfl ?_) rfl ?_; omega)
                        refine L.rd (rd_assign rfl) rfl ?_
                        refine L.nil ?_
                        refine X.sq ?_
                        refine V.region ?_
                        refine L.rd (rd_move rfl) rfl ?_
                        (refine L.rd (rd_add3 rfl rfl ?_) rfl ?_; omega)
                        refine L.rd (rd_assign rfl) rfl ?_
                        refine L.nil ?_
                        refine X.bk ?_
                        simp only [Nat.zero_add, Int.toNat_natCast]
                        refine X.lp ⟨_, _, by omega, (by repeat' (first | exact trivial | refine ⟨rfl, ?_⟩)), k + 1, k + 1, C.set k (jc, jv), O ++ [(jc, jv)], rfl, rfl, by omega, by omega, rfl, hW5, by simpa using hCl, ?_, ?_⟩
                        · have h5 := hM.takeB' hwk2 (by omega) hgJ
                          rw [show k + 1 - i = k - i + 1 by omega]; exact h5
                        · rw [take_set_snoc C k _ (by omega), hCO, List.append_assoc]
                      ·
                        refine V.exit ?_
                        refine X.sqExit ?_
                        refine X.lpExit ?_
                        refine X.bkHere ?_
                        refine X.bk ?_
                        refine X.sq ?_
                        refine V.region ?_
                        refine L.rd (rd_move rfl) rfl ?_
                        refine L.rd (rd_move rfl) rfl ?_
                        refine L.rd (rd_mulE (r := ((2 * q : Nat) : Int)) rfl rfl (by rw [wrap_i64_in (by omega)]; omega)) rfl ?_
                        refine L.rd (rd_addE (r := ((lo + 2 * q : Nat) : Int)) rfl rfl (by rw [wrap_i64_in (by omega)]; omega)) rfl ?_
                        refine L.rd (rd_assign rfl) rfl ?_
                        refine L.nil ?_
                        have hkh : k = hi := by omega
                        have hsrt := hM.rest hwk1 hwk2 (by omega) (by omega) (.inl (by omega))
                        rw [drop_end (by omega), drop_end (by omega), List.append_nil, List.append_nil, ← hf_join (by omega) (by omega)] at hsrt
                        have hps2 := hPs.step (by omega) hlo (by omega) (O := O) (by rw [hA'l, ← hhi]; exact hsrt)
                        refine X.lp ⟨_, _, by omega, (by repeat' (first | exact trivial | refine ⟨rfl, ?_⟩)), lo + 2 * q, C, Dn ++ O, rfl, rfl, ?_, by omega, hW, hCl, hps2, ?_⟩
                        · rw [Nat.add_mod_right]; exact hlo
                        · rw [← hhi, ← hkh]; exact hCO
            ·
              refine L.no rfl rfl rfl rfl ?_
              refine L.no rfl rfl rfl rfl ?_
              refine L.no rfl rfl rfl rfl ?_
              refine L.rd (rd_pickF rfl rfl) rfl ?_
              refine L.nil ?_
              refine X.sq ?_
              refine V.condF rfl ?_
              refine V.exit ?_
              refine X.sqExit ?_
              refine X.lpExit ?_
              refine X.bkHere ?_
              refine X.sq ?_
              refine V.seq ?_
              refine V.block ?_
              refine V.loop (fun m l w3 => ∃ (i k : Nat) (C O : List MT), l = [(0, .slice (some ⟨gx, 0, none⟩) A.length cx), (3, .int .i64 A.length), (4, .slice (some ⟨gy, 0, none⟩) A.length cy), (5, .int .i64 q), (6, .int .i64 lo), (7, .int .i64 mid), (8, .int .i64 hi), (9, .int .i64 i), (10, .int .i64 j), (11, .int .i64 k)] ∧ m = mid - i ∧ lo ≤ i ∧ i ≤ mid ∧ (i < mid → j = hi) ∧ k = i + (j - mid) ∧ Two 97 B w w3 (.slice aa A.length ca) (.slice (some ⟨gx, 0, none⟩) A.length cx) (.slice (some ⟨gy, 0, none⟩) A.length cy) A' C ∧ C.length = A.length ∧ Mg (hf1 A' lo mid) (hf1 A' mid hi) (i - lo) (j - mid) O ∧ C.take k = Dn ++ O) ?_ ?_
              ·
                exact ⟨_, _, (by repeat' (first | exact trivial | refine ⟨rfl, ?_⟩)), i, k, C, O, rfl, rfl, by omega, by omega, by omega, by omega, hW, hCl, hM, hCO⟩
              ·
                clear hW hCl hM hCO hi1 hi2 hk
                rintro m l w3 ⟨i, k, C, O, rfl, rfl, hi1, hi2, hij, hk, hW, hCl, hM, hCO⟩
                refine V.seq ?_
                refine V.seq ?_
                refine V.region ?_
                refine L.rd (rd_move rfl) rfl ?_
                refine L.rd (rd_move rfl) rfl ?_
                refine L.rd (rd_lss rfl rfl) rfl ?_
                refine L.nil ?_
                refine X.sq ?_
                first | refine V.cond rfl (fun h80 => ?_) (fun h80 => ?_) | refine V.condB rfl (fun h80 => ?_) (fun h80 => ?_)
                ·
                  obtain ⟨⟨ic, iv⟩, hI⟩ := nth_of_lt A' i (by omega)
                  obtain ⟨gx', cx', hvx, -, -, hcx⟩ := own_some hW.ox (by omega)
                  simp only [Value.slice.injEq, Option.some.injEq, Addr.mk.injEq] at hvx
                  obtain ⟨⟨rfl, -, -⟩, -, -⟩ := hvx
                  have hci := mn_at hcx hI
                  have hgI := hf_get (lo := lo) (mid := mid) (by omega) hi1 hI
                  obtain ⟨cs, hbs, hln, hW5⟩ := hW.put (k := k) (t := (ic, iv)) (by omega)
                  refine V.skip ?_
                  refine X.sq ?_
                  refine V.block ?_
                  refine V.seq ?_
                  refine V.region ?_
                  refine L.rd (rd_move rfl) rfl ?_
                  refine L.rd (rd_move rfl) rfl ?_
                  refine L.rd (rd_move rfl) rfl ?_
                  refine L.rd (rd_move rfl) rfl ?_
                  (refine L.rd (rd_indexSlice (sz := 28) tok rfl rfl rfl rfl rfl rfl rfl ?_) rfl ?_; omega)
                  refine L.rd (rd_loadN tok rfl rfl rfl hci (mnE_len _).symm) rfl ?_
                  (refine L.rd (rd_indexSlice (sz := 28) tok rfl rfl rfl rfl rfl rfl rfl ?_) rfl ?_; omega)
                  refine L.ef (e_store (vs := mnE (ic, iv)) tok rfl rfl rfl rfl hbs (mnE_len _) (mnE_one _) (by rw [mnE_len]; simp; omega) ?_)
                  refine L.nil ?_
                  refine X.sq ?_
                  refine V.seq ?_
                  refine V.region ?_
                  refine L.rd (rd_move rfl) rfl ?_
                  (refine L.rd (rd_add3 rfl rfl ?_) rfl ?_; omega)
                  refine L.rd (rd_assign rfl) rfl ?_
                  refine L.nil ?_
                  refine X.sq ?_
                  refine V.region ?_
                  refine L.rd (rd_move rfl) rfl ?_
                  (refine L.rd (rd_add3 rfl rfl ?_) rfl ?_; omega)
                  refine L.rd (rd_assign rfl) rfl ?_
                  refine L.nil ?_
                  refine X.bk ?_
                  simp only [Nat.zero_add, Int.toNat_natCast]
                  refine X.lp ⟨_, _, by omega, (by repeat' (first | exact trivial | refine ⟨rfl, ?_⟩)), i + 1, k + 1, C.set k (ic, iv), O ++ [(ic, iv)], rfl, rfl, by omega, by omega, by omega, by omega, hW5, by simpa using hCl, ?_, ?_⟩
                  · have h5 := hM.takeA hwk1 hwk2 hv1 hv2 hgI (fun b' hb' => by
                      have := (List.getElem?_eq_some_iff.1 hb').1
                      rw [hl2] at this; omega)
                    rw [show i + 1 - lo = i - lo + 1 by omega]; exact h5
                  · rw [take_set_snoc C k _ (by omega), hCO, List.append_assoc]
                ·
                  refine V.exit ?_
                  refine X.sqExit ?_
                  refine X.lpExit ?_
                  refine X.bkHere ?_
                  refine X.sq ?_
                  refine V.block ?_
                  have him : i = mid := by omega
                  subst him
                  refine V.loop (fun m l w3 => ∃ (j k : Nat) (C O : List MT), l = [(0, .slice (some ⟨gx, 0, none⟩) A.length cx), (3, .int .i64 A.length), (4, .slice (some ⟨gy, 0, none⟩) A.length cy), (5, .int .i64 q), (6, .int .i64 lo), (8, .int .i64 hi), (10, .int .i64 j), (11, .int .i64 k)] ∧ m = hi - j ∧ i ≤ j ∧ j ≤ hi ∧ k = j ∧ Two 97 B w w3 (.slice aa A.length ca) (.slice (some ⟨gx, 0, none⟩) A.length cx) (.slice (some ⟨gy, 0, none⟩) A.length cy) A' C ∧ C.length = A.length ∧ Mg (hf1 A' lo i) (hf1 A' i hi) (i - lo) (j - i) O ∧ C.take k = Dn ++ O) ?_ ?_
                  ·
                    exact ⟨_, _, (by repeat' (first | exact trivial | refine ⟨rfl, ?_⟩)), j, k, C, O, rfl, rfl, by omega, by omega, by omega, hW, hCl, hM, hCO⟩
                  ·
                    clear hW hCl hM hCO hk hij hj1 hj2
                    rintro m l w3 ⟨j, k, C, O, rfl, rfl, hj1, hj2, rfl, hW, hCl, hM, hCO⟩
                    refine V.seq ?_
                    refine V.seq ?_
                    refine V.region ?_
                    refine L.rd (rd_move rfl) rfl ?_
                    refine L.rd (rd_move rfl) rfl ?_
                    refine L.rd (rd_lss rfl rfl) rfl ?_
                    refine L.nil ?_
                    refine X.sq ?_
                    first | refine V.cond rfl (fun h94 => ?_) (fun h94 => ?_) | refine V.condB rfl (fun h94 => ?_) (fun h94 => ?_)
                    ·
                      obtain ⟨⟨jc, jv⟩, hJ⟩ := nth_of_lt A' k (by omega)
                      obtain ⟨gx', cx', hvx, -, -, hcx⟩ := own_some hW.ox (by omega)
                      simp only [Value.slice.injEq, Option.some.injEq, Addr.mk.injEq] at hvx
                      obtain ⟨⟨rfl, -, -⟩, -, -⟩ := hvx
                      have hcj := mn_at hcx hJ
                      have hgJ := hf_get (lo := i) (mid := hi) (by omega) hj1 hJ
                      obtain ⟨cs, hbs, hln, hW5⟩ := hW.put (k := k) (t := (jc, jv)) (by omega)
                      refine V.skip ?_
                      refine X.sq ?_
                      refine V.block ?_
                      refine V.seq ?_
                      refine V.region ?_
                      refine L.rd (rd_move rfl) rfl ?_
                      refine L.rd (rd_move rfl) rfl ?_
                      refine L.rd (rd_move rfl) rfl ?_
                      refine L.rd (rd_move rfl) rfl ?_
                      (refine L.rd (rd_indexSlice (sz := 28) tok rfl rfl rfl rfl rfl rfl rfl ?_) rfl ?_; omega)
                      refine L.rd (rd_loadN tok rfl rfl rfl hcj (mnE_len _).symm) rfl ?_
                      (refine L.rd (rd_indexSlice (sz := 28) tok rfl rfl rfl rfl rfl rfl rfl ?_) rfl ?_; omega)
                      refine L.ef (e_store (vs := mnE (jc, jv)) tok rfl rfl rfl rfl hbs (mnE_len _) (mnE_one _) (by rw [mnE_len]; simp; omega) ?_)
                      refine L.nil ?_
                      refine X.sq ?_
                      refine V.seq ?_
                      refine V.region ?_
                      refine L.rd (rd_move rfl) rfl ?_
                      (refine L.rd (rd_add3 rfl rfl ?_) rfl ?_; omega)
                      refine L.rd (rd_assign rfl) rfl ?_
                      refine L.nil ?_
                      refine X.sq ?_
                      refine V.region ?_
                      refine L.rd (rd_move rfl) rfl ?_
                      (refine L.rd (rd_add3 rfl rfl ?_) rfl ?_; omega)
                      refine L.rd (rd_assign rfl) rfl ?_
                      refine L.nil ?_
                      refine X.bk ?_
                      simp only [Nat.zero_add, Int.toNat_natCast]
                      refine X.lp ⟨_, _, by omega, (by repeat' (first | exact trivial | refine ⟨rfl, ?_⟩)), k + 1, k + 1, C.set k (jc, jv), O ++ [(jc, jv)], rfl, rfl, by omega, by omega, rfl, hW5, by simpa using hCl, ?_, ?_⟩
                      · have h5 := hM.takeB' hwk2 (by omega) hgJ
                        rw [show k + 1 - i = k - i + 1 by omega]; exact h5
                      · rw [take_set_snoc C k _ (by omega), hCO, List.append_assoc]
                    ·
                      refine V.exit ?_
                      refine X.sqExit ?_
                      refine X.lpExit ?_
                      refine X.bkHere ?_
                      refine X.bk ?_
                      refine X.sq ?_
                      refine V.region ?_
                      refine L.rd (rd_move rfl) rfl ?_
                      refine L.rd (rd_move rfl) rfl ?_
                      refine L.rd (rd_mulE (r := ((2 * q : Nat) : Int)) rfl rfl (by rw [wrap_i64_in (by omega)]; omega)) rfl ?_
                      refine L.rd (rd_addE (r := ((lo + 2 * q : Nat) : Int)) rfl rfl (by rw [wrap_i64_in (by omega)]; omega)) rfl ?_
                      refine L.rd (rd_assign rfl) rfl ?_
                      refine L.nil ?_
                      have hkh : k = hi := by omega
                      have hsrt := hM.rest hwk1 hwk2 (by omega) (by omega) (.inl (by omega))
                      rw [drop_end (by omega), drop_end (by omega), List.append_nil, List.append_nil, ← hf_join (by omega) (by omega)] at hsrt
                      have hps2 := hPs.step (by omega) hlo (by omega) (O := O) (by rw [hA'l, ← hhi]; exact hsrt)
                      refine X.lp ⟨_, _, by omega, (by repeat' (first | exact trivial | refine ⟨rfl, ?_⟩)), lo + 2 * q, C, Dn ++ O, rfl, rfl, ?_, by omega, hW, hCl, hps2, ?_⟩
                      · rw [Nat.add_mod_right]; exact hlo
                      · rw [← hhi, ← hkh]; exact hCO
        ·
          refine V.exit ?_
          refine X.sqExit ?_
          refine X.lpExit ?_
          refine X.bkHere ?_
          refine X.sq ?_
          refine V.region ?_
          refine L.rd (rd_move rfl) rfl ?_
          refine L.rd (rd_move rfl) rfl ?_
          refine L.rd (rd_assign rfl) rfl ?_
          refine L.rd (rd_assign rfl) rfl ?_
          refine L.nil ?_
          refine X.bk ?_
          refine X.sq ?_
          refine V.region ?_
          refine L.rd (rd_move rfl) rfl ?_
          refine L.rd (rd_mulE (r := ((q * 2 : Nat) : Int)) rfl rfl (by rw [wrap_i64_in (by omega)]; omega)) rfl ?_
          refine L.rd (rd_assign rfl) rfl ?_
          refine L.nil ?_
          have hDl := hPs.len
          rw [Nat.min_eq_right (by omega), List.take_of_length_le (by omega)] at hCD
          subst hCD
          refine X.lp ⟨_, _, by omega, (by repeat' (first | exact trivial | refine ⟨rfl, ?_⟩)), q * 2, _, _, C, A', rfl, rfl, by omega, by omega, hW.swap, by rw [Nat.mul_comm]; exact hPs.rn, fun v => ?_, hCl, hA'l, fun t ht => hmem t (hPs.mem t ht)⟩
          rw [hPs.sum, List.take_of_length_le (by omega)]; exact hsum v
    ·
      refine V.exit ?_
      refine X.sqExit ?_
      refine X.lpExit ?_
      refine X.bkHere ?_
      refine X.sq ?_
      refine V.seq ?_
      refine V.region ?_
      refine L.rd (rd_move rfl) rfl ?_
      refine L.rd (rd_assign rfl) rfl ?_
      refine L.nil ?_
      refine X.sq ?_
      refine V.ret ?_
      refine ret_1 Yaam.results109 rfl ?_
      exact ⟨A', hW.ox, ⟨hRn.all (by omega), hsum, hA'l, hmem⟩, hW.gr⟩
end Go.Proofs.YbxaawGreat
