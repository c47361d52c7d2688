/-
  impl.finish, walked.
-/
import Derived.Test.YbxaawGreatFinW
set_option linter.unusedVariables false
set_option linter.unusedSimpArgs false
set_option maxRecDepth 10000
namespace Go.Proofs.YbxaawGreat
open Go.Mw
def FPost (A : List MT) (va : Value) (w : World) (r : Value) (w' : World) : Prop := ∃ v Ls, r = .tuple #[.agg #[v], .bool (nfOk (nf A))] ∧ OwnT w' w.heap.size w'.heap.size 91 93 v Ls ∧ pol Ls = (if nfOk (nf A) = true then toP (nf A) else []) ∧ w.grownBy w' va.ownBlock

theorem grown_then {w w1 w2 w3 : World} {va : Value} {e : TypeId} {cs : List Value} (h1 : (addB w e cs).grownBy w1 va.ownBlock) (h2 : Ext w1.heap.size w1 w2) (h3 : Ext w.heap.size w2 w3) : w.grownBy w3 va.ownBlock :=
  ⟨h3.os.trans (h2.os.trans h1.os), h3.tape.trans (h2.tape.trans h1.tape), h3.output.trans (h2.output.trans h1.output), by have := h1.size; have := h2.size; have := h3.size; rw [size_addB] at *; omega, fun q hq hne => by
    have a1 := h1.size
    rw [size_addB] at a1
    rw [h3.block q hq, h2.block q (by omega), h1.block q (by rw [size_addB]; omega) hne]
    simp only [addB, World.alloc, Array.getElem?_push]
    rw [if_neg (by omega)]⟩

theorem finish_ok (A : List MT) (hV : Vl A) (hC : Cr A) (hn : A.length ≤ 1048576) (va : Value) (w : World) (B : Nat) (ho : w.ownsRow B 97 28 va A.length (A.flatMap mnE)) (hB : B ≤ w.heap.size) : Ret Yaam.prog 59 [va] w (FPost A va w) := by
  refine enter1 Yaam.func59 Yaam.ntmps59 (by kernel_rfl) rfl rfl ?_
  refine V.seq ?_
  refine V.region ?_
  refine L.ef (e_alloc (cs := [_]) tok rfl rfl (by first | (simp only [size_addB, size_setB, size_drew]; rfl) | rfl) rfl ?_)
  refine L.rd (rd_assign rfl) rfl ?_
  refine L.nil ?_
  refine X.sq ?_
  refine V.seq ?_
  refine V.region ?_
  refine L.rd (rd_move rfl) rfl ?_
  refine L.ef (e_call rfl (sortM_ok A hV hn _ _ B (ho.alloc _) (by rw [size_addB]; omega)) rfl ?_)
  rintro r1 w1 ⟨S, hO1, hSrt, hg1⟩
  have hp1 : Bl w1 w.heap.size 44 [.slice none 0 0] := (Bl.new w 44 [.slice none 0 0]).off_own (ho.alloc _) rfl hg1
  obtain ⟨sa, sc, rfl⟩ : ∃ a c, r1 = .slice a S.length c := by
    rcases own_slc hO1 with ⟨rfl, h0, _⟩ | ⟨g, cap, sp, _, hs⟩
    · rw [h0]; exact ⟨_, _, rfl⟩
    · exact ⟨_, _, hs.val⟩
  have hSl := hSrt.len
  have hVS := hSrt.vl hV
  have hCS : Cr S := fun t ht => hC t (hSrt.mem t ht)
  have hpl := hp1.lt
  have hE0 : Ext w.heap.size w w := Ext.refl _ _
  refine L.rd (rd_assign rfl) rfl ?_
  refine L.nil ?_
  refine X.sq ?_
  refine V.seq ?_
  refine V.region ?_
  refine L.ef (e_make0 (e := 91) tok rfl rfl rfl rfl rfl rfl rfl (by first | (simp only [size_addB, size_setB, size_drew]; rfl) | rfl) rfl ?_)
  refine L.rd (rd_assign rfl) rfl ?_
  refine L.nil ?_
  refine X.sq ?_
  refine V.seq ?_
  refine V.region ?_
  refine L.rd (rd_assign rfl) rfl ?_
  refine L.nil ?_
  refine X.sq ?_
  refine V.seq ?_
  refine V.block ?_
  refine V.loop (fun m l wr => ∃ (i : Nat) (tv : Value) (Ms : List Lt) (acc : List MT), l = [(2, .pointer (some ⟨w.heap.size, 0, none⟩)), (4, .slice sa S.length sc), (5, tv), (6, .int .i64 i)] ∧ m = S.length - i ∧ i ≤ S.length ∧ Ext w1.heap.size w1 wr ∧ OwnT wr w1.heap.size wr.heap.size 91 93 tv Ms ∧ pol Ms = toP (nzf acc) ∧ Gr S i acc ∧ Cr acc ∧ (∀ x t, acc.getLast? = some x → S[i]? = some t → x.2 ≠ t.2) ∧ (nzf acc).length ≤ 4096 ∧ (∀ t ∈ nzf acc, isum t.2 ≤ 1000000)) ?_ ?_
  ·
    exact ⟨_, _, (by repeat' (first | exact trivial | refine ⟨rfl, ?_⟩)), 0, _, [], [], rfl, rfl, by omega, (Ext.refl _ _).addNew _ _, OwnT.made (c := 0) (Bl.new _ _ _) (by simp) (Nat.le_refl _) (by rw [size_addB]; omega) (by simp [maxLen]), rfl, Gr.start S, fun t ht => (by cases ht), fun x t h => by simp at h, by simp [nzf], fun t ht => by simp [nzf] at ht⟩
  ·
    rintro m l wr ⟨i, tv, Ms, acc, rfl, rfl, hi, hE, hO, hMp, hG, hCa, hcl, hRl, hRd⟩
    have hwr := hE.size
    obtain ⟨ta, tc, rfl⟩ : ∃ a c, tv = .slice a Ms.length c := by
      rcases own_slc hO.top with ⟨rfl, h0, _⟩ | ⟨g, cap, sp, _, hs⟩
      · rw [h0]; exact ⟨_, _, rfl⟩
      · exact ⟨_, _, hs.val⟩
    have hMl : Ms.length = (nzf acc).length := by
      have := congrArg List.length hMp
      rwa [pol_length, toP_len] at this
    refine V.seq ?_
    refine V.seq ?_
    refine V.region ?_
    refine L.rd (rd_move rfl) rfl ?_
    refine L.rd (rd_move rfl) rfl ?_
    refine L.rd (rd_lenSlice tok rfl rfl rfl) rfl ?_
    refine L.rd (rd_lss rfl rfl) rfl ?_
    refine L.nil ?_
    refine X.sq ?_
    first | refine V.cond rfl (fun h15 => ?_) (fun h15 => ?_) | refine V.condB rfl (fun h15 => ?_) (fun h15 => ?_)
    ·
      obtain ⟨gs, sc', hsv, -, -, hcs⟩ := own_some (own_ext hO1 hE) (by omega)
      simp only [Value.slice.injEq] at hsv
      obtain ⟨rfl, -, rfl⟩ := hsv
      obtain ⟨⟨ci, vi⟩, hI⟩ := nth_of_lt S i (by omega)
      have hvi := hVS _ (List.mem_of_getElem? hI)
      have hcc := hCS _ (List.mem_of_getElem? hI)
      simp only at hvi hcc
      have hci := mn_at hcs hI
      rw [mnE_eq hvi.len] at hci
      refine V.skip ?_
      refine X.sq ?_
      refine V.block ?_
      refine V.seq ?_
      refine V.region ?_
      refine L.rd (rd_move rfl) rfl ?_
      refine L.rd (rd_assign rfl) rfl ?_
      refine L.nil ?_
      refine X.sq ?_
      refine V.seq ?_
      refine V.region ?_
      refine L.rd (rd_assign rfl) rfl ?_
      refine L.nil ?_
      refine X.sq ?_
      refine V.seq ?_
      refine V.cut (fun l w' => ∃ (j : Nat) (sum : Int), l = [(2, .pointer (some ⟨w.heap.size, 0, none⟩)), (4, .slice (some ⟨gs, 0, none⟩) S.length sc), (5, .slice ta Ms.length tc), (6, .int .i64 i), (7, .int .i64 j), (8, .int .i64 sum)] ∧ i < j ∧ j ≤ S.length ∧ Ext wr.heap.size wr w' ∧ Gr S j (acc ++ [(sum, vi)]) ∧ w64 sum = sum ∧ (∀ t, S[j]? = some t → vi ≠ t.2)) ?_ ?_
      ·
        refine V.block ?_
        refine V.loop (fun m l w3 => ∃ (j : Nat) (sum : Int), l = [(2, .pointer (some ⟨w.heap.size, 0, none⟩)), (4, .slice (some ⟨gs, 0, none⟩) S.length sc), (5, .slice ta Ms.length tc), (6, .int .i64 i), (7, .int .i64 j), (8, .int .i64 sum)] ∧ m = S.length - j ∧ i ≤ j ∧ j ≤ S.length ∧ Ext wr.heap.size wr w3 ∧ (j = i ∧ sum = 0 ∨ i < j ∧ Gr S j (acc ++ [(sum, vi)]) ∧ w64 sum = sum)) ?_ ?_
        ·
          exact ⟨_, _, (by repeat' (first | exact trivial | refine ⟨rfl, ?_⟩)), i, 0, rfl, rfl, Nat.le_refl _, by omega, Ext.refl _ _, .inl ⟨rfl, rfl⟩⟩
        ·
          rintro m l w3 ⟨j, sum, rfl, rfl, hj1, hj2, hE3, hst⟩
          refine V.seq ?_
          refine V.seq ?_
          refine V.draw [] mixed ?_
          refine D.take 0 [true, false, false, false, false, false, false, false, false, false, false, false, false, false] (.sq (.sq (.lp (.bk (.ct (.sq (.bk (.lp (.bk (.sq .bd)))))))))) rfl (rd_move rfl) rfl (by kernel_rfl) rfl (LeC.drew _) ?_
          refine D.take 1 [true, true, false, false, false, false, false, false, false, false, false, false, false, false] (.sq (.sq (.lp (.bk (.ct (.sq (.bk (.lp (.bk (.sq .bd)))))))))) rfl (rd_move rfl) rfl (by kernel_rfl) rfl (LeC.drew _) ?_
          refine D.take 2 [true, true, true, false, false, false, false, false, false, false, false, false, false, false] (.sq (.sq (.lp (.bk (.ct (.sq (.bk (.lp (.bk (.sq .bd)))))))))) rfl (rd_lenSlice tok rfl rfl rfl) rfl (by kernel_rfl) rfl (LeC.drew _) ?_
          refine D.take 3 [true, true, true, true, false, false, false, false, false, false, false, false, false, false] (.sq (.sq (.lp (.bk (.ct (.sq (.bk (.lp (.bk (.sq .bd)))))))))) rfl (rd_lss rfl rfl) rfl (by kernel_rfl) rfl (LeC.drew _) ?_
          refine D.take 4 [true, true, true, true, true, false, false, false, false, false, false, false, false, false] (.sq (.sq (.lp (.bk (.ct (.sq (.bk (.lp (.bk (.sq .bd)))))))))) rfl (rd_move rfl) rfl (by kernel_rfl) rfl (LeC.drew _) ?_
          first | refine D.part 21 rfl (fun g21 => ?_) (fun g21 => ?_) | refine D.partB 21 rfl (fun g21 => ?_) (fun g21 => ?_)
          ·
            obtain ⟨⟨cj, vj⟩, hJ⟩ := nth_of_lt S j (by omega)
            have hvj := hVS _ (List.mem_of_getElem? hJ)
            simp only at hvj
            have hcj := (mn_at hcs hJ).le hE3.leC
            have hmi : Mn w3.drew gs (0 + i * 28) ci vi := ⟨(hci.le hE3.leC).le (LeC.drew _), hvi⟩
            have hmj : Mn w3.drew gs (0 + j * 28) cj vj := ⟨by rw [← mnE_eq hvj.len]; exact hcj.le (LeC.drew _), hvj⟩
            refine D.takeYes 5 [true, true, true, true, true, true, false, false, false, false, false, false, false, false] (.sq (.sq (.lp (.bk (.ct (.sq (.bk (.lp (.bk (.sq .bd)))))))))) rfl rfl rfl (rd_move rfl) rfl (by kernel_rfl) rfl (LeC.drew _) ?_
            refine D.takeYes 6 [true, true, true, true, true, true, true, false, false, false, false, false, false, false] (.sq (.sq (.lp (.bk (.ct (.sq (.bk (.lp (.bk (.sq .bd)))))))))) rfl rfl rfl (rd_move rfl) rfl (by kernel_rfl) rfl (LeC.drew _) ?_
            (refine D.takeYes 7 [true, true, true, true, true, true, true, true, false, false, false, false, false, false] (.sq (.sq (.lp (.bk (.ct (.sq (.bk (.lp (.bk (.sq .bd)))))))))) rfl rfl rfl (rd_indexSlice (sz := 28) tok rfl rfl rfl rfl rfl rfl rfl ?_) rfl (by kernel_rfl) rfl (LeC.drew _) ?_; omega)
            refine D.takeYes 8 [true, true, true, true, true, true, true, true, true, false, false, false, false, false] (.sq (.sq (.lp (.bk (.ct (.sq (.bk (.lp (.bk (.sq .bd)))))))))) rfl rfl rfl (rd_move rfl) rfl (by kernel_rfl) rfl (LeC.drew _) ?_
            refine D.takeYes 9 [true, true, true, true, true, true, true, true, true, true, false, false, false, false] (.sq (.sq (.lp (.bk (.ct (.sq (.bk (.lp (.bk (.sq .bd)))))))))) rfl rfl rfl (rd_move rfl) rfl (by kernel_rfl) rfl (LeC.drew _) ?_
            (refine D.takeYes 10 [true, true, true, true, true, true, true, true, true, true, true, false, false, false] (.sq (.sq (.lp (.bk (.ct (.sq (.bk (.lp (.bk (.sq .bd)))))))))) rfl rfl rfl (rd_indexSlice (sz := 28) tok rfl rfl rfl rfl rfl rfl rfl ?_) rfl (by kernel_rfl) rfl (LeC.drew _) ?_; omega)
            refine D.oneYes 11 [true, true, true, true, true, true, true, true, true, true, true, true, false, false] rfl rfl rfl (by kernel_rfl) rfl (e_call rfl (cmpMono_ok _ _ _ _ ci cj vi vj _ hmi hmj) rfl ?_)
            rintro _ w4 ⟨rfl, he4'⟩
            have he4 : Ext w3.heap.size w3 w4 := (Ext.refl _ _).drew.trans he4'
            have hle4 := he4.leC
            refine ⟨fun _ => hle4, ?_⟩
            refine D.takeYes 12 [true, true, true, true, true, true, true, true, true, true, true, true, true, false] (.sq (.sq (.lp (.bk (.ct (.sq (.bk (.lp (.bk (.sq .bd)))))))))) rfl rfl rfl (rd_eql rfl rfl) rfl (by kernel_rfl) rfl hle4 ?_
            refine D.take 13 [true, true, true, true, true, true, true, true, true, true, true, true, true, true] (.sq (.sq (.lp (.bk (.ct (.sq (.bk (.lp (.bk (.sq .bd)))))))))) rfl (rd_pickT rfl rfl) rfl (by kernel_rfl) rfl hle4 ?_
            refine D.done (by kernel_rfl) ?_
            refine X.sq ?_
            first | refine V.cond rfl (fun h30 => ?_) (fun h30 => ?_) | refine V.condB rfl (fun h30 => ?_) (fun h30 => ?_)
            ·
              have hvv : vi = vj := cmpV_zero (hvi.len.trans hvj.len.symm) h30
              refine V.skip ?_
              refine X.sq ?_
              refine V.block ?_
              refine V.seq ?_
              refine V.region ?_
              refine L.rd (rd_move rfl) rfl ?_
              refine L.rd (rd_move rfl) rfl ?_
              refine L.rd (rd_move rfl) rfl ?_
              (refine L.rd (rd_indexSlice (sz := 28) tok rfl rfl rfl rfl rfl rfl rfl ?_) rfl ?_; omega)
              refine L.rd (rd_fieldAddr tok rfl rfl rfl rfl rfl rfl) rfl ?_
              refine L.rd (rd_load1 tok rfl rfl rfl (cells_at (hcj.le hle4) (i := 0) rfl rfl)) rfl ?_
              refine L.rd (rd_addE (r := w64 (sum + cj)) rfl rfl rfl) rfl ?_
              refine L.rd (rd_assign rfl) rfl ?_
              refine L.nil ?_
              refine X.sq ?_
              refine V.region ?_
              refine L.rd (rd_move rfl) rfl ?_
              (refine L.rd (rd_add3 rfl rfl ?_) rfl ?_; omega)
              refine L.rd (rd_assign rfl) rfl ?_
              refine L.nil ?_
              refine X.bk ?_
              refine X.lp ⟨_, _, by omega, (by repeat' (first | exact trivial | refine ⟨rfl, ?_⟩)), j + 1, w64 (sum + cj), rfl, rfl, by omega, by omega, hE3.next he4, .inr ⟨by omega, ?_, w64_wr _⟩⟩
              rcases hst with ⟨rfl, rfl⟩ | ⟨hij, hg, hw⟩
              · rw [hI] at hJ
                simp only [Option.some.injEq, Prod.mk.injEq] at hJ
                obtain ⟨rfl, -⟩ := hJ
                rw [Int.zero_add, hcc]
                exact hG.new (t := (ci, vi)) hSrt.wk hVS.len hI (fun x hx => hcl x _ hx hI)
              · have := Gr.same (c := sum) (t := (cj, vj)) (by rw [← hvv]; exact hg) hSrt.wk hJ
                rw [← hvv] at this
                exact this
            ·
              refine V.exit ?_
              refine X.sqExit ?_
              refine X.lpExit ?_
              refine X.bkHere ?_
              first
                | exact X.ct ⟨_, (by repeat' (first | exact trivial | refine ⟨rfl, ?_⟩)), j, sum, rfl, by omega, hj2, hE3.drew, (hst.resolve_left (by omega)).2.1, (hst.resolve_left (by omega)).2.2, fun t ht => by rw [List.getElem?_eq_none (by omega)] at ht; cases ht⟩
                | (have hij : i < j := by
                     rcases hst with ⟨rfl, _⟩ | h
                     · rw [hI] at hJ
                       simp only [Option.some.injEq, Prod.mk.injEq] at hJ
                       exact absurd (by rw [← hJ.2]; exact cmpV_self vi) h30
                     · exact h.1
                   have hst2 := hst.resolve_left (by omega)
                   refine X.ct ⟨_, (by repeat' (first | exact trivial | refine ⟨rfl, ?_⟩)), j, sum, rfl, hij, hj2, hE3.next he4, hst2.2.1, hst2.2.2, fun t ht => ?_⟩
                   rw [hJ] at ht
                   simp only [Option.some.injEq] at ht
                   subst ht
                   intro e
                   exact h30 (by simp only [] at e; rw [e]; exact cmpV_self vj))
          ·
            refine D.takeNo 5 [true, true, true, true, true, true, false, false, false, false, false, false, false, false] (.sq (.sq (.lp (.bk (.ct (.sq (.bk (.lp (.bk (.sq .bd)))))))))) rfl rfl rfl rfl rfl (by kernel_rfl) rfl (LeC.drew _) ?_
            refine D.takeNo 6 [true, true, true, true, true, true, true, false, false, false, false, false, false, false] (.sq (.sq (.lp (.bk (.ct (.sq (.bk (.lp (.bk (.sq .bd)))))))))) rfl rfl rfl rfl rfl (by kernel_rfl) rfl (LeC.drew _) ?_
            refine D.takeNo 7 [true, true, true, true, true, true, true, true, false, false, false, false, false, false] (.sq (.sq (.lp (.bk (.ct (.sq (.bk (.lp (.bk (.sq .bd)))))))))) rfl rfl rfl rfl rfl (by kernel_rfl) rfl (LeC.drew _) ?_
            refine D.takeNo 8 [true, true, true, true, true, true, true, true, true, false, false, false, false, false] (.sq (.sq (.lp (.bk (.ct (.sq (.bk (.lp (.bk (.sq .bd)))))))))) rfl rfl rfl rfl rfl (by kernel_rfl) rfl (LeC.drew _) ?_
            refine D.takeNo 9 [true, true, true, true, true, true, true, true, true, true, false, false, false, false] (.sq (.sq (.lp (.bk (.ct (.sq (.bk (.lp (.bk (.sq .bd)))))))))) rfl rfl rfl rfl rfl (by kernel_rfl) rfl (LeC.drew _) ?_
            refine D.takeNo 10 [true, true, true, true, true, true, true, true, true, true, true, false, false, false] (.sq (.sq (.lp (.bk (.ct (.sq (.bk (.lp (.bk (.sq .bd)))))))))) rfl rfl rfl rfl rfl (by kernel_rfl) rfl (LeC.drew _) ?_
            refine D.takeNo 11 [true, true, true, true, true, true, true, true, true, true, true, true, false, false] (.sq (.sq (.lp (.bk (.ct (.sq (.bk (.lp (.bk (.sq .bd)))))))))) rfl rfl rfl rfl rfl (by kernel_rfl) rfl (LeC.drew _) ?_
            refine D.takeNo 12 [true, true, true, true, true, true, true, true, true, true, true, true, true, false] (.sq (.sq (.lp (.bk (.ct (.sq (.bk (.lp (.bk (.sq .bd)))))))))) rfl rfl rfl rfl rfl (by kernel_rfl) rfl (LeC.drew _) ?_
            refine D.take 13 [true, true, true, true, true, true, true, true, true, true, true, true, true, true] (.sq (.sq (.lp (.bk (.ct (.sq (.bk (.lp (.bk (.sq .bd)))))))))) rfl (rd_pickF rfl rfl) rfl (by kernel_rfl) rfl (LeC.drew _) ?_
            refine D.done (by kernel_rfl) ?_
            refine X.sq ?_
            refine V.condF rfl ?_
            refine V.exit ?_
            refine X.sqExit ?_
            refine X.lpExit ?_
            refine X.bkHere ?_
            first
              | exact X.ct ⟨_, (by repeat' (first | exact trivial | refine ⟨rfl, ?_⟩)), j, sum, rfl, by omega, hj2, hE3.drew, (hst.resolve_left (by omega)).2.1, (hst.resolve_left (by omega)).2.2, fun t ht => by rw [List.getElem?_eq_none (by omega)] at ht; cases ht⟩
              | (have hij : i < j := by
                   rcases hst with ⟨rfl, _⟩ | h
                   · rw [hI] at hJ
                     simp only [Option.some.injEq, Prod.mk.injEq] at hJ
                     exact absurd (by rw [← hJ.2]; exact cmpV_self vi) h30
                   · exact h.1
                 have hst2 := hst.resolve_left (by omega)
                 refine X.ct ⟨_, (by repeat' (first | exact trivial | refine ⟨rfl, ?_⟩)), j, sum, rfl, hij, hj2, hE3.next he4, hst2.2.1, hst2.2.2, fun t ht => ?_⟩
                 rw [hJ] at ht
                 simp only [Option.some.injEq] at ht
                 subst ht
                 intro e
                 exact h30 (by simp only [] at e; rw [e]; exact cmpV_self vj))
      ·
        rintro l w3 ⟨j, sum, rfl, hij, hj2, hE3, hg3, hw3, hcl3⟩
        have hCa3 : Cr (acc ++ [(sum, vi)]) := fun t ht => by
          rcases List.mem_append.1 ht with ht | ht
          · exact hCa t ht
          · simp at ht; subst ht; exact hw3
        have hclo : ∀ x t, (acc ++ [(sum, vi)]).getLast? = some x → S[j]? = some t → x.2 ≠ t.2 := fun x t hx ht => by
          rw [List.getLast?_append] at hx
          simp at hx; subst hx
          exact hcl3 t ht
        obtain ⟨rest, hrest⟩ := Gr.part hSrt hV hC hg3 hCa3 hj2 hclo
        rw [nzf_append, nzf_one] at hrest
        have hci3 := hci.le hE3.leC
        have hE13 := hE.next hE3
        have hp3 := hE13.bl hp1.lt hp1
        have hO3 := hO.ext hE3
        have hs3 := hE3.size
        refine X.sq ?_
        refine V.seq ?_
        refine V.seq ?_
        refine V.region ?_
        refine L.rd (rd_move rfl) rfl ?_
        refine L.rd (rd_neq rfl rfl) rfl ?_
        refine L.nil ?_
        refine X.sq ?_
        first | refine V.cond rfl (fun h41 => ?_) (fun h41 => ?_) | refine V.condB rfl (fun h41 => ?_) (fun h41 => ?_)
        ·
          rw [if_neg h41] at hrest
          refine V.seq ?_
          refine V.seq ?_
          refine V.region ?_
          refine L.rd (rd_move rfl) rfl ?_
          refine L.rd (rd_move rfl) rfl ?_
          (refine L.rd (rd_indexSlice (sz := 28) tok rfl rfl rfl rfl rfl rfl rfl ?_) rfl ?_; omega)
          refine L.rd (rd_fieldAddr tok rfl rfl rfl rfl rfl rfl) rfl ?_
          refine L.rd (rd_load1 tok rfl rfl rfl (cells_at (i := 27) hci3 (mC_deg hvi.len) rfl)) rfl ?_
          refine L.rd (rd_gtr rfl rfl) rfl ?_
          refine L.rd (rd_move rfl) rfl ?_
          first | refine L.partG rfl rfl (fun g48 => ?_) (fun g48 => ?_) | refine L.partGB rfl rfl (fun g48 => ?_) (fun g48 => ?_)
          ·
            refine L.no rfl rfl rfl rfl ?_
            refine L.no rfl rfl rfl rfl ?_
            refine L.no rfl rfl rfl rfl ?_
            refine L.rd (rd_pickT rfl rfl) rfl ?_
            refine L.nil ?_
            refine X.sq ?_
            refine V.condT rfl ?_
            refine V.seq ?_
            refine V.region ?_
            refine L.rd (rd_build (out := [_]) tok rfl rfl rfl rfl rfl) rfl ?_
            refine L.ef (e_store (vs := [_]) tok rfl rfl rfl rfl hp3 rfl (by simp [Value.oneCell']) (by simp) ?_)
            refine L.rd (rd_assign rfl) rfl ?_
            refine L.nil ?_
            refine X.sq ?_
            refine V.ret ?_
            refine X.sqRet ?_
            refine X.sqRet ?_
            refine X.bkRet ?_
            refine X.lpRet ?_
            refine X.bkRet ?_
            refine X.sqRet ?_
            refine ret_c1 tok Yaam.results59 rfl rfl rfl rfl (Bl.cells (hp3.set _ _)) rfl ?_
            have hbad : nfOk (nf A) = false := by
              rw [hrest]
              exact nfOk_false (by first | exact .inr (by simp only []; omega) | exact .inl (by omega))
            refine ⟨_, [], by rw [hbad]; rfl, OwnT.nil _ _ _ _ _, by rw [hbad]; rfl, grown_then hg1 hE13 ((Ext.refl _ _).set (Nat.le_refl _) _ _)⟩
          ·
            refine L.yes rfl rfl ?_
            refine L.rd (rd_move rfl) rfl ?_
            refine L.yes rfl rfl ?_
            refine L.rd (rd_lenSlice tok rfl rfl rfl) rfl ?_
            refine L.yes rfl rfl ?_
            refine L.rd (rd_geq rfl rfl) rfl ?_
            refine L.rd (rd_pickF rfl rfl) rfl ?_
            refine L.nil ?_
            refine X.sq ?_
            first | refine V.cond rfl (fun h52 => ?_) (fun h52 => ?_) | refine V.condB rfl (fun h52 => ?_) (fun h52 => ?_)
            ·
              refine V.seq ?_
              refine V.region ?_
              refine L.rd (rd_build (out := [_]) tok rfl rfl rfl rfl rfl) rfl ?_
              refine L.ef (e_store (vs := [_]) tok rfl rfl rfl rfl hp3 rfl (by simp [Value.oneCell']) (by simp) ?_)
              refine L.rd (rd_assign rfl) rfl ?_
              refine L.nil ?_
              refine X.sq ?_
              refine V.ret ?_
              refine X.sqRet ?_
              refine X.sqRet ?_
              refine X.bkRet ?_
              refine X.lpRet ?_
              refine X.bkRet ?_
              refine X.sqRet ?_
              refine ret_c1 tok Yaam.results59 rfl rfl rfl rfl (Bl.cells (hp3.set _ _)) rfl ?_
              have hbad : nfOk (nf A) = false := by
                rw [hrest]
                exact nfOk_false (by first | exact .inr (by simp only []; omega) | exact .inl (by omega))
              refine ⟨_, [], by rw [hbad]; rfl, OwnT.nil _ _ _ _ _, by rw [hbad]; rfl, grown_then hg1 hE13 ((Ext.refl _ _).set (Nat.le_refl _) _ _)⟩
            ·
              refine V.skip ?_
              refine X.sq ?_
              refine V.region ?_
              refine L.rd (rd_move rfl) rfl ?_
              refine L.rd (rd_move rfl) rfl ?_
              refine L.rd (rd_move rfl) rfl ?_
              refine L.rd (rd_move rfl) rfl ?_
              (refine L.rd (rd_indexSlice (sz := 28) tok rfl rfl rfl rfl rfl rfl rfl ?_) rfl ?_; omega)
              refine L.ef (e_call rfl (factorsOf_ok _ _ ci vi _ ⟨hci3, hvi⟩) rfl ?_)
              rintro fv w5 ⟨hf5, he5⟩
              obtain ⟨fa, fc, rfl⟩ : ∃ a c, fv = .slice a (spF vi 0).length c := by
                rcases own_slc hf5 with ⟨rfl, h0, _⟩ | ⟨g, cap, sp, _, hs⟩
                · rw [h0]; exact ⟨_, _, rfl⟩
                · exact ⟨_, _, hs.val⟩
              have hO5 := hO3.ext he5
              have hE15 := hE13.next he5
              have hs5 := he5.size
              refine L.rd (rd_build (out := [_, _]) tok rfl rfl rfl rfl rfl) rfl ?_
              refine L.ef (e_buildSlice1 (e := 91) (cs := [_, _]) tok rfl rfl rfl rfl rfl rfl rfl rfl rfl (by first | (simp only [size_addB, size_setB, size_drew]; rfl) | rfl) rfl ?_)
              refine L.ef (e_append (m := 1) tok rfl rfl rfl rfl rfl rfl rfl rfl rfl rfl (hO5.top.alloc _) (Bl.new _ _ _).cells rfl (by simp [Value.oneCell']) (by unfold maxLen; omega) (by simp only []; omega) (by rw [size_addB]; omega) ?_)
              rintro v6 w6 ho6 hg6
              have hEa : Ext w5.heap.size w5 (addB w5 91 [Value.int .i64 sum, .slice fa (spF vi 0).length fc]) := (Ext.refl _ _).addNew _ _
              have hO6 := (hO5.ext hEa).push (w' := w6) (c := sum) (fs := spF vi 0) rfl (own_ext (own_low hf5 hs3) hEa) hwr hg6 ho6
              have hE16 := (hE15.next hEa).grown hg6 (by rw [size_addB]; omega) (fun q hq => (own_block_lt hO.top hq).1)
              refine L.rd (rd_assign rfl) rfl ?_
              refine L.nil ?_
              refine X.sq ?_
              refine V.region ?_
              refine L.rd (rd_move rfl) rfl ?_
              refine L.rd (rd_assign rfl) rfl ?_
              refine L.nil ?_
              refine X.bk ?_
              first
                | exact X.lp ⟨_, _, by omega, (by repeat' (first | exact trivial | refine ⟨rfl, ?_⟩)), j, v6, Ms ++ [(sum, .slice fa (spF vi 0).length fc, spF vi 0)], acc ++ [(sum, vi)], rfl, rfl, by omega, hE16, hO6, by
                    rw [nzf_append, nzf_one, if_neg h41]
                    simp only [pol, toP, List.map_append, List.map_cons, List.map_nil] at hMp ⊢
                    rw [hMp], hg3, hCa3, hclo, by rw [nzf_append, nzf_one, if_neg h41, List.length_append]; simp; omega, fun t ht => by
                    rw [nzf_append, nzf_one, if_neg h41] at ht
                    rcases List.mem_append.1 ht with ht | ht
                    · exact hRd t ht
                    · simp at ht; subst ht; simp only []; omega⟩
                | exact X.lp ⟨_, _, by omega, (by repeat' (first | exact trivial | refine ⟨rfl, ?_⟩)), j, _, Ms, acc ++ [(sum, vi)], rfl, rfl, by omega, hE13, hO3.wide hs3, by
                    rw [nzf_append, nzf_one, if_pos (Decidable.not_not.1 h41), List.append_nil]; exact hMp, hg3, hCa3, hclo, by rw [nzf_append, nzf_one, if_pos (Decidable.not_not.1 h41), List.append_nil]; exact hRl, fun t ht => by
                    rw [nzf_append, nzf_one, if_pos (Decidable.not_not.1 h41), List.append_nil] at ht
                    exact hRd t ht⟩
        ·
          rw [if_pos (Decidable.not_not.1 h41)] at hrest
          refine V.skip ?_
          refine X.sq ?_
          refine V.region ?_
          refine L.rd (rd_move rfl) rfl ?_
          refine L.rd (rd_assign rfl) rfl ?_
          refine L.nil ?_
          refine X.bk ?_
          first
            | exact X.lp ⟨_, _, by omega, (by repeat' (first | exact trivial | refine ⟨rfl, ?_⟩)), j, v6, Ms ++ [(sum, .slice fa (spF vi 0).length fc, spF vi 0)], acc ++ [(sum, vi)], rfl, rfl, by omega, hE16, hO6, by
                rw [nzf_append, nzf_one, if_neg h41]
                simp only [pol, toP, List.map_append, List.map_cons, List.map_nil] at hMp ⊢
                rw [hMp], hg3, hCa3, hclo, by rw [nzf_append, nzf_one, if_neg h41, List.length_append]; simp; omega, fun t ht => by
                rw [nzf_append, nzf_one, if_neg h41] at ht
                rcases List.mem_append.1 ht with ht | ht
                · exact hRd t ht
                · simp at ht; subst ht; simp only []; omega⟩
            | exact X.lp ⟨_, _, by omega, (by repeat' (first | exact trivial | refine ⟨rfl, ?_⟩)), j, _, Ms, acc ++ [(sum, vi)], rfl, rfl, by omega, hE13, hO3.wide hs3, by
                rw [nzf_append, nzf_one, if_pos (Decidable.not_not.1 h41), List.append_nil]; exact hMp, hg3, hCa3, hclo, by rw [nzf_append, nzf_one, if_pos (Decidable.not_not.1 h41), List.append_nil]; exact hRl, fun t ht => by
                rw [nzf_append, nzf_one, if_pos (Decidable.not_not.1 h41), List.append_nil] at ht
                exact hRd t ht⟩
    ·
      refine V.exit ?_
      refine X.sqExit ?_
      refine X.lpExit ?_
      refine X.bkHere ?_
      refine X.sq ?_
      refine V.seq ?_
      have hp3 := hE.bl hp1.lt hp1
      obtain rfl : i = S.length := by omega
      have hnf := ((nzf_norm hG hVS hCa).of_srt hSrt).nf hV.len
      have hgood : nfOk (nf A) = true := by rw [← hnf]; exact nfOk_true hRl hRd
      refine V.region ?_
      refine L.rd (rd_move rfl) rfl ?_
      refine L.rd (rd_build (out := [_]) tok rfl rfl rfl rfl rfl) rfl ?_
      refine L.ef (e_store (vs := [_]) tok rfl rfl rfl rfl hp3 rfl (by simp [Value.oneCell']) (by simp) ?_)
      refine L.rd (rd_assign rfl) rfl ?_
      refine L.nil ?_
      refine X.sq ?_
      refine V.ret ?_
      refine ret_c1 tok Yaam.results59 rfl rfl rfl rfl (Bl.cells (hp3.set _ _)) rfl ?_
      refine ⟨_, Ms, by rw [hgood]; rfl, ?_, by rw [hgood, if_pos rfl, ← hnf]; exact hMp, grown_then hg1 hE ((Ext.refl _ _).set (Nat.le_refl _) _ _)⟩
      rw [size_setB]
      exact (hO.rg (Rg.set (lo := w.heap.size) (hi := w.heap.size + 1) (by omega) _ _) (by omega)).low (by omega)
end Go.Proofs.YbxaawGreat
