/-
  What the laws do with terms: turning over.
-/
import Derived.Test.YbxaawTermW2
set_option linter.unusedVariables false
set_option linter.unusedSimpArgs false
set_option maxRecDepth 10000
namespace Go.Mw
/-- term t turned over -/
def flipC (t : Lt) : Lt := (xr .i64 t.1, t.2)
def flipS (t : Lt) : Lt := (t.1, t.2.1, t.2.2.map flipF)
theorem set_same {α : Type} {a : List α} {k : Nat} {x : α} (h : a[k]? = some x) : a.set k x = a := by
  apply List.ext_getElem?
  intro i
  by_cases hi : i = k
  · subst hi; rw [List.getElem?_set_self (List.getElem?_eq_some_iff.1 h).1, h]
  · rw [List.getElem?_set_ne (by omega)]
theorem pol_flip (Ls : List Lt) : pol ((Ls.map flipC).map flipS) = flipP (pol Ls) := by simp [pol, flipP, flipC, flipS, Function.comp_def]
end Go.Mw
namespace Go.Proofs.Ybxaaw
open Go.Mw

theorem flipTermsL_ok (va : Value) (Ls : List Lt) (w : World) {lo hi : Nat} (hT : Tl w lo hi va Ls) (hS : Sm (pol Ls)) : Ret Yaam.prog 49 [va] w (Copied 149 150 (flipP (pol Ls)) w) := by
  obtain ⟨aa, ca, rfl, hfa⟩ := hT.form
  have hSl := hS.top
  refine enter1 Yaam.func49 Yaam.ntmps49 (by kernel_rfl) rfl rfl ?_
  refine V.seq ?_
  refine V.region ?_
  refine L.rd (rd_assign rfl) rfl ?_
  refine L.nil ?_
  refine X.sq ?_
  refine V.seq ?_
  refine V.region ?_
  refine L.rd (rd_move rfl) rfl ?_
  refine L.rd (rd_lenSlice tok rfl rfl rfl) rfl ?_
  refine L.ef (e_make (e := 149) (zs := [_, _]) tok rfl rfl rfl rfl rfl rfl rfl rfl (by first | (simp only [size_addB, size_setB, size_drew]; rfl) | rfl) rfl (by omega) (by simp only []; omega) (by omega) ?_)
  refine L.rd (rd_assign rfl) rfl ?_
  refine L.nil ?_
  refine X.sq ?_
  refine V.seq ?_
  refine V.seq ?_
  refine V.region ?_
  refine L.rd (rd_assign rfl) rfl ?_
  refine L.nil ?_
  refine X.sq ?_
  refine V.block ?_
  refine V.loop (fun m l wr => ∃ (k : Nat) (Ms : List Lt), l = [(0, .slice aa Ls.length ca), (3, .slice (some ⟨w.heap.size, 0, none⟩) Ls.length Ls.length), (4, .int .i64 k)] ∧ m = Ls.length - k ∧ k ≤ Ls.length ∧ Ext w.heap.size w wr ∧ OwnT wr w.heap.size wr.heap.size 149 150 (.slice (some ⟨w.heap.size, 0, none⟩) Ls.length Ls.length) Ms ∧ Ms.length = Ls.length ∧ pol (Ms.take k) = (flipP (pol Ls)).take k) ?_ ?_
  ·
    refine ⟨_, _, (by repeat' (first | exact trivial | refine ⟨rfl, ?_⟩)), 0, List.replicate Ls.length (0, .slice none 0 0, []), rfl, rfl, by omega, (Ext.refl _ _).addNew _ _, OwnT.zeros ?_ (Nat.le_refl _) (by rw [size_addB]; omega) (by unfold maxLen; omega), by simp, by simp [pol]⟩
    have := Bl.new w 149 ((List.replicate Ls.length (ltE (0, .slice none 0 0, []))).flatten)
    rw [← fm_replicate ltE_len]; exact this
  ·
    rintro m l wr ⟨k, Ms, rfl, rfl, hk, hE, hO, hMl, hMp⟩
    have hwr := hE.size
    refine V.seq ?_
    refine V.seq ?_
    refine V.region ?_
    refine L.rd (rd_move rfl) rfl ?_
    refine L.rd (rd_move rfl) rfl ?_
    refine L.rd (rd_lenSlice tok rfl rfl rfl) rfl ?_
    refine L.rd (rd_lss rfl rfl) rfl ?_
    refine L.nil ?_
    refine X.sq ?_
    first | refine V.cond rfl (fun h14 => ?_) (fun h14 => ?_) | refine V.condB rfl (fun h14 => ?_) (fun h14 => ?_)
    ·
      obtain ⟨b1, o1, rfl, -, -, hc1⟩ := hfa.resolve_left (by omega)
      obtain ⟨⟨c, fv, fs⟩, ht⟩ := nth_of_lt Ls k (by omega)
      have hcx := Tl.cells (hc1.le hE.leC) ht
      have hSf := hS.nth ht
      obtain ⟨fa, fc, hfv, hff⟩ := (hT.ext hE).nth ht
      simp only at hfv hff hcx hSf
      subst hfv
      refine V.skip ?_
      refine X.sq ?_
      refine V.seq ?_
      refine V.block ?_
      refine V.seq ?_
      refine V.region ?_
      refine L.rd (rd_move rfl) rfl ?_
      refine L.rd (rd_move rfl) rfl ?_
      (refine L.rd (rd_indexSlice (sz := 2) tok rfl rfl rfl rfl rfl rfl rfl ?_) rfl ?_; omega)
      refine L.rd (rd_fieldAddr tok rfl rfl rfl rfl rfl rfl) rfl ?_
      refine L.rd (rd_load1 tok rfl rfl rfl (hcx.at_ 1 _ rfl)) rfl ?_
      refine L.rd (rd_lenSlice tok rfl rfl rfl) rfl ?_
      refine L.ef (e_make (e := 150) (zs := [_, _]) tok rfl rfl rfl rfl rfl rfl rfl rfl (by first | (simp only [size_addB, size_setB, size_drew]; rfl) | rfl) rfl (by omega) (by simp only []; omega) (by omega) ?_)
      refine L.rd (rd_assign rfl) rfl ?_
      refine L.nil ?_
      refine X.sq ?_
      refine V.seq ?_
      refine V.seq ?_
      refine V.region ?_
      refine L.rd (rd_assign rfl) rfl ?_
      refine L.nil ?_
      refine X.sq ?_
      refine V.block ?_
      refine V.loop (fun m l w2 => ∃ (j : Nat) (cs : List (Int × Int)), l = [(0, .slice (some ⟨b1, o1, none⟩) Ls.length ca), (3, .slice (some ⟨w.heap.size, 0, none⟩) Ls.length Ls.length), (4, .int .i64 k), (5, .slice (some ⟨wr.heap.size, 0, none⟩) fs.length fs.length), (6, .int .i64 j)] ∧ m = fs.length - j ∧ j ≤ fs.length ∧ Ext wr.heap.size wr w2 ∧ Bl w2 wr.heap.size 150 (prC cs) ∧ cs.length = fs.length ∧ cs.take j = (fs.map flipF).take j) ?_ ?_
      ·
        exact ⟨_, _, (by repeat' (first | exact trivial | refine ⟨rfl, ?_⟩)), 0, List.replicate fs.length (0, 0), rfl, rfl, by omega, (Ext.refl _ _).addNew _ _, by have := Bl.new wr 150 ((List.replicate fs.length (prE (0, 0))).flatten); unfold prC; rw [← fm_replicate prE_len]; exact this, by simp, by simp⟩
      ·
        rintro m l w2 ⟨j, cs, rfl, rfl, hj, hE2, hbl, hcl, hjt⟩
        have hcx2 := hcx.le hE2.leC
        have hl2 := hbl.lt
        refine V.seq ?_
        refine V.seq ?_
        refine V.region ?_
        refine L.rd (rd_move rfl) rfl ?_
        refine L.rd (rd_move rfl) rfl ?_
        refine L.rd (rd_lenSlice tok rfl rfl rfl) rfl ?_
        refine L.rd (rd_lss rfl rfl) rfl ?_
        refine L.nil ?_
        refine X.sq ?_
        first | refine V.cond rfl (fun h27 => ?_) (fun h27 => ?_) | refine V.condB rfl (fun h27 => ?_) (fun h27 => ?_)
        ·
          obtain ⟨b3, o3, rfl, -, -, hc3⟩ := hff.resolve_left (by omega)
          obtain ⟨x, hx⟩ := nth_of_lt fs j (by omega)
          have hcf := (hc3.le hE2.leC).sub (j * 2) _ (pr_get fs j x hx)
          have hcl2 := pr_len cs
          refine V.skip ?_
          refine X.sq ?_
          refine V.seq ?_
          refine V.block ?_
          refine V.seq ?_
          refine V.region ?_
          refine L.rd (rd_move rfl) rfl ?_
          refine L.rd (rd_move rfl) rfl ?_
          (refine L.rd (rd_indexSlice (sz := 2) tok rfl rfl rfl rfl rfl rfl rfl ?_) rfl ?_; omega)
          refine L.rd (rd_fieldAddr tok rfl rfl rfl rfl rfl rfl) rfl ?_
          refine L.rd (rd_load1 tok rfl rfl rfl (hcx2.at_ 1 _ rfl)) rfl ?_
          refine L.rd (rd_move rfl) rfl ?_
          (refine L.rd (rd_indexSlice (sz := 2) tok rfl rfl rfl rfl rfl rfl rfl ?_) rfl ?_; omega)
          refine L.rd (rd_loadN tok rfl rfl rfl hcf rfl) rfl ?_
          refine L.ef (e_alloc (cs := [_, _]) tok rfl rfl (by first | (simp only [size_addB, size_setB, size_drew]; rfl) | rfl) rfl ?_)
          refine L.ef (e_store (vs := [_, _]) tok rfl rfl rfl rfl (by (repeat (first | assumption | (refine Bl.new' ?_ _ _; first | with_reducible rfl | (simp only [size_addB, size_setB, size_drew]; done)) | apply Bl.add | apply Bl.drew | (apply Bl.setNe; omega) | (refine Bl.set' ?_ _ _; (try simp only [size_addB, size_setB, size_drew]); omega)))) rfl (by simp [Value.oneCell']) (by simp) ?_)
          refine L.nil ?_
          refine X.sq ?_
          refine V.region ?_
          refine L.rd (rd_move rfl) rfl ?_
          refine L.rd (rd_move rfl) rfl ?_
          refine L.rd (rd_fieldAddr tok rfl rfl rfl rfl rfl rfl) rfl ?_
          refine L.rd (rd_load1 tok rfl rfl rfl (by first | assumption | exact Bl.cell (by (repeat (first | assumption | (refine Bl.new' ?_ _ _; first | with_reducible rfl | (simp only [size_addB, size_setB, size_drew]; done)) | apply Bl.add | apply Bl.drew | (apply Bl.setNe; omega) | (refine Bl.set' ?_ _ _; (try simp only [size_addB, size_setB, size_drew]); omega)))) rfl)) rfl ?_
          refine L.rd (rd_xorW rfl) rfl ?_
          refine L.rd (rd_fieldAddr tok rfl rfl rfl rfl rfl rfl) rfl ?_
          refine L.rd (rd_load1 tok rfl rfl rfl (by first | assumption | exact Bl.cell (by (repeat (first | assumption | (refine Bl.new' ?_ _ _; first | with_reducible rfl | (simp only [size_addB, size_setB, size_drew]; done)) | apply Bl.add | apply Bl.drew | (apply Bl.setNe; omega) | (refine Bl.set' ?_ _ _; (try simp only [size_addB, size_setB, size_drew]); omega)))) rfl)) rfl ?_
          refine L.rd (rd_xorW rfl) rfl ?_
          refine L.rd (rd_build (out := [_, _]) tok rfl rfl rfl rfl rfl) rfl ?_
          (refine L.rd (rd_indexSlice (sz := 2) tok rfl rfl rfl rfl rfl rfl rfl ?_) rfl ?_; omega)
          refine L.ef (e_store (vs := [_, _]) tok rfl rfl rfl rfl (cs := prC cs) (by (repeat (first | assumption | (refine Bl.new' ?_ _ _; first | with_reducible rfl | (simp only [size_addB, size_setB, size_drew]; done)) | apply Bl.add | apply Bl.drew | (apply Bl.setNe; omega) | (refine Bl.set' ?_ _ _; (try simp only [size_addB, size_setB, size_drew]); omega)))) rfl (by simp [Value.oneCell']) (by simp; omega) ?_)
          refine L.nil ?_
          refine X.bk ?_
          refine X.sq ?_
          refine V.region ?_
          refine L.rd (rd_move rfl) rfl ?_
          (refine L.rd (rd_add3 rfl rfl ?_) rfl ?_; omega)
          refine L.rd (rd_assign rfl) rfl ?_
          refine L.nil ?_
          refine X.lp ⟨_, _, by omega, (by repeat' (first | exact trivial | refine ⟨rfl, ?_⟩)), j + 1, cs.set j (flipF x), rfl, rfl, by omega, (by have hsz_ := hE2.size; repeat (first | assumption | refine Ext.drew ?_ | refine Ext.addNew ?_ _ _ | (refine Ext.set ?_ ?_ _ _; rotate_left; (try simp only [size_addB, size_setB, size_drew]); omega))), ?_, by simp [hcl], take_put_next (fs.map flipF) cs j (flipF x) (by simpa using hcl) (by simp [hx]) hjt⟩
          have h1 := fm_put prE_len [] cs j (flipF x) (by omega)
          rw [List.append_nil, List.append_nil] at h1
          simp only [Nat.zero_add, Int.toNat_natCast]
          show Bl _ _ _ ((cs.set j (flipF x)).flatMap prE)
          rw [← h1]
          exact Bl.set' (by simp only [size_addB, size_setB]; omega) _ _
        ·
          refine V.exit ?_
          refine X.sqExit ?_
          refine X.lpExit ?_
          refine X.bkHere ?_
          refine X.sq ?_
          have hcs : cs = fs.map flipF := by
            rwa [List.take_of_length_le (by omega), List.take_of_length_le (by simp; omega)] at hjt
          subst hcs
          have ho1 := own_of_bl (base := wr.heap.size) (sz := 2) (n := fs.length) hbl (by rw [pr_len]; simp) (Nat.le_refl _) (by unfold maxLen; omega)
          have ho2 : w2.ownsRow wr.heap.size 150 2 (.slice (some ⟨wr.heap.size, 0, none⟩) fs.length fs.length) (fs.map flipF).length (prC (fs.map flipF)) := by rw [List.length_map]; exact ho1
          obtain ⟨cs, hb1, hln, hlo1, hhi1, hO1⟩ := (hO.ext hE2).store (k := k) (c := xr .i64 c) (by omega) ho2 hwr hE2.size
          refine V.region ?_
          refine L.rd (rd_move rfl) rfl ?_
          refine L.rd (rd_move rfl) rfl ?_
          refine L.rd (rd_move rfl) rfl ?_
          refine L.rd (rd_move rfl) rfl ?_
          (refine L.rd (rd_indexSlice (sz := 2) tok rfl rfl rfl rfl rfl rfl rfl ?_) rfl ?_; omega)
          refine L.rd (rd_fieldAddr tok rfl rfl rfl rfl rfl rfl) rfl ?_
          refine L.rd (rd_load1 tok rfl rfl rfl (hcx2.at_ 0 _ rfl)) rfl ?_
          refine L.rd (rd_xorW rfl) rfl ?_
          refine L.rd (rd_move rfl) rfl ?_
          refine L.rd (rd_build (out := [_, _]) tok rfl rfl rfl rfl rfl) rfl ?_
          (refine L.rd (rd_indexSlice (sz := 2) tok rfl rfl rfl rfl rfl rfl rfl ?_) rfl ?_; omega)
          refine L.ef (e_store (vs := [_, _]) tok rfl rfl rfl rfl hb1 rfl (by simp [Value.oneCell']) (by simp; omega) ?_)
          refine L.nil ?_
          refine X.bk ?_
          refine X.sq ?_
          refine V.region ?_
          refine L.rd (rd_move rfl) rfl ?_
          (refine L.rd (rd_add3 rfl rfl ?_) rfl ?_; omega)
          refine L.rd (rd_assign rfl) rfl ?_
          refine L.nil ?_
          simp only [Nat.zero_add, Int.toNat_natCast]
          refine X.lp ⟨_, _, by omega, (by repeat' (first | exact trivial | refine ⟨rfl, ?_⟩)), k + 1, Ms.set k (xr .i64 c, .slice (some ⟨wr.heap.size, 0, none⟩) fs.length fs.length, fs.map flipF), rfl, rfl, by omega, (hE.next hE2).set (Nat.le_refl _) _ _, ?_, ?_, pol_set_take (by rw [flipP_length, pol_length]; exact hMl) (flipP_get (pol_get ht)) rfl hMp⟩
          · rw [size_setB]; exact hO1
          · rw [List.length_set]; exact hMl
    ·
      refine V.exit ?_
      refine X.sqExit ?_
      refine X.lpExit ?_
      refine X.bkHere ?_
      refine X.sq ?_
      refine V.seq ?_
      refine V.region ?_
      refine L.rd (rd_move rfl) rfl ?_
      refine L.rd (rd_assign rfl) rfl ?_
      refine L.nil ?_
      refine X.sq ?_
      refine V.ret ?_
      refine ret_1 Yaam.results49 rfl ?_
      exact ⟨Ms, hO, pol_take_all (by rw [flipP_length, pol_length]; exact hMl) (by rw [flipP_length, pol_length]; omega) hMp, hE⟩

theorem flipHeld_ok (va vk : Value) (Ls : List Lt) (w : World) {lo hi klo khi : Nat} (hO : OwnT w lo hi 58 109 va Ls) (hK : Rr w klo khi 1 vk Ls.length (Ls.map (·.2.1))) (hd : hi ≤ klo ∨ khi ≤ lo) (hS : Sm (pol Ls)) :
    Ret Yaam.prog 46 [va, vk] w fun r w' => ∃ Ms, OwnT w' lo hi 58 109 va Ms ∧ pol Ms = flipP (pol Ls) ∧ Rg lo hi w w' := by
  obtain ⟨aa, ca, rfl⟩ := own_form hO.top
  obtain ⟨ka, kc, rfl, hfk⟩ := hK.form
  have hSl := hS.top
  refine enter2 Yaam.func46 Yaam.ntmps46 (by kernel_rfl) rfl rfl ?_
  refine V.seq ?_
  refine V.seq ?_
  refine V.region ?_
  refine L.rd (rd_assign rfl) rfl ?_
  refine L.nil ?_
  refine X.sq ?_
  refine V.block ?_
  refine V.loop (fun m l wr => ∃ (k : Nat), l = [(0, .slice aa Ls.length ca), (1, .slice ka Ls.length kc), (4, .int .i64 k)] ∧ m = Ls.length - k ∧ k ≤ Ls.length ∧ OwnT wr lo hi 58 109 (.slice aa Ls.length ca) ((Ls.take k).map flipC ++ Ls.drop k) ∧ Rg lo hi w wr) ?_ ?_
  ·
    exact ⟨_, _, (by repeat' (first | exact trivial | refine ⟨rfl, ?_⟩)), 0, rfl, rfl, by omega, by simpa using hO, Rg.refl _ _ _⟩
  ·
    rintro m l wr ⟨k, rfl, rfl, hk, hOk, hR⟩
    refine V.seq ?_
    refine V.seq ?_
    refine V.region ?_
    refine L.rd (rd_move rfl) rfl ?_
    refine L.rd (rd_move rfl) rfl ?_
    refine L.rd (rd_lenSlice tok rfl rfl rfl) rfl ?_
    refine L.rd (rd_lss rfl rfl) rfl ?_
    refine L.nil ?_
    refine X.sq ?_
    first | refine V.cond rfl (fun h12 => ?_) (fun h12 => ?_) | refine V.condB rfl (fun h12 => ?_) (fun h12 => ?_)
    ·
      obtain ⟨t, ht⟩ := nth_of_lt Ls k (by omega)
      have ht2 := nth_split flipC Ls k t ht
      obtain ⟨aa', ca', hva, hfa⟩ := hOk.tl.form
      simp only [Value.slice.injEq] at hva
      obtain ⟨rfl, hln1, rfl⟩ := hva
      obtain ⟨b1, o1, hb1e, -, -, hc1⟩ := hfa.resolve_left (by omega)
      obtain ⟨g, cap, sp, hgv, -, -, -, hblg, -, -, -⟩ := own_put ltE_len hOk.top (k := k) (by rw [len_split]; omega)
      simp only [Value.slice.injEq] at hgv
      obtain ⟨rfl, -, rfl⟩ := hgv
      simp only [Option.some.injEq, Addr.mk.injEq] at hb1e
      obtain ⟨rfl, rfl, -⟩ := hb1e
      have hcx := Tl.cells hc1 ht2
      obtain ⟨cs, hbs, hln, hlo1, hhi1, hO1⟩ := hOk.storeC (c := xr .i64 t.1) ht2
      refine V.skip ?_
      refine X.sq ?_
      refine V.seq ?_
      refine V.block ?_
      refine V.region ?_
      refine L.rd (rd_move rfl) rfl ?_
      refine L.rd (rd_move rfl) rfl ?_
      refine L.rd (rd_move rfl) rfl ?_
      refine L.rd (rd_move rfl) rfl ?_
      (refine L.rd (rd_indexSlice (sz := 2) tok rfl rfl rfl rfl rfl rfl rfl ?_) rfl ?_; omega)
      refine L.rd (rd_fieldAddr tok rfl rfl rfl rfl rfl rfl) rfl ?_
      refine L.rd (rd_load1 tok rfl rfl rfl (hcx.at_ 0 _ rfl)) rfl ?_
      refine L.rd (rd_xorW rfl) rfl ?_
      (refine L.rd (rd_indexSlice (sz := 2) tok rfl rfl rfl rfl rfl rfl rfl ?_) rfl ?_; omega)
      refine L.rd (rd_fieldAddr tok rfl rfl rfl rfl rfl rfl) rfl ?_
      refine L.ef (e_store (vs := [_]) tok rfl rfl rfl rfl hbs rfl (by simp [Value.oneCell']) (by simp; omega) ?_)
      refine L.nil ?_
      refine X.bk ?_
      refine X.sq ?_
      refine V.region ?_
      refine L.rd (rd_move rfl) rfl ?_
      (refine L.rd (rd_add3 rfl rfl ?_) rfl ?_; omega)
      refine L.rd (rd_assign rfl) rfl ?_
      refine L.nil ?_
      simp only [Nat.zero_add, Int.toNat_natCast, Nat.add_zero]
      refine X.lp ⟨_, _, by omega, (by repeat' (first | exact trivial | refine ⟨rfl, ?_⟩)), k + 1, rfl, rfl, by omega, ?_, hR.trans (Rg.set ⟨hlo1, hhi1⟩ _ _)⟩
      rw [← put_split flipC Ls k t ht]
      exact hO1
    ·
      refine V.exit ?_
      refine X.sqExit ?_
      refine X.lpExit ?_
      refine X.bkHere ?_
      refine X.sq ?_
      refine V.seq ?_
      refine V.region ?_
      refine L.rd (rd_assign rfl) rfl ?_
      refine L.nil ?_
      refine X.sq ?_
      refine V.block ?_
      have hO2 := hOk
      rw [split_all flipC Ls k (by omega)] at hO2
      refine V.loop (fun m l w2 => ∃ (i : Nat), l = [(1, .slice ka Ls.length kc), (5, .int .i64 i)] ∧ m = Ls.length - i ∧ i ≤ Ls.length ∧ OwnT w2 lo hi 58 109 (.slice aa Ls.length ca) (((Ls.map flipC).take i).map flipS ++ (Ls.map flipC).drop i) ∧ Rg lo hi w w2) ?_ ?_
      ·
        exact ⟨_, _, (by repeat' (first | exact trivial | refine ⟨rfl, ?_⟩)), 0, rfl, rfl, by omega, by simpa using hO2, hR⟩
      ·
        clear hR hOk hO2
        rintro m l w2 ⟨i, rfl, rfl, hi', hOi, hR⟩
        refine V.seq ?_
        refine V.seq ?_
        refine V.region ?_
        refine L.rd (rd_move rfl) rfl ?_
        refine L.rd (rd_move rfl) rfl ?_
        refine L.rd (rd_lenSlice tok rfl rfl rfl) rfl ?_
        refine L.rd (rd_lss rfl rfl) rfl ?_
        refine L.nil ?_
        refine X.sq ?_
        first | refine V.cond rfl (fun h28 => ?_) (fun h28 => ?_) | refine V.condB rfl (fun h28 => ?_) (fun h28 => ?_)
        ·
          obtain ⟨⟨c0, fv, fs⟩, ht⟩ := nth_of_lt Ls i (by omega)
          have hSf := hS.nth ht
          have hm1 : (Ls.map flipC)[i]? = some (xr .i64 c0, fv, fs) := by simp [ht, flipC]
          have ht2 := nth_split flipS (Ls.map flipC) i _ hm1
          obtain ⟨kb, ko, rfl, hk1, hk2, hck⟩ := hfk.resolve_left (by omega)
          obtain ⟨ka', kc', hke, hkf⟩ := (hK.rg hR hd.symm).form
          simp only [Value.slice.injEq] at hke
          obtain ⟨rfl, -, rfl⟩ := hke
          obtain ⟨kb', ko', hke2, -, -, hck2⟩ := hkf.resolve_left (by omega)
          simp only [Option.some.injEq, Addr.mk.injEq] at hke2
          obtain ⟨rfl, rfl, -⟩ := hke2
          obtain ⟨fa, fc, hfv⟩ := own_form (hOi.sub _ (List.mem_of_getElem? ht2))
          simp only at hfv hSf
          subst hfv
          refine V.skip ?_
          refine X.sq ?_
          refine V.seq ?_
          refine V.block ?_
          refine V.seq ?_
          refine V.region ?_
          refine L.rd (rd_move rfl) rfl ?_
          refine L.rd (rd_move rfl) rfl ?_
          (refine L.rd (rd_indexSlice (sz := 1) tok rfl rfl rfl rfl rfl rfl rfl ?_) rfl ?_; omega)
          refine L.rd (rd_load1 tok rfl rfl rfl (cells_at hck2 (i := i) (show (Ls.map (·.2.1))[i]? = some (.slice fa fs.length fc) by simp [ht]) (by simp))) rfl ?_
          refine L.rd (rd_assign rfl) rfl ?_
          refine L.nil ?_
          refine X.sq ?_
          refine V.seq ?_
          refine V.region ?_
          refine L.rd (rd_assign rfl) rfl ?_
          refine L.nil ?_
          refine X.sq ?_
          refine V.block ?_
          refine V.loop (fun m l w3 => ∃ (j : Nat), l = [(1, .slice (some ⟨kb, ko, none⟩) Ls.length kc), (5, .int .i64 i), (6, .slice fa fs.length fc), (7, .int .i64 j)] ∧ m = fs.length - j ∧ j ≤ fs.length ∧ OwnT w3 lo hi 58 109 (.slice aa Ls.length ca) ((((Ls.map flipC).take i).map flipS ++ (Ls.map flipC).drop i).set i (xr .i64 c0, .slice fa fs.length fc, (fs.take j).map flipF ++ fs.drop j)) ∧ Rg lo hi w w3) ?_ ?_
          ·
            refine ⟨_, _, (by repeat' (first | exact trivial | refine ⟨rfl, ?_⟩)), 0, rfl, rfl, by omega, ?_, hR⟩
            rw [split_zero, set_same ht2]; exact hOi
          ·
            clear hR
            rintro m l w3 ⟨j, rfl, rfl, hj, hOj, hR⟩
            refine V.seq ?_
            refine V.seq ?_
            refine V.region ?_
            refine L.rd (rd_move rfl) rfl ?_
            refine L.rd (rd_move rfl) rfl ?_
            refine L.rd (rd_lenSlice tok rfl rfl rfl) rfl ?_
            refine L.rd (rd_lss rfl rfl) rfl ?_
            refine L.nil ?_
            refine X.sq ?_
            first | refine V.cond rfl (fun h38 => ?_) (fun h38 => ?_) | refine V.condB rfl (fun h38 => ?_) (fun h38 => ?_)
            ·
              obtain ⟨x, hx⟩ := nth_of_lt fs j (by omega)
              have hx2 := nth_split flipF fs j x hx
              have hil : i < ((((Ls.map flipC).take i).map flipS ++ (Ls.map flipC).drop i)).length := (List.getElem?_eq_some_iff.1 ht2).1
              have ht3 : ((((Ls.map flipC).take i).map flipS ++ (Ls.map flipC).drop i).set i (xr .i64 c0, .slice fa fs.length fc, (fs.take j).map flipF ++ fs.drop j))[i]? = some (xr .i64 c0, .slice fa fs.length fc, (fs.take j).map flipF ++ fs.drop j) := List.getElem?_set_self hil
              have hsub := hOj.sub _ (List.mem_of_getElem? ht3)
              obtain ⟨g, cap, sp, hgv, -, -, hgl, hblg, -, -, -⟩ := own_put prE_len (a := (fs.take j).map flipF ++ fs.drop j) hsub (k := j) (by rw [len_split]; omega)
              simp only [Value.slice.injEq] at hgv
              obtain ⟨rfl, -, rfl⟩ := hgv
              have hcf := hblg.cells.sub (j * 2) [Value.int .i64 x.1, .int .i64 x.2] (fun q u hu => by
                have h1 := fm_get prE_len _ j x hx2 q u hu
                rw [List.getElem?_append_left (List.getElem?_eq_some_iff.1 h1).1]; exact h1)
              have hEf : Ext w3.heap.size w3 (setB (addB w3 109 [Value.int .i64 0, .int .i64 0]) w3.heap.size 109 (putAt [Value.int .i64 0, .int .i64 0] 0 [Value.int .i64 x.1, .int .i64 x.2])) := ((Ext.refl _ _).addNew _ _).set (Nat.le_refl _) _ _
              obtain ⟨cs, hbs, hln, hlo1, hhi1, hO1⟩ := (hOj.ext hEf).storeF (j := j) (x := flipF x) ht3 (by rw [len_split flipF fs j]; omega)
              refine V.skip ?_
              refine X.sq ?_
              refine V.seq ?_
              refine V.block ?_
              refine V.seq ?_
              refine V.region ?_
              refine L.rd (rd_move rfl) rfl ?_
              refine L.rd (rd_move rfl) rfl ?_
              (refine L.rd (rd_indexSlice (sz := 2) tok rfl rfl rfl rfl rfl rfl rfl ?_) rfl ?_; omega)
              refine L.rd (rd_loadN tok rfl rfl rfl hcf rfl) rfl ?_
              refine L.ef (e_alloc (cs := [_, _]) tok rfl rfl (by first | (simp only [size_addB, size_setB, size_drew]; rfl) | rfl) rfl ?_)
              refine L.ef (e_store (vs := [_, _]) tok rfl rfl rfl rfl (by (repeat (first | assumption | (refine Bl.new' ?_ _ _; first | with_reducible rfl | (simp only [size_addB, size_setB, size_drew]; done)) | apply Bl.add | apply Bl.drew | (apply Bl.setNe; omega) | (refine Bl.set' ?_ _ _; (try simp only [size_addB, size_setB, size_drew]); omega)))) rfl (by simp [Value.oneCell']) (by simp) ?_)
              refine L.nil ?_
              refine X.sq ?_
              refine V.region ?_
              refine L.rd (rd_move rfl) rfl ?_
              refine L.rd (rd_move rfl) rfl ?_
              refine L.rd (rd_fieldAddr tok rfl rfl rfl rfl rfl rfl) rfl ?_
              refine L.rd (rd_load1 tok rfl rfl rfl (by first | assumption | exact Bl.cell (by (repeat (first | assumption | (refine Bl.new' ?_ _ _; first | with_reducible rfl | (simp only [size_addB, size_setB, size_drew]; done)) | apply Bl.add | apply Bl.drew | (apply Bl.setNe; omega) | (refine Bl.set' ?_ _ _; (try simp only [size_addB, size_setB, size_drew]); omega)))) rfl)) rfl ?_
              refine L.rd (rd_xorW rfl) rfl ?_
              refine L.rd (rd_fieldAddr tok rfl rfl rfl rfl rfl rfl) rfl ?_
              refine L.rd (rd_load1 tok rfl rfl rfl (by first | assumption | exact Bl.cell (by (repeat (first | assumption | (refine Bl.new' ?_ _ _; first | with_reducible rfl | (simp only [size_addB, size_setB, size_drew]; done)) | apply Bl.add | apply Bl.drew | (apply Bl.setNe; omega) | (refine Bl.set' ?_ _ _; (try simp only [size_addB, size_setB, size_drew]); omega)))) rfl)) rfl ?_
              refine L.rd (rd_xorW rfl) rfl ?_
              refine L.rd (rd_build (out := [_, _]) tok rfl rfl rfl rfl rfl) rfl ?_
              (refine L.rd (rd_indexSlice (sz := 2) tok rfl rfl rfl rfl rfl rfl rfl ?_) rfl ?_; omega)
              refine L.ef (e_store (vs := [_, _]) tok rfl rfl rfl rfl hbs rfl (by simp [Value.oneCell']) (by simp; omega) ?_)
              refine L.nil ?_
              refine X.bk ?_
              refine X.sq ?_
              refine V.region ?_
              refine L.rd (rd_move rfl) rfl ?_
              (refine L.rd (rd_add3 rfl rfl ?_) rfl ?_; omega)
              refine L.rd (rd_assign rfl) rfl ?_
              refine L.nil ?_
              simp only [Nat.zero_add, Int.toNat_natCast]
              refine X.lp ⟨_, _, by omega, (by repeat' (first | exact trivial | refine ⟨rfl, ?_⟩)), j + 1, rfl, rfl, by omega, ?_, (hR.trans (Rg.ext hEf _ _)).trans (Rg.set ⟨hlo1, hhi1⟩ _ _)⟩
              rw [put_split flipF fs j x hx, List.set_set] at hO1
              exact hO1
            ·
              refine V.exit ?_
              refine X.sqExit ?_
              refine X.lpExit ?_
              refine X.bkHere ?_
              refine X.bk ?_
              refine X.sq ?_
              refine V.region ?_
              refine L.rd (rd_move rfl) rfl ?_
              (refine L.rd (rd_add3 rfl rfl ?_) rfl ?_; omega)
              refine L.rd (rd_assign rfl) rfl ?_
              refine L.nil ?_
              rw [split_all flipF fs j (by omega)] at hOj
              refine X.lp ⟨_, _, by omega, (by repeat' (first | exact trivial | refine ⟨rfl, ?_⟩)), i + 1, rfl, rfl, by omega, ?_, hR⟩
              rw [← put_split flipS (Ls.map flipC) i _ hm1]
              exact hOj
        ·
          refine V.exit ?_
          refine X.sqExit ?_
          refine X.lpExit ?_
          refine X.bkHere ?_
          refine ret_0 Yaam.results46 ?_
          rw [split_all flipS (Ls.map flipC) i (by simp; omega)] at hOi
          exact ⟨_, hOi, pol_flip Ls, hR⟩
end Go.Proofs.Ybxaaw
