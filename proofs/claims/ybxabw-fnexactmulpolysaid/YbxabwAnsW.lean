/-
  What the laws do with an answer's terms: growing, turning over.
-/
import Derived.Test.YbxabwTermW3
import Derived.Test.YbxabwFromW
set_option linter.unusedVariables false
set_option linter.unusedSimpArgs false
set_option maxRecDepth 10000
namespace Go.Mw
theorem OwnT.keepTop {w w' : World} {lo hi : Nat} {eT eF : TypeId} {v : Value} {Ls : List Lt} (h : OwnT w lo hi eT eF v Ls) (hg : w.grownBy w' v.ownBlock) (hn : w'.ownsRow lo eT 2 v Ls.length (Ls.flatMap ltE)) : OwnT w' lo hi eT eF v Ls := h.setTop rfl hg hn
theorem OwnT.keepSub {w w' : World} {lo hi : Nat} {eT eF : TypeId} {v : Value} {Ls : List Lt} (h : OwnT w lo hi eT eF v Ls) {i : Nat} {t : Lt} (ht : Ls[i]? = some t) (hg : w.grownBy w' t.2.1.ownBlock) (hn : w'.ownsRow lo eF 2 t.2.1 t.2.2.length (prC t.2.2)) : OwnT w' lo hi eT eF v Ls := by
  have := h.setSub ht (fs := t.2.2) hg hn
  have e : (t.1, t.2.1, t.2.2) = t := rfl
  rwa [e, set_same ht] at this
/-- a term turned over -/
def flipL (t : Lt) : Lt := (xr .i64 t.1, t.2.1, t.2.2.map flipF)
theorem pol_flipL (Ls : List Lt) : pol (Ls.map flipL) = flipP (pol Ls) := by simp [pol, flipP, flipL, Function.comp_def]

end Go.Mw
namespace Go.Proofs.Ybxabw
open Go.Mw

theorem growTerms_ok (va : Value) (Ls : List Lt) (w : World) {lo hi : Nat} (hO : OwnT w lo hi 133 135 va Ls) (hS : Sm (pol Ls)) (hlo : lo ≤ w.heap.size) :
    Ret Yabm.prog 55 [va] w fun r w' => OwnT w' lo hi 133 135 va Ls ∧ Rg lo hi w w' := by
  obtain ⟨aa, ca, rfl⟩ := own_form hO.top
  have hSl := hS.top
  refine enter1 Yabm.func55 Yabm.ntmps55 (by kernel_rfl) rfl rfl ?_
  refine V.seq ?_
  refine V.region ?_
  refine L.rd (rd_assign rfl) rfl ?_
  refine L.nil ?_
  refine X.sq ?_
  refine V.seq ?_
  refine V.region ?_
  refine L.rd (rd_move rfl) rfl ?_
  refine L.rd (rd_build (out := [_, _]) tok rfl rfl rfl rfl rfl) rfl ?_
  refine L.ef (e_buildSlice1 (e := 133) (cs := [_, _]) tok rfl rfl rfl rfl rfl rfl rfl rfl rfl (by first | (simp only [size_addB, size_setB, size_drew]; rfl) | rfl) rfl ?_)
  refine L.ef (e_appendK (m := 1) tok rfl rfl rfl rfl rfl rfl rfl rfl rfl rfl (hO.top.alloc _) (Bl.new _ _ _).cells rfl (by simp [Value.oneCell']) (by unfold maxLen; omega) (by simp only []; omega) (by rw [size_addB]; omega) ?_)
  rintro v1 w1 ho1 hg1 hk1
  obtain ⟨a1, c1, rfl⟩ := own_form ho1
  have hE0 : Ext w.heap.size w (addB w 133 [Value.int .i64 (-77), .slice none 0 0]) := (Ext.refl _ _).addNew _ _
  have hO1 := (hO.ext hE0).keepTop hg1 hk1
  have hR1 : Rg lo hi w w1 := (Rg.ext hE0 lo hi).trans (Rg.grownO hg1 (fun g hg => ⟨(own_block_lt hO.top hg).1, hO.lt g hg⟩))
  refine L.rd (rd_assign rfl) rfl ?_
  refine L.nil ?_
  refine X.sq ?_
  refine V.seq ?_
  refine V.region ?_
  refine L.rd (rd_move rfl) rfl ?_
  refine L.rd (rd_lenSlice tok rfl rfl rfl) rfl ?_
  refine L.rd (rd_assign rfl) rfl ?_
  refine L.nil ?_
  refine X.sq ?_
  refine V.seq ?_
  refine V.seq ?_
  refine V.region ?_
  refine L.rd (rd_assign rfl) rfl ?_
  refine L.nil ?_
  refine X.sq ?_
  refine V.block ?_
  refine V.loop (fun m l wr => ∃ (k : Nat) (n : Int), l = [(0, .slice aa Ls.length ca), (4, .int .i64 n), (5, .int .i64 k)] ∧ m = Ls.length - k ∧ k ≤ Ls.length ∧ OwnT wr lo hi 133 135 (.slice aa Ls.length ca) Ls ∧ Rg lo hi w wr) ?_ ?_
  ·
    exact ⟨_, _, (by repeat' (first | exact trivial | refine ⟨rfl, ?_⟩)), 0, _, rfl, rfl, by omega, hO1, hR1⟩
  ·
    clear hO1 hR1
    rintro m l wr ⟨k, n, rfl, rfl, hk, hO2, hR2⟩
    have hwr := hR2.size
    refine V.seq ?_
    refine V.seq ?_
    refine V.region ?_
    refine L.rd (rd_move rfl) rfl ?_
    refine L.rd (rd_move rfl) rfl ?_
    refine L.rd (rd_lenSlice tok rfl rfl rfl) rfl ?_
    refine L.rd (rd_lss rfl rfl) rfl ?_
    refine L.nil ?_
    refine X.sq ?_
    first | refine V.cond rfl (fun h16 => ?_) (fun h16 => ?_) | refine V.condB rfl (fun h16 => ?_) (fun h16 => ?_)
    ·
      obtain ⟨⟨c, fv, fs⟩, ht⟩ := nth_of_lt Ls k (by omega)
      have hSf := hS.nth ht
      have hm := List.mem_of_getElem? ht
      obtain ⟨gt, ct, hvt, -, -, hct⟩ := own_some hO2.top (by omega)
      simp only [Value.slice.injEq] at hvt
      obtain ⟨rfl, -, rfl⟩ := hvt
      have hcx := Tl.cells hct ht
      have hfo := hO2.sub _ hm
      have hflt := hO2.subLt _ hm
      simp only at hcx hSf hfo hflt
      obtain ⟨fa, fc, rfl⟩ := own_form hfo
      refine V.skip ?_
      refine X.sq ?_
      refine V.seq ?_
      refine V.block ?_
      refine V.seq ?_
      refine V.region ?_
      refine L.rd (rd_move rfl) rfl ?_
      refine L.rd (rd_move rfl) rfl ?_
      (refine L.rd (rd_indexSlice (sz := 2) tok rfl rfl rfl rfl rfl rfl rfl ?_) rfl ?_; omega)
      refine L.rd (rd_fieldAddr tok rfl rfl rfl rfl rfl rfl) rfl ?_
      refine L.rd (rd_load1 tok rfl rfl rfl (hcx.at_ 1 _ rfl)) rfl ?_
      refine L.rd (rd_build (out := [_, _]) tok rfl rfl rfl rfl rfl) rfl ?_
      refine L.ef (e_buildSlice1 (e := 135) (cs := [_, _]) tok rfl rfl rfl rfl rfl rfl rfl rfl rfl (by first | (simp only [size_addB, size_setB, size_drew]; rfl) | rfl) rfl ?_)
      refine L.ef (e_appendK (m := 1) tok rfl rfl rfl rfl rfl rfl rfl rfl rfl rfl (hfo.alloc _) (Bl.new _ _ _).cells rfl (by simp [Value.oneCell']) (by unfold maxLen; omega) (by simp only []; omega) (by rw [size_addB]; omega) ?_)
      rintro v3 w3 ho3 hg3 hk3
      obtain ⟨a3, c3, rfl⟩ := own_form ho3
      have hE3 : Ext wr.heap.size wr (addB wr 135 [Value.int .i64 (-77), .int .i64 (-77)]) := (Ext.refl _ _).addNew _ _
      have hO3 := (hO2.ext hE3).keepSub ht hg3 hk3
      have hR3 : Rg lo hi w w3 := (hR2.trans (Rg.ext hE3 lo hi)).trans (Rg.grownO hg3 (fun g hg => ⟨(own_block_lt hfo hg).1, hflt g hg⟩))
      refine L.rd (rd_assign rfl) rfl ?_
      refine L.nil ?_
      refine X.sq ?_
      refine V.region ?_
      refine L.rd (rd_move rfl) rfl ?_
      refine L.rd (rd_move rfl) rfl ?_
      refine L.rd (rd_lenSlice tok rfl rfl rfl) rfl ?_
      refine L.rd (rd_addW rfl rfl) rfl ?_
      refine L.rd (rd_assign rfl) rfl ?_
      refine L.nil ?_
      refine X.bk ?_
      refine X.sq ?_
      refine V.region ?_
      refine L.rd (rd_move rfl) rfl ?_
      (refine L.rd (rd_add3 rfl rfl ?_) rfl ?_; omega)
      refine L.rd (rd_assign rfl) rfl ?_
      refine L.nil ?_
      exact X.lp ⟨_, _, by omega, (by repeat' (first | exact trivial | refine ⟨rfl, ?_⟩)), k + 1, _, rfl, rfl, by omega, hO3, hR3⟩
    ·
      refine V.exit ?_
      refine X.sqExit ?_
      refine X.lpExit ?_
      refine X.bkHere ?_
      refine X.sq ?_
      refine V.seq ?_
      refine V.region ?_
      refine L.rd (rd_move rfl) rfl ?_
      refine L.rd (rd_assign rfl) rfl ?_
      refine L.nil ?_
      refine X.sq ?_
      refine V.ret ?_
      refine ret_1 Yabm.results55 rfl ?_
      exact ⟨hO2, hR2⟩

theorem flipAnswer_ok (va : Value) (Ls : List Lt) (w : World) {lo hi : Nat} (hO : OwnT w lo hi 133 135 va Ls) (hS : Sm (pol Ls)) :
    Ret Yabm.prog 56 [va] w fun r w' => OwnT w' lo hi 133 135 va (Ls.map flipL) ∧ Rg lo hi w w' := by
  obtain ⟨aa, ca, rfl⟩ := own_form hO.top
  have hSl := hS.top
  refine enter1 Yabm.func56 Yabm.ntmps56 (by kernel_rfl) rfl rfl ?_
  refine V.seq ?_
  refine V.region ?_
  refine L.rd (rd_assign rfl) rfl ?_
  refine L.nil ?_
  refine X.sq ?_
  refine V.block ?_
  refine V.loop (fun m l wr => ∃ (k : Nat), l = [(0, .slice aa Ls.length ca), (2, .int .i64 k)] ∧ m = Ls.length - k ∧ k ≤ Ls.length ∧ OwnT wr lo hi 133 135 (.slice aa Ls.length ca) ((Ls.take k).map flipL ++ Ls.drop k) ∧ Rg lo hi w wr) ?_ ?_
  ·
    exact ⟨_, _, (by repeat' (first | exact trivial | refine ⟨rfl, ?_⟩)), 0, rfl, rfl, by omega, by simpa using hO, Rg.refl _ _ _⟩
  ·
    rintro m l wr ⟨k, rfl, rfl, hk, hOk, hR⟩
    refine V.seq ?_
    refine V.seq ?_
    refine V.region ?_
    refine L.rd (rd_move rfl) rfl ?_
    refine L.rd (rd_move rfl) rfl ?_
    refine L.rd (rd_lenSlice tok rfl rfl rfl) rfl ?_
    refine L.rd (rd_lss rfl rfl) rfl ?_
    refine L.nil ?_
    refine X.sq ?_
    first | refine V.cond rfl (fun h9 => ?_) (fun h9 => ?_) | refine V.condB rfl (fun h9 => ?_) (fun h9 => ?_)
    ·
      obtain ⟨⟨c, fv, fs⟩, ht⟩ := nth_of_lt Ls k (by omega)
      have hSf := hS.nth ht
      have ht2 := nth_split flipL Ls k _ ht
      obtain ⟨g, cap, hgv, -, -, hct⟩ := own_some hOk.top (by rw [len_split]; omega)
      simp only [Value.slice.injEq] at hgv
      obtain ⟨rfl, -, rfl⟩ := hgv
      have hcx := Tl.cells hct ht2
      obtain ⟨cs, hbs, hln, hlo1, hhi1, hO1⟩ := hOk.storeC (c := xr .i64 c) ht2
      obtain ⟨fa, fc, hfv⟩ := own_form (hOk.sub _ (List.mem_of_getElem? ht2))
      simp only at hfv hSf hcx hO1
      subst hfv
      refine V.skip ?_
      refine X.sq ?_
      refine V.seq ?_
      refine V.block ?_
      refine V.seq ?_
      refine V.region ?_
      refine L.rd (rd_move rfl) rfl ?_
      refine L.rd (rd_move rfl) rfl ?_
      refine L.rd (rd_move rfl) rfl ?_
      refine L.rd (rd_move rfl) rfl ?_
      (refine L.rd (rd_indexSlice (sz := 2) tok rfl rfl rfl rfl rfl rfl rfl ?_) rfl ?_; omega)
      refine L.rd (rd_fieldAddr tok rfl rfl rfl rfl rfl rfl) rfl ?_
      refine L.rd (rd_load1 tok rfl rfl rfl (hcx.at_ 0 _ rfl)) rfl ?_
      refine L.rd (rd_xorW rfl) rfl ?_
      (refine L.rd (rd_indexSlice (sz := 2) tok rfl rfl rfl rfl rfl rfl rfl ?_) rfl ?_; omega)
      refine L.rd (rd_fieldAddr tok rfl rfl rfl rfl rfl rfl) rfl ?_
      refine L.ef (e_store (vs := [_]) tok rfl rfl rfl rfl hbs rfl (by simp [Value.oneCell']) (by simp; omega) ?_)
      (simp only [Nat.zero_add, Int.toNat_natCast, Nat.add_zero])
      refine L.nil ?_
      refine X.sq ?_
      refine V.seq ?_
      obtain ⟨w2, hw2⟩ : ∃ w2, w2 = setB wr g 133 (putAt cs (k * 2) [Value.int .i64 (xr .i64 c)]) := ⟨_, rfl⟩
      rw [← hw2] at hO1 ⊢
      have hR2 : Rg lo hi w w2 := by rw [hw2]; exact hR.trans (Rg.set ⟨hlo1, hhi1⟩ _ _)
      obtain ⟨M, hM⟩ : ∃ M, M = ((Ls.take k).map flipL ++ Ls.drop k).set k (xr .i64 c, .slice fa fs.length fc, fs) := ⟨_, rfl⟩
      rw [← hM] at hO1
      have hMl : M.length = Ls.length := by rw [hM, List.length_set, len_split]
      have hMk : M[k]? = some (xr .i64 c, .slice fa fs.length fc, fs) := by rw [hM]; exact List.getElem?_set_self (by rw [len_split]; omega)
      obtain ⟨g', cap', hgv', -, -, hct2⟩ := own_some hO1.top (by omega)
      simp only [Value.slice.injEq, Option.some.injEq, Addr.mk.injEq] at hgv'
      obtain ⟨⟨rfl, -, -⟩, -, -⟩ := hgv'
      have hcx2 := Tl.cells hct2 hMk
      refine V.region ?_
      refine L.rd (rd_move rfl) rfl ?_
      refine L.rd (rd_move rfl) rfl ?_
      (refine L.rd (rd_indexSlice (sz := 2) tok rfl rfl rfl rfl rfl rfl rfl ?_) rfl ?_; omega)
      refine L.rd (rd_fieldAddr tok rfl rfl rfl rfl rfl rfl) rfl ?_
      refine L.rd (rd_load1 tok rfl rfl rfl (hcx2.at_ 1 _ rfl)) rfl ?_
      refine L.rd (rd_assign rfl) rfl ?_
      refine L.nil ?_
      refine X.sq ?_
      refine V.seq ?_
      refine V.region ?_
      refine L.rd (rd_assign rfl) rfl ?_
      refine L.nil ?_
      refine X.sq ?_
      refine V.block ?_
      refine V.loop (fun m l w3 => ∃ (j : Nat), l = [(0, .slice (some ⟨g, 0, none⟩) Ls.length ca), (2, .int .i64 k), (3, .slice fa fs.length fc), (4, .int .i64 j)] ∧ m = fs.length - j ∧ j ≤ fs.length ∧ OwnT w3 lo hi 133 135 (.slice (some ⟨g, 0, none⟩) Ls.length ca) (M.set k (xr .i64 c, .slice fa fs.length fc, (fs.take j).map flipF ++ fs.drop j)) ∧ Rg lo hi w w3) ?_ ?_
      ·
        exact ⟨_, _, (by repeat' (first | exact trivial | refine ⟨rfl, ?_⟩)), 0, rfl, rfl, by omega, by rw [split_zero, set_same hMk]; exact hO1, hR2⟩
      ·
        rintro m l w3 ⟨j, rfl, rfl, hj, hOj, hR3⟩
        refine V.seq ?_
        refine V.seq ?_
        refine V.region ?_
        refine L.rd (rd_move rfl) rfl ?_
        refine L.rd (rd_move rfl) rfl ?_
        refine L.rd (rd_lenSlice tok rfl rfl rfl) rfl ?_
        refine L.rd (rd_lss rfl rfl) rfl ?_
        refine L.nil ?_
        refine X.sq ?_
        first | refine V.cond rfl (fun h30 => ?_) (fun h30 => ?_) | refine V.condB rfl (fun h30 => ?_) (fun h30 => ?_)
        ·
          obtain ⟨x, hx⟩ := nth_of_lt fs j (by omega)
          have hx2 := nth_split flipF fs j x hx
          have ht3 : (M.set k (xr .i64 c, .slice fa fs.length fc, (fs.take j).map flipF ++ fs.drop j))[k]? = some (xr .i64 c, .slice fa fs.length fc, (fs.take j).map flipF ++ fs.drop j) := List.getElem?_set_self (by omega)
          have hsub := hOj.sub _ (List.mem_of_getElem? ht3)
          obtain ⟨g3, cap3, sp, hgv3, -, -, hgl, hblg, -, -, -⟩ := own_put prE_len (a := (fs.take j).map flipF ++ fs.drop j) hsub (k := j) (by rw [len_split]; omega)
          simp only [Value.slice.injEq] at hgv3
          obtain ⟨rfl, -, rfl⟩ := hgv3
          have hcf := hblg.cells.sub (j * 2) [Value.int .i64 x.1, .int .i64 x.2] (fun q u hu => by
            have h1 := fm_get prE_len _ j x hx2 q u hu
            rw [List.getElem?_append_left (List.getElem?_eq_some_iff.1 h1).1]; exact h1)
          have hEf : Ext w3.heap.size w3 (setB (addB w3 135 [Value.int .i64 0, .int .i64 0]) w3.heap.size 135 (putAt [Value.int .i64 0, .int .i64 0] 0 [Value.int .i64 x.1, .int .i64 x.2])) := ((Ext.refl _ _).addNew _ _).set (Nat.le_refl _) _ _
          obtain ⟨cs3, hbs3, hln3, hlo3, hhi3, hO3⟩ := (hOj.ext hEf).storeF (j := j) (x := flipF x) ht3 (by rw [len_split flipF fs j]; omega)
          refine V.skip ?_
          refine X.sq ?_
          refine V.seq ?_
          refine V.block ?_
          refine V.seq ?_
          refine V.region ?_
          refine L.rd (rd_move rfl) rfl ?_
          refine L.rd (rd_move rfl) rfl ?_
          (refine L.rd (rd_indexSlice (sz := 2) tok rfl rfl rfl rfl rfl rfl rfl ?_) rfl ?_; omega)
          refine L.rd (rd_loadN tok rfl rfl rfl hcf rfl) rfl ?_
          refine L.ef (e_alloc (cs := [_, _]) tok rfl rfl (by first | (simp only [size_addB, size_setB, size_drew]; rfl) | rfl) rfl ?_)
          refine L.ef (e_store (vs := [_, _]) tok rfl rfl rfl rfl (by (repeat (first | assumption | (refine Bl.new' ?_ _ _; first | with_reducible rfl | (simp only [size_addB, size_setB, size_drew]; done)) | apply Bl.add | apply Bl.drew | (apply Bl.setNe; omega) | (refine Bl.set' ?_ _ _; (try simp only [size_addB, size_setB, size_drew]); omega)))) rfl (by simp [Value.oneCell']) (by simp) ?_)
          refine L.nil ?_
          refine X.sq ?_
          refine V.region ?_
          refine L.rd (rd_move rfl) rfl ?_
          refine L.rd (rd_move rfl) rfl ?_
          refine L.rd (rd_fieldAddr tok rfl rfl rfl rfl rfl rfl) rfl ?_
          refine L.rd (rd_load1 tok rfl rfl rfl (by first | assumption | exact Bl.cell (by (repeat (first | assumption | (refine Bl.new' ?_ _ _; first | with_reducible rfl | (simp only [size_addB, size_setB, size_drew]; done)) | apply Bl.add | apply Bl.drew | (apply Bl.setNe; omega) | (refine Bl.set' ?_ _ _; (try simp only [size_addB, size_setB, size_drew]); omega)))) rfl)) rfl ?_
          refine L.rd (rd_xorW rfl) rfl ?_
          refine L.rd (rd_fieldAddr tok rfl rfl rfl rfl rfl rfl) rfl ?_
          refine L.rd (rd_load1 tok rfl rfl rfl (by first | assumption | exact Bl.cell (by (repeat (first | assumption | (refine Bl.new' ?_ _ _; first | with_reducible rfl | (simp only [size_addB, size_setB, size_drew]; done)) | apply Bl.add | apply Bl.drew | (apply Bl.setNe; omega) | (refine Bl.set' ?_ _ _; (try simp only [size_addB, size_setB, size_drew]); omega)))) rfl)) rfl ?_
          refine L.rd (rd_xorW rfl) rfl ?_
          refine L.rd (rd_build (out := [_, _]) tok rfl rfl rfl rfl rfl) rfl ?_
          (refine L.rd (rd_indexSlice (sz := 2) tok rfl rfl rfl rfl rfl rfl rfl ?_) rfl ?_; omega)
          refine L.ef (e_store (vs := [_, _]) tok rfl rfl rfl rfl hbs3 rfl (by simp [Value.oneCell']) (by simp; omega) ?_)
          refine L.nil ?_
          refine X.bk ?_
          refine X.sq ?_
          refine V.region ?_
          refine L.rd (rd_move rfl) rfl ?_
          (refine L.rd (rd_add3 rfl rfl ?_) rfl ?_; omega)
          refine L.rd (rd_assign rfl) rfl ?_
          refine L.nil ?_
          simp only [Nat.zero_add, Int.toNat_natCast]
          refine X.lp ⟨_, _, by omega, (by repeat' (first | exact trivial | refine ⟨rfl, ?_⟩)), j + 1, rfl, rfl, by omega, ?_, (hR3.trans (Rg.ext hEf _ _)).trans (Rg.set ⟨hlo3, hhi3⟩ _ _)⟩
          rw [put_split flipF fs j x hx, List.set_set] at hO3
          exact hO3
        ·
          refine V.exit ?_
          refine X.sqExit ?_
          refine X.lpExit ?_
          refine X.bkHere ?_
          refine X.bk ?_
          refine X.sq ?_
          refine V.region ?_
          refine L.rd (rd_move rfl) rfl ?_
          (refine L.rd (rd_add3 rfl rfl ?_) rfl ?_; omega)
          refine L.rd (rd_assign rfl) rfl ?_
          refine L.nil ?_
          rw [split_all flipF fs j (by omega), hM, List.set_set] at hOj
          refine X.lp ⟨_, _, by omega, (by repeat' (first | exact trivial | refine ⟨rfl, ?_⟩)), k + 1, rfl, rfl, by omega, ?_, hR3⟩
          rw [← put_split flipL Ls k _ ht]
          exact hOj
    ·
      refine V.exit ?_
      refine X.sqExit ?_
      refine X.lpExit ?_
      refine X.bkHere ?_
      refine ret_0 Yabm.results56 ?_
      rw [split_all flipL Ls k (by omega)] at hOk
      exact ⟨hOk, hR⟩
end Go.Proofs.Ybxabw
