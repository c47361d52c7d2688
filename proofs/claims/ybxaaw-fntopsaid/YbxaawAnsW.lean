/-
  What the laws do with an answer's terms: growing, turning over.
-/
import Derived.Test.YbxaawTermW3
import Derived.Test.YbxaawFromW
set_option linter.unusedVariables false
set_option linter.unusedSimpArgs false
set_option maxRecDepth 10000
namespace Go.Mw
theorem OwnT.keepTop {w w' : World} {lo hi : Nat} {eT eF : TypeId} {v : Value} {Ls : List Lt} (h : OwnT w lo hi eT eF v Ls) (hg : w.grownBy w' v.ownBlock) (hn : w'.ownsRow lo eT 2 v Ls.length (Ls.flatMap ltE)) : OwnT w' lo hi eT eF v Ls := h.setTop rfl hg hn
theorem OwnT.keepSub {w w' : World} {lo hi : Nat} {eT eF : TypeId} {v : Value} {Ls : List Lt} (h : OwnT w lo hi eT eF v Ls) {i : Nat} {t : Lt} (ht : Ls[i]? = some t) (hg : w.grownBy w' t.2.1.ownBlock) (hn : w'.ownsRow lo eF 2 t.2.1 t.2.2.length (prC t.2.2)) : OwnT w' lo hi eT eF v Ls := by
  have := h.setSub ht (fs := t.2.2) hg hn
  have e : (t.1, t.2.1, t.2.2) = t := rfl
  rwa [e, set_same ht] at this
/-- a term turned over -/
def flipL (t : Lt) : Lt := (xr .i64 t.1, t.2.1, t.2.2.map flipF)
theorem pol_flipL (Ls : List Lt) : pol (Ls.map flipL) = flipP (pol Ls) := by simp [pol, flipP, flipL, Function.comp_def]

end Go.Mw
namespace Go.Proofs.Ybxaaw
open Go.Mw

theorem growTerms_ok (va : Value) (Ls : List Lt) (w : World) {lo hi : Nat} (hO : OwnT w lo hi 58 109 va Ls) (hS : Sm (pol Ls)) (hlo : lo ≤ w.heap.size) :
    Ret Yaam.prog 45 [va] w fun r w' => OwnT w' lo hi 58 109 va Ls ∧ Rg lo hi w w' := by
  obtain ⟨aa, ca, rfl⟩ := own_form hO.top
  have hSl := hS.top
  refine enter1 Yaam.func45 Yaam.ntmps45 (by kernel_rfl) rfl rfl ?_
  refine V.seq ?_
  refine V.region ?_
  refine L.rd (rd_assign rfl) rfl ?_
  refine L.nil ?_
  refine X.sq ?_
  refine V.seq ?_
  refine V.region ?_
  refine L.rd (rd_move rfl) rfl ?_
  refine L.rd (rd_build (out := [_, _]) tok rfl rfl rfl rfl rfl) rfl ?_
  refine L.ef (e_buildSlice1 (e := 58) (cs := [_, _]) tok rfl rfl rfl rfl rfl rfl rfl rfl rfl (by first | (simp only [size_addB, size_setB, size_drew]; rfl) | rfl) rfl ?_)
  refine L.ef (e_appendK (m := 1) tok rfl rfl rfl rfl rfl rfl rfl rfl rfl rfl (hO.top.alloc _) (Bl.new _ _ _).cells rfl (by simp [Value.oneCell']) (by unfold maxLen; omega) (by simp only []; omega) (by rw [size_addB]; omega) ?_)
  rintro v1 w1 ho1 hg1 hk1
  obtain ⟨a1, c1, rfl⟩ := own_form ho1
  have hE0 : Ext w.heap.size w (addB w 58 [Value.int .i64 (-77), .slice none 0 0]) := (Ext.refl _ _).addNew _ _
  have hO1 := (hO.ext hE0).keepTop hg1 hk1
  have hR1 : Rg lo hi w w1 := (Rg.ext hE0 lo hi).trans (Rg.grownO hg1 (fun g hg => ⟨(own_block_lt hO.top hg).1, hO.lt g hg⟩))
  refine L.rd (rd_assign rfl) rfl ?_
  refine L.nil ?_
  refine X.sq ?_
  refine V.seq ?_
  refine V.region ?_
  refine L.rd (rd_move rfl) rfl ?_
  refine L.rd (rd_lenSlice tok rfl rfl rfl) rfl ?_
  refine L.rd (rd_assign rfl) rfl ?_
  refine L.nil ?_
  refine X.sq ?_
  refine V.seq ?_
  refine V.seq ?_
  refine V.region ?_
  refine L.rd (rd_assign rfl) rfl ?_
  refine L.nil ?_
  refine X.sq ?_
  refine V.block ?_
  refine V.loop (fun m l wr => ∃ (k : Nat) (n : Int), l = [(0, .slice aa Ls.length ca), (4, .int .i64 n), (5, .int .i64 k)] ∧ m = Ls.length - k ∧ k ≤ Ls.length ∧ OwnT wr lo hi 58 109 (.slice aa Ls.length ca) Ls ∧ Rg lo hi w wr) ?_ ?_
  ·
    exact ⟨_, _, (by repeat' (first | exact trivial | refine ⟨rfl, ?_⟩)), 0, _, rfl, rfl, by omega, hO1, hR1⟩
  ·
    clear hO1 hR1
    rintro m l wr ⟨k, n, rfl, rfl, hk, hO2, hR2⟩
    have hwr := hR2.size
    refine V.seq ?_
    refine V.seq ?_
    refine V.region ?_
    refine L.rd (rd_move rfl) rfl ?_
    refine L.rd (rd_move rfl) rfl ?_
    refine L.rd (rd_lenSlice tok rfl rfl rfl) rfl ?_
    refine L.rd (rd_lss rfl rfl) rfl ?_
    refine L.nil ?_
    refine X.sq ?_
    first | refine V.cond rfl (fun h16 => ?_) (fun h16 => ?_) | refine V.condB rfl (fun h16 => ?_) (fun h16 => ?_)
    ·
      obtain ⟨⟨c, fv, fs⟩, ht⟩ := nth_of_lt Ls k (by omega)
      have hSf := hS.nth ht
      have hm := List.mem_of_getElem? ht
      obtain ⟨gt, ct, hvt, -, -, hct⟩ := own_some hO2.top (by omega)
      simp only [Value.slice.injEq] at hvt
      obtain ⟨rfl, -, rfl⟩ := hvt
      have hcx := Tl.cells hct ht
      have hfo := hO2.sub _ hm
      have hflt := hO2.subLt _ hm
      simp only at hcx hSf hfo hflt
      obtain ⟨fa, fc, rfl⟩ := own_form hfo
      refine V.skip ?_
      refine X.sq ?_
      refine V.seq ?_
      refine V.block ?_
      refine V.seq ?_
      refine V.region ?_
      refine L.rd (rd_move rfl) rfl ?_
      refine L.rd (rd_move rfl) rfl ?_
      (refine L.rd (rd_indexSlice (sz := 2) tok rfl rfl rfl rfl rfl rfl rfl ?_) rfl ?_; omega)
      refine L.rd (rd_fieldAddr tok rfl rfl rfl rfl rfl rfl) rfl ?_
      refine L.rd (rd_load1 tok rfl rfl rfl (hcx.at_ 1 _ rfl)) rfl ?_
      refine L.rd (rd_build (out := [_, _]) tok rfl rfl rfl rfl rfl) rfl ?_
      refine L.ef (e_buildSlice1 (e := 109) (cs := [_, _]) tok rfl rfl rfl rfl rfl rfl rfl rfl rfl (by first | (simp only [size_addB, size_setB, size_drew]; rfl) | rfl) rfl ?_)
      refine L.ef (e_appendK (m := 1) tok rfl rfl rfl rfl rfl rfl rfl rfl rfl rfl (hfo.alloc _) (Bl.new _ _ _).cells rfl (by simp [Value.oneCell']) (by unfold maxLen; omega) (by simp only []; omega) (by rw [size_addB]; omega) ?_)
      rintro v3 w3 ho3 hg3 hk3
      obtain ⟨a3, c3, rfl⟩ := own_form ho3
      have hE3 : Ext wr.heap.size wr (addB wr 109 [Value.int .i64 (-77), .int .i64 (-77)]) := (Ext.refl _ _).addNew _ _
      have hO3 := (hO2.ext hE3).keepSub ht hg3 hk3
      have hR3 : Rg lo hi w w3 := (hR2.trans (Rg.ext hE3 lo hi)).trans (Rg.grownO hg3 (fun g hg => ⟨(own_block_lt hfo hg).1, hflt g hg⟩))
      refine L.rd (rd_assign rfl) rfl ?_
      refine L.nil ?_
      refine X.sq ?_
      refine V.region ?_
      refine L.rd (rd_move rfl) rfl ?_
      refine L.rd (rd_move rfl) rfl ?_
      refine L.rd (rd_lenSlice tok rfl rfl rfl) rfl ?_
      refine L.rd (rd_addW rfl rfl) rfl ?_
      refine L.rd (rd_assign rfl) rfl ?_
      refine L.nil ?_
      refine X.bk ?_
      refine X.sq ?_
      refine V.region ?_
      refine L.rd (rd_move rfl) rfl ?_
      (refine L.rd (rd_add3 rfl rfl ?_) rfl ?_; omega)
      refine L.rd (rd_assign rfl) rfl ?_
      refine L.nil ?_
      exact X.lp ⟨_, _, by omega, (by repeat' (first | exact trivial | refine ⟨rfl, ?_⟩)), k + 1, _, rfl, rfl, by omega, hO3, hR3⟩
    ·
      refine V.exit ?_
      refine X.sqExit ?_
      refine X.lpExit ?_
      refine X.bkHere ?_
      refine X.sq ?_
      refine V.seq ?_
      refine V.region ?_
      refine L.rd (rd_move rfl) rfl ?_
      refine L.rd (rd_assign rfl) rfl ?_
      refine L.nil ?_
      refine X.sq ?_
      refine V.ret ?_
      refine ret_1 Yaam.results45 rfl ?_
      exact ⟨hO2, hR2⟩

end Go.Proofs.Ybxaaw
