/-
  laws.cloneTermsI, laws.okP, spec.EvalTerms, walked.
-/
import Derived.Test.YbxaawTermW
import Derived.Test.YbxaawEvalW
import Derived.Test.YbxaawNmP
set_option linter.unusedVariables false
set_option linter.unusedSimpArgs false
set_option maxRecDepth 10000
namespace Go.Proofs.Ybxaaw
open Go.Mw

theorem cloneTermsI_ok (va : Value) (Ls : List Lt) (w : World) {lo hi : Nat} (hT : Tl w lo hi va Ls) (hS : Sm (pol Ls)) : Ret Yaam.prog 40 [va] w (Copied 58 109 (pol Ls) w) := by
  obtain ⟨aa, ca, rfl, hfa⟩ := hT.form
  have hSl := hS.top
  refine enter1 Yaam.func40 Yaam.ntmps40 (by kernel_rfl) rfl rfl ?_
  refine V.seq ?_
  refine V.region ?_
  refine L.rd (rd_assign rfl) rfl ?_
  refine L.nil ?_
  refine X.sq ?_
  refine V.seq ?_
  refine V.region ?_
  refine L.rd (rd_move rfl) rfl ?_
  refine L.rd (rd_lenSlice tok rfl rfl rfl) rfl ?_
  refine L.ef (e_make (e := 58) (zs := [_, _]) tok rfl rfl rfl rfl rfl rfl rfl rfl (by first | (simp only [size_addB, size_setB, size_drew]; rfl) | rfl) rfl (by omega) (by simp only []; omega) (by omega) ?_)
  refine L.rd (rd_assign rfl) rfl ?_
  refine L.nil ?_
  refine X.sq ?_
  refine V.seq ?_
  refine V.seq ?_
  refine V.region ?_
  refine L.rd (rd_assign rfl) rfl ?_
  refine L.nil ?_
  refine X.sq ?_
  refine V.block ?_
  refine V.loop (fun m l wr => ∃ (k : Nat) (Ms : List Lt), l = [(0, .slice aa Ls.length ca), (3, .slice (some ⟨w.heap.size, 0, none⟩) Ls.length Ls.length), (4, .int .i64 k)] ∧ m = Ls.length - k ∧ k ≤ Ls.length ∧ Ext w.heap.size w wr ∧ OwnT wr w.heap.size wr.heap.size 58 109 (.slice (some ⟨w.heap.size, 0, none⟩) Ls.length Ls.length) Ms ∧ Ms.length = (pol Ls).length ∧ pol (Ms.take k) = (pol Ls).take k) ?_ ?_
  ·
    refine ⟨_, _, (by repeat' (first | exact trivial | refine ⟨rfl, ?_⟩)), 0, List.replicate Ls.length (0, .slice none 0 0, []), rfl, rfl, by omega, (Ext.refl _ _).addNew _ _, OwnT.zeros ?_ (Nat.le_refl _) (by rw [size_addB]; omega) (by unfold maxLen; omega), by simp [pol_length], by simp [pol]⟩
    have := Bl.new w 58 ((List.replicate Ls.length (ltE (0, .slice none 0 0, []))).flatten)
    rw [← fm_replicate ltE_len]; exact this
  ·
    rintro m l wr ⟨k, Ms, rfl, rfl, hk, hE, hO, hMl, hMp⟩
    have hwr := hE.size
    rw [pol_length] at hMl
    refine V.seq ?_
    refine V.seq ?_
    refine V.region ?_
    refine L.rd (rd_move rfl) rfl ?_
    refine L.rd (rd_move rfl) rfl ?_
    refine L.rd (rd_lenSlice tok rfl rfl rfl) rfl ?_
    refine L.rd (rd_lss rfl rfl) rfl ?_
    refine L.nil ?_
    refine X.sq ?_
    first | refine V.cond rfl (fun h13 => ?_) (fun h13 => ?_) | refine V.condB rfl (fun h13 => ?_) (fun h13 => ?_)
    ·
      obtain ⟨b1, o1, rfl, -, -, hc1⟩ := hfa.resolve_left (by omega)
      obtain ⟨⟨c, fv, fs⟩, ht⟩ := nth_of_lt Ls k (by omega)
      have hcx := Tl.cells (hc1.le hE.leC) ht
      have hSf := hS.nth ht
      have hsub := (hT.ext hE).sub _ (List.mem_of_getElem? ht)
      obtain ⟨fa, fc, hfv, hff⟩ := hsub.form
      simp only at hfv hff hcx hSf hsub
      subst hfv
      refine V.skip ?_
      refine X.sq ?_
      refine V.seq ?_
      refine V.block ?_
      refine V.seq ?_
      refine V.region ?_
      refine L.rd (rd_move rfl) rfl ?_
      refine L.rd (rd_move rfl) rfl ?_
      (refine L.rd (rd_indexSlice (sz := 2) tok rfl rfl rfl rfl rfl rfl rfl ?_) rfl ?_; omega)
      refine L.rd (rd_fieldAddr tok rfl rfl rfl rfl rfl rfl) rfl ?_
      refine L.rd (rd_load1 tok rfl rfl rfl (hcx.at_ 1 _ rfl)) rfl ?_
      refine L.rd (rd_lenSlice tok rfl rfl rfl) rfl ?_
      refine L.ef (e_make (e := 109) (zs := [_, _]) tok rfl rfl rfl rfl rfl rfl rfl rfl (by first | (simp only [size_addB, size_setB, size_drew]; rfl) | rfl) rfl (by omega) (by simp only []; omega) (by omega) ?_)
      refine L.rd (rd_assign rfl) rfl ?_
      refine L.nil ?_
      refine X.sq ?_
      refine V.seq ?_
      refine V.seq ?_
      refine V.region ?_
      refine L.rd (rd_assign rfl) rfl ?_
      refine L.nil ?_
      refine X.sq ?_
      refine V.block ?_
      refine V.loop (fun m l w3 => ∃ (j : Nat) (g : List (Int × Int)), l = [(0, .slice (some ⟨b1, o1, none⟩) Ls.length ca), (3, .slice (some ⟨w.heap.size, 0, none⟩) Ls.length Ls.length), (4, .int .i64 k), (5, .slice (some ⟨wr.heap.size, 0, none⟩) fs.length fs.length), (6, .int .i64 j)] ∧ m = fs.length - j ∧ j ≤ fs.length ∧ Ext wr.heap.size wr w3 ∧ Bl w3 wr.heap.size 109 (prC g) ∧ g.length = fs.length ∧ g.take j = fs.take j) ?_ ?_
      ·
        exact ⟨_, _, (by repeat' (first | exact trivial | refine ⟨rfl, ?_⟩)), 0, List.replicate fs.length (0, 0), rfl, rfl, by omega, (Ext.refl _ _).add (Nat.le_refl _) _ _, by have := Bl.new wr 109 ((List.replicate fs.length (prE (0, 0))).flatten); unfold prC; rw [← fm_replicate prE_len]; exact this, by simp, by simp⟩
      ·
        rintro m l w3 ⟨j, g, rfl, rfl, hj, hE3, hbl, hgl, htk⟩
        have hcx3 := hcx.le hE3.leC
        refine V.seq ?_
        refine V.seq ?_
        refine V.region ?_
        refine L.rd (rd_move rfl) rfl ?_
        refine L.rd (rd_move rfl) rfl ?_
        refine L.rd (rd_lenSlice tok rfl rfl rfl) rfl ?_
        refine L.rd (rd_lss rfl rfl) rfl ?_
        refine L.nil ?_
        refine X.sq ?_
        first | refine V.cond rfl (fun h26 => ?_) (fun h26 => ?_) | refine V.condB rfl (fun h26 => ?_) (fun h26 => ?_)
        ·
          obtain ⟨b2, o2, rfl, -, -, hc2⟩ := hff.resolve_left (by omega)
          obtain ⟨x, hx⟩ := nth_of_lt fs j (by omega)
          have hcf := (hc2.le hE3.leC).sub (j * 2) _ (pr_get fs j x hx)
          have hgl2 := pr_len g
          refine V.skip ?_
          refine X.sq ?_
          refine V.seq ?_
          refine V.block ?_
          refine V.region ?_
          refine L.rd (rd_move rfl) rfl ?_
          refine L.rd (rd_move rfl) rfl ?_
          refine L.rd (rd_move rfl) rfl ?_
          refine L.rd (rd_move rfl) rfl ?_
          (refine L.rd (rd_indexSlice (sz := 2) tok rfl rfl rfl rfl rfl rfl rfl ?_) rfl ?_; omega)
          refine L.rd (rd_fieldAddr tok rfl rfl rfl rfl rfl rfl) rfl ?_
          refine L.rd (rd_load1 tok rfl rfl rfl (hcx3.at_ 1 _ rfl)) rfl ?_
          refine L.rd (rd_move rfl) rfl ?_
          (refine L.rd (rd_indexSlice (sz := 2) tok rfl rfl rfl rfl rfl rfl rfl ?_) rfl ?_; omega)
          refine L.rd (rd_loadN tok rfl rfl rfl hcf rfl) rfl ?_
          (refine L.rd (rd_indexSlice (sz := 2) tok rfl rfl rfl rfl rfl rfl rfl ?_) rfl ?_; omega)
          refine L.ef (e_store (vs := [_, _]) tok rfl rfl rfl rfl hbl rfl (by simp [Value.oneCell']) (by simp; omega) ?_)
          refine L.nil ?_
          refine X.bk ?_
          refine X.sq ?_
          refine V.region ?_
          refine L.rd (rd_move rfl) rfl ?_
          (refine L.rd (rd_add3 rfl rfl ?_) rfl ?_; omega)
          refine L.rd (rd_assign rfl) rfl ?_
          refine L.nil ?_
          refine X.lp ⟨_, _, by omega, (by repeat' (first | exact trivial | refine ⟨rfl, ?_⟩)), j + 1, g.set j x, rfl, rfl, by omega, hE3.set (Nat.le_refl _) _ _, ?_, by simp [hgl], take_put_next fs g j x hgl hx htk⟩
          have h1 := fm_put prE_len [] g j x (by omega)
          rw [List.append_nil, List.append_nil] at h1
          have h2 := Bl.set hbl 109 ((g.set j x).flatMap prE)
          rw [← h1] at h2
          simp only [Nat.zero_add, Int.toNat_natCast]
          show Bl _ _ _ ((g.set j x).flatMap prE)
          rw [← h1]
          exact h2
        ·
          refine V.exit ?_
          refine X.sqExit ?_
          refine X.lpExit ?_
          refine X.bkHere ?_
          refine X.sq ?_
          have hja : j = fs.length := by omega
          subst hja
          rw [List.take_of_length_le (by omega), List.take_of_length_le (by omega)] at htk
          subst htk
          have ho1 := own_of_bl (base := wr.heap.size) (n := g.length) hbl (pr_len _) (Nat.le_refl _) (by unfold maxLen; omega)
          obtain ⟨cs, hb1, hln, hlo1, hhi1, hO1⟩ := (hO.ext hE3).store (k := k) (c := c) (by omega) ho1 hwr hE3.size
          refine V.region ?_
          refine L.rd (rd_move rfl) rfl ?_
          refine L.rd (rd_move rfl) rfl ?_
          refine L.rd (rd_move rfl) rfl ?_
          refine L.rd (rd_move rfl) rfl ?_
          (refine L.rd (rd_indexSlice (sz := 2) tok rfl rfl rfl rfl rfl rfl rfl ?_) rfl ?_; omega)
          refine L.rd (rd_fieldAddr tok rfl rfl rfl rfl rfl rfl) rfl ?_
          refine L.rd (rd_load1 tok rfl rfl rfl (hcx3.at_ 0 _ rfl)) rfl ?_
          refine L.rd (rd_move rfl) rfl ?_
          refine L.rd (rd_build (out := [_, _]) tok rfl rfl rfl rfl rfl) rfl ?_
          (refine L.rd (rd_indexSlice (sz := 2) tok rfl rfl rfl rfl rfl rfl rfl ?_) rfl ?_; omega)
          refine L.ef (e_store (vs := [_, _]) tok rfl rfl rfl rfl hb1 rfl (by simp [Value.oneCell']) (by simp; omega) ?_)
          refine L.nil ?_
          refine X.bk ?_
          refine X.sq ?_
          refine V.region ?_
          refine L.rd (rd_move rfl) rfl ?_
          (refine L.rd (rd_add3 rfl rfl ?_) rfl ?_; omega)
          refine L.rd (rd_assign rfl) rfl ?_
          refine L.nil ?_
          simp only [Nat.zero_add, Int.toNat_natCast]
          refine X.lp ⟨_, _, by omega, (by repeat' (first | exact trivial | refine ⟨rfl, ?_⟩)), k + 1, Ms.set k (c, .slice (some ⟨wr.heap.size, 0, none⟩) g.length g.length, g), rfl, rfl, by omega, (hE.next hE3).set (Nat.le_refl _) _ _, ?_, ?_, pol_set_take (by rw [pol_length]; exact hMl) (pol_get ht) rfl hMp⟩
          · rw [size_setB]; exact hO1
          · rw [List.length_set, pol_length]; exact hMl
    ·
      refine V.exit ?_
      refine X.sqExit ?_
      refine X.lpExit ?_
      refine X.bkHere ?_
      refine X.sq ?_
      refine V.seq ?_
      refine V.region ?_
      refine L.rd (rd_move rfl) rfl ?_
      refine L.rd (rd_assign rfl) rfl ?_
      refine L.nil ?_
      refine X.sq ?_
      refine V.ret ?_
      refine ret_1 Yaam.results40 rfl ?_
      exact ⟨Ms, hO, pol_take_all (by rw [pol_length]; exact hMl) (by rw [pol_length]; omega) hMp, hE⟩

theorem okP_ok (a : Option Addr) (n c : Nat) (ok mf : Bool) (w : World) (h1 : ok = true → mf = false) (h2 : ok = false → n = 0) : Ret Yaam.prog 44 [.agg #[.slice a n c], .bool ok, .bool mf] w fun r w' => r = .bool true ∧ Ext w.heap.size w w' := by
  obtain rfl | rfl : ok = true ∨ ok = false := by cases ok <;> simp
  · obtain rfl := h1 rfl
    refine enter3 Yaam.func44 Yaam.ntmps44 (by kernel_rfl) rfl rfl ?_
    refine V.seq ?_
    refine V.region ?_
    refine L.ef (e_box (cs := [_]) rfl rfl (by first | (simp only [size_addB, size_setB, size_drew]; rfl) | rfl) rfl ?_)
    refine L.rd (rd_assign rfl) rfl ?_
    refine L.nil ?_
    refine X.sq ?_
    refine V.seq ?_
    refine V.seq ?_
    have hp := Bl.new w 34 [.slice a n c]
    have hE := (Ext.refl _ w).addNew 34 [.slice a n c]
    refine V.region ?_
    refine L.rd (rd_move rfl) rfl ?_
    refine L.rd (rd_move rfl) rfl ?_
    first | refine L.partG rfl rfl (fun g8 => ?_) (fun g8 => ?_) | refine L.partGB rfl rfl (fun g8 => ?_) (fun g8 => ?_)
    ·
      cases g8
    ·
      refine L.no rfl rfl rfl rfl ?_
      refine L.rd (rd_pickF rfl rfl) rfl ?_
      refine L.nil ?_
      refine X.sq ?_
      refine V.condF rfl ?_
      refine V.skip ?_
      refine X.sq ?_
      refine V.seq ?_
      refine V.region ?_
      refine L.rd (rd_move rfl) rfl ?_
      refine L.rd (rd_move rfl) rfl ?_
      first | refine L.partG rfl rfl (fun g12 => ?_) (fun g12 => ?_) | refine L.partGB rfl rfl (fun g12 => ?_) (fun g12 => ?_)
      ·
        refine L.no rfl rfl rfl rfl ?_
        refine L.no rfl rfl rfl rfl ?_
        refine L.no rfl rfl rfl rfl ?_
        refine L.no rfl rfl rfl rfl ?_
        refine L.rd (rd_pickT rfl rfl) rfl ?_
        refine L.rd (rd_assign rfl) rfl ?_
        refine L.nil ?_
        refine X.sq ?_
        refine V.ret ?_
        refine ret_1 Yaam.results44 rfl ?_
        exact ⟨rfl, hE⟩
      ·
        cases g12
  · obtain rfl := h2 rfl
    refine enter3 Yaam.func44 Yaam.ntmps44 (by kernel_rfl) rfl rfl ?_
    refine V.seq ?_
    refine V.region ?_
    refine L.ef (e_box (cs := [_]) rfl rfl (by first | (simp only [size_addB, size_setB, size_drew]; rfl) | rfl) rfl ?_)
    refine L.rd (rd_assign rfl) rfl ?_
    refine L.nil ?_
    refine X.sq ?_
    refine V.seq ?_
    refine V.seq ?_
    have hp := Bl.new w 34 [.slice a 0 c]
    have hE := (Ext.refl _ w).addNew 34 [.slice a 0 c]
    refine V.region ?_
    refine L.rd (rd_move rfl) rfl ?_
    refine L.rd (rd_move rfl) rfl ?_
    first | refine L.partG rfl rfl (fun g8 => ?_) (fun g8 => ?_) | refine L.partGB rfl rfl (fun g8 => ?_) (fun g8 => ?_)
    ·
      refine L.yes rfl rfl ?_
      refine L.rd (rd_move rfl) rfl ?_
      refine L.rd (rd_pickT rfl rfl) rfl ?_
      refine L.nil ?_
      refine X.sq ?_
      first | refine V.cond rfl (fun h10 => ?_) (fun h10 => ?_) | refine V.condB rfl (fun h10 => ?_) (fun h10 => ?_)
      ·
        cases h10
      ·
        refine V.skip ?_
        refine X.sq ?_
        refine V.seq ?_
        refine V.region ?_
        refine L.rd (rd_move rfl) rfl ?_
        refine L.rd (rd_move rfl) rfl ?_
        first | refine L.partG rfl rfl (fun g12 => ?_) (fun g12 => ?_) | refine L.partGB rfl rfl (fun g12 => ?_) (fun g12 => ?_)
        ·
          cases g12
        ·
          refine L.yes rfl rfl ?_
          refine L.rd (rd_fieldAddr tok rfl rfl rfl rfl rfl rfl) rfl ?_
          refine L.yes rfl rfl ?_
          refine L.rd (rd_load1 tok rfl rfl rfl (hp.cell rfl)) rfl ?_
          refine L.yes rfl rfl ?_
          refine L.rd (rd_lenSlice tok rfl rfl rfl) rfl ?_
          refine L.yes rfl rfl ?_
          refine L.rd (rd_eql rfl rfl) rfl ?_
          refine L.rd (rd_pickF rfl rfl) rfl ?_
          refine L.rd (rd_assign rfl) rfl ?_
          refine L.nil ?_
          refine X.sq ?_
          refine V.ret ?_
          refine ret_1 Yaam.results44 rfl ?_
          exact ⟨rfl, hE⟩
    ·
      refine L.no rfl rfl rfl rfl ?_
      refine L.rd (rd_pickF rfl rfl) rfl ?_
      refine L.nil ?_
      refine X.sq ?_
      refine V.condF rfl ?_
      refine V.skip ?_
      refine X.sq ?_
      refine V.seq ?_
      refine V.region ?_
      refine L.rd (rd_move rfl) rfl ?_
      refine L.rd (rd_move rfl) rfl ?_
      first | refine L.partG rfl rfl (fun g12 => ?_) (fun g12 => ?_) | refine L.partGB rfl rfl (fun g12 => ?_) (fun g12 => ?_)
      ·
        cases g12
      ·
        refine L.yes rfl rfl ?_
        refine L.rd (rd_fieldAddr tok rfl rfl rfl rfl rfl rfl) rfl ?_
        refine L.yes rfl rfl ?_
        refine L.rd (rd_load1 tok rfl rfl rfl (hp.cell rfl)) rfl ?_
        refine L.yes rfl rfl ?_
        refine L.rd (rd_lenSlice tok rfl rfl rfl) rfl ?_
        refine L.yes rfl rfl ?_
        refine L.rd (rd_eql rfl rfl) rfl ?_
        refine L.rd (rd_pickF rfl rfl) rfl ?_
        refine L.rd (rd_assign rfl) rfl ?_
        refine L.nil ?_
        refine X.sq ?_
        refine V.ret ?_
        refine ret_1 Yaam.results44 rfl ?_
        exact ⟨rfl, hE⟩

theorem evalTerms_ok (va vp : Value) (Ls : List Lt) (pt : List Int) (w : World) {lo hi : Nat} (hT : Tl w lo hi va Ls) (hI : inOk (pol Ls) = true) (hP : Rs w 1 vp pt.length (iC .i64 pt)) (hlp : pt.length = 26) : Ret Yaam.prog 53 [va, vp] w fun r w' => r = .int .i64 (evalP (pol Ls) pt) ∧ Ext w.heap.size w w' := by
  obtain ⟨aa, ca, rfl, hfa⟩ := hT.form
  obtain ⟨pa, pc, rfl, hfp⟩ := hP.form
  have hL := inOk_len hI
  rw [pol_length] at hL
  refine enter2 Yaam.func53 Yaam.ntmps53 (by kernel_rfl) rfl rfl ?_
  refine V.seq ?_
  refine V.region ?_
  refine L.rd (rd_assign rfl) rfl ?_
  refine L.nil ?_
  refine X.sq ?_
  refine V.seq ?_
  refine V.seq ?_
  refine V.region ?_
  refine L.rd (rd_move rfl) rfl ?_
  refine L.rd (rd_lenSlice tok rfl rfl rfl) rfl ?_
  refine L.rd (rd_neq rfl rfl) rfl ?_
  refine L.nil ?_
  refine X.sq ?_
  first | refine V.cond rfl (fun h13 => ?_) (fun h13 => ?_) | refine V.condB rfl (fun h13 => ?_) (fun h13 => ?_)
  ·
    refine V.seq ?_
    refine V.region ?_
    refine L.rd (rd_assign rfl) rfl ?_
    refine L.nil ?_
    refine X.sq ?_
    refine V.ret ?_
    refine X.sqRet ?_
    refine ret_1 Yaam.results53 rfl ?_
    exact absurd (by omega) h13
  ·
    refine V.skip ?_
    refine X.sq ?_
    refine V.seq ?_
    obtain ⟨pb, po, rfl, hcp⟩ := hfp.resolve_left (by omega)
    refine V.region ?_
    refine L.rd (rd_assign rfl) rfl ?_
    refine L.nil ?_
    refine X.sq ?_
    refine V.seq ?_
    refine V.seq ?_
    refine V.region ?_
    refine L.rd (rd_move rfl) rfl ?_
    refine L.rd (rd_lenSlice tok rfl rfl rfl) rfl ?_
    refine L.rd (rd_move rfl) rfl ?_
    refine L.nil ?_
    refine X.sq ?_
    refine V.block ?_
    refine V.loop (fun m l wr => ∃ (k : Nat) (s : Int), l = [(1, .slice (some ⟨pb, po, none⟩) pt.length pc), (5, .int .i64 s), (14, .slice aa Ls.length ca), (15, .int .i64 Ls.length), (16, .int .i64 k)] ∧ m = Ls.length - k ∧ k ≤ Ls.length ∧ Ext w.heap.size w wr ∧ evalP (pol Ls) pt = evQ pt ((pol Ls).drop k) s) ?_ ?_
    ·
      exact ⟨_, _, (by repeat' (first | exact trivial | refine ⟨rfl, ?_⟩)), 0, 0, rfl, rfl, by omega, Ext.refl _ _, rfl⟩
    ·
      rintro m l wr ⟨k, s, rfl, rfl, hk, hE, hev⟩
      refine V.seq ?_
      refine V.region ?_
      refine L.rd (rd_lss rfl rfl) rfl ?_
      refine L.nil ?_
      refine X.sq ?_
      refine V.seq ?_
      first | refine V.cond rfl (fun h17 => ?_) (fun h17 => ?_) | refine V.condB rfl (fun h17 => ?_) (fun h17 => ?_)
      ·
        obtain ⟨b1, o1, rfl, -, -, hc1⟩ := hfa.resolve_left (by omega)
        obtain ⟨⟨c, fv, fs⟩, ht⟩ := nth_of_lt Ls k (by omega)
        have hcx := Tl.cells (hc1.le hE.leC) ht
        obtain ⟨fa, fc, hfv, hff⟩ := hT.nth ht
        have hFg := inOk_fg hI _ (List.mem_of_getElem? (pol_get ht))
        have hFl := hFg.len
        rw [drop_cons (pol_get ht), evQ] at hev
        simp only at hfv hff hcx hev hFg hFl
        subst hfv
        refine V.skip ?_
        refine X.sq ?_
        refine V.seq ?_
        refine V.block ?_
        refine V.seq ?_
        refine V.region ?_
        (refine L.rd (rd_indexSlice (sz := 2) tok rfl rfl rfl rfl rfl rfl rfl ?_) rfl ?_; omega)
        refine L.rd (rd_loadN tok rfl rfl rfl hcx rfl) rfl ?_
        refine L.ef (e_alloc (cs := [_, _]) tok rfl rfl (by first | (simp only [size_addB, size_setB, size_drew]; rfl) | rfl) rfl ?_)
        refine L.ef (e_store (vs := [_, _]) tok rfl rfl rfl rfl (by (repeat (first | assumption | (refine Bl.new' ?_ _ _; first | with_reducible rfl | (simp only [size_addB, size_setB, size_drew]; done)) | apply Bl.add | apply Bl.drew | (apply Bl.setNe; omega) | (refine Bl.set' ?_ _ _; (try simp only [size_addB, size_setB, size_drew]); omega)))) rfl (by simp [Value.oneCell']) (by simp) ?_)
        refine L.nil ?_
        refine X.sq ?_
        refine V.seq ?_
        generalize hwt : setB _ _ _ _ = wt
        have hbt : Bl wt wr.heap.size 58 [.int .i64 c, .slice fa fs.length fc] := by rw [← hwt]; refine Bl.set' ?_ _ _; rw [size_addB]; omega
        have het : Ext wr.heap.size wr wt := by rw [← hwt]; exact ((Ext.refl _ _).addNew _ _).set (Nat.le_refl _) _ _
        have hEt := hE.next het
        refine V.region ?_
        refine L.rd (rd_fieldAddr tok rfl rfl rfl rfl rfl rfl) rfl ?_
        refine L.rd (rd_load1 tok rfl rfl rfl (hbt.cell rfl)) rfl ?_
        refine L.rd (rd_assign rfl) rfl ?_
        refine L.nil ?_
        refine X.sq ?_
        refine V.seq ?_
        refine V.seq ?_
        refine V.region ?_
        refine L.rd (rd_fieldAddr tok rfl rfl rfl rfl rfl rfl) rfl ?_
        refine L.rd (rd_load1 tok rfl rfl rfl (hbt.cell (i := 1) rfl)) rfl ?_
        refine L.rd (rd_lenSlice tok rfl rfl rfl) rfl ?_
        refine L.rd (rd_move rfl) rfl ?_
        refine L.nil ?_
        refine X.sq ?_
        refine V.block ?_
        refine V.loop (fun m l w3 => ∃ (j : Nat) (x : Int), l = [(1, .slice (some ⟨pb, po, none⟩) pt.length pc), (5, .int .i64 s), (8, .int .i64 x), (14, .slice (some ⟨b1, o1, none⟩) Ls.length ca), (15, .int .i64 Ls.length), (16, .int .i64 k), (23, .slice fa fs.length fc), (24, .int .i64 fs.length), (25, .int .i64 j)] ∧ m = fs.length - j ∧ j ≤ fs.length ∧ Ext w.heap.size w w3 ∧ evF pt fs c = evF pt (fs.drop j) x) ?_ ?_
        ·
          exact ⟨_, _, (by repeat' (first | exact trivial | refine ⟨rfl, ?_⟩)), 0, c, rfl, rfl, by omega, hEt, rfl⟩
        ·
          rintro m l w3 ⟨j, x, rfl, rfl, hj, hE3, hef⟩
          refine V.seq ?_
          refine V.region ?_
          refine L.rd (rd_lss rfl rfl) rfl ?_
          refine L.nil ?_
          refine X.sq ?_
          refine V.seq ?_
          first | refine V.cond rfl (fun h26 => ?_) (fun h26 => ?_) | refine V.condB rfl (fun h26 => ?_) (fun h26 => ?_)
          ·
            obtain ⟨b2, o2, rfl, -, -, hc2⟩ := hff.resolve_left (by omega)
            obtain ⟨⟨a, p⟩, hf⟩ := nth_of_lt fs j (by omega)
            have hcf := (hc2.le hE3.leC).sub (j * 2) _ (pr_get fs j _ hf)
            have hr := hFg.rng _ (List.mem_of_getElem? hf)
            rw [drop_cons hf, evF] at hef
            simp only at hr hef
            obtain ⟨y, hy⟩ := nth_of_lt pt a.toNat (by omega)
            have hyv : ptv pt a = y := by unfold ptv; rw [List.getD_eq_getElem?_getD, hy]; rfl
            obtain ⟨n, rfl⟩ : ∃ n : Nat, p = n := ⟨p.toNat, by omega⟩
            rw [hyv, Int.toNat_natCast] at hef
            refine V.skip ?_
            refine X.sq ?_
            refine V.seq ?_
            refine V.block ?_
            refine V.seq ?_
            refine V.region ?_
            (refine L.rd (rd_indexSlice (sz := 2) tok rfl rfl rfl rfl rfl rfl rfl ?_) rfl ?_; omega)
            refine L.rd (rd_loadN tok rfl rfl rfl hcf rfl) rfl ?_
            refine L.ef (e_alloc (cs := [_, _]) tok rfl rfl (by first | (simp only [size_addB, size_setB, size_drew]; rfl) | rfl) rfl ?_)
            refine L.ef (e_store (vs := [_, _]) tok rfl rfl rfl rfl (by (repeat (first | assumption | (refine Bl.new' ?_ _ _; first | with_reducible rfl | (simp only [size_addB, size_setB, size_drew]; done)) | apply Bl.add | apply Bl.drew | (apply Bl.setNe; omega) | (refine Bl.set' ?_ _ _; (try simp only [size_addB, size_setB, size_drew]); omega)))) rfl (by simp [Value.oneCell']) (by simp) ?_)
            refine L.nil ?_
            refine X.sq ?_
            refine V.seq ?_
            generalize hw4 : setB _ _ _ _ = w4
            have hb4 : Bl w4 w3.heap.size 109 [.int .i64 a, .int .i64 n] := by rw [← hw4]; refine Bl.set' ?_ _ _; rw [size_addB]; omega
            have he4 : Ext w3.heap.size w3 w4 := by rw [← hw4]; exact ((Ext.refl _ _).addNew _ _).set (Nat.le_refl _) _ _
            have hE4 := hE3.next he4
            have hcp4 := hcp.le hE4.leC
            refine V.region ?_
            refine L.rd (rd_fieldAddr tok rfl rfl rfl rfl rfl rfl) rfl ?_
            refine L.rd (rd_load1 tok rfl rfl rfl (by first | assumption | exact Bl.cell (by (repeat (first | assumption | (refine Bl.new' ?_ _ _; first | with_reducible rfl | (simp only [size_addB, size_setB, size_drew]; done)) | apply Bl.add | apply Bl.drew | (apply Bl.setNe; omega) | (refine Bl.set' ?_ _ _; (try simp only [size_addB, size_setB, size_drew]); omega)))) rfl)) rfl ?_
            refine L.rd (rd_geq rfl rfl) rfl ?_
            refine L.rd (rd_move rfl) rfl ?_
            first | refine L.partG rfl rfl (fun g32 => ?_) (fun g32 => ?_) | refine L.partGB rfl rfl (fun g32 => ?_) (fun g32 => ?_)
            ·
              refine L.yes rfl rfl ?_
              refine L.rd (rd_fieldAddr tok rfl rfl rfl rfl rfl rfl) rfl ?_
              refine L.yes rfl rfl ?_
              refine L.rd (rd_load1 tok rfl rfl rfl (by first | assumption | exact Bl.cell (by (repeat (first | assumption | (refine Bl.new' ?_ _ _; first | with_reducible rfl | (simp only [size_addB, size_setB, size_drew]; done)) | apply Bl.add | apply Bl.drew | (apply Bl.setNe; omega) | (refine Bl.set' ?_ _ _; (try simp only [size_addB, size_setB, size_drew]); omega)))) rfl)) rfl ?_
              refine L.yes rfl rfl ?_
              refine L.rd (rd_lss rfl rfl) rfl ?_
              refine L.rd (rd_pickT rfl rfl) rfl ?_
              refine L.rd (rd_move rfl) rfl ?_
              first | refine L.partG rfl rfl (fun g37 => ?_) (fun g37 => ?_) | refine L.partGB rfl rfl (fun g37 => ?_) (fun g37 => ?_)
              ·
                refine L.yes rfl rfl ?_
                refine L.rd (rd_fieldAddr tok rfl rfl rfl rfl rfl rfl) rfl ?_
                refine L.yes rfl rfl ?_
                refine L.rd (rd_load1 tok rfl rfl rfl (by first | assumption | exact Bl.cell (by (repeat (first | assumption | (refine Bl.new' ?_ _ _; first | with_reducible rfl | (simp only [size_addB, size_setB, size_drew]; done)) | apply Bl.add | apply Bl.drew | (apply Bl.setNe; omega) | (refine Bl.set' ?_ _ _; (try simp only [size_addB, size_setB, size_drew]); omega)))) rfl)) rfl ?_
                refine L.yes rfl rfl ?_
                refine L.rd (rd_geq rfl rfl) rfl ?_
                refine L.rd (rd_pickT rfl rfl) rfl ?_
                refine L.nil ?_
                refine X.sq ?_
                first | refine V.cond rfl (fun h41 => ?_) (fun h41 => ?_) | refine V.condB rfl (fun h41 => ?_) (fun h41 => ?_)
                ·
                  refine V.draw [] mixed ?_
                  refine D.take 0 [true, false, false, false, false, false, false, false, false, false, false] (.bk (.sq (.lp (.bk (.sq (.bk (.sq (.lp (.bk (.sq .bd)))))))))) rfl (rd_move rfl) rfl (by kernel_rfl) rfl (LeC.drew _) ?_
                  refine D.take 1 [true, true, false, false, false, false, false, false, false, false, false] (.bk (.sq (.lp (.bk (.sq (.bk (.sq (.lp (.bk (.sq .bd)))))))))) rfl (rd_move rfl) rfl (by kernel_rfl) rfl (LeC.drew _) ?_
                  refine D.take 2 [true, true, true, false, false, false, false, false, false, false, false] (.bk (.sq (.lp (.bk (.sq (.bk (.sq (.lp (.bk (.sq .bd)))))))))) rfl (rd_fieldAddr tok rfl rfl rfl rfl rfl rfl) rfl (by kernel_rfl) rfl (LeC.drew _) ?_
                  refine D.take 3 [true, true, true, true, false, false, false, false, false, false, false] (.bk (.sq (.lp (.bk (.sq (.bk (.sq (.lp (.bk (.sq .bd)))))))))) rfl (rd_load1 tok rfl rfl rfl (hb4.cell rfl)) rfl (by kernel_rfl) rfl (LeC.drew _) ?_
                  (refine D.take 4 [true, true, true, true, true, false, false, false, false, false, false] (.bk (.sq (.lp (.bk (.sq (.bk (.sq (.lp (.bk (.sq .bd)))))))))) rfl (rd_indexSlice (sz := 1) tok rfl rfl rfl rfl rfl rfl rfl ?_) rfl (by kernel_rfl) rfl (LeC.drew _) ?_; omega)
                  refine D.take 5 [true, true, true, true, true, true, false, false, false, false, false] (.bk (.sq (.lp (.bk (.sq (.bk (.sq (.lp (.bk (.sq .bd)))))))))) rfl (rd_load1 tok rfl rfl rfl (cells_at hcp4 (iC_get hy) (by simp))) rfl (by kernel_rfl) rfl (LeC.drew _) ?_
                  refine D.take 6 [true, true, true, true, true, true, true, false, false, false, false] (.bk (.sq (.lp (.bk (.sq (.bk (.sq (.lp (.bk (.sq .bd)))))))))) rfl (rd_fieldAddr tok rfl rfl rfl rfl rfl rfl) rfl (by kernel_rfl) rfl (LeC.drew _) ?_
                  refine D.take 7 [true, true, true, true, true, true, true, true, false, false, false] (.bk (.sq (.lp (.bk (.sq (.bk (.sq (.lp (.bk (.sq .bd)))))))))) rfl (rd_load1 tok rfl rfl rfl (hb4.cell (i := 1) rfl)) rfl (by kernel_rfl) rfl (LeC.drew _) ?_
                  refine D.one 8 [true, true, true, true, true, true, true, true, true, false, false] rfl (by kernel_rfl) rfl (e_call rfl (powMod_ok y n (by omega) _) rfl ?_)
                  rintro _ _ ⟨rfl, rfl⟩
                  refine ⟨fun _ => (LeC.drew _), ?_⟩
                  refine D.take 9 [true, true, true, true, true, true, true, true, true, true, false] (.bk (.sq (.lp (.bk (.sq (.bk (.sq (.lp (.bk (.sq .bd)))))))))) rfl (rd_mulE (r := w64 (x * pw y n)) rfl rfl rfl) rfl (by kernel_rfl) rfl (LeC.drew _) ?_
                  refine D.take 10 [true, true, true, true, true, true, true, true, true, true, true] (.bk (.sq (.lp (.bk (.sq (.bk (.sq (.lp (.bk (.sq .bd)))))))))) rfl (rd_assign rfl) rfl (by kernel_rfl) rfl (LeC.drew _) ?_
                  refine D.done (by kernel_rfl) ?_
                  refine X.bk ?_
                  refine X.sq ?_
                  refine V.region ?_
                  (refine L.rd (rd_add3 rfl rfl ?_) rfl ?_; omega)
                  refine L.rd (rd_move rfl) rfl ?_
                  refine L.nil ?_
                  exact X.lp ⟨_, _, by omega, (by repeat' (first | exact trivial | refine ⟨rfl, ?_⟩)), j + 1, _, rfl, rfl, by omega, hE4.drew, hef⟩
                ·
                  exact absurd (by simp only [] at *; omega) h41
              ·
                exact absurd (by simp only [] at *; omega) g37
            ·
              exact absurd (by simp only [] at *; omega) g32
          ·
            refine V.exit ?_
            refine X.sqExit ?_
            refine X.lpExit ?_
            refine X.bkHere ?_
            refine X.sq ?_
            rw [drop_end (by omega), evF] at hef
            rw [hef] at hev
            refine V.region ?_
            refine L.rd (rd_move rfl) rfl ?_
            refine L.rd (rd_move rfl) rfl ?_
            refine L.rd (rd_addE (r := w64 (s + x)) rfl rfl rfl) rfl ?_
            refine L.rd (rd_assign rfl) rfl ?_
            refine L.nil ?_
            refine X.bk ?_
            refine X.sq ?_
            refine V.region ?_
            (refine L.rd (rd_add3 rfl rfl ?_) rfl ?_; omega)
            refine L.rd (rd_move rfl) rfl ?_
            refine L.nil ?_
            exact X.lp ⟨_, _, by omega, (by repeat' (first | exact trivial | refine ⟨rfl, ?_⟩)), k + 1, _, rfl, rfl, by omega, hE3, hev⟩
      ·
        refine V.exit ?_
        refine X.sqExit ?_
        refine X.lpExit ?_
        refine X.bkHere ?_
        refine X.sq ?_
        refine V.seq ?_
        refine V.region ?_
        refine L.rd (rd_move rfl) rfl ?_
        refine L.rd (rd_assign rfl) rfl ?_
        refine L.nil ?_
        refine X.sq ?_
        refine V.ret ?_
        refine ret_1 Yaam.results53 rfl ?_
        rw [drop_end (by rw [pol_length]; omega), evQ] at hev
        exact ⟨by rw [hev], hE⟩
end Go.Proofs.Ybxaaw
