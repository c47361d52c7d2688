/-
  What the laws do with terms: copying in and out.
-/
import Derived.Test.YbxaawPolyM2
import Derived.Test.YbxaawCanW2
set_option linter.unusedVariables false
set_option linter.unusedSimpArgs false
set_option maxRecDepth 10000
namespace Go.Proofs.Ybxaaw
open Go.Mw

theorem own_form {w : World} {B e sz n : Nat} {v : Value} {xs : List Value} (h : w.ownsRow B e sz v n xs) : ∃ a c, v = .slice a n c := by
  rcases own_slc h with ⟨rfl, rfl, _⟩ | ⟨g, cap, sp, _, hs⟩
  · exact ⟨_, _, rfl⟩
  · exact ⟨_, _, hs.val⟩

theorem factorsOut_ok (va : Value) (a : List (Int × Int)) (w : World) (ha : Rs w 2 va a.length (prC a)) (hla : a.length ≤ 4294967296) :
    Ret Yaam.prog 98 [va] w fun v w' => w'.ownsRow w.heap.size 150 2 v a.length (prC a) ∧ Ext w.heap.size w w' := by
  obtain ⟨aa, ca, hva, hfa⟩ := ha.form
  subst hva
  refine enter1 Yaam.func98 Yaam.ntmps98 (by kernel_rfl) rfl rfl ?_
  refine V.seq ?_
  refine V.region ?_
  refine L.rd (rd_assign rfl) rfl ?_
  refine L.nil ?_
  refine X.sq ?_
  refine V.seq ?_
  refine V.region ?_
  refine L.rd (rd_move rfl) rfl ?_
  refine L.rd (rd_lenSlice tok rfl rfl rfl) rfl ?_
  refine L.ef (e_make (e := 150) (zs := [_, _]) tok rfl rfl rfl rfl rfl rfl rfl rfl (by first | (simp only [size_addB, size_setB, size_drew]; rfl) | rfl) rfl (by omega) (by simp only []; omega) (by omega) ?_)
  refine L.rd (rd_assign rfl) rfl ?_
  refine L.nil ?_
  refine X.sq ?_
  refine V.seq ?_
  refine V.seq ?_
  refine V.region ?_
  refine L.rd (rd_assign rfl) rfl ?_
  refine L.nil ?_
  refine X.sq ?_
  refine V.block ?_
  refine V.loop (fun m l wr => ∃ (k : Nat) (c : List (Int × Int)), l = [(0, .slice aa a.length ca), (3, .slice (some ⟨w.heap.size, 0, none⟩) a.length a.length), (4, .int .i64 k)] ∧ m = a.length - k ∧ k ≤ a.length ∧ Ext w.heap.size w wr ∧ Bl wr w.heap.size 150 (prC c) ∧ c.length = a.length ∧ c.take k = a.take k) ?_ ?_
  ·
    exact ⟨_, _, (by repeat' (first | exact trivial | refine ⟨rfl, ?_⟩)), 0, List.replicate a.length (0, 0), rfl, rfl, by omega, (Ext.refl _ _).add (Nat.le_refl _) _ _, by have := Bl.new w 150 ((List.replicate a.length (prE (0, 0))).flatten); unfold prC; rw [← fm_replicate prE_len]; exact this, by simp, by simp⟩
  ·
    rintro m l wr ⟨k, c, rfl, rfl, hk, he, hbl, hcl, htk⟩
    refine V.seq ?_
    refine V.seq ?_
    refine V.region ?_
    refine L.rd (rd_move rfl) rfl ?_
    refine L.rd (rd_move rfl) rfl ?_
    refine L.rd (rd_lenSlice tok rfl rfl rfl) rfl ?_
    refine L.rd (rd_lss rfl rfl) rfl ?_
    refine L.nil ?_
    refine X.sq ?_
    first | refine V.cond rfl (fun h11 => ?_) (fun h11 => ?_) | refine V.condB rfl (fun h11 => ?_) (fun h11 => ?_)
    ·
      obtain ⟨b1, o1, rfl, hc1⟩ := hfa.resolve_left (by omega)
      obtain ⟨x, hx⟩ := nth_of_lt a k (by omega)
      have hcx := (hc1.le he.leC).sub (k * 2) _ (pr_get a k x hx)
      have hcl2 := pr_len c
      refine V.skip ?_
      refine X.sq ?_
      refine V.seq ?_
      refine V.block ?_
      refine V.draw [14] mixed ?_
      refine D.take 0 [true, false, false, false, false, false, false, false, false, false, false, false, false, false, false] (.bk (.sq (.lp (.bk (.sq .bd))))) rfl (rd_move rfl) rfl (by kernel_rfl) rfl (LeC.drew _) ?_
      refine D.take 1 [true, true, false, false, false, false, false, false, false, false, false, false, false, false, false] (.bk (.sq (.lp (.bk (.sq .bd))))) rfl (rd_move rfl) rfl (by kernel_rfl) rfl (LeC.drew _) ?_
      refine D.take 2 [true, true, true, false, false, false, false, false, false, false, false, false, false, false, false] (.bk (.sq (.lp (.bk (.sq .bd))))) rfl (rd_move rfl) rfl (by kernel_rfl) rfl (LeC.drew _) ?_
      refine D.take 3 [true, true, true, true, false, false, false, false, false, false, false, false, false, false, false] (.bk (.sq (.lp (.bk (.sq .bd))))) rfl (rd_move rfl) rfl (by kernel_rfl) rfl (LeC.drew _) ?_
      (refine D.take 4 [true, true, true, true, true, false, false, false, false, false, false, false, false, false, false] (.bk (.sq (.lp (.bk (.sq .bd))))) rfl (rd_indexSlice (sz := 2) tok rfl rfl rfl rfl rfl rfl rfl ?_) rfl (by kernel_rfl) rfl (LeC.drew _) ?_; omega)
      refine D.take 5 [true, true, true, true, true, true, false, false, false, false, false, false, false, false, false] (.bk (.sq (.lp (.bk (.sq .bd))))) rfl (rd_fieldAddr tok rfl rfl rfl rfl rfl rfl) rfl (by kernel_rfl) rfl (LeC.drew _) ?_
      refine D.take 6 [true, true, true, true, true, true, true, false, false, false, false, false, false, false, false] (.bk (.sq (.lp (.bk (.sq .bd))))) rfl (rd_load1 tok rfl rfl rfl (hcx.at_ 0 _ rfl)) rfl (by kernel_rfl) rfl (LeC.drew _) ?_
      refine D.take 7 [true, true, true, true, true, true, true, true, false, false, false, false, false, false, false] (.bk (.sq (.lp (.bk (.sq .bd))))) rfl (rd_move rfl) rfl (by kernel_rfl) rfl (LeC.drew _) ?_
      refine D.take 8 [true, true, true, true, true, true, true, true, true, false, false, false, false, false, false] (.bk (.sq (.lp (.bk (.sq .bd))))) rfl (rd_move rfl) rfl (by kernel_rfl) rfl (LeC.drew _) ?_
      (refine D.take 9 [true, true, true, true, true, true, true, true, true, true, false, false, false, false, false] (.bk (.sq (.lp (.bk (.sq .bd))))) rfl (rd_indexSlice (sz := 2) tok rfl rfl rfl rfl rfl rfl rfl ?_) rfl (by kernel_rfl) rfl (LeC.drew _) ?_; omega)
      refine D.take 10 [true, true, true, true, true, true, true, true, true, true, true, false, false, false, false] (.bk (.sq (.lp (.bk (.sq .bd))))) rfl (rd_fieldAddr tok rfl rfl rfl rfl rfl rfl) rfl (by kernel_rfl) rfl (LeC.drew _) ?_
      refine D.take 11 [true, true, true, true, true, true, true, true, true, true, true, true, false, false, false] (.bk (.sq (.lp (.bk (.sq .bd))))) rfl (rd_load1 tok rfl rfl rfl (hcx.at_ 1 _ rfl)) rfl (by kernel_rfl) rfl (LeC.drew _) ?_
      refine D.take 12 [true, true, true, true, true, true, true, true, true, true, true, true, true, false, false] (.bk (.sq (.lp (.bk (.sq .bd))))) rfl (rd_build (out := [_, _]) tok rfl rfl rfl rfl rfl) rfl (by kernel_rfl) rfl (LeC.drew _) ?_
      (refine D.take 13 [true, true, true, true, true, true, true, true, true, true, true, true, true, true, false] (.bk (.sq (.lp (.bk (.sq .bd))))) rfl (rd_indexSlice (sz := 2) tok rfl rfl rfl rfl rfl rfl rfl ?_) rfl (by kernel_rfl) rfl (LeC.drew _) ?_; omega)
      refine D.one 14 [true, true, true, true, true, true, true, true, true, true, true, true, true, true, true] rfl (by kernel_rfl) rfl (e_store (vs := [_, _]) tok rfl rfl rfl rfl hbl.drew rfl (by simp [Value.oneCell']) (by simp; omega) ⟨fun h => (by cases h), ?_⟩)
      refine D.done (by kernel_rfl) ?_
      refine X.bk ?_
      refine X.sq ?_
      refine V.region ?_
      refine L.rd (rd_move rfl) rfl ?_
      (refine L.rd (rd_add3 rfl rfl ?_) rfl ?_; omega)
      refine L.rd (rd_assign rfl) rfl ?_
      refine L.nil ?_
      refine X.lp ⟨_, _, by omega, (by repeat' (first | exact trivial | refine ⟨rfl, ?_⟩)), k + 1, c.set k x, rfl, rfl, by omega, he.drew.set (Nat.le_refl _) _ _, ?_, by simp [hcl], take_put_next a c k x hcl hx htk⟩
      have h1 := fm_put prE_len [] c k x (by omega)
      rw [List.append_nil, List.append_nil] at h1
      have h2 := Bl.set hbl.drew 150 ((c.set k x).flatMap prE)
      rw [← h1] at h2
      simp only [Nat.zero_add, Int.toNat_natCast]
      show Bl _ _ _ ((c.set k x).flatMap prE)
      rw [← h1]
      exact h2
    ·
      refine V.exit ?_
      refine X.sqExit ?_
      refine X.lpExit ?_
      refine X.bkHere ?_
      refine X.sq ?_
      refine V.seq ?_
      refine V.region ?_
      refine L.rd (rd_move rfl) rfl ?_
      refine L.rd (rd_assign rfl) rfl ?_
      refine L.nil ?_
      refine X.sq ?_
      refine V.ret ?_
      refine ret_1 Yaam.results98 rfl ?_
      have hka : k = a.length := by omega
      subst hka
      rw [List.take_of_length_le (by omega), List.take_of_length_le (by omega)] at htk
      subst htk
      exact ⟨own_of_bl hbl (pr_len _) (Nat.le_refl _) (by unfold maxLen; omega), he⟩

theorem termsOut_ok (va : Value) (Ls : List Lt) (w : World) {lo hi : Nat} (hT : Tl w lo hi va Ls) (hS : Sm (pol Ls)) : Ret Yaam.prog 48 [va] w (Copied 149 150 (pol Ls) w) := by
  obtain ⟨aa, ca, rfl, hfa⟩ := hT.form
  have hSl := hS.top
  refine enter1 Yaam.func48 Yaam.ntmps48 (by kernel_rfl) rfl rfl ?_
  refine V.seq ?_
  refine V.region ?_
  refine L.rd (rd_assign rfl) rfl ?_
  refine L.nil ?_
  refine X.sq ?_
  refine V.seq ?_
  refine V.region ?_
  refine L.rd (rd_move rfl) rfl ?_
  refine L.rd (rd_lenSlice tok rfl rfl rfl) rfl ?_
  refine L.ef (e_make (e := 149) (zs := [_, _]) tok rfl rfl rfl rfl rfl rfl rfl rfl (by first | (simp only [size_addB, size_setB, size_drew]; rfl) | rfl) rfl (by omega) (by simp only []; omega) (by omega) ?_)
  refine L.rd (rd_assign rfl) rfl ?_
  refine L.nil ?_
  refine X.sq ?_
  refine V.seq ?_
  refine V.seq ?_
  refine V.region ?_
  refine L.rd (rd_assign rfl) rfl ?_
  refine L.nil ?_
  refine X.sq ?_
  refine V.block ?_
  refine V.loop (fun m l wr => ∃ (k : Nat) (Ms : List Lt), l = [(0, .slice aa Ls.length ca), (3, .slice (some ⟨w.heap.size, 0, none⟩) Ls.length Ls.length), (4, .int .i64 k)] ∧ m = Ls.length - k ∧ k ≤ Ls.length ∧ Ext w.heap.size w wr ∧ OwnT wr w.heap.size wr.heap.size 149 150 (.slice (some ⟨w.heap.size, 0, none⟩) Ls.length Ls.length) Ms ∧ Ms.length = (pol Ls).length ∧ pol (Ms.take k) = (pol Ls).take k) ?_ ?_
  ·
    refine ⟨_, _, (by repeat' (first | exact trivial | refine ⟨rfl, ?_⟩)), 0, List.replicate Ls.length (0, .slice none 0 0, []), rfl, rfl, by omega, (Ext.refl _ _).addNew _ _, OwnT.zeros ?_ (Nat.le_refl _) (by rw [size_addB]; omega) (by unfold maxLen; omega), by simp [pol_length], by simp [pol]⟩
    have := Bl.new w 149 ((List.replicate Ls.length (ltE (0, .slice none 0 0, []))).flatten)
    rw [← fm_replicate ltE_len]; exact this
  ·
    rintro m l wr ⟨k, Ms, rfl, rfl, hk, hE, hO, hMl, hMp⟩
    have hwr := hE.size
    rw [pol_length] at hMl
    refine V.seq ?_
    refine V.seq ?_
    refine V.region ?_
    refine L.rd (rd_move rfl) rfl ?_
    refine L.rd (rd_move rfl) rfl ?_
    refine L.rd (rd_lenSlice tok rfl rfl rfl) rfl ?_
    refine L.rd (rd_lss rfl rfl) rfl ?_
    refine L.nil ?_
    refine X.sq ?_
    first | refine V.cond rfl (fun h11 => ?_) (fun h11 => ?_) | refine V.condB rfl (fun h11 => ?_) (fun h11 => ?_)
    ·
      obtain ⟨b1, o1, rfl, -, -, hc1⟩ := hfa.resolve_left (by omega)
      obtain ⟨⟨c, fv, fs⟩, ht⟩ := nth_of_lt Ls k (by omega)
      have hcx := Tl.cells (hc1.le hE.leC) ht
      have hSf := hS.nth ht
      have hsub := ((hT.ext hE).le (LeC.drew _)).sub _ (List.mem_of_getElem? ht)
      obtain ⟨fa, fc, hfv, hff⟩ := hsub.form
      simp only at hfv hff hcx hSf hsub
      subst hfv
      refine V.skip ?_
      refine X.sq ?_
      refine V.seq ?_
      refine V.block ?_
      refine V.draw [15] mixed ?_
      refine D.take 0 [true, false, false, false, false, false, false, false, false, false, false, false, false, false, false, false] (.bk (.sq (.lp (.bk (.sq .bd))))) rfl (rd_move rfl) rfl (by kernel_rfl) rfl (LeC.drew _) ?_
      refine D.take 1 [true, true, false, false, false, false, false, false, false, false, false, false, false, false, false, false] (.bk (.sq (.lp (.bk (.sq .bd))))) rfl (rd_move rfl) rfl (by kernel_rfl) rfl (LeC.drew _) ?_
      refine D.take 2 [true, true, true, false, false, false, false, false, false, false, false, false, false, false, false, false] (.bk (.sq (.lp (.bk (.sq .bd))))) rfl (rd_move rfl) rfl (by kernel_rfl) rfl (LeC.drew _) ?_
      refine D.take 3 [true, true, true, true, false, false, false, false, false, false, false, false, false, false, false, false] (.bk (.sq (.lp (.bk (.sq .bd))))) rfl (rd_move rfl) rfl (by kernel_rfl) rfl (LeC.drew _) ?_
      (refine D.take 4 [true, true, true, true, true, false, false, false, false, false, false, false, false, false, false, false] (.bk (.sq (.lp (.bk (.sq .bd))))) rfl (rd_indexSlice (sz := 2) tok rfl rfl rfl rfl rfl rfl rfl ?_) rfl (by kernel_rfl) rfl (LeC.drew _) ?_; omega)
      refine D.take 5 [true, true, true, true, true, true, false, false, false, false, false, false, false, false, false, false] (.bk (.sq (.lp (.bk (.sq .bd))))) rfl (rd_fieldAddr tok rfl rfl rfl rfl rfl rfl) rfl (by kernel_rfl) rfl (LeC.drew _) ?_
      refine D.take 6 [true, true, true, true, true, true, true, false, false, false, false, false, false, false, false, false] (.bk (.sq (.lp (.bk (.sq .bd))))) rfl (rd_load1 tok rfl rfl rfl (hcx.at_ 0 _ rfl)) rfl (by kernel_rfl) rfl (LeC.drew _) ?_
      refine D.take 7 [true, true, true, true, true, true, true, true, false, false, false, false, false, false, false, false] (.bk (.sq (.lp (.bk (.sq .bd))))) rfl (rd_move rfl) rfl (by kernel_rfl) rfl (LeC.drew _) ?_
      refine D.take 8 [true, true, true, true, true, true, true, true, true, false, false, false, false, false, false, false] (.bk (.sq (.lp (.bk (.sq .bd))))) rfl (rd_move rfl) rfl (by kernel_rfl) rfl (LeC.drew _) ?_
      (refine D.take 9 [true, true, true, true, true, true, true, true, true, true, false, false, false, false, false, false] (.bk (.sq (.lp (.bk (.sq .bd))))) rfl (rd_indexSlice (sz := 2) tok rfl rfl rfl rfl rfl rfl rfl ?_) rfl (by kernel_rfl) rfl (LeC.drew _) ?_; omega)
      refine D.take 10 [true, true, true, true, true, true, true, true, true, true, true, false, false, false, false, false] (.bk (.sq (.lp (.bk (.sq .bd))))) rfl (rd_fieldAddr tok rfl rfl rfl rfl rfl rfl) rfl (by kernel_rfl) rfl (LeC.drew _) ?_
      refine D.take 11 [true, true, true, true, true, true, true, true, true, true, true, true, false, false, false, false] (.bk (.sq (.lp (.bk (.sq .bd))))) rfl (rd_load1 tok rfl rfl rfl (hcx.at_ 1 _ rfl)) rfl (by kernel_rfl) rfl (LeC.drew _) ?_
      refine D.one 12 [true, true, true, true, true, true, true, true, true, true, true, true, true, false, false, false] rfl (by kernel_rfl) rfl (e_call rfl (factorsOut_ok _ fs _ hsub.rs hSf) rfl ?_)
      rintro v1 w1 ⟨ho1, he1⟩
      obtain ⟨a1, n1, rfl⟩ := own_form ho1
      have hE1 : Ext wr.heap.size wr w1 := (Ext.refl _ _).drew.trans he1
      have hle1 := hE1.leC
      obtain ⟨cs, hb1, hln, hlo1, hhi1, hO1⟩ := (hO.ext hE1).store (k := k) (c := c) (by omega) ho1 hwr hE1.size
      refine ⟨fun _ => hle1, ?_⟩
      refine D.take 13 [true, true, true, true, true, true, true, true, true, true, true, true, true, true, false, false] (.bk (.sq (.lp (.bk (.sq .bd))))) rfl (rd_build (out := [_, _]) tok rfl rfl rfl rfl rfl) rfl (by kernel_rfl) rfl hle1 ?_
      (refine D.take 14 [true, true, true, true, true, true, true, true, true, true, true, true, true, true, true, false] (.bk (.sq (.lp (.bk (.sq .bd))))) rfl (rd_indexSlice (sz := 2) tok rfl rfl rfl rfl rfl rfl rfl ?_) rfl (by kernel_rfl) rfl hle1 ?_; omega)
      refine D.one 15 [true, true, true, true, true, true, true, true, true, true, true, true, true, true, true, true] rfl (by kernel_rfl) rfl (e_store (vs := [_, _]) tok rfl rfl rfl rfl hb1 rfl (by simp [Value.oneCell']) (by simp; omega) ⟨fun h => (by cases h), ?_⟩)
      refine D.done (by kernel_rfl) ?_
      refine X.bk ?_
      refine X.sq ?_
      refine V.region ?_
      refine L.rd (rd_move rfl) rfl ?_
      (refine L.rd (rd_add3 rfl rfl ?_) rfl ?_; omega)
      refine L.rd (rd_assign rfl) rfl ?_
      refine L.nil ?_
      simp only [Nat.zero_add, Int.toNat_natCast]
      refine X.lp ⟨_, _, by omega, (by repeat' (first | exact trivial | refine ⟨rfl, ?_⟩)), k + 1, Ms.set k (c, .slice a1 fs.length n1, fs), rfl, rfl, by omega, (hE.next hE1).set (Nat.le_refl _) _ _, ?_, ?_, pol_set_take (by rw [pol_length]; exact hMl) (pol_get ht) rfl hMp⟩
      · rw [size_setB]; exact hO1
      · rw [List.length_set, pol_length]; exact hMl
    ·
      refine V.exit ?_
      refine X.sqExit ?_
      refine X.lpExit ?_
      refine X.bkHere ?_
      refine X.sq ?_
      refine V.seq ?_
      refine V.region ?_
      refine L.rd (rd_move rfl) rfl ?_
      refine L.rd (rd_assign rfl) rfl ?_
      refine L.nil ?_
      refine X.sq ?_
      refine V.ret ?_
      refine ret_1 Yaam.results48 rfl ?_
      exact ⟨Ms, hO, pol_take_all (by rw [pol_length]; exact hMl) (by rw [pol_length]; omega) hMp, hE⟩

end Go.Proofs.Ybxaaw
