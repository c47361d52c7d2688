/-
  What the laws do with tokens and nodes.
-/
import Derived.Test.YbxabwTokW
import Derived.Test.YbxabwPrsP2
import Derived.Test.YbxabwTermW
import Derived.Test.YbxabwLawB
set_option linter.unusedVariables false
set_option linter.unusedSimpArgs false
set_option maxRecDepth 10000
namespace Go.Mw
/-- an owned row in a range of blocks -/
structure Ow (w : World) (lo hi e sz : Nat) (v : Value) (n : Nat) (xs : List Value) : Prop where
  own : w.ownsRow lo e sz v n xs
  lt : ∀ k, v.ownBlock = some k → k < hi
theorem Ow.mk' {w : World} {lo e sz n : Nat} {v : Value} {xs : List Value} (h : w.ownsRow lo e sz v n xs) : Ow w lo w.heap.size e sz v n xs := ⟨h, fun k hk => (own_block_lt h hk).2⟩
theorem Ow.ext {w w' : World} {lo hi e sz n : Nat} {v : Value} {xs : List Value} (h : Ow w lo hi e sz v n xs) (he : Ext w.heap.size w w') : Ow w' lo hi e sz v n xs := ⟨own_ext h.own he, h.lt⟩
theorem Ow.rg {w w' : World} {lo hi e sz n a b : Nat} {v : Value} {xs : List Value} (h : Ow w lo hi e sz v n xs) (hr : Rg a b w w') (hd : hi ≤ a ∨ b ≤ lo) : Ow w' lo hi e sz v n xs :=
  ⟨own_same h.own fun k hk => hr.block k (own_block_lt h.own hk).2 (by have := (own_block_lt h.own hk).1; have := h.lt k hk; omega), h.lt⟩
theorem Ow.rr {w : World} {lo hi e sz n : Nat} {v : Value} {xs : List Value} (h : Ow w lo hi e sz v n xs) : Rr w lo hi sz v n xs := Rr.of_own h.own h.lt
theorem Ow.grown {w w' : World} {lo hi e sz n m : Nat} {v : Value} {xs ys : List Value} (h : Ow w lo hi e sz v n xs) (hg : w.grownBy w' v.ownBlock) (ho : w'.ownsRow lo e sz v m ys) : Ow w' lo hi e sz v m ys ∧ Rg lo hi w w' :=
  ⟨⟨ho, h.lt⟩, Rg.grownO hg fun g e => ⟨(own_block_lt h.own e).1, h.lt g e⟩⟩
def flipN (t : Nd) : Nd := (xr .i64 t.1, xr .i64 t.2.1, xr .i64 t.2.2.1, xr .i64 t.2.2.2.1, xr .i64 t.2.2.2.2)
end Go.Mw
namespace Go.Proofs.Ybxabw
open Go.Mw

theorem tokIn_ok (va : Value) (a : List TK) (nl : Bool) (w : World) (ha : Rs w 2 va a.length (prC a)) (hla : a.length ≤ 4294967296) :
    Ret Yabm.prog 22 [va, .bool nl] w fun v w' => w'.ownsRow w.heap.size 95 2 v a.length (prC a) ∧ Ext w.heap.size w w' := by
  obtain ⟨aa, ca, hva, hfa⟩ := ha.form
  subst hva
  refine enter2 Yabm.func22 Yabm.ntmps22 (by kernel_rfl) rfl rfl ?_
  refine V.seq ?_
  refine V.region ?_
  refine L.rd (rd_assign rfl) rfl ?_
  refine L.nil ?_
  refine X.sq ?_
  refine V.seq ?_
  refine V.seq ?_
  refine V.region ?_
  refine L.rd (rd_move rfl) rfl ?_
  refine L.rd (rd_lenSlice tok rfl rfl rfl) rfl ?_
  refine L.rd (rd_eql rfl rfl) rfl ?_
  refine L.nil ?_
  refine X.sq ?_
  first | refine V.cond rfl (fun h9 => ?_) (fun h9 => ?_) | refine V.condB rfl (fun h9 => ?_) (fun h9 => ?_)
  ·
    have ha0 : a = [] := List.eq_nil_of_length_eq_zero (by omega)
    subst ha0
    refine V.seq ?_
    refine V.seq ?_
    refine V.region ?_
    refine L.rd (rd_move rfl) rfl ?_
    refine L.nil ?_
    refine X.sq ?_
    first | refine V.cond rfl (fun h10 => ?_) (fun h10 => ?_) | refine V.condB rfl (fun h10 => ?_) (fun h10 => ?_)
    ·
      refine V.seq ?_
      refine V.region ?_
      refine L.rd (rd_assign rfl) rfl ?_
      refine L.nil ?_
      refine X.sq ?_
      refine V.ret ?_
      refine X.sqRet ?_
      refine X.sqRet ?_
      refine ret_1 Yabm.results22 rfl ?_
      exact ⟨World.ownsRow_nil _ _ _ _, Ext.refl _ _⟩
    ·
      refine V.skip ?_
      refine X.sq ?_
      refine V.seq ?_
      refine V.region ?_
      refine L.ef (e_make0 (e := 95) tok rfl rfl rfl rfl rfl rfl rfl (by first | (simp only [size_addB, size_setB, size_drew]; rfl) | rfl) rfl ?_)
      refine L.rd (rd_assign rfl) rfl ?_
      refine L.nil ?_
      refine X.sq ?_
      refine V.ret ?_
      refine X.sqRet ?_
      refine ret_1 Yabm.results22 rfl ?_
      exact ⟨own_empty (Bl.new _ _ _) (Nat.le_refl _), (Ext.refl _ _).addNew _ _⟩
  ·
    refine V.skip ?_
    refine X.sq ?_
    refine V.seq ?_
    refine V.region ?_
    refine L.rd (rd_move rfl) rfl ?_
    refine L.rd (rd_lenSlice tok rfl rfl rfl) rfl ?_
    refine L.ef (e_make (e := 95) (zs := [_, _]) tok rfl rfl rfl rfl rfl rfl rfl rfl (by first | (simp only [size_addB, size_setB, size_drew]; rfl) | rfl) rfl (by omega) (by simp only []; omega) (by omega) ?_)
    refine L.rd (rd_assign rfl) rfl ?_
    refine L.nil ?_
    refine X.sq ?_
    refine V.seq ?_
    refine V.seq ?_
    refine V.region ?_
    refine L.rd (rd_assign rfl) rfl ?_
    refine L.nil ?_
    refine X.sq ?_
    refine V.block ?_
    refine V.loop (fun m l wr => ∃ (k : Nat) (c : List TK), l = [(0, .slice aa a.length ca), (5, .slice (some ⟨w.heap.size, 0, none⟩) a.length a.length), (6, .int .i64 k)] ∧ m = a.length - k ∧ k ≤ a.length ∧ Ext w.heap.size w wr ∧ Bl wr w.heap.size 95 (prC c) ∧ c.length = a.length ∧ c.take k = a.take k) ?_ ?_
    ·
      exact ⟨_, _, (by repeat' (first | exact trivial | refine ⟨rfl, ?_⟩)), 0, List.replicate a.length (0, 0), rfl, rfl, by omega, (Ext.refl _ _).add (Nat.le_refl _) _ _, by have := Bl.new w 95 ((List.replicate a.length (prE (0, 0))).flatten); unfold prC; rw [← fm_replicate prE_len]; exact this, by simp, by simp⟩
    ·
      rintro m l wr ⟨k, c, rfl, rfl, hk, he, hbl, hcl, htk⟩
      refine V.seq ?_
      refine V.seq ?_
      refine V.region ?_
      refine L.rd (rd_move rfl) rfl ?_
      refine L.rd (rd_move rfl) rfl ?_
      refine L.rd (rd_lenSlice tok rfl rfl rfl) rfl ?_
      refine L.rd (rd_lss rfl rfl) rfl ?_
      refine L.nil ?_
      refine X.sq ?_
      first | refine V.cond rfl (fun h18 => ?_) (fun h18 => ?_) | refine V.condB rfl (fun h18 => ?_) (fun h18 => ?_)
      ·
        obtain ⟨b1, o1, rfl, hc1⟩ := hfa.resolve_left (by omega)
        obtain ⟨x, hx⟩ := nth_of_lt a k (by omega)
        have hcx := (hc1.le he.leC).sub (k * 2) _ (pr_get a k x hx)
        have hcl2 := pr_len c
        refine V.skip ?_
        refine X.sq ?_
        refine V.seq ?_
        refine V.block ?_
        refine V.draw [14] mixed ?_
        refine D.take 0 [true, false, false, false, false, false, false, false, false, false, false, false, false, false, false] (.bk (.sq (.lp (.bk (.sq .bd))))) rfl (rd_move rfl) rfl (by kernel_rfl) rfl (LeC.drew _) ?_
        refine D.take 1 [true, true, false, false, false, false, false, false, false, false, false, false, false, false, false] (.bk (.sq (.lp (.bk (.sq .bd))))) rfl (rd_move rfl) rfl (by kernel_rfl) rfl (LeC.drew _) ?_
        refine D.take 2 [true, true, true, false, false, false, false, false, false, false, false, false, false, false, false] (.bk (.sq (.lp (.bk (.sq .bd))))) rfl (rd_move rfl) rfl (by kernel_rfl) rfl (LeC.drew _) ?_
        refine D.take 3 [true, true, true, true, false, false, false, false, false, false, false, false, false, false, false] (.bk (.sq (.lp (.bk (.sq .bd))))) rfl (rd_move rfl) rfl (by kernel_rfl) rfl (LeC.drew _) ?_
        (refine D.take 4 [true, true, true, true, true, false, false, false, false, false, false, false, false, false, false] (.bk (.sq (.lp (.bk (.sq .bd))))) rfl (rd_indexSlice (sz := 2) tok rfl rfl rfl rfl rfl rfl rfl ?_) rfl (by kernel_rfl) rfl (LeC.drew _) ?_; omega)
        refine D.take 5 [true, true, true, true, true, true, false, false, false, false, false, false, false, false, false] (.bk (.sq (.lp (.bk (.sq .bd))))) rfl (rd_fieldAddr tok rfl rfl rfl rfl rfl rfl) rfl (by kernel_rfl) rfl (LeC.drew _) ?_
        refine D.take 6 [true, true, true, true, true, true, true, false, false, false, false, false, false, false, false] (.bk (.sq (.lp (.bk (.sq .bd))))) rfl (rd_load1 tok rfl rfl rfl (hcx.at_ 0 _ rfl)) rfl (by kernel_rfl) rfl (LeC.drew _) ?_
        refine D.take 7 [true, true, true, true, true, true, true, true, false, false, false, false, false, false, false] (.bk (.sq (.lp (.bk (.sq .bd))))) rfl (rd_move rfl) rfl (by kernel_rfl) rfl (LeC.drew _) ?_
        refine D.take 8 [true, true, true, true, true, true, true, true, true, false, false, false, false, false, false] (.bk (.sq (.lp (.bk (.sq .bd))))) rfl (rd_move rfl) rfl (by kernel_rfl) rfl (LeC.drew _) ?_
        (refine D.take 9 [true, true, true, true, true, true, true, true, true, true, false, false, false, false, false] (.bk (.sq (.lp (.bk (.sq .bd))))) rfl (rd_indexSlice (sz := 2) tok rfl rfl rfl rfl rfl rfl rfl ?_) rfl (by kernel_rfl) rfl (LeC.drew _) ?_; omega)
        refine D.take 10 [true, true, true, true, true, true, true, true, true, true, true, false, false, false, false] (.bk (.sq (.lp (.bk (.sq .bd))))) rfl (rd_fieldAddr tok rfl rfl rfl rfl rfl rfl) rfl (by kernel_rfl) rfl (LeC.drew _) ?_
        refine D.take 11 [true, true, true, true, true, true, true, true, true, true, true, true, false, false, false] (.bk (.sq (.lp (.bk (.sq .bd))))) rfl (rd_load1 tok rfl rfl rfl (hcx.at_ 1 _ rfl)) rfl (by kernel_rfl) rfl (LeC.drew _) ?_
        refine D.take 12 [true, true, true, true, true, true, true, true, true, true, true, true, true, false, false] (.bk (.sq (.lp (.bk (.sq .bd))))) rfl (rd_build (out := [_, _]) tok rfl rfl rfl rfl rfl) rfl (by kernel_rfl) rfl (LeC.drew _) ?_
        (refine D.take 13 [true, true, true, true, true, true, true, true, true, true, true, true, true, true, false] (.bk (.sq (.lp (.bk (.sq .bd))))) rfl (rd_indexSlice (sz := 2) tok rfl rfl rfl rfl rfl rfl rfl ?_) rfl (by kernel_rfl) rfl (LeC.drew _) ?_; omega)
        refine D.one 14 [true, true, true, true, true, true, true, true, true, true, true, true, true, true, true] rfl (by kernel_rfl) rfl (e_store (vs := [_, _]) tok rfl rfl rfl rfl hbl.drew rfl (by simp [Value.oneCell']) (by simp; omega) ⟨fun h => (by cases h), ?_⟩)
        refine D.done (by kernel_rfl) ?_
        refine X.bk ?_
        refine X.sq ?_
        refine V.region ?_
        refine L.rd (rd_move rfl) rfl ?_
        (refine L.rd (rd_add3 rfl rfl ?_) rfl ?_; omega)
        refine L.rd (rd_assign rfl) rfl ?_
        refine L.nil ?_
        refine X.lp ⟨_, _, by omega, (by repeat' (first | exact trivial | refine ⟨rfl, ?_⟩)), k + 1, c.set k x, rfl, rfl, by omega, he.drew.set (Nat.le_refl _) _ _, ?_, by simp [hcl], take_put_next a c k x hcl hx htk⟩
        have h1 := fm_put prE_len [] c k x (by omega)
        rw [List.append_nil, List.append_nil] at h1
        have h2 := Bl.set hbl.drew 95 ((c.set k x).flatMap prE)
        rw [← h1] at h2
        simp only [Nat.zero_add, Int.toNat_natCast]
        show Bl _ _ _ ((c.set k x).flatMap prE)
        rw [← h1]
        exact h2
      ·
        refine V.exit ?_
        refine X.sqExit ?_
        refine X.lpExit ?_
        refine X.bkHere ?_
        refine X.sq ?_
        refine V.seq ?_
        refine V.region ?_
        refine L.rd (rd_move rfl) rfl ?_
        refine L.rd (rd_assign rfl) rfl ?_
        refine L.nil ?_
        refine X.sq ?_
        refine V.ret ?_
        refine ret_1 Yabm.results22 rfl ?_
        have hka : k = a.length := by omega
        subst hka
        rw [List.take_of_length_le (by omega), List.take_of_length_le (by omega)] at htk
        subst htk
        exact ⟨own_of_bl hbl (pr_len _) (Nat.le_refl _) (by unfold maxLen; omega), he⟩

theorem flipTokL_ok (va : Value) (a : List TK) (w : World) (ha : Rs w 2 va a.length (prC a)) (hla : a.length ≤ 4294967296) :
    Ret Yabm.prog 24 [va] w fun v w' => w'.ownsRow w.heap.size 97 2 v a.length (prC (a.map flipT)) ∧ Ext w.heap.size w w' := by
  obtain ⟨aa, ca, hva, hfa⟩ := ha.form
  subst hva
  refine enter1 Yabm.func24 Yabm.ntmps24 (by kernel_rfl) rfl rfl ?_
  refine V.seq ?_
  refine V.region ?_
  refine L.rd (rd_assign rfl) rfl ?_
  refine L.nil ?_
  refine X.sq ?_
  refine V.seq ?_
  refine V.region ?_
  refine L.rd (rd_move rfl) rfl ?_
  refine L.rd (rd_lenSlice tok rfl rfl rfl) rfl ?_
  refine L.ef (e_make (e := 97) (zs := [_, _]) tok rfl rfl rfl rfl rfl rfl rfl rfl (by first | (simp only [size_addB, size_setB, size_drew]; rfl) | rfl) rfl (by omega) (by simp only []; omega) (by omega) ?_)
  refine L.rd (rd_assign rfl) rfl ?_
  refine L.nil ?_
  refine X.sq ?_
  refine V.seq ?_
  refine V.seq ?_
  refine V.region ?_
  refine L.rd (rd_assign rfl) rfl ?_
  refine L.nil ?_
  refine X.sq ?_
  refine V.block ?_
  refine V.loop (fun m l wr => ∃ (k : Nat) (c : List TK), l = [(0, .slice aa a.length ca), (3, .slice (some ⟨w.heap.size, 0, none⟩) a.length a.length), (4, .int .i64 k)] ∧ m = a.length - k ∧ k ≤ a.length ∧ Ext w.heap.size w wr ∧ Bl wr w.heap.size 97 (prC c) ∧ c.length = a.length ∧ c.take k = (a.map flipT).take k) ?_ ?_
  ·
    exact ⟨_, _, (by repeat' (first | exact trivial | refine ⟨rfl, ?_⟩)), 0, List.replicate a.length (0, 0), rfl, rfl, by omega, (Ext.refl _ _).add (Nat.le_refl _) _ _, by have := Bl.new w 97 ((List.replicate a.length (prE (0, 0))).flatten); unfold prC; rw [← fm_replicate prE_len]; exact this, by simp, by simp⟩
  ·
    rintro m l wr ⟨k, c, rfl, rfl, hk, he, hbl, hcl, htk⟩
    refine V.seq ?_
    refine V.seq ?_
    refine V.region ?_
    refine L.rd (rd_move rfl) rfl ?_
    refine L.rd (rd_move rfl) rfl ?_
    refine L.rd (rd_lenSlice tok rfl rfl rfl) rfl ?_
    refine L.rd (rd_lss rfl rfl) rfl ?_
    refine L.nil ?_
    refine X.sq ?_
    first | refine V.cond rfl (fun h11 => ?_) (fun h11 => ?_) | refine V.condB rfl (fun h11 => ?_) (fun h11 => ?_)
    ·
      obtain ⟨b1, o1, rfl, hc1⟩ := hfa.resolve_left (by omega)
      obtain ⟨x, hx⟩ := nth_of_lt a k (by omega)
      have hcx := (hc1.le he.leC).sub (k * 2) _ (pr_get a k x hx)
      have hcl2 := pr_len c
      have hfx : (a.map flipT)[k]? = some (flipT x) := by simp [hx]
      refine V.skip ?_
      refine X.sq ?_
      refine V.seq ?_
      refine V.block ?_
      refine V.draw [16] mixed ?_
      refine D.take 0 [true, false, false, false, false, false, false, false, false, false, false, false, false, false, false, false, false] (.bk (.sq (.lp (.bk (.sq .bd))))) rfl (rd_move rfl) rfl (by kernel_rfl) rfl (LeC.drew _) ?_
      refine D.take 1 [true, true, false, false, false, false, false, false, false, false, false, false, false, false, false, false, false] (.bk (.sq (.lp (.bk (.sq .bd))))) rfl (rd_move rfl) rfl (by kernel_rfl) rfl (LeC.drew _) ?_
      refine D.take 2 [true, true, true, false, false, false, false, false, false, false, false, false, false, false, false, false, false] (.bk (.sq (.lp (.bk (.sq .bd))))) rfl (rd_move rfl) rfl (by kernel_rfl) rfl (LeC.drew _) ?_
      refine D.take 3 [true, true, true, true, false, false, false, false, false, false, false, false, false, false, false, false, false] (.bk (.sq (.lp (.bk (.sq .bd))))) rfl (rd_move rfl) rfl (by kernel_rfl) rfl (LeC.drew _) ?_
      (refine D.take 4 [true, true, true, true, true, false, false, false, false, false, false, false, false, false, false, false, false] (.bk (.sq (.lp (.bk (.sq .bd))))) rfl (rd_indexSlice (sz := 2) tok rfl rfl rfl rfl rfl rfl rfl ?_) rfl (by kernel_rfl) rfl (LeC.drew _) ?_; omega)
      refine D.take 5 [true, true, true, true, true, true, false, false, false, false, false, false, false, false, false, false, false] (.bk (.sq (.lp (.bk (.sq .bd))))) rfl (rd_fieldAddr tok rfl rfl rfl rfl rfl rfl) rfl (by kernel_rfl) rfl (LeC.drew _) ?_
      refine D.take 6 [true, true, true, true, true, true, true, false, false, false, false, false, false, false, false, false, false] (.bk (.sq (.lp (.bk (.sq .bd))))) rfl (rd_load1 tok rfl rfl rfl (hcx.at_ 0 _ rfl)) rfl (by kernel_rfl) rfl (LeC.drew _) ?_
      refine D.take 7 [true, true, true, true, true, true, true, true, false, false, false, false, false, false, false, false, false] (.bk (.sq (.lp (.bk (.sq .bd))))) rfl (rd_xorW rfl) rfl (by kernel_rfl) rfl (LeC.drew _) ?_
      refine D.take 8 [true, true, true, true, true, true, true, true, true, false, false, false, false, false, false, false, false] (.bk (.sq (.lp (.bk (.sq .bd))))) rfl (rd_move rfl) rfl (by kernel_rfl) rfl (LeC.drew _) ?_
      refine D.take 9 [true, true, true, true, true, true, true, true, true, true, false, false, false, false, false, false, false] (.bk (.sq (.lp (.bk (.sq .bd))))) rfl (rd_move rfl) rfl (by kernel_rfl) rfl (LeC.drew _) ?_
      (refine D.take 10 [true, true, true, true, true, true, true, true, true, true, true, false, false, false, false, false, false] (.bk (.sq (.lp (.bk (.sq .bd))))) rfl (rd_indexSlice (sz := 2) tok rfl rfl rfl rfl rfl rfl rfl ?_) rfl (by kernel_rfl) rfl (LeC.drew _) ?_; omega)
      refine D.take 11 [true, true, true, true, true, true, true, true, true, true, true, true, false, false, false, false, false] (.bk (.sq (.lp (.bk (.sq .bd))))) rfl (rd_fieldAddr tok rfl rfl rfl rfl rfl rfl) rfl (by kernel_rfl) rfl (LeC.drew _) ?_
      refine D.take 12 [true, true, true, true, true, true, true, true, true, true, true, true, true, false, false, false, false] (.bk (.sq (.lp (.bk (.sq .bd))))) rfl (rd_load1 tok rfl rfl rfl (hcx.at_ 1 _ rfl)) rfl (by kernel_rfl) rfl (LeC.drew _) ?_
      refine D.take 13 [true, true, true, true, true, true, true, true, true, true, true, true, true, true, false, false, false] (.bk (.sq (.lp (.bk (.sq .bd))))) rfl (rd_xorW rfl) rfl (by kernel_rfl) rfl (LeC.drew _) ?_
      refine D.take 14 [true, true, true, true, true, true, true, true, true, true, true, true, true, true, true, false, false] (.bk (.sq (.lp (.bk (.sq .bd))))) rfl (rd_build (out := [_, _]) tok rfl rfl rfl rfl rfl) rfl (by kernel_rfl) rfl (LeC.drew _) ?_
      (refine D.take 15 [true, true, true, true, true, true, true, true, true, true, true, true, true, true, true, true, false] (.bk (.sq (.lp (.bk (.sq .bd))))) rfl (rd_indexSlice (sz := 2) tok rfl rfl rfl rfl rfl rfl rfl ?_) rfl (by kernel_rfl) rfl (LeC.drew _) ?_; omega)
      refine D.one 16 [true, true, true, true, true, true, true, true, true, true, true, true, true, true, true, true, true] rfl (by kernel_rfl) rfl (e_store (vs := [_, _]) tok rfl rfl rfl rfl hbl.drew rfl (by simp [Value.oneCell']) (by simp; omega) ⟨fun h => (by cases h), ?_⟩)
      refine D.done (by kernel_rfl) ?_
      refine X.bk ?_
      refine X.sq ?_
      refine V.region ?_
      refine L.rd (rd_move rfl) rfl ?_
      (refine L.rd (rd_add3 rfl rfl ?_) rfl ?_; omega)
      refine L.rd (rd_assign rfl) rfl ?_
      refine L.nil ?_
      refine X.lp ⟨_, _, by omega, (by repeat' (first | exact trivial | refine ⟨rfl, ?_⟩)), k + 1, c.set k (flipT x), rfl, rfl, by omega, he.drew.set (Nat.le_refl _) _ _, ?_, by simp [hcl], take_put_next (a.map flipT) c k (flipT x) (by simpa using hcl) hfx htk⟩
      have h1 := fm_put prE_len [] c k (flipT x) (by omega)
      rw [List.append_nil, List.append_nil] at h1
      have h2 := Bl.set hbl.drew 97 ((c.set k (flipT x)).flatMap prE)
      rw [← h1] at h2
      simp only [Nat.zero_add, Int.toNat_natCast]
      show Bl _ _ _ ((c.set k (flipT x)).flatMap prE)
      rw [← h1]
      exact h2
    ·
      refine V.exit ?_
      refine X.sqExit ?_
      refine X.lpExit ?_
      refine X.bkHere ?_
      refine X.sq ?_
      refine V.seq ?_
      refine V.region ?_
      refine L.rd (rd_move rfl) rfl ?_
      refine L.rd (rd_assign rfl) rfl ?_
      refine L.nil ?_
      refine X.sq ?_
      refine V.ret ?_
      refine ret_1 Yabm.results24 rfl ?_
      have hka : k = a.length := by omega
      subst hka
      rw [List.take_of_length_le (by omega), List.take_of_length_le (by simp)] at htk
      subst htk
      refine ⟨?_, he⟩
      have := own_of_bl (base := w.heap.size) (sz := 2) (n := a.length) hbl (by rw [pr_len]; simp) (Nat.le_refl _) (by unfold maxLen; omega)
      exact this

theorem nodesOut_ok (va : Value) (a : List Nd) (w : World) (ha : Rs w 5 va a.length (a.flatMap ndE)) (hla : a.length ≤ 4294967296) :
    Ret Yabm.prog 72 [va] w fun v w' => w'.ownsRow w.heap.size 112 5 v a.length (a.flatMap ndE) ∧ Ext w.heap.size w w' := by
  obtain ⟨aa, ca, hva, hfa⟩ := ha.form
  subst hva
  refine enter1 Yabm.func72 Yabm.ntmps72 (by kernel_rfl) rfl rfl ?_
  refine V.seq ?_
  refine V.region ?_
  refine L.rd (rd_assign rfl) rfl ?_
  refine L.nil ?_
  refine X.sq ?_
  refine V.seq ?_
  refine V.region ?_
  refine L.rd (rd_move rfl) rfl ?_
  refine L.rd (rd_lenSlice tok rfl rfl rfl) rfl ?_
  refine L.ef (e_make (e := 112) (zs := ndE (0, 0, 0, 0, 0)) (m := a.length) (c := a.length) tok rfl rfl rfl rfl rfl rfl rfl rfl (by first | (simp only [size_addB, size_setB, size_drew]; rfl) | rfl) rfl (by omega) (by simp only []; omega) (by omega) ?_)
  refine L.rd (rd_assign rfl) rfl ?_
  refine L.nil ?_
  refine X.sq ?_
  refine V.seq ?_
  refine V.seq ?_
  refine V.region ?_
  refine L.rd (rd_assign rfl) rfl ?_
  refine L.nil ?_
  refine X.sq ?_
  refine V.block ?_
  refine V.loop (fun m l wr => ∃ (k : Nat) (c : List Nd), l = [(0, .slice aa a.length ca), (3, .slice (some ⟨w.heap.size, 0, none⟩) a.length a.length), (4, .int .i64 k)] ∧ m = a.length - k ∧ k ≤ a.length ∧ Ext w.heap.size w wr ∧ Bl wr w.heap.size 112 (c.flatMap ndE) ∧ c.length = a.length ∧ c.take k = a.take k) ?_ ?_
  ·
    exact ⟨_, _, (by repeat' (first | exact trivial | refine ⟨rfl, ?_⟩)), 0, List.replicate a.length (0, 0, 0, 0, 0), rfl, rfl, by omega, (Ext.refl _ _).add (Nat.le_refl _) _ _, by have := Bl.new w 112 ((List.replicate a.length (ndE (0, 0, 0, 0, 0))).flatten); rw [← fm_replicate ndE_len]; exact this, by simp, by simp⟩
  ·
    rintro m l wr ⟨k, c, rfl, rfl, hk, he, hbl, hcl, htk⟩
    refine V.seq ?_
    refine V.seq ?_
    refine V.region ?_
    refine L.rd (rd_move rfl) rfl ?_
    refine L.rd (rd_move rfl) rfl ?_
    refine L.rd (rd_lenSlice tok rfl rfl rfl) rfl ?_
    refine L.rd (rd_lss rfl rfl) rfl ?_
    refine L.nil ?_
    refine X.sq ?_
    first | refine V.cond rfl (fun h12 => ?_) (fun h12 => ?_) | refine V.condB rfl (fun h12 => ?_) (fun h12 => ?_)
    ·
      obtain ⟨b1, o1, rfl, hc1⟩ := hfa.resolve_left (by omega)
      obtain ⟨x, hx⟩ := nth_of_lt a k (by omega)
      have hcx := (hc1.le he.leC).sub (k * 5) (ndE x) (fun j u hu => fm_get ndE_len a k x hx j u hu)
      have hcl2 := fm_length ndE_len c
      have hwl := hbl.lt
      refine V.skip ?_
      refine X.sq ?_
      refine V.seq ?_
      refine V.block ?_
      refine V.seq ?_
      refine V.region ?_
      refine L.rd (rd_move rfl) rfl ?_
      refine L.rd (rd_move rfl) rfl ?_
      (refine L.rd (rd_indexSlice (sz := 5) tok rfl rfl rfl rfl rfl rfl rfl ?_) rfl ?_; omega)
      refine L.rd (rd_loadN tok rfl rfl rfl hcx rfl) rfl ?_
      refine L.ef (e_alloc (cs := [_, _, _, _, _]) tok rfl rfl (by first | (simp only [size_addB, size_setB, size_drew]; rfl) | rfl) rfl ?_)
      refine L.ef (e_store (vs := [_, _, _, _, _]) tok rfl rfl rfl rfl (by (repeat (first | assumption | (refine Bl.new' ?_ _ _; first | with_reducible rfl | (simp only [size_addB, size_setB, size_drew]; done)) | apply Bl.add | apply Bl.drew | (apply Bl.setNe; omega) | (refine Bl.set' ?_ _ _; (try simp only [size_addB, size_setB, size_drew]); omega)))) rfl (by simp [Value.oneCell']) (by simp) ?_)
      refine L.nil ?_
      refine X.sq ?_
      generalize hw5 : setB _ _ _ _ = w5
      have hb5 : Bl w5 wr.heap.size 113 (ndE x) := by rw [← hw5]; refine Bl.set' ?_ _ _; rw [size_addB]; omega
      have he5 : Ext wr.heap.size wr w5 := by rw [← hw5]; exact ((Ext.refl _ _).addNew _ _).set (Nat.le_refl _) _ _
      have hbl5 := he5.bl hbl.lt hbl
      have hE5 := he.next he5
      refine V.region ?_
      refine L.rd (rd_move rfl) rfl ?_
      refine L.rd (rd_move rfl) rfl ?_
      refine L.rd (rd_fieldAddr tok rfl rfl rfl rfl rfl rfl) rfl ?_
      refine L.rd (rd_load1 tok rfl rfl rfl (hb5.cell (i := 0) rfl)) rfl ?_
      refine L.rd (rd_fieldAddr tok rfl rfl rfl rfl rfl rfl) rfl ?_
      refine L.rd (rd_load1 tok rfl rfl rfl (hb5.cell (i := 1) rfl)) rfl ?_
      refine L.rd (rd_fieldAddr tok rfl rfl rfl rfl rfl rfl) rfl ?_
      refine L.rd (rd_load1 tok rfl rfl rfl (hb5.cell (i := 2) rfl)) rfl ?_
      refine L.rd (rd_fieldAddr tok rfl rfl rfl rfl rfl rfl) rfl ?_
      refine L.rd (rd_load1 tok rfl rfl rfl (hb5.cell (i := 3) rfl)) rfl ?_
      refine L.rd (rd_fieldAddr tok rfl rfl rfl rfl rfl rfl) rfl ?_
      refine L.rd (rd_load1 tok rfl rfl rfl (hb5.cell (i := 4) rfl)) rfl ?_
      refine L.rd (rd_build (out := [_, _, _, _, _]) tok rfl rfl rfl rfl rfl) rfl ?_
      (refine L.rd (rd_indexSlice (sz := 5) tok rfl rfl rfl rfl rfl rfl rfl ?_) rfl ?_; omega)
      refine L.ef (e_store (vs := [_, _, _, _, _]) tok rfl rfl rfl rfl hbl5 rfl (by simp [Value.oneCell']) (by rw [hcl2]; simp only [List.length_cons, List.length_nil, Nat.zero_add, Int.toNat_natCast]; omega) ?_)
      refine L.nil ?_
      refine X.bk ?_
      refine X.sq ?_
      refine V.region ?_
      refine L.rd (rd_move rfl) rfl ?_
      (refine L.rd (rd_add3 rfl rfl ?_) rfl ?_; omega)
      refine L.rd (rd_assign rfl) rfl ?_
      refine L.nil ?_
      refine X.lp ⟨_, _, by omega, (by repeat' (first | exact trivial | refine ⟨rfl, ?_⟩)), k + 1, c.set k x, rfl, rfl, by omega, hE5.set (Nat.le_refl _) _ _, ?_, by simp [hcl], take_put_next a c k x hcl hx htk⟩
      have h1 := fm_put ndE_len [] c k x (by omega)
      rw [List.append_nil, List.append_nil] at h1
      have h2 := Bl.set hbl5 112 ((c.set k x).flatMap ndE)
      rw [← h1] at h2
      simp only [Nat.zero_add, Int.toNat_natCast]
      rw [← h1]
      exact h2
    ·
      refine V.exit ?_
      refine X.sqExit ?_
      refine X.lpExit ?_
      refine X.bkHere ?_
      refine X.sq ?_
      refine V.seq ?_
      refine V.region ?_
      refine L.rd (rd_move rfl) rfl ?_
      refine L.rd (rd_assign rfl) rfl ?_
      refine L.nil ?_
      refine X.sq ?_
      refine V.ret ?_
      refine ret_1 Yabm.results72 rfl ?_
      have hka : k = a.length := by omega
      subst hka
      rw [List.take_of_length_le (by omega), List.take_of_length_le (by omega)] at htk
      subst htk
      exact ⟨own_of_bl hbl (fm_length ndE_len _) (Nat.le_refl _) (by unfold maxLen; omega), he⟩

theorem exprOut_ok (va : Value) (a : List Nd) (root : Int) (w : World) (ha : Rs w 5 va a.length (a.flatMap ndE)) (hla : a.length ≤ 4294967296) :
    Ret Yabm.prog 23 [.agg #[va, .int .i64 root]] w fun r w' => ∃ v, r = .agg #[v, .int .i64 root] ∧ w'.ownsRow w.heap.size 112 5 v a.length (a.flatMap ndE) ∧ Ext w.heap.size w w' := by
  obtain ⟨aa, ca, rfl, hfa⟩ := id ha.form
  refine enter1 Yabm.func23 Yabm.ntmps23 (by kernel_rfl) rfl rfl ?_
  refine V.seq ?_
  refine V.region ?_
  refine L.ef (e_box (cs := [_, _]) rfl rfl (by first | (simp only [size_addB, size_setB, size_drew]; rfl) | rfl) rfl ?_)
  refine L.ef (e_alloc (cs := [_, _]) tok rfl rfl (by first | (simp only [size_addB, size_setB, size_drew]; rfl) | rfl) rfl ?_)
  refine L.nil ?_
  refine X.sq ?_
  refine V.seq ?_
  have hp := (Bl.new w 34 [.slice aa a.length ca, .int .i64 root]).add 40 [.slice none 0 0, .int .i64 0]
  have hr := Bl.new' (w := addB w 34 [.slice aa a.length ca, .int .i64 root]) (b := w.heap.size + 1) (by rw [size_addB]) 40 [.slice none 0 0, .int .i64 0]
  have hE := ((Ext.refl _ w).addNew 34 [.slice aa a.length ca, .int .i64 root]).addNew 40 [.slice none 0 0, .int .i64 0]
  generalize addB (addB w 34 [.slice aa a.length ca, .int .i64 root]) 40 [.slice none 0 0, .int .i64 0] = w0 at hp hr hE ⊢
  have hrl := hr.lt
  refine V.draw [6] mixed ?_
  refine D.take 0 [true, false, false, false, false, false, false] (.sq .bd) rfl (rd_fieldAddr tok rfl rfl rfl rfl rfl rfl) rfl (by kernel_rfl) rfl (LeC.drew _) ?_
  refine D.take 1 [true, true, false, false, false, false, false] (.sq .bd) rfl (rd_load1 tok rfl rfl rfl (hp.cell rfl)) rfl (by kernel_rfl) rfl (LeC.drew _) ?_
  refine D.take 3 [true, true, false, true, false, false, false] (.sq .bd) rfl (rd_fieldAddr tok rfl rfl rfl rfl rfl rfl) rfl (by kernel_rfl) rfl (LeC.drew _) ?_
  refine D.take 4 [true, true, false, true, true, false, false] (.sq .bd) rfl (rd_load1 tok rfl rfl rfl (hp.cell (i := 1) rfl)) rfl (by kernel_rfl) rfl (LeC.drew _) ?_
  refine D.one 2 [true, true, true, true, true, false, false] rfl (by kernel_rfl) rfl (e_call rfl (nodesOut_ok _ a _ ((ha.le hE.leC).le (LeC.drew _)) hla) rfl ?_)
  rintro v1 w1 ⟨ho1, he1⟩
  obtain ⟨oa, oc, rfl⟩ := own_form ho1
  have hE1 : Ext w0.heap.size w0 w1 := (Ext.refl _ w0).drew.trans he1
  have hr1 := hE1.bl hr.lt hr
  refine ⟨fun _ => hE1.leC, ?_⟩
  refine D.take 5 [true, true, true, true, true, true, false] (.sq .bd) rfl (rd_build (out := [_, _]) tok rfl rfl rfl rfl rfl) rfl (by kernel_rfl) rfl hE1.leC ?_
  refine D.one 6 [true, true, true, true, true, true, true] rfl (by kernel_rfl) rfl (e_store (vs := [_, _]) tok rfl rfl rfl rfl hr1 rfl (by simp [Value.oneCell']) (by simp) ⟨fun h => (by cases h), ?_⟩)
  refine D.done (by kernel_rfl) ?_
  refine X.sq ?_
  refine V.ret ?_
  refine ret_c tok Yabm.results23 rfl rfl rfl (Bl.cells (hr1.set _ _)) rfl ?_
  refine ⟨_, rfl, ?_, (hE.next hE1).set (by omega) _ _⟩
  have hs := hE.size
  rw [size_drew] at ho1
  refine own_low (own_same ho1 fun q hq => ?_) hs
  have := (own_block_lt ho1 hq).1
  exact (Rg.set (w := w1) (lo := w.heap.size + 1) (hi := w.heap.size + 2) (by omega) 40 _).block q (own_block_lt ho1 hq).2 (by omega)

theorem eqExprL_ok (va vb : Value) (A B : List Nd) (ra rb : Int) (w : World) (hA : Rs w 5 va A.length (A.flatMap ndE)) (hB : Rs w 5 vb B.length (B.flatMap ndE)) (hl : A.length ≤ 4294967296) :
    Ret Yabm.prog 26 [.agg #[va, .int .i64 ra], .agg #[vb, .int .i64 rb]] w fun r w' => r = .bool (decide (ra = rb ∧ A = B)) ∧ Ext w.heap.size w w' := by
  obtain ⟨aa, ca, rfl, hfa⟩ := hA.form
  obtain ⟨ab, cb, rfl, hfb⟩ := hB.form
  refine enter2 Yabm.func26 Yabm.ntmps26 (by kernel_rfl) rfl rfl ?_
  refine V.seq ?_
  refine V.region ?_
  refine L.ef (e_box (cs := [_, _]) rfl rfl (by first | (simp only [size_addB, size_setB, size_drew]; rfl) | rfl) rfl ?_)
  refine L.ef (e_box (cs := [_, _]) rfl rfl (by first | (simp only [size_addB, size_setB, size_drew]; rfl) | rfl) rfl ?_)
  refine L.rd (rd_assign rfl) rfl ?_
  refine L.nil ?_
  refine X.sq ?_
  refine V.seq ?_
  refine V.seq ?_
  have hp := (Bl.new w 40 [.slice aa A.length ca, .int .i64 ra]).add 40 [.slice ab B.length cb, .int .i64 rb]
  have hq := Bl.new' (w := addB w 40 [.slice aa A.length ca, .int .i64 ra]) (b := w.heap.size + 1) (by rw [size_addB]) 40 [.slice ab B.length cb, .int .i64 rb]
  have hE0 := ((Ext.refl _ w).addNew 40 [.slice aa A.length ca, .int .i64 ra]).addNew 40 [.slice ab B.length cb, .int .i64 rb]
  generalize addB (addB w 40 [.slice aa A.length ca, .int .i64 ra]) 40 [.slice ab B.length cb, .int .i64 rb] = w0 at hp hq hE0 ⊢
  refine V.region ?_
  refine L.rd (rd_fieldAddr tok rfl rfl rfl rfl rfl rfl) rfl ?_
  refine L.rd (rd_load1 tok rfl rfl rfl (hp.cell (i := 1) rfl)) rfl ?_
  refine L.rd (rd_fieldAddr tok rfl rfl rfl rfl rfl rfl) rfl ?_
  refine L.rd (rd_load1 tok rfl rfl rfl (hq.cell (i := 1) rfl)) rfl ?_
  refine L.rd (rd_neq rfl rfl) rfl ?_
  refine L.rd (rd_move rfl) rfl ?_
  first | refine L.partG rfl rfl (fun g13 => ?_) (fun g13 => ?_) | refine L.partGB rfl rfl (fun g13 => ?_) (fun g13 => ?_)
  ·
    refine L.no rfl rfl rfl rfl ?_
    refine L.no rfl rfl rfl rfl ?_
    refine L.no rfl rfl rfl rfl ?_
    refine L.no rfl rfl rfl rfl ?_
    refine L.no rfl rfl rfl rfl ?_
    refine L.no rfl rfl rfl rfl ?_
    refine L.no rfl rfl rfl rfl ?_
    refine L.rd (rd_pickT rfl rfl) rfl ?_
    refine L.nil ?_
    refine X.sq ?_
    refine V.condT rfl ?_
    refine V.seq ?_
    refine V.region ?_
    refine L.rd (rd_assign rfl) rfl ?_
    refine L.nil ?_
    refine X.sq ?_
    refine V.ret ?_
    refine X.sqRet ?_
    refine ret_1 Yabm.results26 rfl ?_
    refine ⟨congrArg Value.bool (Eq.symm (decide_eq_false ?_)), hE0⟩
    rintro ⟨e1, e2⟩
    have := congrArg List.length e2
    omega
  ·
    refine L.yes rfl rfl ?_
    refine L.rd (rd_fieldAddr tok rfl rfl rfl rfl rfl rfl) rfl ?_
    refine L.yes rfl rfl ?_
    refine L.rd (rd_load1 tok rfl rfl rfl (hp.cell rfl)) rfl ?_
    refine L.yes rfl rfl ?_
    refine L.rd (rd_lenSlice tok rfl rfl rfl) rfl ?_
    refine L.yes rfl rfl ?_
    refine L.rd (rd_fieldAddr tok rfl rfl rfl rfl rfl rfl) rfl ?_
    refine L.yes rfl rfl ?_
    refine L.rd (rd_load1 tok rfl rfl rfl (hq.cell rfl)) rfl ?_
    refine L.yes rfl rfl ?_
    refine L.rd (rd_lenSlice tok rfl rfl rfl) rfl ?_
    refine L.yes rfl rfl ?_
    refine L.rd (rd_neq rfl rfl) rfl ?_
    refine L.rd (rd_pickF rfl rfl) rfl ?_
    refine L.nil ?_
    refine X.sq ?_
    first | refine V.cond rfl (fun h21 => ?_) (fun h21 => ?_) | refine V.condB rfl (fun h21 => ?_) (fun h21 => ?_)
    ·
      refine V.seq ?_
      refine V.region ?_
      refine L.rd (rd_assign rfl) rfl ?_
      refine L.nil ?_
      refine X.sq ?_
      refine V.ret ?_
      refine X.sqRet ?_
      refine ret_1 Yabm.results26 rfl ?_
      refine ⟨congrArg Value.bool (Eq.symm (decide_eq_false ?_)), hE0⟩
      rintro ⟨e1, e2⟩
      have := congrArg List.length e2
      omega
    ·
      refine V.skip ?_
      refine X.sq ?_
      refine V.seq ?_
      refine V.seq ?_
      refine V.region ?_
      refine L.rd (rd_assign rfl) rfl ?_
      refine L.nil ?_
      refine X.sq ?_
      refine V.block ?_
      refine V.loop (fun m l wr => ∃ (k : Nat), l = [(2, .pointer (some ⟨w.heap.size, 0, none⟩)), (3, .pointer (some ⟨w.heap.size + 1, 0, none⟩)), (5, .int .i64 k)] ∧ m = A.length - k ∧ k ≤ A.length ∧ Ext w0.heap.size w0 wr ∧ A.take k = B.take k) ?_ ?_
      ·
        exact ⟨_, _, (by repeat' (first | exact trivial | refine ⟨rfl, ?_⟩)), 0, rfl, rfl, by omega, Ext.refl _ _, by simp⟩
      ·
        rintro m l wr ⟨k, rfl, rfl, hk, hE1, htk⟩
        have hpr := hE1.bl hp.lt hp
        have hqr := hE1.bl hq.lt hq
        have hE := hE0.next hE1
        refine V.seq ?_
        refine V.seq ?_
        refine V.region ?_
        refine L.rd (rd_move rfl) rfl ?_
        refine L.rd (rd_fieldAddr tok rfl rfl rfl rfl rfl rfl) rfl ?_
        refine L.rd (rd_load1 tok rfl rfl rfl (hpr.cell rfl)) rfl ?_
        refine L.rd (rd_lenSlice tok rfl rfl rfl) rfl ?_
        refine L.rd (rd_lss rfl rfl) rfl ?_
        refine L.nil ?_
        refine X.sq ?_
        first | refine V.cond rfl (fun h26 => ?_) (fun h26 => ?_) | refine V.condB rfl (fun h26 => ?_) (fun h26 => ?_)
        ·
          obtain ⟨b1, o1, rfl, hc1⟩ := hfa.resolve_left (by omega)
          obtain ⟨b2, o2, rfl, hc2⟩ := hfb.resolve_left (by omega)
          obtain ⟨x, hx⟩ := nth_of_lt A k (by omega)
          obtain ⟨y, hy⟩ := nth_of_lt B k (by omega)
          have hcf := (hc1.le hE.leC).sub (k * 5) (ndE x) (fun j u hu => fm_get ndE_len A k x hx j u hu)
          have hcg := (hc2.le hE.leC).sub (k * 5) (ndE y) (fun j u hu => fm_get ndE_len B k y hy j u hu)
          refine V.skip ?_
          refine X.sq ?_
          refine V.seq ?_
          refine V.block ?_
          refine V.seq ?_
          refine V.region ?_
          refine L.rd (rd_fieldAddr tok rfl rfl rfl rfl rfl rfl) rfl ?_
          refine L.rd (rd_load1 tok rfl rfl rfl (hpr.cell rfl)) rfl ?_
          refine L.rd (rd_move rfl) rfl ?_
          (refine L.rd (rd_indexSlice (sz := 5) tok rfl rfl rfl rfl rfl rfl rfl ?_) rfl ?_; omega)
          refine L.rd (rd_loadN tok rfl rfl rfl hcf rfl) rfl ?_
          refine L.ef (e_alloc (cs := [_, _, _, _, _]) tok rfl rfl (by first | (simp only [size_addB, size_setB, size_drew]; rfl) | rfl) rfl ?_)
          refine L.ef (e_store (vs := [_, _, _, _, _]) tok rfl rfl rfl rfl (by (repeat (first | assumption | (refine Bl.new' ?_ _ _; first | with_reducible rfl | (simp only [size_addB, size_setB, size_drew]; done)) | apply Bl.add | apply Bl.drew | (apply Bl.setNe; omega) | (refine Bl.set' ?_ _ _; (try simp only [size_addB, size_setB, size_drew]); omega)))) rfl (by simp [Value.oneCell']) (by simp) ?_)
          refine L.nil ?_
          refine X.sq ?_
          refine V.seq ?_
          generalize hw5 : setB _ _ _ _ = w5
          have hbx : Bl w5 wr.heap.size 112 (ndE x) := by rw [← hw5]; refine Bl.set' ?_ _ _; rw [size_addB]; omega
          have he5 : Ext wr.heap.size wr w5 := by rw [← hw5]; exact ((Ext.refl _ _).addNew _ _).set (Nat.le_refl _) _ _
          have hq5 := he5.bl hqr.lt hqr
          refine V.region ?_
          refine L.rd (rd_fieldAddr tok rfl rfl rfl rfl rfl rfl) rfl ?_
          refine L.rd (rd_load1 tok rfl rfl rfl (hq5.cell rfl)) rfl ?_
          refine L.rd (rd_move rfl) rfl ?_
          (refine L.rd (rd_indexSlice (sz := 5) tok rfl rfl rfl rfl rfl rfl rfl ?_) rfl ?_; omega)
          refine L.rd (rd_loadN tok rfl rfl rfl (hcg.le he5.leC) rfl) rfl ?_
          refine L.ef (e_alloc (cs := [_, _, _, _, _]) tok rfl rfl (by first | (simp only [size_addB, size_setB, size_drew]; rfl) | rfl) rfl ?_)
          refine L.ef (e_store (vs := [_, _, _, _, _]) tok rfl rfl rfl rfl (by (repeat (first | assumption | (refine Bl.new' ?_ _ _; first | with_reducible rfl | (simp only [size_addB, size_setB, size_drew]; done)) | apply Bl.add | apply Bl.drew | (apply Bl.setNe; omega) | (refine Bl.set' ?_ _ _; (try simp only [size_addB, size_setB, size_drew]); omega)))) rfl (by simp [Value.oneCell']) (by simp) ?_)
          refine L.nil ?_
          refine X.sq ?_
          refine V.seq ?_
          generalize hw6 : setB _ _ _ _ = w6
          have hby : Bl w6 w5.heap.size 112 (ndE y) := by rw [← hw6]; refine Bl.set' ?_ _ _; rw [size_addB]; omega
          have he6 : Ext w5.heap.size w5 w6 := by rw [← hw6]; exact ((Ext.refl _ _).addNew _ _).set (Nat.le_refl _) _ _
          have hbx6 := he6.bl hbx.lt hbx
          have hE6 := hE1.next (he5.next he6)
          refine V.region ?_
          refine L.rd (rd_fieldAddr tok rfl rfl rfl rfl rfl rfl) rfl ?_
          refine L.rd (rd_load1 tok rfl rfl rfl (hbx6.cell (i := 0) rfl)) rfl ?_
          refine L.rd (rd_fieldAddr tok rfl rfl rfl rfl rfl rfl) rfl ?_
          refine L.rd (rd_load1 tok rfl rfl rfl (hby.cell (i := 0) rfl)) rfl ?_
          refine L.rd (rd_neq rfl rfl) rfl ?_
          refine L.rd (rd_move rfl) rfl ?_
          first | refine L.partG rfl rfl (fun g44 => ?_) (fun g44 => ?_) | refine L.partGB rfl rfl (fun g44 => ?_) (fun g44 => ?_)
          ·
            refine L.no rfl rfl rfl rfl ?_
            refine L.no rfl rfl rfl rfl ?_
            refine L.no rfl rfl rfl rfl ?_
            refine L.no rfl rfl rfl rfl ?_
            refine L.no rfl rfl rfl rfl ?_
            refine L.rd (rd_pickT rfl rfl) rfl ?_
            refine L.rd (rd_move rfl) rfl ?_
            refine L.no rfl rfl rfl rfl ?_
            refine L.no rfl rfl rfl rfl ?_
            refine L.no rfl rfl rfl rfl ?_
            refine L.no rfl rfl rfl rfl ?_
            refine L.no rfl rfl rfl rfl ?_
            refine L.rd (rd_pickT rfl rfl) rfl ?_
            refine L.rd (rd_move rfl) rfl ?_
            refine L.no rfl rfl rfl rfl ?_
            refine L.no rfl rfl rfl rfl ?_
            refine L.no rfl rfl rfl rfl ?_
            refine L.no rfl rfl rfl rfl ?_
            refine L.no rfl rfl rfl rfl ?_
            refine L.rd (rd_pickT rfl rfl) rfl ?_
            refine L.rd (rd_move rfl) rfl ?_
            refine L.no rfl rfl rfl rfl ?_
            refine L.no rfl rfl rfl rfl ?_
            refine L.no rfl rfl rfl rfl ?_
            refine L.no rfl rfl rfl rfl ?_
            refine L.no rfl rfl rfl rfl ?_
            refine L.rd (rd_pickT rfl rfl) rfl ?_
            refine L.nil ?_
            refine X.sq ?_
            refine V.condT rfl ?_
            refine V.seq ?_
            refine V.region ?_
            refine L.rd (rd_assign rfl) rfl ?_
            refine L.nil ?_
            refine X.sq ?_
            refine V.ret ?_
            refine X.bkRet ?_
            refine X.sqRet ?_
            refine X.lpRet ?_
            refine X.bkRet ?_
            refine X.sqRet ?_
            refine ret_1 Yabm.results26 rfl ?_
            refine ⟨congrArg Value.bool (Eq.symm (decide_eq_false ?_)), hE0.next hE6⟩
            rintro ⟨e1, rfl⟩
            rw [hy] at hx
            simp only [Option.some.injEq] at hx
            subst hx
            first | exact g44 rfl | exact g51 rfl | exact g58 rfl | exact g65 rfl | exact h71 rfl
          ·
            refine L.yes rfl rfl ?_
            refine L.rd (rd_fieldAddr tok rfl rfl rfl rfl rfl rfl) rfl ?_
            refine L.yes rfl rfl ?_
            refine L.rd (rd_load1 tok rfl rfl rfl (hbx6.cell (i := 1) rfl)) rfl ?_
            refine L.yes rfl rfl ?_
            refine L.rd (rd_fieldAddr tok rfl rfl rfl rfl rfl rfl) rfl ?_
            refine L.yes rfl rfl ?_
            refine L.rd (rd_load1 tok rfl rfl rfl (hby.cell (i := 1) rfl)) rfl ?_
            refine L.yes rfl rfl ?_
            refine L.rd (rd_neq rfl rfl) rfl ?_
            refine L.rd (rd_pickF rfl rfl) rfl ?_
            refine L.rd (rd_move rfl) rfl ?_
            first | refine L.partG rfl rfl (fun g51 => ?_) (fun g51 => ?_) | refine L.partGB rfl rfl (fun g51 => ?_) (fun g51 => ?_)
            ·
              refine L.no rfl rfl rfl rfl ?_
              refine L.no rfl rfl rfl rfl ?_
              refine L.no rfl rfl rfl rfl ?_
              refine L.no rfl rfl rfl rfl ?_
              refine L.no rfl rfl rfl rfl ?_
              refine L.rd (rd_pickT rfl rfl) rfl ?_
              refine L.rd (rd_move rfl) rfl ?_
              refine L.no rfl rfl rfl rfl ?_
              refine L.no rfl rfl rfl rfl ?_
              refine L.no rfl rfl rfl rfl ?_
              refine L.no rfl rfl rfl rfl ?_
              refine L.no rfl rfl rfl rfl ?_
              refine L.rd (rd_pickT rfl rfl) rfl ?_
              refine L.rd (rd_move rfl) rfl ?_
              refine L.no rfl rfl rfl rfl ?_
              refine L.no rfl rfl rfl rfl ?_
              refine L.no rfl rfl rfl rfl ?_
              refine L.no rfl rfl rfl rfl ?_
              refine L.no rfl rfl rfl rfl ?_
              refine L.rd (rd_pickT rfl rfl) rfl ?_
              refine L.nil ?_
              refine X.sq ?_
              refine V.condT rfl ?_
              refine V.seq ?_
              refine V.region ?_
              refine L.rd (rd_assign rfl) rfl ?_
              refine L.nil ?_
              refine X.sq ?_
              refine V.ret ?_
              refine X.bkRet ?_
              refine X.sqRet ?_
              refine X.lpRet ?_
              refine X.bkRet ?_
              refine X.sqRet ?_
              refine ret_1 Yabm.results26 rfl ?_
              refine ⟨congrArg Value.bool (Eq.symm (decide_eq_false ?_)), hE0.next hE6⟩
              rintro ⟨e1, rfl⟩
              rw [hy] at hx
              simp only [Option.some.injEq] at hx
              subst hx
              first | exact g44 rfl | exact g51 rfl | exact g58 rfl | exact g65 rfl | exact h71 rfl
            ·
              refine L.yes rfl rfl ?_
              refine L.rd (rd_fieldAddr tok rfl rfl rfl rfl rfl rfl) rfl ?_
              refine L.yes rfl rfl ?_
              refine L.rd (rd_load1 tok rfl rfl rfl (hbx6.cell (i := 2) rfl)) rfl ?_
              refine L.yes rfl rfl ?_
              refine L.rd (rd_fieldAddr tok rfl rfl rfl rfl rfl rfl) rfl ?_
              refine L.yes rfl rfl ?_
              refine L.rd (rd_load1 tok rfl rfl rfl (hby.cell (i := 2) rfl)) rfl ?_
              refine L.yes rfl rfl ?_
              refine L.rd (rd_neq rfl rfl) rfl ?_
              refine L.rd (rd_pickF rfl rfl) rfl ?_
              refine L.rd (rd_move rfl) rfl ?_
              first | refine L.partG rfl rfl (fun g58 => ?_) (fun g58 => ?_) | refine L.partGB rfl rfl (fun g58 => ?_) (fun g58 => ?_)
              ·
                refine L.no rfl rfl rfl rfl ?_
                refine L.no rfl rfl rfl rfl ?_
                refine L.no rfl rfl rfl rfl ?_
                refine L.no rfl rfl rfl rfl ?_
                refine L.no rfl rfl rfl rfl ?_
                refine L.rd (rd_pickT rfl rfl) rfl ?_
                refine L.rd (rd_move rfl) rfl ?_
                refine L.no rfl rfl rfl rfl ?_
                refine L.no rfl rfl rfl rfl ?_
                refine L.no rfl rfl rfl rfl ?_
                refine L.no rfl rfl rfl rfl ?_
                refine L.no rfl rfl rfl rfl ?_
                refine L.rd (rd_pickT rfl rfl) rfl ?_
                refine L.nil ?_
                refine X.sq ?_
                refine V.condT rfl ?_
                refine V.seq ?_
                refine V.region ?_
                refine L.rd (rd_assign rfl) rfl ?_
                refine L.nil ?_
                refine X.sq ?_
                refine V.ret ?_
                refine X.bkRet ?_
                refine X.sqRet ?_
                refine X.lpRet ?_
                refine X.bkRet ?_
                refine X.sqRet ?_
                refine ret_1 Yabm.results26 rfl ?_
                refine ⟨congrArg Value.bool (Eq.symm (decide_eq_false ?_)), hE0.next hE6⟩
                rintro ⟨e1, rfl⟩
                rw [hy] at hx
                simp only [Option.some.injEq] at hx
                subst hx
                first | exact g44 rfl | exact g51 rfl | exact g58 rfl | exact g65 rfl | exact h71 rfl
              ·
                refine L.yes rfl rfl ?_
                refine L.rd (rd_fieldAddr tok rfl rfl rfl rfl rfl rfl) rfl ?_
                refine L.yes rfl rfl ?_
                refine L.rd (rd_load1 tok rfl rfl rfl (hbx6.cell (i := 3) rfl)) rfl ?_
                refine L.yes rfl rfl ?_
                refine L.rd (rd_fieldAddr tok rfl rfl rfl rfl rfl rfl) rfl ?_
                refine L.yes rfl rfl ?_
                refine L.rd (rd_load1 tok rfl rfl rfl (hby.cell (i := 3) rfl)) rfl ?_
                refine L.yes rfl rfl ?_
                refine L.rd (rd_neq rfl rfl) rfl ?_
                refine L.rd (rd_pickF rfl rfl) rfl ?_
                refine L.rd (rd_move rfl) rfl ?_
                first | refine L.partG rfl rfl (fun g65 => ?_) (fun g65 => ?_) | refine L.partGB rfl rfl (fun g65 => ?_) (fun g65 => ?_)
                ·
                  refine L.no rfl rfl rfl rfl ?_
                  refine L.no rfl rfl rfl rfl ?_
                  refine L.no rfl rfl rfl rfl ?_
                  refine L.no rfl rfl rfl rfl ?_
                  refine L.no rfl rfl rfl rfl ?_
                  refine L.rd (rd_pickT rfl rfl) rfl ?_
                  refine L.nil ?_
                  refine X.sq ?_
                  refine V.condT rfl ?_
                  refine V.seq ?_
                  refine V.region ?_
                  refine L.rd (rd_assign rfl) rfl ?_
                  refine L.nil ?_
                  refine X.sq ?_
                  refine V.ret ?_
                  refine X.bkRet ?_
                  refine X.sqRet ?_
                  refine X.lpRet ?_
                  refine X.bkRet ?_
                  refine X.sqRet ?_
                  refine ret_1 Yabm.results26 rfl ?_
                  refine ⟨congrArg Value.bool (Eq.symm (decide_eq_false ?_)), hE0.next hE6⟩
                  rintro ⟨e1, rfl⟩
                  rw [hy] at hx
                  simp only [Option.some.injEq] at hx
                  subst hx
                  first | exact g44 rfl | exact g51 rfl | exact g58 rfl | exact g65 rfl | exact h71 rfl
                ·
                  refine L.yes rfl rfl ?_
                  refine L.rd (rd_fieldAddr tok rfl rfl rfl rfl rfl rfl) rfl ?_
                  refine L.yes rfl rfl ?_
                  refine L.rd (rd_load1 tok rfl rfl rfl (hbx6.cell (i := 4) rfl)) rfl ?_
                  refine L.yes rfl rfl ?_
                  refine L.rd (rd_fieldAddr tok rfl rfl rfl rfl rfl rfl) rfl ?_
                  refine L.yes rfl rfl ?_
                  refine L.rd (rd_load1 tok rfl rfl rfl (hby.cell (i := 4) rfl)) rfl ?_
                  refine L.yes rfl rfl ?_
                  refine L.rd (rd_neq rfl rfl) rfl ?_
                  refine L.rd (rd_pickF rfl rfl) rfl ?_
                  refine L.nil ?_
                  refine X.sq ?_
                  first | refine V.cond rfl (fun h71 => ?_) (fun h71 => ?_) | refine V.condB rfl (fun h71 => ?_) (fun h71 => ?_)
                  ·
                    refine V.seq ?_
                    refine V.region ?_
                    refine L.rd (rd_assign rfl) rfl ?_
                    refine L.nil ?_
                    refine X.sq ?_
                    refine V.ret ?_
                    refine X.bkRet ?_
                    refine X.sqRet ?_
                    refine X.lpRet ?_
                    refine X.bkRet ?_
                    refine X.sqRet ?_
                    refine ret_1 Yabm.results26 rfl ?_
                    refine ⟨congrArg Value.bool (Eq.symm (decide_eq_false ?_)), hE0.next hE6⟩
                    rintro ⟨e1, rfl⟩
                    rw [hy] at hx
                    simp only [Option.some.injEq] at hx
                    subst hx
                    first | exact g44 rfl | exact g51 rfl | exact g58 rfl | exact g65 rfl | exact h71 rfl
                  ·
                    refine V.skip ?_
                    refine X.bk ?_
                    refine X.sq ?_
                    refine V.region ?_
                    refine L.rd (rd_move rfl) rfl ?_
                    (refine L.rd (rd_add3 rfl rfl ?_) rfl ?_; omega)
                    refine L.rd (rd_assign rfl) rfl ?_
                    refine L.nil ?_
                    have hxy : x = y := Prod.ext (Decidable.not_not.1 g44) (Prod.ext (Decidable.not_not.1 g51) (Prod.ext (Decidable.not_not.1 g58) (Prod.ext (Decidable.not_not.1 g65) (Decidable.not_not.1 h71))))
                    subst hxy
                    exact X.lp ⟨_, _, by omega, (by repeat' (first | exact trivial | refine ⟨rfl, ?_⟩)), k + 1, rfl, rfl, by omega, hE6, take_both_next htk hx hy⟩
        ·
          refine V.exit ?_
          refine X.sqExit ?_
          refine X.lpExit ?_
          refine X.bkHere ?_
          refine X.sq ?_
          refine V.seq ?_
          refine V.region ?_
          refine L.rd (rd_assign rfl) rfl ?_
          refine L.nil ?_
          refine X.sq ?_
          refine V.ret ?_
          refine ret_1 Yabm.results26 rfl ?_
          refine ⟨congrArg Value.bool (Eq.symm (decide_eq_true ⟨by omega, ?_⟩)), hE⟩
          rwa [List.take_of_length_le (by omega), List.take_of_length_le (by omega)] at htk

theorem growNodes_ok (va : Value) (a : List Nd) (w : World) (B : Nat) (ha : w.ownsRow B 113 5 va a.length (a.flatMap ndE)) (hla : a.length ≤ 4294967296) (hB : B ≤ w.heap.size) :
    Ret Yabm.prog 27 [va] w fun v w' => w'.ownsRow B 113 5 va a.length (a.flatMap ndE) ∧ w.grownBy w' va.ownBlock := by
  refine enter1 Yabm.func27 Yabm.ntmps27 (by kernel_rfl) rfl rfl ?_
  refine V.seq ?_
  refine V.region ?_
  refine L.rd (rd_assign rfl) rfl ?_
  refine L.nil ?_
  refine X.sq ?_
  refine V.seq ?_
  refine V.region ?_
  refine L.rd (rd_move rfl) rfl ?_
  refine L.rd (rd_build (out := [_, _, _, _, _]) tok rfl rfl rfl rfl rfl) rfl ?_
  refine L.ef (e_buildSlice1 (e := 113) (cs := ndE (-77, -77, -77, -77, -77)) tok rfl rfl rfl rfl rfl rfl rfl rfl rfl (by first | (simp only [size_addB, size_setB, size_drew]; rfl) | rfl) rfl ?_)
  refine L.ef (e_appendK tok rfl rfl rfl rfl rfl rfl rfl rfl rfl rfl (ha.alloc _) (Bl.new _ _ _).cells (ndE_len _) (ndE_one _) (by unfold maxLen; omega) (by simp only []; omega) (by rw [size_addB]; omega) ?_)
  rintro v1 w1 ho1 hg1 hk1
  obtain ⟨sa1, sn1, hsv1⟩ := own_form ho1
  subst hsv1
  refine L.rd (rd_assign rfl) rfl ?_
  refine L.nil ?_
  refine X.sq ?_
  refine V.seq ?_
  refine V.region ?_
  refine L.rd (rd_move rfl) rfl ?_
  refine L.rd (rd_lenSlice tok rfl rfl rfl) rfl ?_
  refine L.rd (rd_assign rfl) rfl ?_
  refine L.nil ?_
  refine X.sq ?_
  refine V.ret ?_
  refine ret_1 Yabm.results27 rfl ?_
  exact ⟨hk1, grown_trans (grown_ext _ ((Ext.refl _ _).add (Nat.le_refl _) _ _)) hg1⟩

theorem flipNodes_ok (va : Value) (a : List Nd) (w : World) (B : Nat) (ha : w.ownsRow B 113 5 va a.length (a.flatMap ndE)) (hla : a.length ≤ 4294967296) :
    Ret Yabm.prog 28 [va] w fun v w' => w'.ownsRow B 113 5 va a.length ((a.map flipN).flatMap ndE) ∧ w.grownBy w' va.ownBlock := by
  rcases own_slc ha with ⟨rfl, h0, hnil⟩ | ⟨g, cap, sp, hB, hs⟩
  · have ha0 : a = [] := List.eq_nil_of_length_eq_zero h0
    subst ha0
    refine enter1 Yabm.func28 Yabm.ntmps28 (by kernel_rfl) rfl rfl ?_
    refine V.seq ?_
    refine V.region ?_
    refine L.rd (rd_assign rfl) rfl ?_
    refine L.nil ?_
    refine X.sq ?_
    refine V.block ?_
    refine V.loop (fun m l wr => l = [(0, .slice none 0 0), (2, .int .i64 0)] ∧ w = wr) ?_ ?_
    ·
      exact ⟨0, _, (by repeat' (first | exact trivial | refine ⟨rfl, ?_⟩)), rfl, rfl⟩
    ·
      rintro m l wr ⟨rfl, rfl⟩
      refine V.seq ?_
      refine V.seq ?_
      refine V.region ?_
      refine L.rd (rd_move rfl) rfl ?_
      refine L.rd (rd_move rfl) rfl ?_
      refine L.rd (rd_lenSlice tok rfl rfl rfl) rfl ?_
      refine L.rd (rd_lss rfl rfl) rfl ?_
      refine L.nil ?_
      refine X.sq ?_
      first | refine V.cond rfl (fun h7 => ?_) (fun h7 => ?_) | refine V.condB rfl (fun h7 => ?_) (fun h7 => ?_)
      ·
        exact absurd h7 (by decide)
      ·
        refine V.exit ?_
        refine X.sqExit ?_
        refine X.lpExit ?_
        refine X.bkHere ?_
        refine ret_0 Yabm.results28 ?_
        exact ⟨World.ownsRow_nil _ _ _ _, grown_refl _ _⟩
  · obtain ⟨hval, hbl, hlen, hcn, hcm, hsz⟩ := hs
    subst hval
    refine enter1 Yabm.func28 Yabm.ntmps28 (by kernel_rfl) rfl rfl ?_
    refine V.seq ?_
    refine V.region ?_
    refine L.rd (rd_assign rfl) rfl ?_
    refine L.nil ?_
    refine X.sq ?_
    refine V.block ?_
    refine V.loop (fun m l wr => ∃ k : Nat, l = [(0, .slice (some ⟨g, 0, none⟩) a.length cap), (2, .int .i64 k)] ∧ m = a.length - k ∧ k ≤ a.length ∧ Bl wr g 113 (((a.take k).map flipN ++ a.drop k).flatMap ndE ++ sp) ∧ w.grownBy wr (some g)) ?_ ?_
    ·
      exact ⟨_, _, (by repeat' (first | exact trivial | refine ⟨rfl, ?_⟩)), 0, rfl, rfl, by omega, hbl, grown_refl _ _⟩
    ·
      rintro m l wr ⟨k, rfl, rfl, hk, hb, hg⟩
      refine V.seq ?_
      refine V.seq ?_
      refine V.region ?_
      refine L.rd (rd_move rfl) rfl ?_
      refine L.rd (rd_move rfl) rfl ?_
      refine L.rd (rd_lenSlice tok rfl rfl rfl) rfl ?_
      refine L.rd (rd_lss rfl rfl) rfl ?_
      refine L.nil ?_
      refine X.sq ?_
      first | refine V.cond rfl (fun h7 => ?_) (fun h7 => ?_) | refine V.condB rfl (fun h7 => ?_) (fun h7 => ?_)
      ·
        obtain ⟨x, hx⟩ := nth_of_lt a k (by omega)
        have hcx := hb.cells.sub (k * 5) (ndE x) (fun j v hv => by
          have h1 := fm_get ndE_len _ k x (get_split flipN a k x hx) j v hv
          rw [List.getElem?_append_left (List.getElem?_eq_some_iff.1 h1).1]; exact h1)
        have hgl := hb.lt
        refine V.skip ?_
        refine X.sq ?_
        refine V.seq ?_
        refine V.block ?_
        refine V.seq ?_
        refine V.region ?_
        refine L.rd (rd_move rfl) rfl ?_
        refine L.rd (rd_move rfl) rfl ?_
        (refine L.rd (rd_indexSlice (sz := 5) tok rfl rfl rfl rfl rfl rfl rfl ?_) rfl ?_; omega)
        refine L.rd (rd_loadN tok rfl rfl rfl hcx rfl) rfl ?_
        refine L.ef (e_alloc (cs := [_, _, _, _, _]) tok rfl rfl (by first | (simp only [size_addB, size_setB, size_drew]; rfl) | rfl) rfl ?_)
        refine L.ef (e_store (vs := [_, _, _, _, _]) tok rfl rfl rfl rfl (by (repeat (first | assumption | (refine Bl.new' ?_ _ _; first | with_reducible rfl | (simp only [size_addB, size_setB, size_drew]; done)) | apply Bl.add | apply Bl.drew | (apply Bl.setNe; omega) | (refine Bl.set' ?_ _ _; (try simp only [size_addB, size_setB, size_drew]); omega)))) rfl (by simp [Value.oneCell']) (by simp) ?_)
        refine L.nil ?_
        refine X.sq ?_
        generalize hw5 : setB _ _ _ _ = w5
        have hbx : Bl w5 wr.heap.size 113 (ndE x) := by rw [← hw5]; refine Bl.set' ?_ _ _; rw [size_addB]; omega
        have he5 : Ext wr.heap.size wr w5 := by rw [← hw5]; exact ((Ext.refl _ _).addNew _ _).set (Nat.le_refl _) _ _
        have hb5 := he5.bl hb.lt hb
        refine V.region ?_
        refine L.rd (rd_move rfl) rfl ?_
        refine L.rd (rd_move rfl) rfl ?_
        refine L.rd (rd_fieldAddr tok rfl rfl rfl rfl rfl rfl) rfl ?_
        refine L.rd (rd_load1 tok rfl rfl rfl (hbx.cell rfl)) rfl ?_
        refine L.rd (rd_xorW rfl) rfl ?_
        refine L.rd (rd_fieldAddr tok rfl rfl rfl rfl rfl rfl) rfl ?_
        refine L.rd (rd_load1 tok rfl rfl rfl (hbx.cell (i := 1) rfl)) rfl ?_
        refine L.rd (rd_xorW rfl) rfl ?_
        refine L.rd (rd_fieldAddr tok rfl rfl rfl rfl rfl rfl) rfl ?_
        refine L.rd (rd_load1 tok rfl rfl rfl (hbx.cell (i := 2) rfl)) rfl ?_
        refine L.rd (rd_xorW rfl) rfl ?_
        refine L.rd (rd_fieldAddr tok rfl rfl rfl rfl rfl rfl) rfl ?_
        refine L.rd (rd_load1 tok rfl rfl rfl (hbx.cell (i := 3) rfl)) rfl ?_
        refine L.rd (rd_xorW rfl) rfl ?_
        refine L.rd (rd_fieldAddr tok rfl rfl rfl rfl rfl rfl) rfl ?_
        refine L.rd (rd_load1 tok rfl rfl rfl (hbx.cell (i := 4) rfl)) rfl ?_
        refine L.rd (rd_xorW rfl) rfl ?_
        refine L.rd (rd_build (out := [_, _, _, _, _]) tok rfl rfl rfl rfl rfl) rfl ?_
        (refine L.rd (rd_indexSlice (sz := 5) tok rfl rfl rfl rfl rfl rfl rfl ?_) rfl ?_; omega)
        refine L.ef (e_store (vs := [_, _, _, _, _]) tok rfl rfl rfl rfl hb5 rfl (by simp [Value.oneCell']) (by have h1 := fm_length ndE_len ((a.take k).map flipN ++ a.drop k); rw [split_len] at h1; simp only [List.length_append, h1, List.length_cons, List.length_nil]; simp; omega) ?_)
        refine L.nil ?_
        refine X.bk ?_
        refine X.sq ?_
        refine V.region ?_
        refine L.rd (rd_move rfl) rfl ?_
        (refine L.rd (rd_add3 rfl rfl ?_) rfl ?_; omega)
        refine L.rd (rd_assign rfl) rfl ?_
        refine L.nil ?_
        refine X.lp ⟨_, _, by omega, (by repeat' (first | exact trivial | refine ⟨rfl, ?_⟩)), k + 1, rfl, rfl, by omega, ?_, ?_⟩
        · have h1 := fm_put ndE_len sp ((a.take k).map flipN ++ a.drop k) k (flipN x) (by rw [split_len]; omega)
          rw [set_split flipN a k x hx] at h1
          have h2 := Bl.set hb5 113 (putAt (((a.take k).map flipN ++ a.drop k).flatMap ndE ++ sp) (k * 5) (ndE (flipN x)))
          simp only [Nat.zero_add, Int.toNat_natCast]
          rw [← h1]
          exact h2
        · exact grown_trans hg (grown_trans (grown_ext _ he5) grown_set)
      ·
        refine V.exit ?_
        refine X.sqExit ?_
        refine X.lpExit ?_
        refine X.bkHere ?_
        refine ret_0 Yabm.results28 ?_
        have hka : k = a.length := by omega
        subst hka
        rw [List.take_of_length_le (Nat.le_refl _), List.drop_eq_nil_of_le (Nat.le_refl _), List.append_nil] at hb
        have h1 := fm_length ndE_len (a.map flipN)
        rw [List.length_map] at h1
        refine ⟨Slc.own ⟨rfl, hb, h1, hcn, hcm, ?_⟩ hB, hg⟩
        rw [← hsz, List.length_append, List.length_append, h1, hlen]
end Go.Proofs.Ybxabw
