/-
  The rules of the model's Canon, walked.
-/
import Derived.Test.YbxaawGreatCanP
import Derived.Test.YbxaawGreatFlatW
import Derived.Test.YbxaawGreatEvalW
set_option linter.unusedVariables false
set_option linter.unusedSimpArgs false
set_option maxRecDepth 10000
namespace Go.Proofs.YbxaawGreat
open Go.Mw
abbrev CPo := CPost 119

theorem isNum_ok (a : Tre) (va : Value) (n : Int) (w : World) (lo : Nat) (h : Tm 119 w lo a va) : Ret Yaam.prog 137 [va, .int .i64 n] w fun r w' => r = .bool (decide (a.k = 1 ∧ a.v = n)) ∧ w = w' := by
  obtain ⟨b, q, q2, rfl, hlb, hb, hkd⟩ := h.node
  refine enter2 Yaam.func137 Yaam.ntmps137 (by kernel_rfl) rfl rfl ?_
  refine V.seq ?_
  refine V.region ?_
  refine L.rd (rd_assign rfl) rfl ?_
  refine L.nil ?_
  refine X.sq ?_
  refine V.seq ?_
  refine V.region ?_
  refine L.rd (rd_move rfl) rfl ?_
  refine L.rd (rd_nilCheck rfl) rfl ?_
  refine L.rd (rd_fieldAddr tok rfl rfl rfl rfl rfl rfl) rfl ?_
  refine L.rd (rd_load1 tok rfl rfl rfl (hb.cell rfl)) rfl ?_
  refine L.rd (rd_eql rfl rfl) rfl ?_
  refine L.rd (rd_move rfl) rfl ?_
  first | refine L.partG rfl rfl (fun g10 => ?_) (fun g10 => ?_) | refine L.partGB rfl rfl (fun g10 => ?_) (fun g10 => ?_)
  ·
    refine L.yes rfl rfl ?_
    refine L.rd (rd_move rfl) rfl ?_
    refine L.yes rfl rfl ?_
    refine L.rd (rd_nilCheck rfl) rfl ?_
    refine L.yes rfl rfl ?_
    refine L.rd (rd_fieldAddr tok rfl rfl rfl rfl rfl rfl) rfl ?_
    refine L.yes rfl rfl ?_
    refine L.rd (rd_load1 tok rfl rfl rfl (hb.cell (i := 1) rfl)) rfl ?_
    refine L.yes rfl rfl ?_
    refine L.rd (rd_move rfl) rfl ?_
    refine L.yes rfl rfl ?_
    refine L.rd (rd_eql rfl rfl) rfl ?_
    refine L.rd (rd_pickT rfl rfl) rfl ?_
    refine L.rd (rd_assign rfl) rfl ?_
    refine L.nil ?_
    refine X.sq ?_
    refine V.ret ?_
    refine ret_1 Yaam.results137 rfl ?_
    refine ⟨?_, rfl⟩
    first
      | (by_cases hv : a.v = n
         · rw [decide_eq_true hv, decide_eq_true ⟨by assumption, hv⟩]
         · rw [decide_eq_false hv, decide_eq_false (fun e => hv e.2)])
      | (rw [decide_eq_false (fun e => by first | exact g10 e.1 | exact absurd e.1 g10)])
  ·
    refine L.no rfl rfl rfl rfl ?_
    refine L.no rfl rfl rfl rfl ?_
    refine L.no rfl rfl rfl rfl ?_
    refine L.no rfl rfl rfl rfl ?_
    refine L.no rfl rfl rfl rfl ?_
    refine L.no rfl rfl rfl rfl ?_
    refine L.rd (rd_pickF rfl rfl) rfl ?_
    refine L.rd (rd_assign rfl) rfl ?_
    refine L.nil ?_
    refine X.sq ?_
    refine V.ret ?_
    refine ret_1 Yaam.results137 rfl ?_
    refine ⟨?_, rfl⟩
    first
      | (by_cases hv : a.v = n
         · rw [decide_eq_true hv, decide_eq_true ⟨by assumption, hv⟩]
         · rw [decide_eq_false hv, decide_eq_false (fun e => hv e.2)])
      | (rw [decide_eq_false (fun e => by first | exact g10 e.1 | exact absurd e.1 g10)])

theorem negRule_ok (a : Tre) (hw : Wt a) (va : Value) (w : World) (lo : Nat) (hlo : lo ≤ w.heap.size) (h : Tm 119 w lo a va) : Ret Yaam.prog 123 [va] w (CPo lo (negR a) w) := by
  obtain ⟨b, q, q2, rfl, hlb, hb, hkd⟩ := h.node
  refine enter1 Yaam.func123 Yaam.ntmps123 (by kernel_rfl) rfl rfl ?_
  refine V.seq ?_
  refine V.region ?_
  refine L.rd (rd_assign rfl) rfl ?_
  refine L.nil ?_
  refine X.sq ?_
  refine V.seq ?_
  refine V.seq ?_
  refine V.region ?_
  refine L.rd (rd_move rfl) rfl ?_
  refine L.rd (rd_nilCheck rfl) rfl ?_
  refine L.rd (rd_fieldAddr tok rfl rfl rfl rfl rfl rfl) rfl ?_
  refine L.rd (rd_load1 tok rfl rfl rfl (hb.cell rfl)) rfl ?_
  refine L.rd (rd_eql rfl rfl) rfl ?_
  refine L.nil ?_
  refine X.sq ?_
  first | refine V.cond rfl (fun h7 => ?_) (fun h7 => ?_) | refine V.condB rfl (fun h7 => ?_) (fun h7 => ?_)
  ·
    refine V.seq ?_
    refine V.region ?_
    refine L.rd (rd_move rfl) rfl ?_
    refine L.rd (rd_nilCheck rfl) rfl ?_
    refine L.rd (rd_fieldAddr tok rfl rfl rfl rfl rfl rfl) rfl ?_
    refine L.rd (rd_load1 tok rfl rfl rfl (hb.cell (i := 1) rfl)) rfl ?_
    refine L.rd (rd_negW rfl) rfl ?_
    refine L.ef (e_call rfl (snum_ok (w64 (-a.v)) _) rfl ?_)
    rintro _ w1 ⟨rfl, hb1, he1⟩
    refine L.rd (rd_assign rfl) rfl ?_
    refine L.nil ?_
    refine X.sq ?_
    refine V.ret ?_
    refine X.sqRet ?_
    refine ret_1 Yaam.results123 rfl ?_
    exact ⟨_, rfl, by unfold negR; rw [if_pos h7]; exact Tm.leaf hb1 hlo, he1⟩
  ·
    refine V.skip ?_
    refine X.sq ?_
    refine V.seq ?_
    refine V.seq ?_
    refine V.region ?_
    refine L.rd (rd_move rfl) rfl ?_
    refine L.rd (rd_nilCheck rfl) rfl ?_
    refine L.rd (rd_fieldAddr tok rfl rfl rfl rfl rfl rfl) rfl ?_
    refine L.rd (rd_load1 tok rfl rfl rfl (hb.cell rfl)) rfl ?_
    refine L.rd (rd_eql rfl rfl) rfl ?_
    refine L.nil ?_
    refine X.sq ?_
    first | refine V.cond rfl (fun h18 => ?_) (fun h18 => ?_) | refine V.condB rfl (fun h18 => ?_) (fun h18 => ?_)
    ·
      refine V.seq ?_
      refine V.region ?_
      refine L.rd (rd_move rfl) rfl ?_
      refine L.rd (rd_nilCheck rfl) rfl ?_
      refine L.rd (rd_fieldAddr tok rfl rfl rfl rfl rfl rfl) rfl ?_
      refine L.rd (rd_load1 tok rfl rfl rfl (hb.cell (i := 3) rfl)) rfl ?_
      refine L.rd (rd_assign rfl) rfl ?_
      refine L.nil ?_
      refine X.sq ?_
      refine V.ret ?_
      refine X.sqRet ?_
      refine ret_1 Yaam.results123 rfl ?_
      exact ⟨_, rfl, by unfold negR; rw [if_neg h7, if_pos h18]; exact hkd (by have := (wt_kid hw (.inl h18)).1; omega), Ext.refl _ _⟩
    ·
      refine V.skip ?_
      refine X.sq ?_
      refine V.seq ?_
      refine V.region ?_
      refine L.rd (rd_move rfl) rfl ?_
      refine L.rd (rd_build (out := [_, _, _, _, _]) tok rfl rfl rfl rfl rfl) rfl ?_
      refine L.ef (e_box (cs := [_, _, _, _, _]) rfl rfl (by first | (simp only [size_addB, size_setB, size_drew]; rfl) | rfl) rfl ?_)
      refine L.rd (rd_assign rfl) rfl ?_
      refine L.nil ?_
      refine X.sq ?_
      refine V.ret ?_
      refine ret_1 Yaam.results123 rfl ?_
      have he := (Ext.refl _ w).addNew 119 [.int .i64 3, .int .i64 0, .int .i64 0, .pointer (some ⟨b, 0, none⟩), .pointer none]
      exact ⟨_, rfl, by unfold negR; rw [if_neg h7, if_neg h18]; exact Tm.un (Bl.new _ _ _) hlo (h.ext he), he⟩

theorem addRule_ok (a c : Tre) (va vc : Value) (w : World) (lo : Nat) (hlo : lo ≤ w.heap.size) (h : Tm 119 w lo a va) (k : Tm 119 w lo c vc) : Ret Yaam.prog 125 [va, vc] w (CPo lo (addR a c) w) := by
  obtain ⟨b, q, q2, rfl, hlb, hb, -⟩ := h.node
  obtain ⟨b', p, p2, rfl, hlb', hb', -⟩ := k.node
  refine enter2 Yaam.func125 Yaam.ntmps125 (by kernel_rfl) rfl rfl ?_
  refine V.seq ?_
  refine V.region ?_
  refine L.rd (rd_assign rfl) rfl ?_
  refine L.nil ?_
  refine X.sq ?_
  refine V.seq ?_
  refine V.seq ?_
  refine V.region ?_
  refine L.rd (rd_move rfl) rfl ?_
  refine L.rd (rd_nilCheck rfl) rfl ?_
  refine L.rd (rd_fieldAddr tok rfl rfl rfl rfl rfl rfl) rfl ?_
  refine L.rd (rd_load1 tok rfl rfl rfl (hb.cell rfl)) rfl ?_
  refine L.rd (rd_eql rfl rfl) rfl ?_
  refine L.rd (rd_move rfl) rfl ?_
  first | refine L.partG rfl rfl (fun g10 => ?_) (fun g10 => ?_) | refine L.partGB rfl rfl (fun g10 => ?_) (fun g10 => ?_)
  ·
    refine L.yes rfl rfl ?_
    refine L.rd (rd_move rfl) rfl ?_
    refine L.yes rfl rfl ?_
    refine L.rd (rd_nilCheck rfl) rfl ?_
    refine L.yes rfl rfl ?_
    refine L.rd (rd_fieldAddr tok rfl rfl rfl rfl rfl rfl) rfl ?_
    refine L.yes rfl rfl ?_
    refine L.rd (rd_load1 tok rfl rfl rfl (hb'.cell rfl)) rfl ?_
    refine L.yes rfl rfl ?_
    refine L.rd (rd_eql rfl rfl) rfl ?_
    refine L.rd (rd_pickT rfl rfl) rfl ?_
    refine L.nil ?_
    refine X.sq ?_
    first | refine V.cond rfl (fun h16 => ?_) (fun h16 => ?_) | refine V.condB rfl (fun h16 => ?_) (fun h16 => ?_)
    ·
      have hcc : a.k = 1 ∧ c.k = 1 := ⟨g10, h16⟩
      refine V.seq ?_
      refine V.draw [] mixed ?_
      refine D.take 0 [true, false, false, false, false, false, false, false, false, false, false] (.sq (.sq .bd)) rfl (rd_move rfl) rfl (by kernel_rfl) rfl (LeC.drew _) ?_
      refine D.take 1 [true, true, false, false, false, false, false, false, false, false, false] (.sq (.sq .bd)) rfl (rd_nilCheck rfl) rfl (by kernel_rfl) rfl (LeC.drew _) ?_
      refine D.take 2 [true, true, true, false, false, false, false, false, false, false, false] (.sq (.sq .bd)) rfl (rd_fieldAddr tok rfl rfl rfl rfl rfl rfl) rfl (by kernel_rfl) rfl (LeC.drew _) ?_
      refine D.take 3 [true, true, true, true, false, false, false, false, false, false, false] (.sq (.sq .bd)) rfl (rd_load1 tok rfl rfl rfl (hb.cell (i := 1) rfl)) rfl (by kernel_rfl) rfl (LeC.drew _) ?_
      refine D.take 4 [true, true, true, true, true, false, false, false, false, false, false] (.sq (.sq .bd)) rfl (rd_move rfl) rfl (by kernel_rfl) rfl (LeC.drew _) ?_
      refine D.take 5 [true, true, true, true, true, true, false, false, false, false, false] (.sq (.sq .bd)) rfl (rd_nilCheck rfl) rfl (by kernel_rfl) rfl (LeC.drew _) ?_
      refine D.take 6 [true, true, true, true, true, true, true, false, false, false, false] (.sq (.sq .bd)) rfl (rd_fieldAddr tok rfl rfl rfl rfl rfl rfl) rfl (by kernel_rfl) rfl (LeC.drew _) ?_
      refine D.take 7 [true, true, true, true, true, true, true, true, false, false, false] (.sq (.sq .bd)) rfl (rd_load1 tok rfl rfl rfl (hb'.cell (i := 1) rfl)) rfl (by kernel_rfl) rfl (LeC.drew _) ?_
      refine D.take 8 [true, true, true, true, true, true, true, true, true, false, false] (.sq (.sq .bd)) rfl (rd_addE (r := w64 (a.v + c.v)) rfl rfl rfl) rfl (by kernel_rfl) rfl (LeC.drew _) ?_
      refine D.one 9 [true, true, true, true, true, true, true, true, true, true, false] rfl (by kernel_rfl) rfl (e_call rfl (snum_ok (w64 (a.v + c.v)) _) rfl ?_)
      rintro _ w1 ⟨rfl, hb1, he1⟩
      have hE1 : Ext w.heap.size w w1 := (Ext.refl _ w).drew.trans he1
      refine ⟨fun _ => hE1.leC, ?_⟩
      refine D.take 10 [true, true, true, true, true, true, true, true, true, true, true] (.sq (.sq .bd)) rfl (rd_assign rfl) rfl (by kernel_rfl) rfl hE1.leC ?_
      refine D.done (by kernel_rfl) ?_
      refine X.sq ?_
      refine V.ret ?_
      refine X.sqRet ?_
      refine ret_1 Yaam.results125 rfl ?_
      exact ⟨_, rfl, by unfold addR; rw [if_pos hcc]; exact Tm.leaf hb1 hlo, hE1⟩
    ·
      refine V.skip ?_
      refine X.sq ?_
      refine V.seq ?_
      refine V.seq ?_
      have hno : ¬ (a.k = 1 ∧ c.k = 1) := by rintro ⟨e1, e2⟩; first | exact g10 e1 | exact h16 e2
      refine V.region ?_
      refine L.rd (rd_move rfl) rfl ?_
      refine L.ef (e_call rfl (isNum_ok a _ 0 _ lo h) rfl ?_)
      rintro _ _ ⟨rfl, rfl⟩
      refine L.nil ?_
      refine X.sq ?_
      first | refine V.cond rfl (fun h28 => ?_) (fun h28 => ?_) | refine V.condB rfl (fun h28 => ?_) (fun h28 => ?_)
      ·
        refine V.seq ?_
        refine V.region ?_
        refine L.rd (rd_move rfl) rfl ?_
        refine L.rd (rd_assign rfl) rfl ?_
        refine L.nil ?_
        refine X.sq ?_
        refine V.ret ?_
        refine X.sqRet ?_
        refine ret_1 Yaam.results125 rfl ?_
        exact ⟨_, rfl, by unfold addR; rw [if_neg hno, if_pos h28]; exact k, Ext.refl _ _⟩
      ·
        refine V.skip ?_
        refine X.sq ?_
        refine V.seq ?_
        refine V.seq ?_
        refine V.region ?_
        refine L.rd (rd_move rfl) rfl ?_
        refine L.ef (e_call rfl (isNum_ok c _ 0 _ lo k) rfl ?_)
        rintro _ _ ⟨rfl, rfl⟩
        refine L.nil ?_
        refine X.sq ?_
        first | refine V.cond rfl (fun h31 => ?_) (fun h31 => ?_) | refine V.condB rfl (fun h31 => ?_) (fun h31 => ?_)
        ·
          refine V.seq ?_
          refine V.region ?_
          refine L.rd (rd_move rfl) rfl ?_
          refine L.rd (rd_assign rfl) rfl ?_
          refine L.nil ?_
          refine X.sq ?_
          refine V.ret ?_
          refine X.sqRet ?_
          refine ret_1 Yaam.results125 rfl ?_
          exact ⟨_, rfl, by unfold addR; rw [if_neg hno, if_neg h28, if_pos h31]; exact h, Ext.refl _ _⟩
        ·
          refine V.skip ?_
          refine X.sq ?_
          refine V.seq ?_
          refine V.region ?_
          refine L.rd (rd_move rfl) rfl ?_
          refine L.rd (rd_move rfl) rfl ?_
          refine L.rd (rd_build (out := [_, _, _, _, _]) tok rfl rfl rfl rfl rfl) rfl ?_
          refine L.ef (e_box (cs := [_, _, _, _, _]) rfl rfl (by first | (simp only [size_addB, size_setB, size_drew]; rfl) | rfl) rfl ?_)
          refine L.rd (rd_assign rfl) rfl ?_
          refine L.nil ?_
          refine X.sq ?_
          refine V.ret ?_
          refine ret_1 Yaam.results125 rfl ?_
          have he := (Ext.refl _ w).addNew 119 [.int .i64 4, .int .i64 0, .int .i64 0, .pointer (some ⟨b, 0, none⟩), .pointer (some ⟨b', 0, none⟩)]
          exact ⟨_, rfl, by unfold addR; rw [if_neg hno, if_neg h28, if_neg h31]; exact Tm.bin (Bl.new _ _ _) hlo (h.ext he) (k.ext he), he⟩
  ·
    refine L.no rfl rfl rfl rfl ?_
    refine L.no rfl rfl rfl rfl ?_
    refine L.no rfl rfl rfl rfl ?_
    refine L.no rfl rfl rfl rfl ?_
    refine L.no rfl rfl rfl rfl ?_
    refine L.rd (rd_pickF rfl rfl) rfl ?_
    refine L.nil ?_
    refine X.sq ?_
    refine V.condF rfl ?_
    refine V.skip ?_
    refine X.sq ?_
    refine V.seq ?_
    refine V.seq ?_
    have hno : ¬ (a.k = 1 ∧ c.k = 1) := by rintro ⟨e1, e2⟩; first | exact g10 e1 | exact h16 e2
    refine V.region ?_
    refine L.rd (rd_move rfl) rfl ?_
    refine L.ef (e_call rfl (isNum_ok a _ 0 _ lo h) rfl ?_)
    rintro _ _ ⟨rfl, rfl⟩
    refine L.nil ?_
    refine X.sq ?_
    first | refine V.cond rfl (fun h28 => ?_) (fun h28 => ?_) | refine V.condB rfl (fun h28 => ?_) (fun h28 => ?_)
    ·
      refine V.seq ?_
      refine V.region ?_
      refine L.rd (rd_move rfl) rfl ?_
      refine L.rd (rd_assign rfl) rfl ?_
      refine L.nil ?_
      refine X.sq ?_
      refine V.ret ?_
      refine X.sqRet ?_
      refine ret_1 Yaam.results125 rfl ?_
      exact ⟨_, rfl, by unfold addR; rw [if_neg hno, if_pos h28]; exact k, Ext.refl _ _⟩
    ·
      refine V.skip ?_
      refine X.sq ?_
      refine V.seq ?_
      refine V.seq ?_
      refine V.region ?_
      refine L.rd (rd_move rfl) rfl ?_
      refine L.ef (e_call rfl (isNum_ok c _ 0 _ lo k) rfl ?_)
      rintro _ _ ⟨rfl, rfl⟩
      refine L.nil ?_
      refine X.sq ?_
      first | refine V.cond rfl (fun h31 => ?_) (fun h31 => ?_) | refine V.condB rfl (fun h31 => ?_) (fun h31 => ?_)
      ·
        refine V.seq ?_
        refine V.region ?_
        refine L.rd (rd_move rfl) rfl ?_
        refine L.rd (rd_assign rfl) rfl ?_
        refine L.nil ?_
        refine X.sq ?_
        refine V.ret ?_
        refine X.sqRet ?_
        refine ret_1 Yaam.results125 rfl ?_
        exact ⟨_, rfl, by unfold addR; rw [if_neg hno, if_neg h28, if_pos h31]; exact h, Ext.refl _ _⟩
      ·
        refine V.skip ?_
        refine X.sq ?_
        refine V.seq ?_
        refine V.region ?_
        refine L.rd (rd_move rfl) rfl ?_
        refine L.rd (rd_move rfl) rfl ?_
        refine L.rd (rd_build (out := [_, _, _, _, _]) tok rfl rfl rfl rfl rfl) rfl ?_
        refine L.ef (e_box (cs := [_, _, _, _, _]) rfl rfl (by first | (simp only [size_addB, size_setB, size_drew]; rfl) | rfl) rfl ?_)
        refine L.rd (rd_assign rfl) rfl ?_
        refine L.nil ?_
        refine X.sq ?_
        refine V.ret ?_
        refine ret_1 Yaam.results125 rfl ?_
        have he := (Ext.refl _ w).addNew 119 [.int .i64 4, .int .i64 0, .int .i64 0, .pointer (some ⟨b, 0, none⟩), .pointer (some ⟨b', 0, none⟩)]
        exact ⟨_, rfl, by unfold addR; rw [if_neg hno, if_neg h28, if_neg h31]; exact Tm.bin (Bl.new _ _ _) hlo (h.ext he) (k.ext he), he⟩

theorem subRule_ok (a c : Tre) (hwc : Wt c) (va vc : Value) (w : World) (lo : Nat) (hlo : lo ≤ w.heap.size) (h : Tm 119 w lo a va) (k : Tm 119 w lo c vc) : Ret Yaam.prog 126 [va, vc] w (CPo lo (subR a c) w) := by
  obtain ⟨b, q, q2, rfl, hlb, hb, -⟩ := h.node
  obtain ⟨b', p, p2, rfl, hlb', hb', -⟩ := k.node
  refine enter2 Yaam.func126 Yaam.ntmps126 (by kernel_rfl) rfl rfl ?_
  refine V.seq ?_
  refine V.region ?_
  refine L.rd (rd_assign rfl) rfl ?_
  refine L.nil ?_
  refine X.sq ?_
  refine V.seq ?_
  refine V.seq ?_
  refine V.region ?_
  refine L.rd (rd_move rfl) rfl ?_
  refine L.rd (rd_nilCheck rfl) rfl ?_
  refine L.rd (rd_fieldAddr tok rfl rfl rfl rfl rfl rfl) rfl ?_
  refine L.rd (rd_load1 tok rfl rfl rfl (hb.cell rfl)) rfl ?_
  refine L.rd (rd_eql rfl rfl) rfl ?_
  refine L.rd (rd_move rfl) rfl ?_
  first | refine L.partG rfl rfl (fun g10 => ?_) (fun g10 => ?_) | refine L.partGB rfl rfl (fun g10 => ?_) (fun g10 => ?_)
  ·
    refine L.yes rfl rfl ?_
    refine L.rd (rd_move rfl) rfl ?_
    refine L.yes rfl rfl ?_
    refine L.rd (rd_nilCheck rfl) rfl ?_
    refine L.yes rfl rfl ?_
    refine L.rd (rd_fieldAddr tok rfl rfl rfl rfl rfl rfl) rfl ?_
    refine L.yes rfl rfl ?_
    refine L.rd (rd_load1 tok rfl rfl rfl (hb'.cell rfl)) rfl ?_
    refine L.yes rfl rfl ?_
    refine L.rd (rd_eql rfl rfl) rfl ?_
    refine L.rd (rd_pickT rfl rfl) rfl ?_
    refine L.nil ?_
    refine X.sq ?_
    first | refine V.cond rfl (fun h16 => ?_) (fun h16 => ?_) | refine V.condB rfl (fun h16 => ?_) (fun h16 => ?_)
    ·
      have hcc : a.k = 1 ∧ c.k = 1 := ⟨g10, h16⟩
      refine V.seq ?_
      refine V.draw [] mixed ?_
      refine D.take 0 [true, false, false, false, false, false, false, false, false, false, false] (.sq (.sq .bd)) rfl (rd_move rfl) rfl (by kernel_rfl) rfl (LeC.drew _) ?_
      refine D.take 1 [true, true, false, false, false, false, false, false, false, false, false] (.sq (.sq .bd)) rfl (rd_nilCheck rfl) rfl (by kernel_rfl) rfl (LeC.drew _) ?_
      refine D.take 2 [true, true, true, false, false, false, false, false, false, false, false] (.sq (.sq .bd)) rfl (rd_fieldAddr tok rfl rfl rfl rfl rfl rfl) rfl (by kernel_rfl) rfl (LeC.drew _) ?_
      refine D.take 3 [true, true, true, true, false, false, false, false, false, false, false] (.sq (.sq .bd)) rfl (rd_load1 tok rfl rfl rfl (hb.cell (i := 1) rfl)) rfl (by kernel_rfl) rfl (LeC.drew _) ?_
      refine D.take 4 [true, true, true, true, true, false, false, false, false, false, false] (.sq (.sq .bd)) rfl (rd_move rfl) rfl (by kernel_rfl) rfl (LeC.drew _) ?_
      refine D.take 5 [true, true, true, true, true, true, false, false, false, false, false] (.sq (.sq .bd)) rfl (rd_nilCheck rfl) rfl (by kernel_rfl) rfl (LeC.drew _) ?_
      refine D.take 6 [true, true, true, true, true, true, true, false, false, false, false] (.sq (.sq .bd)) rfl (rd_fieldAddr tok rfl rfl rfl rfl rfl rfl) rfl (by kernel_rfl) rfl (LeC.drew _) ?_
      refine D.take 7 [true, true, true, true, true, true, true, true, false, false, false] (.sq (.sq .bd)) rfl (rd_load1 tok rfl rfl rfl (hb'.cell (i := 1) rfl)) rfl (by kernel_rfl) rfl (LeC.drew _) ?_
      refine D.take 8 [true, true, true, true, true, true, true, true, true, false, false] (.sq (.sq .bd)) rfl (rd_subE (r := w64 (a.v - c.v)) rfl rfl rfl) rfl (by kernel_rfl) rfl (LeC.drew _) ?_
      refine D.one 9 [true, true, true, true, true, true, true, true, true, true, false] rfl (by kernel_rfl) rfl (e_call rfl (snum_ok (w64 (a.v - c.v)) _) rfl ?_)
      rintro _ w1 ⟨rfl, hb1, he1⟩
      have hE1 : Ext w.heap.size w w1 := (Ext.refl _ w).drew.trans he1
      refine ⟨fun _ => hE1.leC, ?_⟩
      refine D.take 10 [true, true, true, true, true, true, true, true, true, true, true] (.sq (.sq .bd)) rfl (rd_assign rfl) rfl (by kernel_rfl) rfl hE1.leC ?_
      refine D.done (by kernel_rfl) ?_
      refine X.sq ?_
      refine V.ret ?_
      refine X.sqRet ?_
      refine ret_1 Yaam.results126 rfl ?_
      exact ⟨_, rfl, by unfold subR; rw [if_pos hcc]; exact Tm.leaf hb1 hlo, hE1⟩
    ·
      refine V.skip ?_
      refine X.sq ?_
      refine V.seq ?_
      refine V.seq ?_
      have hno : ¬ (a.k = 1 ∧ c.k = 1) := by rintro ⟨e1, e2⟩; first | exact g10 e1 | exact h16 e2
      refine V.region ?_
      refine L.rd (rd_move rfl) rfl ?_
      refine L.ef (e_call rfl (isNum_ok c _ 0 _ lo k) rfl ?_)
      rintro _ _ ⟨rfl, rfl⟩
      refine L.nil ?_
      refine X.sq ?_
      first | refine V.cond rfl (fun h28 => ?_) (fun h28 => ?_) | refine V.condB rfl (fun h28 => ?_) (fun h28 => ?_)
      ·
        refine V.seq ?_
        refine V.region ?_
        refine L.rd (rd_move rfl) rfl ?_
        refine L.rd (rd_assign rfl) rfl ?_
        refine L.nil ?_
        refine X.sq ?_
        refine V.ret ?_
        refine X.sqRet ?_
        refine ret_1 Yaam.results126 rfl ?_
        exact ⟨_, rfl, by unfold subR; rw [if_neg hno, if_pos h28]; exact h, Ext.refl _ _⟩
      ·
        refine V.skip ?_
        refine X.sq ?_
        refine V.seq ?_
        refine V.seq ?_
        refine V.region ?_
        refine L.rd (rd_move rfl) rfl ?_
        refine L.ef (e_call rfl (isNum_ok a _ 0 _ lo h) rfl ?_)
        rintro _ _ ⟨rfl, rfl⟩
        refine L.nil ?_
        refine X.sq ?_
        first | refine V.cond rfl (fun h31 => ?_) (fun h31 => ?_) | refine V.condB rfl (fun h31 => ?_) (fun h31 => ?_)
        ·
          refine V.seq ?_
          refine V.region ?_
          refine L.rd (rd_move rfl) rfl ?_
          refine L.ef (e_call rfl (negRule_ok c hwc _ _ lo hlo k) rfl ?_)
          rintro _ w1 ⟨a1, rfl, ht1, he1⟩
          refine L.rd (rd_assign rfl) rfl ?_
          refine L.nil ?_
          refine X.sq ?_
          refine V.ret ?_
          refine X.sqRet ?_
          refine ret_1 Yaam.results126 rfl ?_
          exact ⟨_, rfl, by unfold subR; rw [if_neg hno, if_neg h28, if_pos h31]; exact ht1, he1⟩
        ·
          refine V.skip ?_
          refine X.sq ?_
          refine V.seq ?_
          refine V.region ?_
          refine L.rd (rd_move rfl) rfl ?_
          refine L.rd (rd_move rfl) rfl ?_
          refine L.rd (rd_build (out := [_, _, _, _, _]) tok rfl rfl rfl rfl rfl) rfl ?_
          refine L.ef (e_box (cs := [_, _, _, _, _]) rfl rfl (by first | (simp only [size_addB, size_setB, size_drew]; rfl) | rfl) rfl ?_)
          refine L.rd (rd_assign rfl) rfl ?_
          refine L.nil ?_
          refine X.sq ?_
          refine V.ret ?_
          refine ret_1 Yaam.results126 rfl ?_
          have he := (Ext.refl _ w).addNew 119 [.int .i64 5, .int .i64 0, .int .i64 0, .pointer (some ⟨b, 0, none⟩), .pointer (some ⟨b', 0, none⟩)]
          exact ⟨_, rfl, by unfold subR; rw [if_neg hno, if_neg h28, if_neg h31]; exact Tm.bin (Bl.new _ _ _) hlo (h.ext he) (k.ext he), he⟩
  ·
    refine L.no rfl rfl rfl rfl ?_
    refine L.no rfl rfl rfl rfl ?_
    refine L.no rfl rfl rfl rfl ?_
    refine L.no rfl rfl rfl rfl ?_
    refine L.no rfl rfl rfl rfl ?_
    refine L.rd (rd_pickF rfl rfl) rfl ?_
    refine L.nil ?_
    refine X.sq ?_
    refine V.condF rfl ?_
    refine V.skip ?_
    refine X.sq ?_
    refine V.seq ?_
    refine V.seq ?_
    have hno : ¬ (a.k = 1 ∧ c.k = 1) := by rintro ⟨e1, e2⟩; first | exact g10 e1 | exact h16 e2
    refine V.region ?_
    refine L.rd (rd_move rfl) rfl ?_
    refine L.ef (e_call rfl (isNum_ok c _ 0 _ lo k) rfl ?_)
    rintro _ _ ⟨rfl, rfl⟩
    refine L.nil ?_
    refine X.sq ?_
    first | refine V.cond rfl (fun h28 => ?_) (fun h28 => ?_) | refine V.condB rfl (fun h28 => ?_) (fun h28 => ?_)
    ·
      refine V.seq ?_
      refine V.region ?_
      refine L.rd (rd_move rfl) rfl ?_
      refine L.rd (rd_assign rfl) rfl ?_
      refine L.nil ?_
      refine X.sq ?_
      refine V.ret ?_
      refine X.sqRet ?_
      refine ret_1 Yaam.results126 rfl ?_
      exact ⟨_, rfl, by unfold subR; rw [if_neg hno, if_pos h28]; exact h, Ext.refl _ _⟩
    ·
      refine V.skip ?_
      refine X.sq ?_
      refine V.seq ?_
      refine V.seq ?_
      refine V.region ?_
      refine L.rd (rd_move rfl) rfl ?_
      refine L.ef (e_call rfl (isNum_ok a _ 0 _ lo h) rfl ?_)
      rintro _ _ ⟨rfl, rfl⟩
      refine L.nil ?_
      refine X.sq ?_
      first | refine V.cond rfl (fun h31 => ?_) (fun h31 => ?_) | refine V.condB rfl (fun h31 => ?_) (fun h31 => ?_)
      ·
        refine V.seq ?_
        refine V.region ?_
        refine L.rd (rd_move rfl) rfl ?_
        refine L.ef (e_call rfl (negRule_ok c hwc _ _ lo hlo k) rfl ?_)
        rintro _ w1 ⟨a1, rfl, ht1, he1⟩
        refine L.rd (rd_assign rfl) rfl ?_
        refine L.nil ?_
        refine X.sq ?_
        refine V.ret ?_
        refine X.sqRet ?_
        refine ret_1 Yaam.results126 rfl ?_
        exact ⟨_, rfl, by unfold subR; rw [if_neg hno, if_neg h28, if_pos h31]; exact ht1, he1⟩
      ·
        refine V.skip ?_
        refine X.sq ?_
        refine V.seq ?_
        refine V.region ?_
        refine L.rd (rd_move rfl) rfl ?_
        refine L.rd (rd_move rfl) rfl ?_
        refine L.rd (rd_build (out := [_, _, _, _, _]) tok rfl rfl rfl rfl rfl) rfl ?_
        refine L.ef (e_box (cs := [_, _, _, _, _]) rfl rfl (by first | (simp only [size_addB, size_setB, size_drew]; rfl) | rfl) rfl ?_)
        refine L.rd (rd_assign rfl) rfl ?_
        refine L.nil ?_
        refine X.sq ?_
        refine V.ret ?_
        refine ret_1 Yaam.results126 rfl ?_
        have he := (Ext.refl _ w).addNew 119 [.int .i64 5, .int .i64 0, .int .i64 0, .pointer (some ⟨b, 0, none⟩), .pointer (some ⟨b', 0, none⟩)]
        exact ⟨_, rfl, by unfold subR; rw [if_neg hno, if_neg h28, if_neg h31]; exact Tm.bin (Bl.new _ _ _) hlo (h.ext he) (k.ext he), he⟩

theorem mulRule_ok (a c : Tre) (va vc : Value) (w : World) (lo : Nat) (hlo : lo ≤ w.heap.size) (h : Tm 119 w lo a va) (k : Tm 119 w lo c vc) : Ret Yaam.prog 127 [va, vc] w (CPo lo (mulR a c) w) := by
  obtain ⟨b, q, q2, rfl, hlb, hb, -⟩ := h.node
  obtain ⟨b', p, p2, rfl, hlb', hb', -⟩ := k.node
  refine enter2 Yaam.func127 Yaam.ntmps127 (by kernel_rfl) rfl rfl ?_
  refine V.seq ?_
  refine V.region ?_
  refine L.rd (rd_assign rfl) rfl ?_
  refine L.nil ?_
  refine X.sq ?_
  refine V.seq ?_
  refine V.seq ?_
  refine V.region ?_
  refine L.rd (rd_move rfl) rfl ?_
  refine L.rd (rd_nilCheck rfl) rfl ?_
  refine L.rd (rd_fieldAddr tok rfl rfl rfl rfl rfl rfl) rfl ?_
  refine L.rd (rd_load1 tok rfl rfl rfl (hb.cell rfl)) rfl ?_
  refine L.rd (rd_eql rfl rfl) rfl ?_
  refine L.rd (rd_move rfl) rfl ?_
  first | refine L.partG rfl rfl (fun g10 => ?_) (fun g10 => ?_) | refine L.partGB rfl rfl (fun g10 => ?_) (fun g10 => ?_)
  ·
    refine L.yes rfl rfl ?_
    refine L.rd (rd_move rfl) rfl ?_
    refine L.yes rfl rfl ?_
    refine L.rd (rd_nilCheck rfl) rfl ?_
    refine L.yes rfl rfl ?_
    refine L.rd (rd_fieldAddr tok rfl rfl rfl rfl rfl rfl) rfl ?_
    refine L.yes rfl rfl ?_
    refine L.rd (rd_load1 tok rfl rfl rfl (hb'.cell rfl)) rfl ?_
    refine L.yes rfl rfl ?_
    refine L.rd (rd_eql rfl rfl) rfl ?_
    refine L.rd (rd_pickT rfl rfl) rfl ?_
    refine L.nil ?_
    refine X.sq ?_
    first | refine V.cond rfl (fun h16 => ?_) (fun h16 => ?_) | refine V.condB rfl (fun h16 => ?_) (fun h16 => ?_)
    ·
      have hcc : a.k = 1 ∧ c.k = 1 := ⟨g10, h16⟩
      refine V.seq ?_
      refine V.draw [] mixed ?_
      refine D.take 0 [true, false, false, false, false, false, false, false, false, false, false] (.sq (.sq .bd)) rfl (rd_move rfl) rfl (by kernel_rfl) rfl (LeC.drew _) ?_
      refine D.take 1 [true, true, false, false, false, false, false, false, false, false, false] (.sq (.sq .bd)) rfl (rd_nilCheck rfl) rfl (by kernel_rfl) rfl (LeC.drew _) ?_
      refine D.take 2 [true, true, true, false, false, false, false, false, false, false, false] (.sq (.sq .bd)) rfl (rd_fieldAddr tok rfl rfl rfl rfl rfl rfl) rfl (by kernel_rfl) rfl (LeC.drew _) ?_
      refine D.take 3 [true, true, true, true, false, false, false, false, false, false, false] (.sq (.sq .bd)) rfl (rd_load1 tok rfl rfl rfl (hb.cell (i := 1) rfl)) rfl (by kernel_rfl) rfl (LeC.drew _) ?_
      refine D.take 4 [true, true, true, true, true, false, false, false, false, false, false] (.sq (.sq .bd)) rfl (rd_move rfl) rfl (by kernel_rfl) rfl (LeC.drew _) ?_
      refine D.take 5 [true, true, true, true, true, true, false, false, false, false, false] (.sq (.sq .bd)) rfl (rd_nilCheck rfl) rfl (by kernel_rfl) rfl (LeC.drew _) ?_
      refine D.take 6 [true, true, true, true, true, true, true, false, false, false, false] (.sq (.sq .bd)) rfl (rd_fieldAddr tok rfl rfl rfl rfl rfl rfl) rfl (by kernel_rfl) rfl (LeC.drew _) ?_
      refine D.take 7 [true, true, true, true, true, true, true, true, false, false, false] (.sq (.sq .bd)) rfl (rd_load1 tok rfl rfl rfl (hb'.cell (i := 1) rfl)) rfl (by kernel_rfl) rfl (LeC.drew _) ?_
      refine D.take 8 [true, true, true, true, true, true, true, true, true, false, false] (.sq (.sq .bd)) rfl (rd_mulE (r := w64 (a.v * c.v)) rfl rfl rfl) rfl (by kernel_rfl) rfl (LeC.drew _) ?_
      refine D.one 9 [true, true, true, true, true, true, true, true, true, true, false] rfl (by kernel_rfl) rfl (e_call rfl (snum_ok (w64 (a.v * c.v)) _) rfl ?_)
      rintro _ w1 ⟨rfl, hb1, he1⟩
      have hE1 : Ext w.heap.size w w1 := (Ext.refl _ w).drew.trans he1
      refine ⟨fun _ => hE1.leC, ?_⟩
      refine D.take 10 [true, true, true, true, true, true, true, true, true, true, true] (.sq (.sq .bd)) rfl (rd_assign rfl) rfl (by kernel_rfl) rfl hE1.leC ?_
      refine D.done (by kernel_rfl) ?_
      refine X.sq ?_
      refine V.ret ?_
      refine X.sqRet ?_
      refine ret_1 Yaam.results127 rfl ?_
      exact ⟨_, rfl, by unfold mulR; rw [if_pos hcc]; exact Tm.leaf hb1 hlo, hE1⟩
    ·
      refine V.skip ?_
      refine X.sq ?_
      refine V.seq ?_
      refine V.seq ?_
      have hno : ¬ (a.k = 1 ∧ c.k = 1) := by rintro ⟨e1, e2⟩; first | exact g10 e1 | exact h16 e2
      refine V.region ?_
      refine L.rd (rd_move rfl) rfl ?_
      refine L.ef (e_call rfl (isNum_ok a _ 0 _ lo h) rfl ?_)
      rintro _ _ ⟨rfl, rfl⟩
      refine L.rd (rd_move rfl) rfl ?_
      first | refine L.partG rfl rfl (fun g29 => ?_) (fun g29 => ?_) | refine L.partGB rfl rfl (fun g29 => ?_) (fun g29 => ?_)
      ·
        refine L.no rfl rfl rfl rfl ?_
        refine L.no rfl rfl rfl rfl ?_
        refine L.rd (rd_pickT rfl rfl) rfl ?_
        refine L.nil ?_
        refine X.sq ?_
        refine V.condT rfl ?_
        refine V.seq ?_
        refine V.region ?_
        refine L.ef (e_call rfl (snum_ok 0 _) rfl ?_)
        rintro _ w1 ⟨rfl, hb1, he1⟩
        refine L.rd (rd_assign rfl) rfl ?_
        refine L.nil ?_
        refine X.sq ?_
        refine V.ret ?_
        refine X.sqRet ?_
        refine ret_1 Yaam.results127 rfl ?_
        exact ⟨_, rfl, by unfold mulR; rw [if_neg hno, if_pos (by first | exact .inl g29 | exact .inr h32)]; exact Tm.leaf hb1 hlo, he1⟩
      ·
        refine L.yes rfl rfl ?_
        refine L.rd (rd_move rfl) rfl ?_
        refine L.yes rfl rfl ?_
        refine L.ef (e_call rfl (isNum_ok c _ 0 _ lo k) rfl ?_)
        rintro _ _ ⟨rfl, rfl⟩
        refine L.rd (rd_pickF rfl rfl) rfl ?_
        refine L.nil ?_
        refine X.sq ?_
        first | refine V.cond rfl (fun h32 => ?_) (fun h32 => ?_) | refine V.condB rfl (fun h32 => ?_) (fun h32 => ?_)
        ·
          refine V.seq ?_
          refine V.region ?_
          refine L.ef (e_call rfl (snum_ok 0 _) rfl ?_)
          rintro _ w1 ⟨rfl, hb1, he1⟩
          refine L.rd (rd_assign rfl) rfl ?_
          refine L.nil ?_
          refine X.sq ?_
          refine V.ret ?_
          refine X.sqRet ?_
          refine ret_1 Yaam.results127 rfl ?_
          exact ⟨_, rfl, by unfold mulR; rw [if_neg hno, if_pos (by first | exact .inl g29 | exact .inr h32)]; exact Tm.leaf hb1 hlo, he1⟩
        ·
          refine V.skip ?_
          refine X.sq ?_
          refine V.seq ?_
          refine V.seq ?_
          have hno2 : ¬ ((a.k = 1 ∧ a.v = 0) ∨ (c.k = 1 ∧ c.v = 0)) := by rintro (e | e); exact g29 e; exact h32 e
          refine V.region ?_
          refine L.rd (rd_move rfl) rfl ?_
          refine L.ef (e_call rfl (isNum_ok a _ 1 _ lo h) rfl ?_)
          rintro _ _ ⟨rfl, rfl⟩
          refine L.nil ?_
          refine X.sq ?_
          first | refine V.cond rfl (fun h35 => ?_) (fun h35 => ?_) | refine V.condB rfl (fun h35 => ?_) (fun h35 => ?_)
          ·
            refine V.seq ?_
            refine V.region ?_
            refine L.rd (rd_move rfl) rfl ?_
            refine L.rd (rd_assign rfl) rfl ?_
            refine L.nil ?_
            refine X.sq ?_
            refine V.ret ?_
            refine X.sqRet ?_
            refine ret_1 Yaam.results127 rfl ?_
            exact ⟨_, rfl, by unfold mulR; rw [if_neg hno, if_neg hno2, if_pos h35]; exact k, Ext.refl _ _⟩
          ·
            refine V.skip ?_
            refine X.sq ?_
            refine V.seq ?_
            refine V.seq ?_
            refine V.region ?_
            refine L.rd (rd_move rfl) rfl ?_
            refine L.ef (e_call rfl (isNum_ok c _ 1 _ lo k) rfl ?_)
            rintro _ _ ⟨rfl, rfl⟩
            refine L.nil ?_
            refine X.sq ?_
            first | refine V.cond rfl (fun h38 => ?_) (fun h38 => ?_) | refine V.condB rfl (fun h38 => ?_) (fun h38 => ?_)
            ·
              refine V.seq ?_
              refine V.region ?_
              refine L.rd (rd_move rfl) rfl ?_
              refine L.rd (rd_assign rfl) rfl ?_
              refine L.nil ?_
              refine X.sq ?_
              refine V.ret ?_
              refine X.sqRet ?_
              refine ret_1 Yaam.results127 rfl ?_
              exact ⟨_, rfl, by unfold mulR; rw [if_neg hno, if_neg hno2, if_neg h35, if_pos h38]; exact h, Ext.refl _ _⟩
            ·
              refine V.skip ?_
              refine X.sq ?_
              refine V.seq ?_
              refine V.region ?_
              refine L.rd (rd_move rfl) rfl ?_
              refine L.rd (rd_move rfl) rfl ?_
              refine L.rd (rd_build (out := [_, _, _, _, _]) tok rfl rfl rfl rfl rfl) rfl ?_
              refine L.ef (e_box (cs := [_, _, _, _, _]) rfl rfl (by first | (simp only [size_addB, size_setB, size_drew]; rfl) | rfl) rfl ?_)
              refine L.rd (rd_assign rfl) rfl ?_
              refine L.nil ?_
              refine X.sq ?_
              refine V.ret ?_
              refine ret_1 Yaam.results127 rfl ?_
              have he := (Ext.refl _ w).addNew 119 [.int .i64 6, .int .i64 0, .int .i64 0, .pointer (some ⟨b, 0, none⟩), .pointer (some ⟨b', 0, none⟩)]
              exact ⟨_, rfl, by unfold mulR; rw [if_neg hno, if_neg hno2, if_neg h35, if_neg h38]; exact Tm.bin (Bl.new _ _ _) hlo (h.ext he) (k.ext he), he⟩
  ·
    refine L.no rfl rfl rfl rfl ?_
    refine L.no rfl rfl rfl rfl ?_
    refine L.no rfl rfl rfl rfl ?_
    refine L.no rfl rfl rfl rfl ?_
    refine L.no rfl rfl rfl rfl ?_
    refine L.rd (rd_pickF rfl rfl) rfl ?_
    refine L.nil ?_
    refine X.sq ?_
    refine V.condF rfl ?_
    refine V.skip ?_
    refine X.sq ?_
    refine V.seq ?_
    refine V.seq ?_
    have hno : ¬ (a.k = 1 ∧ c.k = 1) := by rintro ⟨e1, e2⟩; first | exact g10 e1 | exact h16 e2
    refine V.region ?_
    refine L.rd (rd_move rfl) rfl ?_
    refine L.ef (e_call rfl (isNum_ok a _ 0 _ lo h) rfl ?_)
    rintro _ _ ⟨rfl, rfl⟩
    refine L.rd (rd_move rfl) rfl ?_
    first | refine L.partG rfl rfl (fun g29 => ?_) (fun g29 => ?_) | refine L.partGB rfl rfl (fun g29 => ?_) (fun g29 => ?_)
    ·
      refine L.no rfl rfl rfl rfl ?_
      refine L.no rfl rfl rfl rfl ?_
      refine L.rd (rd_pickT rfl rfl) rfl ?_
      refine L.nil ?_
      refine X.sq ?_
      refine V.condT rfl ?_
      refine V.seq ?_
      refine V.region ?_
      refine L.ef (e_call rfl (snum_ok 0 _) rfl ?_)
      rintro _ w1 ⟨rfl, hb1, he1⟩
      refine L.rd (rd_assign rfl) rfl ?_
      refine L.nil ?_
      refine X.sq ?_
      refine V.ret ?_
      refine X.sqRet ?_
      refine ret_1 Yaam.results127 rfl ?_
      exact ⟨_, rfl, by unfold mulR; rw [if_neg hno, if_pos (by first | exact .inl g29 | exact .inr h32)]; exact Tm.leaf hb1 hlo, he1⟩
    ·
      refine L.yes rfl rfl ?_
      refine L.rd (rd_move rfl) rfl ?_
      refine L.yes rfl rfl ?_
      refine L.ef (e_call rfl (isNum_ok c _ 0 _ lo k) rfl ?_)
      rintro _ _ ⟨rfl, rfl⟩
      refine L.rd (rd_pickF rfl rfl) rfl ?_
      refine L.nil ?_
      refine X.sq ?_
      first | refine V.cond rfl (fun h32 => ?_) (fun h32 => ?_) | refine V.condB rfl (fun h32 => ?_) (fun h32 => ?_)
      ·
        refine V.seq ?_
        refine V.region ?_
        refine L.ef (e_call rfl (snum_ok 0 _) rfl ?_)
        rintro _ w1 ⟨rfl, hb1, he1⟩
        refine L.rd (rd_assign rfl) rfl ?_
        refine L.nil ?_
        refine X.sq ?_
        refine V.ret ?_
        refine X.sqRet ?_
        refine ret_1 Yaam.results127 rfl ?_
        exact ⟨_, rfl, by unfold mulR; rw [if_neg hno, if_pos (by first | exact .inl g29 | exact .inr h32)]; exact Tm.leaf hb1 hlo, he1⟩
      ·
        refine V.skip ?_
        refine X.sq ?_
        refine V.seq ?_
        refine V.seq ?_
        have hno2 : ¬ ((a.k = 1 ∧ a.v = 0) ∨ (c.k = 1 ∧ c.v = 0)) := by rintro (e | e); exact g29 e; exact h32 e
        refine V.region ?_
        refine L.rd (rd_move rfl) rfl ?_
        refine L.ef (e_call rfl (isNum_ok a _ 1 _ lo h) rfl ?_)
        rintro _ _ ⟨rfl, rfl⟩
        refine L.nil ?_
        refine X.sq ?_
        first | refine V.cond rfl (fun h35 => ?_) (fun h35 => ?_) | refine V.condB rfl (fun h35 => ?_) (fun h35 => ?_)
        ·
          refine V.seq ?_
          refine V.region ?_
          refine L.rd (rd_move rfl) rfl ?_
          refine L.rd (rd_assign rfl) rfl ?_
          refine L.nil ?_
          refine X.sq ?_
          refine V.ret ?_
          refine X.sqRet ?_
          refine ret_1 Yaam.results127 rfl ?_
          exact ⟨_, rfl, by unfold mulR; rw [if_neg hno, if_neg hno2, if_pos h35]; exact k, Ext.refl _ _⟩
        ·
          refine V.skip ?_
          refine X.sq ?_
          refine V.seq ?_
          refine V.seq ?_
          refine V.region ?_
          refine L.rd (rd_move rfl) rfl ?_
          refine L.ef (e_call rfl (isNum_ok c _ 1 _ lo k) rfl ?_)
          rintro _ _ ⟨rfl, rfl⟩
          refine L.nil ?_
          refine X.sq ?_
          first | refine V.cond rfl (fun h38 => ?_) (fun h38 => ?_) | refine V.condB rfl (fun h38 => ?_) (fun h38 => ?_)
          ·
            refine V.seq ?_
            refine V.region ?_
            refine L.rd (rd_move rfl) rfl ?_
            refine L.rd (rd_assign rfl) rfl ?_
            refine L.nil ?_
            refine X.sq ?_
            refine V.ret ?_
            refine X.sqRet ?_
            refine ret_1 Yaam.results127 rfl ?_
            exact ⟨_, rfl, by unfold mulR; rw [if_neg hno, if_neg hno2, if_neg h35, if_pos h38]; exact h, Ext.refl _ _⟩
          ·
            refine V.skip ?_
            refine X.sq ?_
            refine V.seq ?_
            refine V.region ?_
            refine L.rd (rd_move rfl) rfl ?_
            refine L.rd (rd_move rfl) rfl ?_
            refine L.rd (rd_build (out := [_, _, _, _, _]) tok rfl rfl rfl rfl rfl) rfl ?_
            refine L.ef (e_box (cs := [_, _, _, _, _]) rfl rfl (by first | (simp only [size_addB, size_setB, size_drew]; rfl) | rfl) rfl ?_)
            refine L.rd (rd_assign rfl) rfl ?_
            refine L.nil ?_
            refine X.sq ?_
            refine V.ret ?_
            refine ret_1 Yaam.results127 rfl ?_
            have he := (Ext.refl _ w).addNew 119 [.int .i64 6, .int .i64 0, .int .i64 0, .pointer (some ⟨b, 0, none⟩), .pointer (some ⟨b', 0, none⟩)]
            exact ⟨_, rfl, by unfold mulR; rw [if_neg hno, if_neg hno2, if_neg h35, if_neg h38]; exact Tm.bin (Bl.new _ _ _) hlo (h.ext he) (k.ext he), he⟩

theorem powRule_ok (a : Tre) (hw : Wt a) (n : Int) (hn : 0 ≤ n ∧ n ≤ 1000000) (va : Value) (w : World) (lo : Nat) (hlo : lo ≤ w.heap.size) (h : Tm 119 w lo a va) : Ret Yaam.prog 124 [va, .int .i64 n] w (CPo lo (powR a n) w) := by
  obtain ⟨b, q, q2, rfl, hlb, hb, hkd⟩ := h.node
  refine enter2 Yaam.func124 Yaam.ntmps124 (by kernel_rfl) rfl rfl ?_
  refine V.seq ?_
  refine V.region ?_
  refine L.rd (rd_assign rfl) rfl ?_
  refine L.nil ?_
  refine X.sq ?_
  refine V.seq ?_
  refine V.seq ?_
  refine V.region ?_
  refine L.rd (rd_move rfl) rfl ?_
  refine L.rd (rd_eql rfl rfl) rfl ?_
  refine L.nil ?_
  refine X.sq ?_
  first | refine V.cond rfl (fun h6 => ?_) (fun h6 => ?_) | refine V.condB rfl (fun h6 => ?_) (fun h6 => ?_)
  ·
    refine V.seq ?_
    refine V.region ?_
    refine L.ef (e_call rfl (snum_ok 1 _) rfl ?_)
    rintro _ w1 ⟨rfl, hb1, he1⟩
    refine L.rd (rd_assign rfl) rfl ?_
    refine L.nil ?_
    refine X.sq ?_
    refine V.ret ?_
    refine X.sqRet ?_
    refine ret_1 Yaam.results124 rfl ?_
    exact ⟨_, rfl, by unfold powR; rw [if_pos h6]; exact Tm.leaf hb1 hlo, he1⟩
  ·
    refine V.skip ?_
    refine X.sq ?_
    refine V.seq ?_
    refine V.seq ?_
    refine V.region ?_
    refine L.rd (rd_move rfl) rfl ?_
    refine L.rd (rd_eql rfl rfl) rfl ?_
    refine L.nil ?_
    refine X.sq ?_
    first | refine V.cond rfl (fun h9 => ?_) (fun h9 => ?_) | refine V.condB rfl (fun h9 => ?_) (fun h9 => ?_)
    ·
      refine V.seq ?_
      refine V.region ?_
      refine L.rd (rd_move rfl) rfl ?_
      refine L.rd (rd_assign rfl) rfl ?_
      refine L.nil ?_
      refine X.sq ?_
      refine V.ret ?_
      refine X.sqRet ?_
      refine ret_1 Yaam.results124 rfl ?_
      exact ⟨_, rfl, by unfold powR; rw [if_neg h6, if_pos h9]; exact h, Ext.refl _ _⟩
    ·
      refine V.skip ?_
      refine X.sq ?_
      refine V.seq ?_
      refine V.seq ?_
      refine V.region ?_
      refine L.rd (rd_move rfl) rfl ?_
      refine L.rd (rd_nilCheck rfl) rfl ?_
      refine L.rd (rd_fieldAddr tok rfl rfl rfl rfl rfl rfl) rfl ?_
      refine L.rd (rd_load1 tok rfl rfl rfl (hb.cell rfl)) rfl ?_
      refine L.rd (rd_eql rfl rfl) rfl ?_
      refine L.nil ?_
      refine X.sq ?_
      first | refine V.cond rfl (fun h15 => ?_) (fun h15 => ?_) | refine V.condB rfl (fun h15 => ?_) (fun h15 => ?_)
      ·
        obtain ⟨nn, rfl⟩ : ∃ nn : Nat, n = nn := ⟨n.toNat, by omega⟩
        refine V.seq ?_
        refine V.region ?_
        refine L.rd (rd_move rfl) rfl ?_
        refine L.rd (rd_nilCheck rfl) rfl ?_
        refine L.rd (rd_fieldAddr tok rfl rfl rfl rfl rfl rfl) rfl ?_
        refine L.rd (rd_load1 tok rfl rfl rfl (hb.cell (i := 1) rfl)) rfl ?_
        refine L.rd (rd_move rfl) rfl ?_
        refine L.ef (e_call rfl (powMod_ok a.v nn (by omega) _) rfl ?_)
        rintro _ _ ⟨rfl, rfl⟩
        refine L.ef (e_call rfl (snum_ok (pw a.v nn) _) rfl ?_)
        rintro _ w1 ⟨rfl, hb1, he1⟩
        refine L.rd (rd_assign rfl) rfl ?_
        refine L.nil ?_
        refine X.sq ?_
        refine V.ret ?_
        refine X.sqRet ?_
        refine ret_1 Yaam.results124 rfl ?_
        exact ⟨_, rfl, by unfold powR; rw [if_neg h6, if_neg h9, if_pos h15, Int.toNat_natCast]; exact Tm.leaf hb1 hlo, he1⟩
      ·
        refine V.skip ?_
        refine X.sq ?_
        refine V.seq ?_
        refine V.seq ?_
        refine V.region ?_
        refine L.rd (rd_move rfl) rfl ?_
        refine L.rd (rd_nilCheck rfl) rfl ?_
        refine L.rd (rd_fieldAddr tok rfl rfl rfl rfl rfl rfl) rfl ?_
        refine L.rd (rd_load1 tok rfl rfl rfl (hb.cell rfl)) rfl ?_
        refine L.rd (rd_eql rfl rfl) rfl ?_
        refine L.rd (rd_move rfl) rfl ?_
        first | refine L.partG rfl rfl (fun g28 => ?_) (fun g28 => ?_) | refine L.partGB rfl rfl (fun g28 => ?_) (fun g28 => ?_)
        ·
          obtain ⟨hk1, hk2, hk3, hk4⟩ := wt_kid hw (.inr g28)
          have hv := hk4 g28
          have hpb : 0 ≤ a.v * n ∧ a.v * n ≤ 1000000000000 := ⟨Int.mul_nonneg hv.1 hn.1, by
            have := Int.mul_le_mul hv.2 hn.2 hn.1 (by omega : (0 : Int) ≤ 1000000)
            omega⟩
          refine L.yes rfl rfl ?_
          refine L.rd (rd_move rfl) rfl ?_
          refine L.yes rfl rfl ?_
          refine L.rd (rd_nilCheck rfl) rfl ?_
          refine L.yes rfl rfl ?_
          refine L.rd (rd_fieldAddr tok rfl rfl rfl rfl rfl rfl) rfl ?_
          refine L.yes rfl rfl ?_
          refine L.rd (rd_load1 tok rfl rfl rfl (hb.cell (i := 1) rfl)) rfl ?_
          refine L.yes rfl rfl ?_
          refine L.rd (rd_move rfl) rfl ?_
          refine L.yes rfl rfl ?_
          refine L.rd (rd_mulE (r := a.v * n) rfl rfl (wrap_i64_in (by omega))) rfl ?_
          refine L.yes rfl rfl ?_
          refine L.rd (rd_leq rfl rfl) rfl ?_
          refine L.rd (rd_pickT rfl rfl) rfl ?_
          refine L.nil ?_
          refine X.sq ?_
          first | refine V.cond rfl (fun h36 => ?_) (fun h36 => ?_) | refine V.condB rfl (fun h36 => ?_) (fun h36 => ?_)
          ·
            refine V.seq ?_
            refine V.draw [] mixed ?_
            refine D.take 0 [true, false, false, false, false, false, false, false, false, false, false, false, false] (.sq (.sq .bd)) rfl (rd_move rfl) rfl (by kernel_rfl) rfl (LeC.drew _) ?_
            refine D.take 1 [true, true, false, false, false, false, false, false, false, false, false, false, false] (.sq (.sq .bd)) rfl (rd_nilCheck rfl) rfl (by kernel_rfl) rfl (LeC.drew _) ?_
            refine D.take 2 [true, true, true, false, false, false, false, false, false, false, false, false, false] (.sq (.sq .bd)) rfl (rd_fieldAddr tok rfl rfl rfl rfl rfl rfl) rfl (by kernel_rfl) rfl (LeC.drew _) ?_
            refine D.take 3 [true, true, true, true, false, false, false, false, false, false, false, false, false] (.sq (.sq .bd)) rfl (rd_load1 tok rfl rfl rfl (hb.cell (i := 1) rfl)) rfl (by kernel_rfl) rfl (LeC.drew _) ?_
            refine D.take 4 [true, true, true, true, true, false, false, false, false, false, false, false, false] (.sq (.sq .bd)) rfl (rd_move rfl) rfl (by kernel_rfl) rfl (LeC.drew _) ?_
            refine D.take 5 [true, true, true, true, true, true, false, false, false, false, false, false, false] (.sq (.sq .bd)) rfl (rd_mulE (r := a.v * n) rfl rfl (wrap_i64_in (by omega))) rfl (by kernel_rfl) rfl (LeC.drew _) ?_
            refine D.take 6 [true, true, true, true, true, true, true, false, false, false, false, false, false] (.sq (.sq .bd)) rfl (rd_move rfl) rfl (by kernel_rfl) rfl (LeC.drew _) ?_
            refine D.take 7 [true, true, true, true, true, true, true, true, false, false, false, false, false] (.sq (.sq .bd)) rfl (rd_nilCheck rfl) rfl (by kernel_rfl) rfl (LeC.drew _) ?_
            refine D.take 8 [true, true, true, true, true, true, true, true, true, false, false, false, false] (.sq (.sq .bd)) rfl (rd_fieldAddr tok rfl rfl rfl rfl rfl rfl) rfl (by kernel_rfl) rfl (LeC.drew _) ?_
            refine D.take 9 [true, true, true, true, true, true, true, true, true, true, false, false, false] (.sq (.sq .bd)) rfl (rd_load1 tok rfl rfl rfl (hb.cell (i := 3) rfl)) rfl (by kernel_rfl) rfl (LeC.drew _) ?_
            refine D.take 10 [true, true, true, true, true, true, true, true, true, true, true, false, false] (.sq (.sq .bd)) rfl (rd_build (out := [_, _, _, _, _]) tok rfl rfl rfl rfl rfl) rfl (by kernel_rfl) rfl (LeC.drew _) ?_
            refine D.one 11 [true, true, true, true, true, true, true, true, true, true, true, true, false] rfl (by kernel_rfl) rfl (e_box (cs := [_, _, _, _, _]) rfl rfl (by first | (simp only [size_addB, size_setB, size_drew]; rfl) | rfl) rfl ?_)
            have hE8 : Ext w.heap.size w (addB w.drew 119 [.int .i64 7, .int .i64 (a.v * n), .int .i64 0, .pointer q, .pointer none]) := ((Ext.refl _ w).drew).addNew _ _
            refine ⟨fun _ => hE8.leC, ?_⟩
            refine D.take 12 [true, true, true, true, true, true, true, true, true, true, true, true, true] (.sq (.sq .bd)) rfl (rd_assign rfl) rfl (by kernel_rfl) rfl hE8.leC ?_
            refine D.done (by kernel_rfl) ?_
            refine X.sq ?_
            refine V.ret ?_
            refine X.sqRet ?_
            refine ret_1 Yaam.results124 rfl ?_
            exact ⟨_, rfl, by unfold powR; rw [if_neg h6, if_neg h9, if_neg h15, if_pos ⟨g28, h36⟩]; exact Tm.un (Bl.new _ _ _) hlo ((hkd (by omega)).ext hE8), hE8⟩
          ·
            refine V.skip ?_
            refine X.sq ?_
            refine V.seq ?_
            refine V.region ?_
            refine L.rd (rd_move rfl) rfl ?_
            refine L.rd (rd_move rfl) rfl ?_
            refine L.rd (rd_build (out := [_, _, _, _, _]) tok rfl rfl rfl rfl rfl) rfl ?_
            refine L.ef (e_box (cs := [_, _, _, _, _]) rfl rfl (by first | (simp only [size_addB, size_setB, size_drew]; rfl) | rfl) rfl ?_)
            refine L.rd (rd_assign rfl) rfl ?_
            refine L.nil ?_
            refine X.sq ?_
            refine V.ret ?_
            refine ret_1 Yaam.results124 rfl ?_
            have he := (Ext.refl _ w).addNew 119 [.int .i64 7, .int .i64 n, .int .i64 0, .pointer (some ⟨b, 0, none⟩), .pointer none]
            have hno : ¬ (a.k = 7 ∧ a.v * n ≤ 1000000) := by rintro ⟨e1, e2⟩; first | exact g28 e1 | exact h36 e2
            exact ⟨_, rfl, by unfold powR; rw [if_neg h6, if_neg h9, if_neg h15, if_neg hno]; exact Tm.un (Bl.new _ _ _) hlo (h.ext he), he⟩
        ·
          refine L.no rfl rfl rfl rfl ?_
          refine L.no rfl rfl rfl rfl ?_
          refine L.no rfl rfl rfl rfl ?_
          refine L.no rfl rfl rfl rfl ?_
          refine L.no rfl rfl rfl rfl ?_
          refine L.no rfl rfl rfl rfl ?_
          refine L.no rfl rfl rfl rfl ?_
          refine L.rd (rd_pickF rfl rfl) rfl ?_
          refine L.nil ?_
          refine X.sq ?_
          refine V.condF rfl ?_
          refine V.skip ?_
          refine X.sq ?_
          refine V.seq ?_
          refine V.region ?_
          refine L.rd (rd_move rfl) rfl ?_
          refine L.rd (rd_move rfl) rfl ?_
          refine L.rd (rd_build (out := [_, _, _, _, _]) tok rfl rfl rfl rfl rfl) rfl ?_
          refine L.ef (e_box (cs := [_, _, _, _, _]) rfl rfl (by first | (simp only [size_addB, size_setB, size_drew]; rfl) | rfl) rfl ?_)
          refine L.rd (rd_assign rfl) rfl ?_
          refine L.nil ?_
          refine X.sq ?_
          refine V.ret ?_
          refine ret_1 Yaam.results124 rfl ?_
          have he := (Ext.refl _ w).addNew 119 [.int .i64 7, .int .i64 n, .int .i64 0, .pointer (some ⟨b, 0, none⟩), .pointer none]
          have hno : ¬ (a.k = 7 ∧ a.v * n ≤ 1000000) := by rintro ⟨e1, e2⟩; first | exact g28 e1 | exact h36 e2
          exact ⟨_, rfl, by unfold powR; rw [if_neg h6, if_neg h9, if_neg h15, if_neg hno]; exact Tm.un (Bl.new _ _ _) hlo (h.ext he), he⟩
end Go.Proofs.YbxaawGreat
