/-
  The decoder of trees, walked: it returns well-formed trees.
-/
import Derived.Test.YbxaawGreatWtreeW
import Derived.Test.YbxaawGreatFlatW
import Derived.Test.YbxaawGreatXpW
set_option linter.unusedVariables false
set_option linter.unusedSimpArgs false
set_option maxRecDepth 10000
namespace Go.Mw
/-- a tree, and the reader further on -/
def GtP (eR eM : TypeId) (bp : Nat) (bv : Value) (bs : List Nat) (i : Nat) (w : World) (r : Value) (w' : World) : Prop :=
  ∃ (t : Tre) (a : Option Addr) (i' : Nat), r = .pointer a ∧ Tm eM w' (bp + 1) t (.pointer a) ∧ Wt t ∧ Wi t ∧ i ≤ i' ∧ tsz t ≤ 2 * (i' - i) + 1 ∧ RD eR bp bv bs w' i' ∧ Rg bp (bp + 1) w w'
theorem tdiv_rng {a : Int} (h : 0 ≤ a) : 0 ≤ a.tdiv 2 := by rw [Int.tdiv_eq_ediv_of_nonneg h]; omega
end Go.Mw
namespace Go.Proofs.YbxaawGreat
open Go.Mw
abbrev GtPq := GtP 56 119

theorem leaf_ok {bp : Nat} {bv : Value} {bs : List Nat} {i : Nat} (c st : Int) (hc : 0 ≤ c ∧ c ≤ 255) (w : World) (h : RDq bp bv bs w i) : Ret Yaam.prog 107 [.pointer (some ⟨bp, 0, none⟩), .int .i64 c, .int .i64 st] w (GtPq bp bv bs i w) := by
  refine enter3 Yaam.func107 Yaam.ntmps107 (by kernel_rfl) rfl rfl ?_
  refine V.seq ?_
  refine V.region ?_
  refine L.rd (rd_assign rfl) rfl ?_
  refine L.nil ?_
  refine X.sq ?_
  refine V.seq ?_
  refine V.seq ?_
  refine V.region ?_
  refine L.rd (rd_move rfl) rfl ?_
  refine L.rd (rd_remW rfl rfl (by decide)) rfl ?_
  refine L.rd (rd_eql rfl rfl) rfl ?_
  refine L.nil ?_
  refine X.sq ?_
  first | refine V.cond rfl (fun h11 => ?_) (fun h11 => ?_) | refine V.condB rfl (fun h11 => ?_) (fun h11 => ?_)
  ·
    refine V.seq ?_
    refine V.region ?_
    refine L.rd (rd_move rfl) rfl ?_
    refine L.ef (e_call rfl (next_ok _ h) rfl ?_)
    rintro _ w1 ⟨d, i1, rfl, hd0, hd1, h1, hi1, -, hr1⟩
    have hl1 := h1.bl.lt
    refine L.rd (rd_assign rfl) rfl ?_
    refine L.nil ?_
    refine X.sq ?_
    refine V.seq ?_
    refine V.seq ?_
    refine V.region ?_
    refine L.rd (rd_move rfl) rfl ?_
    refine L.rd (rd_eql rfl rfl) rfl ?_
    refine L.rd (rd_move rfl) rfl ?_
    first | refine L.partG rfl rfl (fun g16 => ?_) (fun g16 => ?_) | refine L.partGB rfl rfl (fun g16 => ?_) (fun g16 => ?_)
    ·
      refine L.yes rfl rfl ?_
      refine L.rd (rd_move rfl) rfl ?_
      refine L.yes rfl rfl ?_
      refine L.rd (rd_lss rfl rfl) rfl ?_
      refine L.rd (rd_pickT rfl rfl) rfl ?_
      refine L.nil ?_
      refine X.sq ?_
      first | refine V.cond rfl (fun h19 => ?_) (fun h19 => ?_) | refine V.condB rfl (fun h19 => ?_) (fun h19 => ?_)
      ·
        refine V.seq ?_
        refine V.region ?_
        refine L.rd (rd_move rfl) rfl ?_
        refine L.rd (rd_remW rfl rfl (by decide)) rfl ?_
        refine L.ef (e_call rfl (snum_ok _ _) rfl ?_)
        rintro _ w2 ⟨rfl, hb2, he2⟩
        refine L.rd (rd_assign rfl) rfl ?_
        refine L.nil ?_
        refine X.sq ?_
        refine V.ret ?_
        refine X.sqRet ?_
        refine X.sqRet ?_
        refine ret_1 Yaam.results107 rfl ?_
        have hd2 := tmod_rng (b := 2) hd0 (by omega)
        exact ⟨_, _, i1, rfl, Tm.leaf hb2 (by omega), wt_num _, w64_small (by omega), hi1, by rw [tsz_lf]; omega, h1.ext he2, hr1.trans (Rg.ext he2 _ _)⟩
      ·
        refine V.skip ?_
        refine X.sq ?_
        refine V.seq ?_
        refine V.seq ?_
        refine V.region ?_
        refine L.rd (rd_move rfl) rfl ?_
        refine L.rd (rd_lss rfl rfl) rfl ?_
        refine L.nil ?_
        refine X.sq ?_
        first | refine V.cond rfl (fun h24 => ?_) (fun h24 => ?_) | refine V.condB rfl (fun h24 => ?_) (fun h24 => ?_)
        ·
          refine V.seq ?_
          refine V.region ?_
          refine L.rd (rd_move rfl) rfl ?_
          refine L.rd (rd_remW rfl rfl (by decide)) rfl ?_
          refine L.rd (rd_subW rfl rfl) rfl ?_
          refine L.ef (e_call rfl (snum_ok _ _) rfl ?_)
          rintro _ w2 ⟨rfl, hb2, he2⟩
          refine L.rd (rd_assign rfl) rfl ?_
          refine L.nil ?_
          refine X.sq ?_
          refine V.ret ?_
          refine X.sqRet ?_
          refine X.sqRet ?_
          refine ret_1 Yaam.results107 rfl ?_
          exact ⟨_, _, i1, rfl, Tm.leaf hb2 (by omega), wt_num _, w64_wr _, hi1, by rw [tsz_lf]; omega, h1.ext he2, hr1.trans (Rg.ext he2 _ _)⟩
        ·
          refine V.skip ?_
          refine X.sq ?_
          refine V.seq ?_
          refine V.seq ?_
          refine V.region ?_
          refine L.rd (rd_move rfl) rfl ?_
          refine L.rd (rd_lss rfl rfl) rfl ?_
          refine L.nil ?_
          refine X.sq ?_
          first | refine V.cond rfl (fun h30 => ?_) (fun h30 => ?_) | refine V.condB rfl (fun h30 => ?_) (fun h30 => ?_)
          ·
            refine V.seq ?_
            refine V.region ?_
            refine L.rd (rd_move rfl) rfl ?_
            refine L.rd (rd_mulW rfl rfl) rfl ?_
            refine L.ef (e_call rfl (snum_ok _ _) rfl ?_)
            rintro _ w2 ⟨rfl, hb2, he2⟩
            refine L.rd (rd_assign rfl) rfl ?_
            refine L.nil ?_
            refine X.sq ?_
            refine V.ret ?_
            refine X.sqRet ?_
            refine X.sqRet ?_
            refine ret_1 Yaam.results107 rfl ?_
            exact ⟨_, _, i1, rfl, Tm.leaf hb2 (by omega), wt_num _, w64_wr _, hi1, by rw [tsz_lf]; omega, h1.ext he2, hr1.trans (Rg.ext he2 _ _)⟩
          ·
            refine V.skip ?_
            refine X.sq ?_
            refine V.seq ?_
            refine V.region ?_
            refine L.rd (rd_move rfl) rfl ?_
            refine L.ef (e_call rfl (word_ok _ h1) rfl ?_)
            rintro _ w2 ⟨x, i2, rfl, hx, h2, hi2, hr2⟩
            have hl2 := h2.bl.lt
            refine L.ef (e_call rfl (snum_ok _ _) rfl ?_)
            rintro _ w3 ⟨rfl, hb3, he3⟩
            refine L.rd (rd_assign rfl) rfl ?_
            refine L.nil ?_
            refine X.sq ?_
            refine V.ret ?_
            refine X.sqRet ?_
            refine ret_1 Yaam.results107 rfl ?_
            exact ⟨_, _, i2, rfl, Tm.leaf hb3 (by omega), wt_num _, hx, by omega, by rw [tsz_lf]; omega, h2.ext he3, (hr1.trans hr2).trans (Rg.ext he3 _ _)⟩
    ·
      refine L.no rfl rfl rfl rfl ?_
      refine L.no rfl rfl rfl rfl ?_
      refine L.rd (rd_pickF rfl rfl) rfl ?_
      refine L.nil ?_
      refine X.sq ?_
      refine V.condF rfl ?_
      refine V.skip ?_
      refine X.sq ?_
      refine V.seq ?_
      refine V.seq ?_
      refine V.region ?_
      refine L.rd (rd_move rfl) rfl ?_
      refine L.rd (rd_lss rfl rfl) rfl ?_
      refine L.nil ?_
      refine X.sq ?_
      first | refine V.cond rfl (fun h24 => ?_) (fun h24 => ?_) | refine V.condB rfl (fun h24 => ?_) (fun h24 => ?_)
      ·
        refine V.seq ?_
        refine V.region ?_
        refine L.rd (rd_move rfl) rfl ?_
        refine L.rd (rd_remW rfl rfl (by decide)) rfl ?_
        refine L.rd (rd_subW rfl rfl) rfl ?_
        refine L.ef (e_call rfl (snum_ok _ _) rfl ?_)
        rintro _ w2 ⟨rfl, hb2, he2⟩
        refine L.rd (rd_assign rfl) rfl ?_
        refine L.nil ?_
        refine X.sq ?_
        refine V.ret ?_
        refine X.sqRet ?_
        refine X.sqRet ?_
        refine ret_1 Yaam.results107 rfl ?_
        exact ⟨_, _, i1, rfl, Tm.leaf hb2 (by omega), wt_num _, w64_wr _, hi1, by rw [tsz_lf]; omega, h1.ext he2, hr1.trans (Rg.ext he2 _ _)⟩
      ·
        refine V.skip ?_
        refine X.sq ?_
        refine V.seq ?_
        refine V.seq ?_
        refine V.region ?_
        refine L.rd (rd_move rfl) rfl ?_
        refine L.rd (rd_lss rfl rfl) rfl ?_
        refine L.nil ?_
        refine X.sq ?_
        first | refine V.cond rfl (fun h30 => ?_) (fun h30 => ?_) | refine V.condB rfl (fun h30 => ?_) (fun h30 => ?_)
        ·
          refine V.seq ?_
          refine V.region ?_
          refine L.rd (rd_move rfl) rfl ?_
          refine L.rd (rd_mulW rfl rfl) rfl ?_
          refine L.ef (e_call rfl (snum_ok _ _) rfl ?_)
          rintro _ w2 ⟨rfl, hb2, he2⟩
          refine L.rd (rd_assign rfl) rfl ?_
          refine L.nil ?_
          refine X.sq ?_
          refine V.ret ?_
          refine X.sqRet ?_
          refine X.sqRet ?_
          refine ret_1 Yaam.results107 rfl ?_
          exact ⟨_, _, i1, rfl, Tm.leaf hb2 (by omega), wt_num _, w64_wr _, hi1, by rw [tsz_lf]; omega, h1.ext he2, hr1.trans (Rg.ext he2 _ _)⟩
        ·
          refine V.skip ?_
          refine X.sq ?_
          refine V.seq ?_
          refine V.region ?_
          refine L.rd (rd_move rfl) rfl ?_
          refine L.ef (e_call rfl (word_ok _ h1) rfl ?_)
          rintro _ w2 ⟨x, i2, rfl, hx, h2, hi2, hr2⟩
          have hl2 := h2.bl.lt
          refine L.ef (e_call rfl (snum_ok _ _) rfl ?_)
          rintro _ w3 ⟨rfl, hb3, he3⟩
          refine L.rd (rd_assign rfl) rfl ?_
          refine L.nil ?_
          refine X.sq ?_
          refine V.ret ?_
          refine X.sqRet ?_
          refine ret_1 Yaam.results107 rfl ?_
          exact ⟨_, _, i2, rfl, Tm.leaf hb3 (by omega), wt_num _, hx, by omega, by rw [tsz_lf]; omega, h2.ext he3, (hr1.trans hr2).trans (Rg.ext he3 _ _)⟩
  ·
    refine V.skip ?_
    refine X.sq ?_
    refine V.seq ?_
    refine V.region ?_
    refine L.rd (rd_assign rfl) rfl ?_
    refine L.nil ?_
    refine X.sq ?_
    refine V.seq ?_
    refine V.seq ?_
    refine V.region ?_
    refine L.rd (rd_move rfl) rfl ?_
    refine L.rd (rd_neq rfl rfl) rfl ?_
    refine L.nil ?_
    refine X.sq ?_
    refine V.cut (fun l w' => ∃ vs : Int, l = [(1, .int .i64 c), (8, .int .i64 vs)] ∧ 1 ≤ vs ∧ vs ≤ 26 ∧ w = w') ?_ ?_
    ·
      first | refine V.cond rfl (fun h38 => ?_) (fun h38 => ?_) | refine V.condB rfl (fun h38 => ?_) (fun h38 => ?_)
      ·
        refine V.region ?_
        refine L.rd (rd_assign rfl) rfl ?_
        refine L.nil ?_
        exact X.ct ⟨_, (by repeat' (first | exact trivial | refine ⟨rfl, ?_⟩)), 3, rfl, by omega, by omega, rfl⟩
      ·
        refine V.skip ?_
        exact X.ct ⟨_, (by repeat' (first | exact trivial | refine ⟨rfl, ?_⟩)), 26, rfl, by omega, by omega, rfl⟩
    ·
      rintro l w' ⟨vs, rfl, hv1, hv2, rfl⟩
      refine X.sq ?_
      refine V.seq ?_
      refine V.region ?_
      refine L.rd (rd_move rfl) rfl ?_
      refine L.rd (rd_quoW rfl rfl (by decide)) rfl ?_
      refine L.rd (rd_move rfl) rfl ?_
      refine L.rd (rd_remW rfl rfl (by omega)) rfl ?_
      refine L.rd (rd_build (out := [_, _, _, _, _]) tok rfl rfl rfl rfl rfl) rfl ?_
      refine L.ef (e_box (cs := [_, _, _, _, _]) rfl rfl (by first | (simp only [size_addB, size_setB, size_drew]; rfl) | rfl) rfl ?_)
      refine L.rd (rd_assign rfl) rfl ?_
      refine L.nil ?_
      refine X.sq ?_
      refine V.ret ?_
      refine ret_1 Yaam.results107 rfl ?_
      have hx := tmod_rng (b := vs) (tdiv_rng hc.1) (by omega)
      have hl := h.bl.lt
      have hq : IntKind.i64.wrap (c.tdiv 2) = c.tdiv 2 := wrap_i64_in (by rw [Int.tdiv_eq_ediv_of_nonneg hc.1]; omega)
      rw [hq]
      exact ⟨lf 2 0 ((c.tdiv 2).tmod vs), _, i, rfl, Tm.leaf (Bl.new _ _ _) (by omega), wt_var (by omega), (by decide : w64 0 = 0), Nat.le_refl _, by rw [tsz_lf]; omega, h.ext ((Ext.refl _ _).addNew _ _), Rg.ext ((Ext.refl _ _).addNew _ _) _ _⟩

theorem expo_ok {bp : Nat} {bv : Value} {bs : List Nat} {i : Nat} (st : Int) (w : World) (h : RDq bp bv bs w i) : Ret Yaam.prog 108 [.pointer (some ⟨bp, 0, none⟩), .int .i64 st] w fun r w' => ∃ (e : Int) (i' : Nat), r = .int .i64 e ∧ 0 ≤ e ∧ e ≤ 1000000 ∧ RDq bp bv bs w' i' ∧ i ≤ i' ∧ Rg bp (bp + 1) w w' := by
  refine enter2 Yaam.func108 Yaam.ntmps108 (by kernel_rfl) rfl rfl ?_
  refine V.seq ?_
  refine V.region ?_
  refine L.rd (rd_assign rfl) rfl ?_
  refine L.nil ?_
  refine X.sq ?_
  refine V.seq ?_
  refine V.region ?_
  refine L.rd (rd_move rfl) rfl ?_
  refine L.ef (e_call rfl (next_ok _ h) rfl ?_)
  rintro _ w1 ⟨d, i1, rfl, hd0, hd1, h1, hi1, -, hr1⟩
  have hd4 := tmod_rng (b := 4) hd0 (by omega)
  have hd11 := tmod_rng (b := 11) hd0 (by omega)
  have hd30 := tmod_rng (b := 30) hd0 (by omega)
  have hd2 := tmod_rng (b := 2) hd0 (by omega)
  refine L.rd (rd_assign rfl) rfl ?_
  refine L.nil ?_
  refine X.sq ?_
  refine V.seq ?_
  refine V.seq ?_
  refine V.region ?_
  refine L.rd (rd_move rfl) rfl ?_
  refine L.rd (rd_lss rfl rfl) rfl ?_
  refine L.nil ?_
  refine X.sq ?_
  first | refine V.cond rfl (fun h9 => ?_) (fun h9 => ?_) | refine V.condB rfl (fun h9 => ?_) (fun h9 => ?_)
  ·
    refine V.seq ?_
    refine V.region ?_
    refine L.rd (rd_move rfl) rfl ?_
    refine L.rd (rd_remW rfl rfl (by decide)) rfl ?_
    refine L.rd (rd_assign rfl) rfl ?_
    refine L.nil ?_
    refine X.sq ?_
    refine V.ret ?_
    refine X.sqRet ?_
    refine ret_1 Yaam.results108 rfl ?_
    exact ⟨_, i1, rfl, by omega, by omega, h1, hi1, hr1⟩
  ·
    refine V.skip ?_
    refine X.sq ?_
    refine V.seq ?_
    refine V.seq ?_
    refine V.region ?_
    refine L.rd (rd_move rfl) rfl ?_
    refine L.rd (rd_lss rfl rfl) rfl ?_
    refine L.nil ?_
    refine X.sq ?_
    first | refine V.cond rfl (fun h13 => ?_) (fun h13 => ?_) | refine V.condB rfl (fun h13 => ?_) (fun h13 => ?_)
    ·
      refine V.seq ?_
      refine V.region ?_
      refine L.rd (rd_move rfl) rfl ?_
      refine L.rd (rd_remW rfl rfl (by decide)) rfl ?_
      refine L.rd (rd_assign rfl) rfl ?_
      refine L.nil ?_
      refine X.sq ?_
      refine V.ret ?_
      refine X.sqRet ?_
      refine ret_1 Yaam.results108 rfl ?_
      exact ⟨_, i1, rfl, by omega, by omega, h1, hi1, hr1⟩
    ·
      refine V.skip ?_
      refine X.sq ?_
      refine V.seq ?_
      refine V.seq ?_
      refine V.region ?_
      refine L.rd (rd_move rfl) rfl ?_
      refine L.rd (rd_lss rfl rfl) rfl ?_
      refine L.nil ?_
      refine X.sq ?_
      first | refine V.cond rfl (fun h17 => ?_) (fun h17 => ?_) | refine V.condB rfl (fun h17 => ?_) (fun h17 => ?_)
      ·
        refine V.seq ?_
        refine V.region ?_
        refine L.rd (rd_assign rfl) rfl ?_
        refine L.nil ?_
        refine X.sq ?_
        refine V.ret ?_
        refine X.sqRet ?_
        refine ret_1 Yaam.results108 rfl ?_
        exact ⟨_, i1, rfl, by omega, by omega, h1, hi1, hr1⟩
      ·
        refine V.skip ?_
        refine X.sq ?_
        refine V.seq ?_
        refine V.seq ?_
        refine V.region ?_
        refine L.rd (rd_move rfl) rfl ?_
        refine L.rd (rd_eql rfl rfl) rfl ?_
        refine L.rd (rd_move rfl) rfl ?_
        first | refine L.partG rfl rfl (fun g20 => ?_) (fun g20 => ?_) | refine L.partGB rfl rfl (fun g20 => ?_) (fun g20 => ?_)
        ·
          refine L.yes rfl rfl ?_
          refine L.rd (rd_move rfl) rfl ?_
          refine L.yes rfl rfl ?_
          refine L.rd (rd_lss rfl rfl) rfl ?_
          refine L.rd (rd_pickT rfl rfl) rfl ?_
          refine L.nil ?_
          refine X.sq ?_
          first | refine V.cond rfl (fun h23 => ?_) (fun h23 => ?_) | refine V.condB rfl (fun h23 => ?_) (fun h23 => ?_)
          ·
            refine V.seq ?_
            refine V.region ?_
            refine L.rd (rd_move rfl) rfl ?_
            refine L.rd (rd_remW rfl rfl (by decide)) rfl ?_
            refine L.rd (rd_assign rfl) rfl ?_
            refine L.nil ?_
            refine X.sq ?_
            refine V.ret ?_
            refine X.sqRet ?_
            refine ret_1 Yaam.results108 rfl ?_
            exact ⟨_, i1, rfl, by omega, by omega, h1, hi1, hr1⟩
          ·
            refine V.skip ?_
            refine X.sq ?_
            refine V.seq ?_
            refine V.seq ?_
            refine V.region ?_
            refine L.rd (rd_move rfl) rfl ?_
            refine L.rd (rd_lss rfl rfl) rfl ?_
            refine L.nil ?_
            refine X.sq ?_
            first | refine V.cond rfl (fun h27 => ?_) (fun h27 => ?_) | refine V.condB rfl (fun h27 => ?_) (fun h27 => ?_)
            ·
              refine V.seq ?_
              refine V.region ?_
              refine L.rd (rd_move rfl) rfl ?_
              refine L.rd (rd_mulE (r := d * 4000) rfl rfl (wrap_i64_in (by omega))) rfl ?_
              refine L.rd (rd_assign rfl) rfl ?_
              refine L.nil ?_
              refine X.sq ?_
              refine V.ret ?_
              refine X.sqRet ?_
              refine ret_1 Yaam.results108 rfl ?_
              exact ⟨_, i1, rfl, by omega, by omega, h1, hi1, hr1⟩
            ·
              refine V.skip ?_
              refine X.sq ?_
              refine V.seq ?_
              refine V.region ?_
              refine L.rd (rd_move rfl) rfl ?_
              refine L.rd (rd_remW rfl rfl (by decide)) rfl ?_
              (refine L.rd (rd_sub3 rfl rfl ?_) rfl ?_; omega)
              refine L.rd (rd_assign rfl) rfl ?_
              refine L.nil ?_
              refine X.sq ?_
              refine V.ret ?_
              refine ret_1 Yaam.results108 rfl ?_
              exact ⟨_, i1, rfl, by omega, by omega, h1, hi1, hr1⟩
        ·
          refine L.no rfl rfl rfl rfl ?_
          refine L.no rfl rfl rfl rfl ?_
          refine L.rd (rd_pickF rfl rfl) rfl ?_
          refine L.nil ?_
          refine X.sq ?_
          refine V.condF rfl ?_
          refine V.skip ?_
          refine X.sq ?_
          refine V.seq ?_
          refine V.seq ?_
          refine V.region ?_
          refine L.rd (rd_move rfl) rfl ?_
          refine L.rd (rd_lss rfl rfl) rfl ?_
          refine L.nil ?_
          refine X.sq ?_
          first | refine V.cond rfl (fun h27 => ?_) (fun h27 => ?_) | refine V.condB rfl (fun h27 => ?_) (fun h27 => ?_)
          ·
            refine V.seq ?_
            refine V.region ?_
            refine L.rd (rd_move rfl) rfl ?_
            refine L.rd (rd_mulE (r := d * 4000) rfl rfl (wrap_i64_in (by omega))) rfl ?_
            refine L.rd (rd_assign rfl) rfl ?_
            refine L.nil ?_
            refine X.sq ?_
            refine V.ret ?_
            refine X.sqRet ?_
            refine ret_1 Yaam.results108 rfl ?_
            exact ⟨_, i1, rfl, by omega, by omega, h1, hi1, hr1⟩
          ·
            refine V.skip ?_
            refine X.sq ?_
            refine V.seq ?_
            refine V.region ?_
            refine L.rd (rd_move rfl) rfl ?_
            refine L.rd (rd_remW rfl rfl (by decide)) rfl ?_
            (refine L.rd (rd_sub3 rfl rfl ?_) rfl ?_; omega)
            refine L.rd (rd_assign rfl) rfl ?_
            refine L.nil ?_
            refine X.sq ?_
            refine V.ret ?_
            refine ret_1 Yaam.results108 rfl ?_
            exact ⟨_, i1, rfl, by omega, by omega, h1, hi1, hr1⟩

theorem gTree_ok {bp : Nat} {bv : Value} {bs : List Nat} (st : Int) : ∀ (f i : Nat) (w : World), bs.length - i ≤ f → RDq bp bv bs w i → Ret Yaam.prog 57 [.pointer (some ⟨bp, 0, none⟩), .int .i64 st] w (GtPq bp bv bs i w) := by
  intro f
  induction f using Nat.strongRecOn with
  | _ f ih =>
  intro i w hf h
  refine enter2 Yaam.func57 Yaam.ntmps57 (by kernel_rfl) rfl rfl ?_
  refine V.seq ?_
  refine V.region ?_
  refine L.rd (rd_assign rfl) rfl ?_
  refine L.nil ?_
  refine X.sq ?_
  refine V.seq ?_
  refine V.seq ?_
  refine V.region ?_
  refine L.rd (rd_move rfl) rfl ?_
  refine L.ef (e_call rfl (left_ok _ h) rfl ?_)
  rintro _ w1 ⟨rfl, he1⟩
  have h1 := h.ext he1
  have hr1 := Rg.ext he1 bp (bp + 1)
  have hle := h.le
  have hl1 := h1.bl.lt
  refine L.rd (rd_eql rfl rfl) rfl ?_
  refine L.nil ?_
  refine X.sq ?_
  first | refine V.cond rfl (fun h15 => ?_) (fun h15 => ?_) | refine V.condB rfl (fun h15 => ?_) (fun h15 => ?_)
  ·
    refine V.seq ?_
    refine V.region ?_
    refine L.rd (rd_build (out := [_, _, _, _, _]) tok rfl rfl rfl rfl rfl) rfl ?_
    refine L.ef (e_box (cs := [_, _, _, _, _]) rfl rfl (by first | (simp only [size_addB, size_setB, size_drew]; rfl) | rfl) rfl ?_)
    refine L.rd (rd_assign rfl) rfl ?_
    refine L.nil ?_
    refine X.sq ?_
    refine V.ret ?_
    refine X.sqRet ?_
    refine ret_1 Yaam.results57 rfl ?_
    exact ⟨lf 2 0 23, _, i, rfl, Tm.leaf (Bl.new _ _ _) (by omega), wt_var (by omega), (by decide : w64 0 = 0), Nat.le_refl _, by rw [tsz_lf]; omega, h1.ext ((Ext.refl _ _).addNew _ _), hr1.trans (Rg.ext ((Ext.refl _ _).addNew _ _) _ _)⟩
  ·
    refine V.skip ?_
    refine X.sq ?_
    refine V.seq ?_
    refine V.region ?_
    refine L.rd (rd_move rfl) rfl ?_
    refine L.ef (e_call rfl (next_ok _ h1) rfl ?_)
    rintro _ w2 ⟨c, i2, rfl, hc0, hc1, h2, hi2, hlt2, hr2⟩
    have hi2e := hlt2 (by omega)
    replace hr2 := hr1.trans hr2
    refine L.rd (rd_assign rfl) rfl ?_
    refine L.nil ?_
    refine X.sq ?_
    refine V.seq ?_
    refine V.region ?_
    refine L.rd (rd_assign rfl) rfl ?_
    refine L.nil ?_
    refine X.sq ?_
    refine V.seq ?_
    refine V.seq ?_
    refine V.region ?_
    refine L.rd (rd_move rfl) rfl ?_
    refine L.rd (rd_eql rfl rfl) rfl ?_
    refine L.nil ?_
    refine X.sq ?_
    refine V.cut (fun l w' => ∃ lfn : Int, l = [(0, .pointer (some ⟨bp, 0, none⟩)), (1, .int .i64 st), (5, .int .i64 c), (6, .int .i64 lfn)] ∧ w2 = w') ?_ ?_
    ·
      first | refine V.cond rfl (fun h21 => ?_) (fun h21 => ?_) | refine V.condB rfl (fun h21 => ?_) (fun h21 => ?_)
      ·
        refine V.region ?_
        refine L.rd (rd_assign rfl) rfl ?_
        refine L.nil ?_
        exact X.ct ⟨_, (by repeat' (first | exact trivial | refine ⟨rfl, ?_⟩)), _, rfl, rfl⟩
      ·
        refine V.skip ?_
        exact X.ct ⟨_, (by repeat' (first | exact trivial | refine ⟨rfl, ?_⟩)), _, rfl, rfl⟩
    ·
      rintro l w' ⟨lfn, rfl, rfl⟩
      refine X.sq ?_
      refine V.seq ?_
      refine V.seq ?_
      refine V.region ?_
      refine L.rd (rd_move rfl) rfl ?_
      refine L.rd (rd_move rfl) rfl ?_
      refine L.rd (rd_lss rfl rfl) rfl ?_
      refine L.nil ?_
      refine X.sq ?_
      first | refine V.cond rfl (fun h24 => ?_) (fun h24 => ?_) | refine V.condB rfl (fun h24 => ?_) (fun h24 => ?_)
      ·
        refine V.seq ?_
        refine V.region ?_
        refine L.rd (rd_move rfl) rfl ?_
        refine L.rd (rd_move rfl) rfl ?_
        refine L.rd (rd_move rfl) rfl ?_
        refine L.ef (e_call rfl (leaf_ok c st ⟨hc0, hc1⟩ _ h2) rfl ?_)
        rintro _ w3 ⟨t, a, i3, rfl, ht, hwt, hwi, hi3, hsz, h3, hr3⟩
        refine L.rd (rd_assign rfl) rfl ?_
        refine L.nil ?_
        refine X.sq ?_
        refine V.ret ?_
        refine X.sqRet ?_
        refine ret_1 Yaam.results57 rfl ?_
        exact ⟨t, a, i3, rfl, ht, hwt, hwi, by omega, by omega, h3, hr2.trans hr3⟩
      ·
        refine V.skip ?_
        refine X.sq ?_
        refine V.seq ?_
        refine V.seq ?_
        refine V.region ?_
        refine L.rd (rd_move rfl) rfl ?_
        refine L.rd (rd_lss rfl rfl) rfl ?_
        refine L.nil ?_
        refine X.sq ?_
        first | refine V.cond rfl (fun h30 => ?_) (fun h30 => ?_) | refine V.condB rfl (fun h30 => ?_) (fun h30 => ?_)
        ·
          refine V.seq ?_
          refine V.region ?_
          refine L.rd (rd_move rfl) rfl ?_
          refine L.rd (rd_move rfl) rfl ?_
          refine L.ef (e_call rfl (ih (f - 1) (by omega) i2 _ (by omega) h2) rfl ?_)
          rintro _ w3 ⟨t, a, i3, rfl, ht, hwt, hwi, hi3, hsz, h3, hr3⟩
          refine L.rd (rd_assign rfl) rfl ?_
          refine L.nil ?_
          refine X.sq ?_
          refine V.seq ?_
          refine V.region ?_
          refine L.rd (rd_move rfl) rfl ?_
          refine L.rd (rd_build (out := [_, _, _, _, _]) tok rfl rfl rfl rfl rfl) rfl ?_
          refine L.ef (e_box (cs := [_, _, _, _, _]) rfl rfl (by first | (simp only [size_addB, size_setB, size_drew]; rfl) | rfl) rfl ?_)
          refine L.rd (rd_assign rfl) rfl ?_
          refine L.nil ?_
          refine X.sq ?_
          refine V.ret ?_
          refine X.sqRet ?_
          refine ret_1 Yaam.results57 rfl ?_
          have hea := (Ext.refl _ w3).addNew 119 [.int .i64 3, .int .i64 0, .int .i64 0, .pointer a, .pointer none]
          have hl3 := h3.bl.lt
          exact ⟨u1 3 0 t, _, i3, rfl, ⟨_, _, rfl, by omega, Bl.new _ _ _, ht.ext hea⟩, wt_neg hwt, hwi, by omega, by rw [tsz_u1]; omega, h3.ext hea, (hr2.trans hr3).trans (Rg.ext hea _ _)⟩
        ·
          refine V.skip ?_
          refine X.sq ?_
          refine V.seq ?_
          refine V.seq ?_
          refine V.region ?_
          refine L.rd (rd_move rfl) rfl ?_
          refine L.rd (rd_lss rfl rfl) rfl ?_
          refine L.nil ?_
          refine X.sq ?_
          first | refine V.cond rfl (fun h38 => ?_) (fun h38 => ?_) | refine V.condB rfl (fun h38 => ?_) (fun h38 => ?_)
          ·
            refine V.seq ?_
            refine V.region ?_
            refine L.rd (rd_assign rfl) rfl ?_
            refine L.nil ?_
            refine X.sq ?_
            refine V.seq ?_
            refine V.seq ?_
            refine V.region ?_
            refine L.rd (rd_move rfl) rfl ?_
            refine L.rd (rd_geq rfl rfl) rfl ?_
            refine L.nil ?_
            refine X.sq ?_
            refine V.cut (fun l w' => ∃ k : Int, l = [(0, .pointer (some ⟨bp, 0, none⟩)), (1, .int .i64 st), (5, .int .i64 c), (8, .int .i64 k)] ∧ (k = 4 ∨ k = 5) ∧ w2 = w') ?_ ?_
            ·
              first | refine V.cond rfl (fun h40 => ?_) (fun h40 => ?_) | refine V.condB rfl (fun h40 => ?_) (fun h40 => ?_)
              ·
                refine V.region ?_
                refine L.rd (rd_assign rfl) rfl ?_
                refine L.nil ?_
                exact X.ct ⟨_, (by repeat' (first | exact trivial | refine ⟨rfl, ?_⟩)), 5, rfl, by omega, rfl⟩
              ·
                refine V.skip ?_
                exact X.ct ⟨_, (by repeat' (first | exact trivial | refine ⟨rfl, ?_⟩)), 4, rfl, by omega, rfl⟩
            ·
              rintro l w' ⟨k0, rfl, hk0, rfl⟩
              refine X.sq ?_
              refine V.seq ?_
              refine V.seq ?_
              refine V.region ?_
              refine L.rd (rd_move rfl) rfl ?_
              refine L.rd (rd_geq rfl rfl) rfl ?_
              refine L.nil ?_
              refine X.sq ?_
              refine V.cut (fun l w' => ∃ k : Int, l = [(0, .pointer (some ⟨bp, 0, none⟩)), (1, .int .i64 st), (8, .int .i64 k)] ∧ (k = 4 ∨ k = 5 ∨ k = 6) ∧ w2 = w') ?_ ?_
              ·
                first | refine V.cond rfl (fun h42 => ?_) (fun h42 => ?_) | refine V.condB rfl (fun h42 => ?_) (fun h42 => ?_)
                ·
                  refine V.region ?_
                  refine L.rd (rd_assign rfl) rfl ?_
                  refine L.nil ?_
                  exact X.ct ⟨_, (by repeat' (first | exact trivial | refine ⟨rfl, ?_⟩)), 6, rfl, by omega, rfl⟩
                ·
                  refine V.skip ?_
                  exact X.ct ⟨_, (by repeat' (first | exact trivial | refine ⟨rfl, ?_⟩)), k0, rfl, by omega, rfl⟩
              ·
                rintro l w' ⟨k, rfl, hk, rfl⟩
                refine X.sq ?_
                refine V.seq ?_
                refine V.region ?_
                refine L.rd (rd_move rfl) rfl ?_
                refine L.rd (rd_move rfl) rfl ?_
                refine L.ef (e_call rfl (ih (f - 1) (by omega) i2 _ (by omega) h2) rfl ?_)
                rintro _ w3 ⟨t, a, i3, rfl, ht, hwt, hwi, hi3, hsz, h3, hr3⟩
                refine L.rd (rd_assign rfl) rfl ?_
                refine L.nil ?_
                refine X.sq ?_
                refine V.seq ?_
                refine V.region ?_
                refine L.rd (rd_move rfl) rfl ?_
                refine L.rd (rd_move rfl) rfl ?_
                refine L.ef (e_call rfl (ih (f - 1) (by omega) i3 _ (by omega) h3) rfl ?_)
                rintro _ w4 ⟨t4, a4, i4, rfl, ht4, hwt4, hwi4, hi4, hsz4, h4, hr4⟩
                refine L.rd (rd_assign rfl) rfl ?_
                refine L.nil ?_
                refine X.sq ?_
                refine V.seq ?_
                refine V.region ?_
                refine L.rd (rd_move rfl) rfl ?_
                refine L.rd (rd_move rfl) rfl ?_
                refine L.rd (rd_move rfl) rfl ?_
                refine L.rd (rd_build (out := [_, _, _, _, _]) tok rfl rfl rfl rfl rfl) rfl ?_
                refine L.ef (e_box (cs := [_, _, _, _, _]) rfl rfl (by first | (simp only [size_addB, size_setB, size_drew]; rfl) | rfl) rfl ?_)
                refine L.rd (rd_assign rfl) rfl ?_
                refine L.nil ?_
                refine X.sq ?_
                refine V.ret ?_
                refine X.sqRet ?_
                refine ret_1 Yaam.results57 rfl ?_
                have hea := (Ext.refl _ w4).addNew 119 [.int .i64 k, .int .i64 0, .int .i64 0, .pointer a, .pointer a4]
                have hl4 := h4.bl.lt
                have ht' := Tm.rg hr4 (Nat.le_refl _) _ _ ht
                exact ⟨b2 k t t4, _, i4, rfl, ⟨_, _, _, rfl, by omega, Bl.new _ _ _, ht'.ext hea, ht4.ext hea⟩, wt_bin hk hwt hwt4, ⟨hwi, hwi4⟩, by omega, by rw [tsz_b2]; omega, h4.ext hea, ((hr2.trans hr3).trans hr4).trans (Rg.ext hea _ _)⟩
          ·
            refine V.skip ?_
            refine X.sq ?_
            refine V.seq ?_
            refine V.region ?_
            refine L.rd (rd_move rfl) rfl ?_
            refine L.rd (rd_move rfl) rfl ?_
            refine L.ef (e_call rfl (ih (f - 1) (by omega) i2 _ (by omega) h2) rfl ?_)
            rintro _ w3 ⟨t, a, i3, rfl, ht, hwt, hwi, hi3, hsz, h3, hr3⟩
            refine L.rd (rd_assign rfl) rfl ?_
            refine L.nil ?_
            refine X.sq ?_
            refine V.seq ?_
            refine V.region ?_
            refine L.rd (rd_move rfl) rfl ?_
            refine L.rd (rd_move rfl) rfl ?_
            refine L.ef (e_call rfl (expo_ok st _ h3) rfl ?_)
            rintro _ w4 ⟨e, i4, rfl, he0, he1', h4, hi4, hr4⟩
            refine L.rd (rd_assign rfl) rfl ?_
            refine L.nil ?_
            refine X.sq ?_
            refine V.seq ?_
            refine V.region ?_
            refine L.rd (rd_move rfl) rfl ?_
            refine L.rd (rd_move rfl) rfl ?_
            refine L.rd (rd_build (out := [_, _, _, _, _]) tok rfl rfl rfl rfl rfl) rfl ?_
            refine L.ef (e_box (cs := [_, _, _, _, _]) rfl rfl (by first | (simp only [size_addB, size_setB, size_drew]; rfl) | rfl) rfl ?_)
            refine L.rd (rd_assign rfl) rfl ?_
            refine L.nil ?_
            refine X.sq ?_
            refine V.ret ?_
            refine ret_1 Yaam.results57 rfl ?_
            have hea := (Ext.refl _ w4).addNew 119 [.int .i64 7, .int .i64 e, .int .i64 0, .pointer a, .pointer none]
            have hl4 := h4.bl.lt
            have ht' := Tm.rg hr4 (Nat.le_refl _) _ _ ht
            exact ⟨u1 7 e t, _, i4, rfl, ⟨_, _, rfl, by omega, Bl.new _ _ _, ht'.ext hea⟩, wt_pow ⟨he0, he1'⟩ hwt, hwi, by omega, by rw [tsz_u1]; omega, h4.ext hea, ((hr2.trans hr3).trans hr4).trans (Rg.ext hea _ _)⟩
end Go.Proofs.YbxaawGreat
