/-
  laws.robustPoly, walked: at any terms that can be read.
-/
import Derived.Test.YbxaawGreatAmW2
import Derived.Test.YbxaawGreatAmW4
import Derived.Test.YbxaawGreatDiffW
import Derived.Test.YbxaawGreatDiffW2
import Derived.Test.YbxaawGreatEvalW
import Derived.Test.YbxaawGreatPrintW
import Derived.Test.YbxaawGreatPrintW2
import Derived.Test.YbxaawGreatRtreeW
set_option linter.unusedVariables false
set_option linter.unusedSimpArgs false
set_option maxRecDepth 10000
set_option maxHeartbeats 4000000
namespace Go.Mw
theorem addP_can {p q : List PT} (h : (addP p q).isSome = true) : canon p = true ∧ canon q = true := by
  unfold addP at h
  split at h
  · assumption
  · cases h
theorem mulP_can {p q : List PT} (h : (mulP p q).isSome = true) : canon p = true ∧ canon q = true := by
  unfold mulP at h
  split at h
  · rename_i hc; exact ⟨hc.1, hc.2.1⟩
  · cases h
theorem difP_can {p : List PT} {y : Int} (h : (difP p y).isSome = true) : canon p = true ∧ 0 ≤ y ∧ y ≤ 25 := by
  unfold difP at h
  split at h
  · rename_i hc; exact ⟨hc.1, hc.2.1, by omega⟩
  · cases h
theorem difP_canon {p q : List PT} {y : Int} (h : difP p y = some q) : canon q = true := by
  unfold difP at h
  split at h
  · rename_i hc
    simp only [Option.some.injEq] at h
    subst h
    have hg := dms_good hc.1 (v := y.toNat) (by omega)
    exact canon_toP hg.1 hg.2.2.2
  · cases h
theorem ev_ok {q : List PT} {pt : List Int} (h : evOk q pt = true) : canon q = true ∧ pt.length = 26 := by
  unfold evOk at h
  simp only [Bool.and_eq_true, decide_eq_true_eq] at h
  exact h
end Go.Mw
namespace Go.Proofs.YbxaawGreat
open Go.Mw

theorem robustPoly_ok (Ls : List Lt) (va pv : Value) (pt : List Int) (y : Int) (w : World) {lo hi lo' hi' : Nat} (hT : Tl w lo hi va Ls) (hC : Cq (pol Ls)) (hS : Sm (pol Ls)) (hP : Rr w lo' hi' 1 pv pt.length (iC .i64 pt)) : Ret Yaam.prog 23 [.agg #[va], pv, .int .i64 y] w fun r w' => r = .bool true ∧ Ext w.heap.size w w' := by
  obtain ⟨na, nc, rfl, hfn⟩ := id hT.form
  obtain ⟨pa, pc, rfl, hfp⟩ := id hP.form
  refine enter3 Yaam.func23 Yaam.ntmps23 (by kernel_rfl) rfl rfl ?_
  refine V.seq ?_
  refine V.region ?_
  refine L.ef (e_box (cs := [_]) rfl rfl (by first | (simp only [size_addB, size_setB, size_drew]; rfl) | rfl) rfl ?_)
  refine L.rd (rd_assign rfl) rfl ?_
  refine L.nil ?_
  refine X.sq ?_
  refine V.seq ?_
  have hb := Bl.new w 44 [.slice na Ls.length nc]
  have hE := (Ext.refl _ w).addNew 44 [.slice na Ls.length nc]
  replace hT := hT.le hE.leC
  replace hP := hP.le hE.leC
  generalize addB w 44 [.slice na Ls.length nc] = u0 at hb hE hT hP ⊢
  refine V.region ?_
  refine L.rd (rd_loadN tok rfl rfl rfl hb.cells rfl) rfl ?_
  refine L.ef (e_call rfl (scan_ok _ Ls _ hT hS) rfl ?_)
  rintro _ w1 ⟨rfl, he1⟩
  replace hE := hE.ext he1
  replace hb := hb.ext he1
  replace hT := hT.ext he1
  replace hP := hP.ext he1
  refine L.rd (rd_assign rfl) rfl ?_
  refine L.nil ?_
  refine X.sq ?_
  refine V.seq ?_
  refine V.seq ?_
  refine V.region ?_
  refine L.rd (rd_loadN tok rfl rfl rfl hb.cells rfl) rfl ?_
  refine L.ef (e_call rfl (ican_ok _ Ls _ hT hS) rfl ?_)
  rintro _ w2 ⟨rfl, he2⟩
  replace hE := hE.ext he2
  replace hb := hb.ext he2
  replace hT := hT.ext he2
  replace hP := hP.ext he2
  refine L.rd (rd_move rfl) rfl ?_
  refine L.rd (rd_neqB tok rfl rfl rfl rfl) rfl ?_
  refine L.nil ?_
  refine X.sq ?_
  first | refine V.cond rfl (fun h38 => ?_) (fun h38 => ?_) | refine V.condB rfl (fun h38 => ?_) (fun h38 => ?_)
  ·
    exact absurd rfl h38
  ·
    refine V.skip ?_
    refine X.sq ?_
    refine V.seq ?_
    refine V.cut (fun l w' => ∃ bv : Bool, l = [(1, .slice pa pt.length pc), (2, .int .i64 y), (3, .pointer (some ⟨w.heap.size, 0, none⟩)), (7, .bool (canon (pol Ls))), (8, .bool bv)] ∧ (0 ≤ y ∧ y ≤ 25 → bv = false) ∧ w2 = w') ?_ ?_
    ·
      refine V.region ?_
      refine L.rd (rd_move rfl) rfl ?_
      refine L.rd (rd_lss rfl rfl) rfl ?_
      refine L.rd (rd_move rfl) rfl ?_
      first | refine L.partG rfl rfl (fun g41 => ?_) (fun g41 => ?_) | refine L.partGB rfl rfl (fun g41 => ?_) (fun g41 => ?_)
      ·
        refine L.no rfl rfl rfl rfl ?_
        refine L.no rfl rfl rfl rfl ?_
        refine L.rd (rd_pickT rfl rfl) rfl ?_
        refine L.rd (rd_assign rfl) rfl ?_
        refine L.nil ?_
        exact X.ct ⟨_, (by repeat' (first | exact trivial | refine ⟨rfl, ?_⟩)), _, rfl, fun hy => by first | (exfalso; omega) | exact decide_eq_false (by omega), rfl⟩
      ·
        refine L.yes rfl rfl ?_
        refine L.rd (rd_move rfl) rfl ?_
        refine L.yes rfl rfl ?_
        refine L.rd (rd_geq rfl rfl) rfl ?_
        refine L.rd (rd_pickF rfl rfl) rfl ?_
        refine L.rd (rd_assign rfl) rfl ?_
        refine L.nil ?_
        exact X.ct ⟨_, (by repeat' (first | exact trivial | refine ⟨rfl, ?_⟩)), _, rfl, fun hy => by first | (exfalso; omega) | exact decide_eq_false (by omega), rfl⟩
    ·
      rintro l w' ⟨badv, rfl, hbv, rfl⟩
      refine X.sq ?_
      refine V.seq ?_
      refine V.region ?_
      refine L.rd (rd_loadN tok rfl rfl rfl hb.cells rfl) rfl ?_
      refine L.rd (rd_loadN tok rfl rfl rfl hb.cells rfl) rfl ?_
      refine L.ef (e_call rfl (iadd_ok _ _ Ls Ls _ hT hT hS hS hC hC) rfl ?_)
      rintro _ wa5 ⟨va5, La5, rfl, hOa5, hqa5, hea5⟩
      obtain ⟨aa5, ca5, rfl⟩ := own_form hOa5.top
      have hTa5 := hOa5.tl
      replace hE := hE.ext hea5
      replace hb := hb.ext hea5
      replace hT := hT.ext hea5
      replace hP := hP.ext hea5
      refine L.rd (rd_move rfl) rfl ?_
      refine L.rd (rd_ext0 rfl) rfl ?_
      refine L.rd (rd_ext1 rfl) rfl ?_
      refine L.ef (e_alloc (cs := [_]) tok rfl rfl (by first | (simp only [size_addB, size_setB, size_drew]; rfl) | rfl) rfl ?_)
      refine L.ef (e_store (vs := [_]) tok rfl rfl rfl rfl (by (repeat (first | assumption | (refine Bl.new' ?_ _ _; first | with_reducible rfl | (simp only [size_addB, size_setB, size_drew]; done)) | apply Bl.add | apply Bl.drew | (apply Bl.setNe; omega) | (refine Bl.set' ?_ _ _; (try simp only [size_addB, size_setB, size_drew]); omega)))) rfl (by simp [Value.oneCell']) (by simp) ?_)
      refine L.rd (rd_assign rfl) rfl ?_
      refine L.nil ?_
      refine X.sq ?_
      refine V.seq ?_
      generalize hwb5 : setB _ _ _ _ = wb5
      have heb5 := ext_of_new hwb5
      have hbb5 : Bl wb5 wa5.heap.size 44 [.slice aa5 La5.length ca5] := bl_of_new hwb5
      replace hE := hE.ext heb5
      replace hb := hb.ext heb5
      replace hT := hT.ext heb5
      replace hP := hP.ext heb5
      replace hTa5 := hTa5.ext heb5
      refine V.region ?_
      refine L.rd (rd_loadN tok rfl rfl rfl hb.cells rfl) rfl ?_
      refine L.rd (rd_loadN tok rfl rfl rfl hb.cells rfl) rfl ?_
      refine L.ef (e_call rfl (sadd_ok _ _ Ls Ls _ hT hT hS hS hC hC) rfl ?_)
      rintro _ wc5 ⟨vc5, Lc5, rfl, hOc5, hqc5, hec5⟩
      obtain ⟨ac5, cc5, rfl⟩ := own_form hOc5.top
      have hTc5 := hOc5.tl
      replace hE := hE.ext hec5
      replace hb := hb.ext hec5
      replace hT := hT.ext hec5
      replace hP := hP.ext hec5
      replace hTa5 := hTa5.ext hec5
      replace hbb5 := hbb5.ext hec5
      refine L.rd (rd_move rfl) rfl ?_
      refine L.rd (rd_ext0 rfl) rfl ?_
      refine L.rd (rd_ext1 rfl) rfl ?_
      refine L.ef (e_alloc (cs := [_]) tok rfl rfl (by first | (simp only [size_addB, size_setB, size_drew]; rfl) | rfl) rfl ?_)
      refine L.ef (e_store (vs := [_]) tok rfl rfl rfl rfl (by (repeat (first | assumption | (refine Bl.new' ?_ _ _; first | with_reducible rfl | (simp only [size_addB, size_setB, size_drew]; done)) | apply Bl.add | apply Bl.drew | (apply Bl.setNe; omega) | (refine Bl.set' ?_ _ _; (try simp only [size_addB, size_setB, size_drew]); omega)))) rfl (by simp [Value.oneCell']) (by simp) ?_)
      refine L.rd (rd_assign rfl) rfl ?_
      refine L.nil ?_
      refine X.sq ?_
      refine V.seq ?_
      refine V.seq ?_
      generalize hwd5 : setB _ _ _ _ = wd5
      have hed5 := ext_of_new hwd5
      have hbd5 : Bl wd5 wc5.heap.size 44 [.slice ac5 Lc5.length cc5] := bl_of_new hwd5
      replace hE := hE.ext hed5
      replace hb := hb.ext hed5
      replace hT := hT.ext hed5
      replace hP := hP.ext hed5
      replace hTa5 := hTa5.ext hed5
      replace hbb5 := hbb5.ext hed5
      replace hTc5 := hTc5.ext hed5
      refine V.region ?_
      refine L.rd (rd_move rfl) rfl ?_
      refine L.rd (rd_move rfl) rfl ?_
      refine L.rd (rd_neqB tok rfl rfl rfl rfl) rfl ?_
      refine L.rd (rd_move rfl) rfl ?_
      first | refine L.partG rfl rfl (fun g60 => ?_) (fun g60 => ?_) | refine L.partGB rfl rfl (fun g60 => ?_) (fun g60 => ?_)
      ·
        exact absurd rfl g60
      ·
        refine L.yes rfl rfl ?_
        refine L.rd (rd_loadN tok rfl rfl rfl hbb5.cells rfl) rfl ?_
        refine L.yes rfl rfl ?_
        refine L.rd (rd_loadN tok rfl rfl rfl hbd5.cells rfl) rfl ?_
        refine L.yes rfl rfl ?_
        refine L.ef (e_call rfl (eqPoly_ok _ _ La5 Lc5 _ hTa5 hTc5 (p_sm hqa5 (fun q hq => (addP_ev [] hq).1))) rfl ?_)
        rintro _ we5 ⟨rfl, hee5⟩
        replace hE := hE.ext hee5
        replace hb := hb.ext hee5
        replace hT := hT.ext hee5
        replace hP := hP.ext hee5
        replace hbb5 := hbb5.ext hee5
        refine L.yes rfl rfl ?_
        first | refine L.rd (rd_not rfl) rfl ?_ | refine L.rd (rd_notB rfl) rfl ?_
        refine L.rd (rd_pickF rfl rfl) rfl ?_
        refine L.rd (rd_move rfl) rfl ?_
        first | refine L.partG rfl rfl (fun g66 => ?_) (fun g66 => ?_) | refine L.partGB rfl rfl (fun g66 => ?_) (fun g66 => ?_)
        ·
          exact absurd (hqa5.trans hqc5.symm) g66
        ·
          refine L.yes rfl rfl ?_
          refine L.rd (rd_loadN tok rfl rfl rfl hbb5.cells rfl) rfl ?_
          refine L.yes rfl rfl ?_
          refine L.rd (rd_move rfl) rfl ?_
          refine L.yes rfl rfl ?_
          refine L.rd (rd_move rfl) rfl ?_
          refine L.yes rfl rfl ?_
          first | refine L.rd (rd_not rfl) rfl ?_ | refine L.rd (rd_notB rfl) rfl ?_
          refine L.yes rfl rfl ?_
          refine L.ef (e_call rfl (okP_ok _ _ _ _ _ _ (fun h => by rw [(addP_can h).1]; rfl) (fun h => p_zero hqa5 h)) rfl ?_)
          rintro _ wf5 ⟨rfl, hef5⟩
          replace hE := hE.ext hef5
          replace hb := hb.ext hef5
          replace hT := hT.ext hef5
          replace hP := hP.ext hef5
          refine L.yes rfl rfl ?_
          first | refine L.rd (rd_not rfl) rfl ?_ | refine L.rd (rd_notB rfl) rfl ?_
          refine L.rd (rd_pickF rfl rfl) rfl ?_
          refine L.nil ?_
          refine X.sq ?_
          first | refine V.cond rfl (fun h73 => ?_) (fun h73 => ?_) | refine V.condB rfl (fun h73 => ?_) (fun h73 => ?_)
          ·
            cases h73
          ·
            refine V.skip ?_
            refine X.sq ?_
            refine V.seq ?_
            refine V.region ?_
            refine L.rd (rd_build (out := [_]) tok rfl rfl rfl rfl rfl) rfl ?_
            refine L.rd (rd_loadN tok rfl rfl rfl hb.cells rfl) rfl ?_
            refine L.ef (e_call rfl (iadd_ok _ _ [] Ls _ (Tl.nil _ 0 0 0 none) hT ⟨by show 0 ≤ _; exact Nat.zero_le _, fun t ht => (by cases ht)⟩ hS (fun t ht => (by cases ht)) hC) rfl ?_)
            rintro _ wa9 ⟨va9, La9, rfl, hOa9, hqa9, hea9⟩
            obtain ⟨aa9, ca9, rfl⟩ := own_form hOa9.top
            have hTa9 := hOa9.tl
            replace hE := hE.ext hea9
            replace hb := hb.ext hea9
            replace hT := hT.ext hea9
            replace hP := hP.ext hea9
            refine L.rd (rd_move rfl) rfl ?_
            refine L.rd (rd_ext0 rfl) rfl ?_
            refine L.rd (rd_ext1 rfl) rfl ?_
            refine L.ef (e_alloc (cs := [_]) tok rfl rfl (by first | (simp only [size_addB, size_setB, size_drew]; rfl) | rfl) rfl ?_)
            refine L.ef (e_store (vs := [_]) tok rfl rfl rfl rfl (by (repeat (first | assumption | (refine Bl.new' ?_ _ _; first | with_reducible rfl | (simp only [size_addB, size_setB, size_drew]; done)) | apply Bl.add | apply Bl.drew | (apply Bl.setNe; omega) | (refine Bl.set' ?_ _ _; (try simp only [size_addB, size_setB, size_drew]); omega)))) rfl (by simp [Value.oneCell']) (by simp) ?_)
            refine L.rd (rd_assign rfl) rfl ?_
            refine L.nil ?_
            refine X.sq ?_
            refine V.seq ?_
            generalize hwb9 : setB _ _ _ _ = wb9
            have heb9 := ext_of_new hwb9
            have hbb9 : Bl wb9 wa9.heap.size 44 [.slice aa9 La9.length ca9] := bl_of_new hwb9
            replace hE := hE.ext heb9
            replace hb := hb.ext heb9
            replace hT := hT.ext heb9
            replace hP := hP.ext heb9
            replace hTa9 := hTa9.ext heb9
            refine V.region ?_
            refine L.rd (rd_build (out := [_]) tok rfl rfl rfl rfl rfl) rfl ?_
            refine L.rd (rd_loadN tok rfl rfl rfl hb.cells rfl) rfl ?_
            refine L.ef (e_call rfl (sadd_ok _ _ [] Ls _ (Tl.nil _ 0 0 0 none) hT ⟨by show 0 ≤ _; exact Nat.zero_le _, fun t ht => (by cases ht)⟩ hS (fun t ht => (by cases ht)) hC) rfl ?_)
            rintro _ wc9 ⟨vc9, Lc9, rfl, hOc9, hqc9, hec9⟩
            obtain ⟨ac9, cc9, rfl⟩ := own_form hOc9.top
            have hTc9 := hOc9.tl
            replace hE := hE.ext hec9
            replace hb := hb.ext hec9
            replace hT := hT.ext hec9
            replace hP := hP.ext hec9
            replace hTa9 := hTa9.ext hec9
            replace hbb9 := hbb9.ext hec9
            refine L.rd (rd_move rfl) rfl ?_
            refine L.rd (rd_ext0 rfl) rfl ?_
            refine L.rd (rd_ext1 rfl) rfl ?_
            refine L.ef (e_alloc (cs := [_]) tok rfl rfl (by first | (simp only [size_addB, size_setB, size_drew]; rfl) | rfl) rfl ?_)
            refine L.ef (e_store (vs := [_]) tok rfl rfl rfl rfl (by (repeat (first | assumption | (refine Bl.new' ?_ _ _; first | with_reducible rfl | (simp only [size_addB, size_setB, size_drew]; done)) | apply Bl.add | apply Bl.drew | (apply Bl.setNe; omega) | (refine Bl.set' ?_ _ _; (try simp only [size_addB, size_setB, size_drew]); omega)))) rfl (by simp [Value.oneCell']) (by simp) ?_)
            refine L.rd (rd_assign rfl) rfl ?_
            refine L.nil ?_
            refine X.sq ?_
            refine V.seq ?_
            refine V.seq ?_
            generalize hwd9 : setB _ _ _ _ = wd9
            have hed9 := ext_of_new hwd9
            have hbd9 : Bl wd9 wc9.heap.size 44 [.slice ac9 Lc9.length cc9] := bl_of_new hwd9
            replace hE := hE.ext hed9
            replace hb := hb.ext hed9
            replace hT := hT.ext hed9
            replace hP := hP.ext hed9
            replace hTa9 := hTa9.ext hed9
            replace hbb9 := hbb9.ext hed9
            replace hTc9 := hTc9.ext hed9
            refine V.region ?_
            refine L.rd (rd_move rfl) rfl ?_
            refine L.rd (rd_move rfl) rfl ?_
            refine L.rd (rd_neqB tok rfl rfl rfl rfl) rfl ?_
            refine L.rd (rd_move rfl) rfl ?_
            first | refine L.partG rfl rfl (fun g89 => ?_) (fun g89 => ?_) | refine L.partGB rfl rfl (fun g89 => ?_) (fun g89 => ?_)
            ·
              exact absurd rfl g89
            ·
              refine L.yes rfl rfl ?_
              refine L.rd (rd_loadN tok rfl rfl rfl hbb9.cells rfl) rfl ?_
              refine L.yes rfl rfl ?_
              refine L.rd (rd_loadN tok rfl rfl rfl hbd9.cells rfl) rfl ?_
              refine L.yes rfl rfl ?_
              refine L.ef (e_call rfl (eqPoly_ok _ _ La9 Lc9 _ hTa9 hTc9 (p_sm hqa9 (fun q hq => (addP_ev [] hq).1))) rfl ?_)
              rintro _ we9 ⟨rfl, hee9⟩
              replace hE := hE.ext hee9
              replace hb := hb.ext hee9
              replace hT := hT.ext hee9
              replace hP := hP.ext hee9
              replace hbb9 := hbb9.ext hee9
              refine L.yes rfl rfl ?_
              first | refine L.rd (rd_not rfl) rfl ?_ | refine L.rd (rd_notB rfl) rfl ?_
              refine L.rd (rd_pickF rfl rfl) rfl ?_
              refine L.rd (rd_move rfl) rfl ?_
              first | refine L.partG rfl rfl (fun g95 => ?_) (fun g95 => ?_) | refine L.partGB rfl rfl (fun g95 => ?_) (fun g95 => ?_)
              ·
                exact absurd (hqa9.trans hqc9.symm) g95
              ·
                refine L.yes rfl rfl ?_
                refine L.rd (rd_loadN tok rfl rfl rfl hbb9.cells rfl) rfl ?_
                refine L.yes rfl rfl ?_
                refine L.rd (rd_move rfl) rfl ?_
                refine L.yes rfl rfl ?_
                refine L.rd (rd_move rfl) rfl ?_
                refine L.yes rfl rfl ?_
                first | refine L.rd (rd_not rfl) rfl ?_ | refine L.rd (rd_notB rfl) rfl ?_
                refine L.yes rfl rfl ?_
                refine L.ef (e_call rfl (okP_ok _ _ _ _ _ _ (fun h => by rw [(addP_can h).2]; rfl) (fun h => p_zero hqa9 h)) rfl ?_)
                rintro _ wf9 ⟨rfl, hef9⟩
                replace hE := hE.ext hef9
                replace hb := hb.ext hef9
                replace hT := hT.ext hef9
                replace hP := hP.ext hef9
                refine L.yes rfl rfl ?_
                first | refine L.rd (rd_not rfl) rfl ?_ | refine L.rd (rd_notB rfl) rfl ?_
                refine L.rd (rd_pickF rfl rfl) rfl ?_
                refine L.nil ?_
                refine X.sq ?_
                first | refine V.cond rfl (fun h102 => ?_) (fun h102 => ?_) | refine V.condB rfl (fun h102 => ?_) (fun h102 => ?_)
                ·
                  cases h102
                ·
                  refine V.skip ?_
                  refine X.sq ?_
                  refine V.seq ?_
                  refine V.region ?_
                  refine L.rd (rd_loadN tok rfl rfl rfl hb.cells rfl) rfl ?_
                  refine L.rd (rd_loadN tok rfl rfl rfl hb.cells rfl) rfl ?_
                  refine L.ef (e_call rfl (imul_ok _ _ Ls Ls _ hT hT hS hS hC hC) rfl ?_)
                  rintro _ wa13 ⟨va13, La13, rfl, hOa13, hqa13, hea13⟩
                  obtain ⟨aa13, ca13, rfl⟩ := own_form hOa13.top
                  have hTa13 := hOa13.tl
                  replace hE := hE.ext hea13
                  replace hb := hb.ext hea13
                  replace hT := hT.ext hea13
                  replace hP := hP.ext hea13
                  refine L.rd (rd_move rfl) rfl ?_
                  refine L.rd (rd_ext0 rfl) rfl ?_
                  refine L.rd (rd_ext1 rfl) rfl ?_
                  refine L.ef (e_alloc (cs := [_]) tok rfl rfl (by first | (simp only [size_addB, size_setB, size_drew]; rfl) | rfl) rfl ?_)
                  refine L.ef (e_store (vs := [_]) tok rfl rfl rfl rfl (by (repeat (first | assumption | (refine Bl.new' ?_ _ _; first | with_reducible rfl | (simp only [size_addB, size_setB, size_drew]; done)) | apply Bl.add | apply Bl.drew | (apply Bl.setNe; omega) | (refine Bl.set' ?_ _ _; (try simp only [size_addB, size_setB, size_drew]); omega)))) rfl (by simp [Value.oneCell']) (by simp) ?_)
                  refine L.rd (rd_assign rfl) rfl ?_
                  refine L.nil ?_
                  refine X.sq ?_
                  refine V.seq ?_
                  generalize hwb13 : setB _ _ _ _ = wb13
                  have heb13 := ext_of_new hwb13
                  have hbb13 : Bl wb13 wa13.heap.size 44 [.slice aa13 La13.length ca13] := bl_of_new hwb13
                  replace hE := hE.ext heb13
                  replace hb := hb.ext heb13
                  replace hT := hT.ext heb13
                  replace hP := hP.ext heb13
                  replace hTa13 := hTa13.ext heb13
                  refine V.region ?_
                  refine L.rd (rd_loadN tok rfl rfl rfl hb.cells rfl) rfl ?_
                  refine L.rd (rd_loadN tok rfl rfl rfl hb.cells rfl) rfl ?_
                  refine L.ef (e_call rfl (smul_ok _ _ Ls Ls _ hT hT hS hS hC hC) rfl ?_)
                  rintro _ wc13 ⟨vc13, Lc13, rfl, hOc13, hqc13, hec13⟩
                  obtain ⟨ac13, cc13, rfl⟩ := own_form hOc13.top
                  have hTc13 := hOc13.tl
                  replace hE := hE.ext hec13
                  replace hb := hb.ext hec13
                  replace hT := hT.ext hec13
                  replace hP := hP.ext hec13
                  replace hTa13 := hTa13.ext hec13
                  replace hbb13 := hbb13.ext hec13
                  refine L.rd (rd_move rfl) rfl ?_
                  refine L.rd (rd_ext0 rfl) rfl ?_
                  refine L.rd (rd_ext1 rfl) rfl ?_
                  refine L.ef (e_alloc (cs := [_]) tok rfl rfl (by first | (simp only [size_addB, size_setB, size_drew]; rfl) | rfl) rfl ?_)
                  refine L.ef (e_store (vs := [_]) tok rfl rfl rfl rfl (by (repeat (first | assumption | (refine Bl.new' ?_ _ _; first | with_reducible rfl | (simp only [size_addB, size_setB, size_drew]; done)) | apply Bl.add | apply Bl.drew | (apply Bl.setNe; omega) | (refine Bl.set' ?_ _ _; (try simp only [size_addB, size_setB, size_drew]); omega)))) rfl (by simp [Value.oneCell']) (by simp) ?_)
                  refine L.rd (rd_assign rfl) rfl ?_
                  refine L.nil ?_
                  refine X.sq ?_
                  refine V.seq ?_
                  refine V.seq ?_
                  generalize hwd13 : setB _ _ _ _ = wd13
                  have hed13 := ext_of_new hwd13
                  have hbd13 : Bl wd13 wc13.heap.size 44 [.slice ac13 Lc13.length cc13] := bl_of_new hwd13
                  replace hE := hE.ext hed13
                  replace hb := hb.ext hed13
                  replace hT := hT.ext hed13
                  replace hP := hP.ext hed13
                  replace hTa13 := hTa13.ext hed13
                  replace hbb13 := hbb13.ext hed13
                  replace hTc13 := hTc13.ext hed13
                  refine V.region ?_
                  refine L.rd (rd_move rfl) rfl ?_
                  refine L.rd (rd_move rfl) rfl ?_
                  refine L.rd (rd_neqB tok rfl rfl rfl rfl) rfl ?_
                  refine L.rd (rd_move rfl) rfl ?_
                  first | refine L.partG rfl rfl (fun g118 => ?_) (fun g118 => ?_) | refine L.partGB rfl rfl (fun g118 => ?_) (fun g118 => ?_)
                  ·
                    exact absurd rfl g118
                  ·
                    refine L.yes rfl rfl ?_
                    refine L.rd (rd_loadN tok rfl rfl rfl hbb13.cells rfl) rfl ?_
                    refine L.yes rfl rfl ?_
                    refine L.rd (rd_loadN tok rfl rfl rfl hbd13.cells rfl) rfl ?_
                    refine L.yes rfl rfl ?_
                    refine L.ef (e_call rfl (eqPoly_ok _ _ La13 Lc13 _ hTa13 hTc13 (p_sm hqa13 (fun q hq => (mulP_ev [] hq).1))) rfl ?_)
                    rintro _ we13 ⟨rfl, hee13⟩
                    replace hE := hE.ext hee13
                    replace hb := hb.ext hee13
                    replace hT := hT.ext hee13
                    replace hP := hP.ext hee13
                    replace hbb13 := hbb13.ext hee13
                    refine L.yes rfl rfl ?_
                    first | refine L.rd (rd_not rfl) rfl ?_ | refine L.rd (rd_notB rfl) rfl ?_
                    refine L.rd (rd_pickF rfl rfl) rfl ?_
                    refine L.rd (rd_move rfl) rfl ?_
                    first | refine L.partG rfl rfl (fun g124 => ?_) (fun g124 => ?_) | refine L.partGB rfl rfl (fun g124 => ?_) (fun g124 => ?_)
                    ·
                      exact absurd (hqa13.trans hqc13.symm) g124
                    ·
                      refine L.yes rfl rfl ?_
                      refine L.rd (rd_loadN tok rfl rfl rfl hbb13.cells rfl) rfl ?_
                      refine L.yes rfl rfl ?_
                      refine L.rd (rd_move rfl) rfl ?_
                      refine L.yes rfl rfl ?_
                      refine L.rd (rd_move rfl) rfl ?_
                      refine L.yes rfl rfl ?_
                      first | refine L.rd (rd_not rfl) rfl ?_ | refine L.rd (rd_notB rfl) rfl ?_
                      refine L.yes rfl rfl ?_
                      refine L.ef (e_call rfl (okP_ok _ _ _ _ _ _ (fun h => by rw [(mulP_can h).1]; rfl) (fun h => p_zero hqa13 h)) rfl ?_)
                      rintro _ wf13 ⟨rfl, hef13⟩
                      replace hE := hE.ext hef13
                      replace hb := hb.ext hef13
                      replace hT := hT.ext hef13
                      replace hP := hP.ext hef13
                      refine L.yes rfl rfl ?_
                      first | refine L.rd (rd_not rfl) rfl ?_ | refine L.rd (rd_notB rfl) rfl ?_
                      refine L.rd (rd_pickF rfl rfl) rfl ?_
                      refine L.nil ?_
                      refine X.sq ?_
                      first | refine V.cond rfl (fun h131 => ?_) (fun h131 => ?_) | refine V.condB rfl (fun h131 => ?_) (fun h131 => ?_)
                      ·
                        cases h131
                      ·
                        refine V.skip ?_
                        refine X.sq ?_
                        refine V.seq ?_
                        refine V.region ?_
                        refine L.rd (rd_loadN tok rfl rfl rfl hb.cells rfl) rfl ?_
                        refine L.rd (rd_move rfl) rfl ?_
                        refine L.ef (e_call rfl (ieval_ok _ _ Ls pt _ hT hS hP.rs) rfl ?_)
                        rintro _ w30 ⟨rfl, he30⟩
                        replace hE := hE.ext he30
                        replace hb := hb.ext he30
                        replace hT := hT.ext he30
                        replace hP := hP.ext he30
                        refine L.rd (rd_move rfl) rfl ?_
                        refine L.rd (rd_ext0 rfl) rfl ?_
                        refine L.rd (rd_ext1 rfl) rfl ?_
                        refine L.rd (rd_assign rfl) rfl ?_
                        refine L.rd (rd_assign rfl) rfl ?_
                        refine L.nil ?_
                        refine X.sq ?_
                        refine V.seq ?_
                        refine V.region ?_
                        refine L.rd (rd_loadN tok rfl rfl rfl hb.cells rfl) rfl ?_
                        refine L.rd (rd_move rfl) rfl ?_
                        refine L.ef (e_call rfl (seval_ok _ _ Ls pt _ hT hS hP.rs) rfl ?_)
                        rintro _ w31 ⟨rfl, he31⟩
                        replace hE := hE.ext he31
                        replace hb := hb.ext he31
                        replace hT := hT.ext he31
                        replace hP := hP.ext he31
                        refine L.rd (rd_move rfl) rfl ?_
                        refine L.rd (rd_ext0 rfl) rfl ?_
                        refine L.rd (rd_ext1 rfl) rfl ?_
                        refine L.rd (rd_assign rfl) rfl ?_
                        refine L.rd (rd_assign rfl) rfl ?_
                        refine L.nil ?_
                        refine X.sq ?_
                        refine V.seq ?_
                        refine V.seq ?_
                        refine V.cut (fun l w' => l = [(2, .int .i64 y), (3, .pointer (some ⟨w.heap.size, 0, none⟩)), (7, .bool (canon (pol Ls))), (8, .bool badv), (164, .bool false)] ∧ Ext w31.heap.size w31 w') ?_ ?_
                        ·
                          refine V.region ?_
                          refine L.rd (rd_move rfl) rfl ?_
                          refine L.rd (rd_move rfl) rfl ?_
                          refine L.rd (rd_neqB tok rfl rfl rfl rfl) rfl ?_
                          refine L.rd (rd_move rfl) rfl ?_
                          first | refine L.partG rfl rfl (fun g147 => ?_) (fun g147 => ?_) | refine L.partGB rfl rfl (fun g147 => ?_) (fun g147 => ?_)
                          ·
                            exact absurd rfl g147
                          ·
                            refine L.yes rfl rfl ?_
                            refine L.rd (rd_move rfl) rfl ?_
                            refine L.yes rfl rfl ?_
                            refine L.rd (rd_move rfl) rfl ?_
                            refine L.yes rfl rfl ?_
                            refine L.rd (rd_neq rfl rfl) rfl ?_
                            refine L.rd (rd_pickF rfl rfl) rfl ?_
                            refine L.rd (rd_move rfl) rfl ?_
                            first | refine L.partG rfl rfl (fun g152 => ?_) (fun g152 => ?_) | refine L.partGB rfl rfl (fun g152 => ?_) (fun g152 => ?_)
                            ·
                              exact absurd rfl g152
                            ·
                              refine L.yes rfl rfl ?_
                              refine L.rd (rd_move rfl) rfl ?_
                              refine L.yes rfl rfl ?_
                              refine L.rd (rd_move rfl) rfl ?_
                              refine L.yes rfl rfl ?_
                              refine L.rd (rd_move rfl) rfl ?_
                              refine L.yes rfl rfl ?_
                              first | refine L.rd (rd_not rfl) rfl ?_ | refine L.rd (rd_notB rfl) rfl ?_
                              refine L.yes rfl rfl ?_
                              refine L.rd (rd_move rfl) rfl ?_
                              first | refine L.partG rfl rfl (fun g157 => ?_) (fun g157 => ?_) | refine L.partGB rfl rfl (fun g157 => ?_) (fun g157 => ?_)
                              ·
                                refine L.no rfl rfl rfl rfl ?_
                                refine L.no rfl rfl rfl rfl ?_
                                refine L.no rfl rfl rfl rfl ?_
                                refine L.yes rfl rfl ?_
                                refine L.rd (rd_pickT rfl rfl) rfl ?_
                                refine L.yes rfl rfl ?_
                                refine L.ef (e_call rfl (okI_ok _ _ _ _ (fun h => by have := ev_ok h; first | exact decide_eq_false (by omega) | (exfalso; simp [this.1] at g157)) (fun h => if_neg (by rw [h]; simp))) rfl ?_)
                                rintro _ w32 ⟨rfl, he32⟩
                                refine L.yes rfl rfl ?_
                                first | refine L.rd (rd_not rfl) rfl ?_ | refine L.rd (rd_notB rfl) rfl ?_
                                refine L.rd (rd_pickF rfl rfl) rfl ?_
                                refine L.nil ?_
                                exact X.ct ⟨_, (by repeat' (first | exact trivial | refine ⟨rfl, ?_⟩)), rfl, he32⟩
                              ·
                                refine L.yes rfl rfl ?_
                                refine L.rd (rd_move rfl) rfl ?_
                                refine L.yes rfl rfl ?_
                                refine L.rd (rd_lenSlice tok rfl rfl rfl) rfl ?_
                                refine L.yes rfl rfl ?_
                                refine L.rd (rd_neq rfl rfl) rfl ?_
                                refine L.yes rfl rfl ?_
                                refine L.rd (rd_pickF rfl rfl) rfl ?_
                                refine L.yes rfl rfl ?_
                                refine L.ef (e_call rfl (okI_ok _ _ _ _ (fun h => by have := ev_ok h; first | exact decide_eq_false (by omega) | (exfalso; simp [this.1] at g157)) (fun h => if_neg (by rw [h]; simp))) rfl ?_)
                                rintro _ w32 ⟨rfl, he32⟩
                                refine L.yes rfl rfl ?_
                                first | refine L.rd (rd_not rfl) rfl ?_ | refine L.rd (rd_notB rfl) rfl ?_
                                refine L.rd (rd_pickF rfl rfl) rfl ?_
                                refine L.nil ?_
                                exact X.ct ⟨_, (by repeat' (first | exact trivial | refine ⟨rfl, ?_⟩)), rfl, he32⟩
                        ·
                          rintro l w32 ⟨rfl, he32⟩
                          replace hE := hE.ext he32
                          replace hb := hb.ext he32
                          replace hT := hT.ext he32
                          replace hP := hP.ext he32
                          refine X.sq ?_
                          first | refine V.cond rfl (fun h164 => ?_) (fun h164 => ?_) | refine V.condB rfl (fun h164 => ?_) (fun h164 => ?_)
                          ·
                            cases h164
                          ·
                            refine V.skip ?_
                            refine X.sq ?_
                            refine V.seq ?_
                            refine V.region ?_
                            refine L.rd (rd_loadN tok rfl rfl rfl hb.cells rfl) rfl ?_
                            refine L.rd (rd_move rfl) rfl ?_
                            refine L.ef (e_call rfl (idiffP_ok _ Ls y _ hT hS) rfl ?_)
                            rintro _ wa21 ⟨va21, La21, rfl, hOa21, hqa21, hea21⟩
                            obtain ⟨aa21, ca21, rfl⟩ := own_form hOa21.top
                            have hTa21 := hOa21.tl
                            replace hE := hE.ext hea21
                            replace hb := hb.ext hea21
                            replace hT := hT.ext hea21
                            replace hP := hP.ext hea21
                            refine L.rd (rd_move rfl) rfl ?_
                            refine L.rd (rd_ext0 rfl) rfl ?_
                            refine L.rd (rd_ext1 rfl) rfl ?_
                            refine L.ef (e_alloc (cs := [_]) tok rfl rfl (by first | (simp only [size_addB, size_setB, size_drew]; rfl) | rfl) rfl ?_)
                            refine L.ef (e_store (vs := [_]) tok rfl rfl rfl rfl (by (repeat (first | assumption | (refine Bl.new' ?_ _ _; first | with_reducible rfl | (simp only [size_addB, size_setB, size_drew]; done)) | apply Bl.add | apply Bl.drew | (apply Bl.setNe; omega) | (refine Bl.set' ?_ _ _; (try simp only [size_addB, size_setB, size_drew]); omega)))) rfl (by simp [Value.oneCell']) (by simp) ?_)
                            refine L.rd (rd_assign rfl) rfl ?_
                            refine L.nil ?_
                            refine X.sq ?_
                            refine V.seq ?_
                            generalize hwb21 : setB _ _ _ _ = wb21
                            have heb21 := ext_of_new hwb21
                            have hbb21 : Bl wb21 wa21.heap.size 44 [.slice aa21 La21.length ca21] := bl_of_new hwb21
                            replace hE := hE.ext heb21
                            replace hb := hb.ext heb21
                            replace hT := hT.ext heb21
                            replace hP := hP.ext heb21
                            replace hTa21 := hTa21.ext heb21
                            refine V.region ?_
                            refine L.rd (rd_loadN tok rfl rfl rfl hb.cells rfl) rfl ?_
                            refine L.rd (rd_move rfl) rfl ?_
                            refine L.ef (e_call rfl (sdiffP_ok _ Ls y _ hT hS) rfl ?_)
                            rintro _ wc21 ⟨vc21, Lc21, rfl, hOc21, hqc21, hec21⟩
                            obtain ⟨ac21, cc21, rfl⟩ := own_form hOc21.top
                            have hTc21 := hOc21.tl
                            replace hE := hE.ext hec21
                            replace hb := hb.ext hec21
                            replace hT := hT.ext hec21
                            replace hP := hP.ext hec21
                            replace hTa21 := hTa21.ext hec21
                            replace hbb21 := hbb21.ext hec21
                            refine L.rd (rd_move rfl) rfl ?_
                            refine L.rd (rd_ext0 rfl) rfl ?_
                            refine L.rd (rd_ext1 rfl) rfl ?_
                            refine L.ef (e_alloc (cs := [_]) tok rfl rfl (by first | (simp only [size_addB, size_setB, size_drew]; rfl) | rfl) rfl ?_)
                            refine L.ef (e_store (vs := [_]) tok rfl rfl rfl rfl (by (repeat (first | assumption | (refine Bl.new' ?_ _ _; first | with_reducible rfl | (simp only [size_addB, size_setB, size_drew]; done)) | apply Bl.add | apply Bl.drew | (apply Bl.setNe; omega) | (refine Bl.set' ?_ _ _; (try simp only [size_addB, size_setB, size_drew]); omega)))) rfl (by simp [Value.oneCell']) (by simp) ?_)
                            generalize hwd21 : setB _ _ _ _ = wd21
                            have hed21 := ext_of_new hwd21
                            have hbd21 : Bl wd21 wc21.heap.size 44 [.slice ac21 Lc21.length cc21] := bl_of_new hwd21
                            replace hE := hE.ext hed21
                            replace hb := hb.ext hed21
                            replace hT := hT.ext hed21
                            replace hP := hP.ext hed21
                            replace hTa21 := hTa21.ext hed21
                            replace hbb21 := hbb21.ext hed21
                            replace hTc21 := hTc21.ext hed21
                            refine L.rd (rd_assign rfl) rfl ?_
                            refine L.nil ?_
                            refine X.sq ?_
                            refine V.seq ?_
                            refine V.seq ?_
                            refine V.cut (fun l w' => l = [(3, .pointer (some ⟨w.heap.size, 0, none⟩)), (7, .bool (canon (pol Ls))), (196, .bool false)] ∧ Ext wd21.heap.size wd21 w') ?_ ?_
                            ·
                              refine V.region ?_
                              refine L.rd (rd_move rfl) rfl ?_
                              refine L.rd (rd_move rfl) rfl ?_
                              refine L.rd (rd_neqB tok rfl rfl rfl rfl) rfl ?_
                              refine L.rd (rd_move rfl) rfl ?_
                              first | refine L.partG rfl rfl (fun g180 => ?_) (fun g180 => ?_) | refine L.partGB rfl rfl (fun g180 => ?_) (fun g180 => ?_)
                              ·
                                exact absurd rfl g180
                              ·
                                refine L.yes rfl rfl ?_
                                refine L.rd (rd_loadN tok rfl rfl rfl hbb21.cells rfl) rfl ?_
                                refine L.yes rfl rfl ?_
                                refine L.rd (rd_loadN tok rfl rfl rfl hbd21.cells rfl) rfl ?_
                                refine L.yes rfl rfl ?_
                                refine L.ef (e_call rfl (eqPoly_ok _ _ La21 Lc21 _ hTa21 hTc21 (p_sm hqa21 (fun q hq => difP_canon hq))) rfl ?_)
                                rintro _ we21 ⟨rfl, hee21⟩
                                replace hbb21 := hbb21.ext hee21
                                refine L.yes rfl rfl ?_
                                first | refine L.rd (rd_not rfl) rfl ?_ | refine L.rd (rd_notB rfl) rfl ?_
                                refine L.rd (rd_pickF rfl rfl) rfl ?_
                                refine L.rd (rd_move rfl) rfl ?_
                                first | refine L.partG rfl rfl (fun g186 => ?_) (fun g186 => ?_) | refine L.partGB rfl rfl (fun g186 => ?_) (fun g186 => ?_)
                                ·
                                  exact absurd (hqa21.trans hqc21.symm) g186
                                ·
                                  refine L.yes rfl rfl ?_
                                  refine L.rd (rd_loadN tok rfl rfl rfl hbb21.cells rfl) rfl ?_
                                  refine L.yes rfl rfl ?_
                                  refine L.rd (rd_move rfl) rfl ?_
                                  refine L.yes rfl rfl ?_
                                  refine L.rd (rd_move rfl) rfl ?_
                                  refine L.yes rfl rfl ?_
                                  first | refine L.rd (rd_not rfl) rfl ?_ | refine L.rd (rd_notB rfl) rfl ?_
                                  refine L.yes rfl rfl ?_
                                  refine L.rd (rd_move rfl) rfl ?_
                                  first | refine L.partG rfl rfl (fun g191 => ?_) (fun g191 => ?_) | refine L.partGB rfl rfl (fun g191 => ?_) (fun g191 => ?_)
                                  ·
                                    refine L.no rfl rfl rfl rfl ?_
                                    refine L.yes rfl rfl ?_
                                    refine L.rd (rd_pickT rfl rfl) rfl ?_
                                    refine L.yes rfl rfl ?_
                                    refine L.ef (e_call rfl (okP_ok _ _ _ _ _ _ (fun h => by have := difP_can h; first | exact hbv this.2 | (exfalso; simp [this.1] at g191)) (fun h => p_zero hqa21 h)) rfl ?_)
                                    rintro _ wf21 ⟨rfl, hef21⟩
                                    refine L.yes rfl rfl ?_
                                    first | refine L.rd (rd_not rfl) rfl ?_ | refine L.rd (rd_notB rfl) rfl ?_
                                    refine L.rd (rd_pickF rfl rfl) rfl ?_
                                    refine L.nil ?_
                                    exact X.ct ⟨_, (by repeat' (first | exact trivial | refine ⟨rfl, ?_⟩)), rfl, hee21.next hef21⟩
                                  ·
                                    refine L.yes rfl rfl ?_
                                    refine L.rd (rd_move rfl) rfl ?_
                                    refine L.yes rfl rfl ?_
                                    refine L.rd (rd_pickF rfl rfl) rfl ?_
                                    refine L.yes rfl rfl ?_
                                    refine L.ef (e_call rfl (okP_ok _ _ _ _ _ _ (fun h => by have := difP_can h; first | exact hbv this.2 | (exfalso; simp [this.1] at g191)) (fun h => p_zero hqa21 h)) rfl ?_)
                                    rintro _ wf21 ⟨rfl, hef21⟩
                                    refine L.yes rfl rfl ?_
                                    first | refine L.rd (rd_not rfl) rfl ?_ | refine L.rd (rd_notB rfl) rfl ?_
                                    refine L.rd (rd_pickF rfl rfl) rfl ?_
                                    refine L.nil ?_
                                    exact X.ct ⟨_, (by repeat' (first | exact trivial | refine ⟨rfl, ?_⟩)), rfl, hee21.next hef21⟩
                            ·
                              rintro l wf21 ⟨rfl, hef21⟩
                              replace hE := hE.ext hef21
                              replace hb := hb.ext hef21
                              replace hT := hT.ext hef21
                              refine X.sq ?_
                              first | refine V.cond rfl (fun h196 => ?_) (fun h196 => ?_) | refine V.condB rfl (fun h196 => ?_) (fun h196 => ?_)
                              ·
                                cases h196
                              ·
                                refine V.skip ?_
                                refine X.sq ?_
                                refine V.seq ?_
                                refine V.region ?_
                                refine L.rd (rd_loadN tok rfl rfl rfl hb.cells rfl) rfl ?_
                                refine L.ef (e_call rfl (iprint_ok _ Ls _ hT hS) rfl ?_)
                                rintro _ w40 ⟨rfl, he40⟩
                                replace hE := hE.ext he40
                                replace hb := hb.ext he40
                                replace hT := hT.ext he40
                                refine L.rd (rd_move rfl) rfl ?_
                                refine L.rd (rd_ext0 rfl) rfl ?_
                                refine L.rd (rd_ext1 rfl) rfl ?_
                                refine L.rd (rd_assign rfl) rfl ?_
                                refine L.rd (rd_assign rfl) rfl ?_
                                refine L.nil ?_
                                refine X.sq ?_
                                refine V.seq ?_
                                refine V.region ?_
                                refine L.rd (rd_loadN tok rfl rfl rfl hb.cells rfl) rfl ?_
                                refine L.ef (e_call rfl (sprint_ok _ Ls _ hT hS) rfl ?_)
                                rintro _ w41 ⟨rfl, he41⟩
                                replace hE := hE.ext he41
                                refine L.rd (rd_move rfl) rfl ?_
                                refine L.rd (rd_ext0 rfl) rfl ?_
                                refine L.rd (rd_ext1 rfl) rfl ?_
                                refine L.rd (rd_assign rfl) rfl ?_
                                refine L.rd (rd_assign rfl) rfl ?_
                                refine L.nil ?_
                                refine X.sq ?_
                                refine V.seq ?_
                                refine V.region ?_
                                refine L.rd (rd_move rfl) rfl ?_
                                refine L.rd (rd_move rfl) rfl ?_
                                refine L.rd (rd_eqlB tok rfl rfl rfl rfl) rfl ?_
                                refine L.rd (rd_move rfl) rfl ?_
                                first | refine L.partG rfl rfl (fun g210 => ?_) (fun g210 => ?_) | refine L.partGB rfl rfl (fun g210 => ?_) (fun g210 => ?_)
                                ·
                                  refine L.yes rfl rfl ?_
                                  refine L.rd (rd_move rfl) rfl ?_
                                  refine L.yes rfl rfl ?_
                                  refine L.rd (rd_move rfl) rfl ?_
                                  refine L.yes rfl rfl ?_
                                  refine L.rd (rd_eqlS rfl rfl) rfl ?_
                                  refine L.rd (rd_pickT rfl rfl) rfl ?_
                                  refine L.rd (rd_move rfl) rfl ?_
                                  first | refine L.partG rfl rfl (fun g215 => ?_) (fun g215 => ?_) | refine L.partGB rfl rfl (fun g215 => ?_) (fun g215 => ?_)
                                  ·
                                    refine L.yes rfl rfl ?_
                                    refine L.rd (rd_move rfl) rfl ?_
                                    refine L.yes rfl rfl ?_
                                    refine L.rd (rd_move rfl) rfl ?_
                                    refine L.yes rfl rfl ?_
                                    refine L.rd (rd_move rfl) rfl ?_
                                    refine L.yes rfl rfl ?_
                                    first | refine L.rd (rd_not rfl) rfl ?_ | refine L.rd (rd_notB rfl) rfl ?_
                                    refine L.yes rfl rfl ?_
                                    refine L.ef (e_call rfl (okS_ok _ _ _ _ (fun h => by rw [h]; rfl) (fun h => by rw [h]; rfl)) rfl ?_)
                                    rintro _ w42 ⟨rfl, he42⟩
                                    refine L.rd (rd_pickT rfl rfl) rfl ?_
                                    refine L.rd (rd_assign rfl) rfl ?_
                                    refine L.nil ?_
                                    refine X.sq ?_
                                    refine V.ret ?_
                                    refine ret_1 Yaam.results23 rfl ?_
                                    exact ⟨rfl, hE.next he42⟩
                                  ·
                                    simp at g215
                                ·
                                  exact absurd rfl g210
end Go.Proofs.YbxaawGreat
