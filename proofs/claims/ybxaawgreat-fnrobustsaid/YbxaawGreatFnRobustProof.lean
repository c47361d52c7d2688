/-
  The statement FnRobustSaid.
-/
import Derived.Test.YbxaawGreatRows
import Derived.Test.YbxaawGreatBytP
import Derived.Test.YbxaawGreatMutW
import Derived.Test.YbxaawGreatDtermW
import Derived.Test.YbxaawGreatRpolyW
import Derived.Test.YbxaawGreatEqToks
import Derived.Test.YbxaawGreatNmW
import Derived.Test.YbxaawGreatNmW2
import Derived.Test.YbxaawGreatS4W
import Derived.WalkKit
import Derived.ProofKit
import Derived.SizedLaws
set_option linter.unusedVariables false
set_option linter.unusedSimpArgs false
set_option maxRecDepth 10000
set_option maxHeartbeats 4000000
namespace Go.Mw
theorem norm_some {q p : List PT} (h : p = (normP q).getD []) (hs : (normP q).isSome = true) : canon p = true ∧ Cq p := by
  obtain ⟨r, hr⟩ := Option.isSome_iff_exists.1 hs
  rw [hr, Option.getD_some] at h
  subst h
  obtain ⟨-, h1, -, h2⟩ := normP_good hr
  exact ⟨h1, h2⟩
theorem der_rng' {y : Int} {l : List Nat} (h : (derP y l).isSome = true) : 0 ≤ y ∧ y ≤ 25 := by
  unfold derP at h
  cases hs : srcP l with
  | none => rw [hs] at h; cases h
  | some t =>
    rw [hs, Option.bind_some] at h
    cases hd : difT y (cn t) with
    | none => rw [hd] at h; cases h
    | some d => exact dif_rng (by rw [hd]; rfl)
theorem tx_none' {o : Option (List Nat)} (h : o.isSome = false) : mkS (o.getD []) = mkS [] := by
  cases o with
  | none => rfl
  | some x => cases h
theorem getD_nil {α : Type} {o : Option (List α)} (h : o.isSome = false) : o.getD [] = [] := by
  cases o with
  | none => rfl
  | some x => cases h
end Go.Mw
namespace Go.Proofs.YbxaawGreat.fnRobust
open Go.Mw Lexp

theorem law (bv : Value) (bs : List Nat) (w : World) (hD : Dat bv bs) (hB : Rr w 0 w.heap.size 1 bv bs.length (bC bs)) (hl : ∀ c ∈ bs, c < 256) (hlb : bs.length ≤ reachBytes) :
    Ret Yaam.prog 3 [bv] w fun v w' => v = .bool true ∧ Ext w.heap.size w w' := by
  obtain ⟨ba, bc, rfl, hfb⟩ := id hB.form
  refine enter1 Yaam.func3 Yaam.ntmps3 (by kernel_rfl) rfl rfl ?_
  refine V.seq ?_
  refine V.region ?_
  refine L.rd (rd_assign rfl) rfl ?_
  refine L.nil ?_
  refine X.sq ?_
  refine V.seq ?_
  refine V.seq ?_
  have hE := Ext.refl w.heap.size w
  refine V.region ?_
  refine L.rd (rd_move rfl) rfl ?_
  refine L.rd (rd_lenSlice tok rfl rfl rfl) rfl ?_
  refine L.rd (rd_gtr rfl rfl) rfl ?_
  refine L.nil ?_
  refine X.sq ?_
  first | refine V.cond rfl (fun h40 => ?_) (fun h40 => ?_) | refine V.condB rfl (fun h40 => ?_) (fun h40 => ?_)
  ·
    refine V.seq ?_
    refine V.region ?_
    refine L.rd (rd_assign rfl) rfl ?_
    refine L.nil ?_
    refine X.sq ?_
    refine V.ret ?_
    refine X.sqRet ?_
    refine ret_1 Yaam.results3 rfl ?_
    exact ⟨rfl, hE⟩
  ·
    refine V.skip ?_
    refine X.sq ?_
    refine V.seq ?_
    have hs : bs.length ≤ 1048576 := by omega
    refine V.region ?_
    refine L.rd (rd_move rfl) rfl ?_
    refine L.ef (e_call rfl (decLex_ok _ bs _ hB hl hs) rfl ?_)
    rintro _ w1 ⟨src, rfl, hsrc, he1⟩
    replace hB := (hB.ext he1).wide (Nat.le_refl _) he1.size
    replace hE := hE.ext he1
    refine L.rd (rd_assign rfl) rfl ?_
    refine L.nil ?_
    refine X.sq ?_
    refine V.seq ?_
    refine V.region ?_
    refine L.rd (rd_move rfl) rfl ?_
    refine L.ef (e_call rfl (decPt_ok _ bs _ hB hl hs) rfl ?_)
    rintro pv w2 ⟨pt, hP, hpw, he2⟩
    obtain ⟨pa, pc, rfl, hfp⟩ := id hP.form
    replace hB := (hB.ext he2).wide (Nat.le_refl _) he2.size
    replace hE := hE.ext he2
    refine L.rd (rd_assign rfl) rfl ?_
    refine L.nil ?_
    refine X.sq ?_
    refine V.seq ?_
    refine V.region ?_
    refine L.rd (rd_move rfl) rfl ?_
    refine L.ef (e_call rfl (decVar_ok _ bs _ hB hl hs) rfl ?_)
    rintro _ w3 ⟨y, rfl, he3⟩
    replace hB := (hB.ext he3).wide (Nat.le_refl _) he3.size
    replace hE := hE.ext he3
    replace hP := hP.ext he3
    refine L.rd (rd_assign rfl) rfl ?_
    refine L.nil ?_
    refine X.sq ?_
    refine V.seq ?_
    refine V.cut (fun l w' => ∃ b : Bool, l = [(0, .slice ba bs.length bc), (3, .string src), (4, .slice pa pt.length pc), (5, .int .i64 y), (6, .bool b)] ∧ (0 ≤ y ∧ y ≤ 25 → b = false) ∧ w3 = w') ?_ ?_
    ·
      refine V.region ?_
      refine L.rd (rd_move rfl) rfl ?_
      refine L.rd (rd_lss rfl rfl) rfl ?_
      refine L.rd (rd_move rfl) rfl ?_
      first | refine L.partG rfl rfl (fun g49 => ?_) (fun g49 => ?_) | refine L.partGB rfl rfl (fun g49 => ?_) (fun g49 => ?_)
      ·
        refine L.no rfl rfl rfl rfl ?_
        refine L.no rfl rfl rfl rfl ?_
        refine L.rd (rd_pickT rfl rfl) rfl ?_
        refine L.rd (rd_assign rfl) rfl ?_
        refine L.nil ?_
        exact X.ct ⟨_, (by repeat' (first | exact trivial | refine ⟨rfl, ?_⟩)), _, rfl, fun hy => by first | (exfalso; omega) | exact decide_eq_false (by omega), rfl⟩
      ·
        refine L.yes rfl rfl ?_
        refine L.rd (rd_move rfl) rfl ?_
        refine L.yes rfl rfl ?_
        refine L.rd (rd_geq rfl rfl) rfl ?_
        refine L.rd (rd_pickF rfl rfl) rfl ?_
        refine L.rd (rd_assign rfl) rfl ?_
        refine L.nil ?_
        exact X.ct ⟨_, (by repeat' (first | exact trivial | refine ⟨rfl, ?_⟩)), _, rfl, fun hy => by first | (exfalso; omega) | exact decide_eq_false (by omega), rfl⟩
    ·
      rintro l w' ⟨badv, rfl, hbv, rfl⟩
      have hll := lexR_len2 (bl src)
      refine X.sq ?_
      refine V.seq ?_
      refine V.region ?_
      refine L.rd (rd_move rfl) rfl ?_
      refine L.ef (e_call rfl (ilex_ok src _ (by omega)) rfl ?_)
      rintro _ w4 ⟨sv4, rfl, ho4, he4⟩
      obtain ⟨sa4, sn4, rfl⟩ := slice_form ho4
      replace hB := (hB.ext he4).wide (Nat.le_refl _) he4.size
      replace hE := hE.ext he4
      replace hP := hP.ext he4
      refine L.rd (rd_move rfl) rfl ?_
      refine L.rd (rd_ext0 rfl) rfl ?_
      refine L.rd (rd_ext1 rfl) rfl ?_
      refine L.rd (rd_assign rfl) rfl ?_
      refine L.rd (rd_assign rfl) rfl ?_
      refine L.nil ?_
      refine X.sq ?_
      refine V.seq ?_
      refine V.region ?_
      refine L.rd (rd_move rfl) rfl ?_
      refine L.ef (e_call rfl (slex_ok src _ (by omega)) rfl ?_)
      rintro _ w5 ⟨sv5, rfl, ho5, he5⟩
      obtain ⟨sa5, sn5, rfl⟩ := slice_form ho5
      replace hB := (hB.ext he5).wide (Nat.le_refl _) he5.size
      replace hE := hE.ext he5
      replace hP := hP.ext he5
      refine L.rd (rd_move rfl) rfl ?_
      refine L.rd (rd_ext0 rfl) rfl ?_
      refine L.rd (rd_ext1 rfl) rfl ?_
      refine L.rd (rd_assign rfl) rfl ?_
      refine L.rd (rd_assign rfl) rfl ?_
      refine L.nil ?_
      refine X.sq ?_
      refine V.seq ?_
      refine V.seq ?_
      refine V.cut (fun l w' => ∃ b : Bool, l = [(0, .slice ba bs.length bc), (3, .string src), (4, .slice pa pt.length pc), (5, .int .i64 y), (6, .bool badv), (80, .bool b)] ∧ b = false ∧ Ext w5.heap.size w5 w') ?_ ?_
      ·
        refine V.region ?_
        refine L.rd (rd_move rfl) rfl ?_
        refine L.rd (rd_move rfl) rfl ?_
        refine L.rd (rd_neqB tok rfl rfl rfl rfl) rfl ?_
        refine L.rd (rd_move rfl) rfl ?_
        first | refine L.partG rfl rfl (fun g66 => ?_) (fun g66 => ?_) | refine L.partGB rfl rfl (fun g66 => ?_) (fun g66 => ?_)
        ·
          exact absurd rfl g66
        ·
          refine L.yes rfl rfl ?_
          refine L.rd (rd_move rfl) rfl ?_
          refine L.yes rfl rfl ?_
          refine L.rd (rd_move rfl) rfl ?_
          refine L.yes rfl rfl ?_
          refine L.ef (e_call rfl (eqToks_ok _ _ _ _ _ ((Rs.of_own ho4).le he5.leC) (Rs.of_own ho5) (by omega)) rfl ?_)
          rintro _ w6 ⟨rfl, he6⟩
          refine L.yes rfl rfl ?_
          first | refine L.rd (rd_not rfl) rfl ?_ | refine L.rd (rd_notB rfl) rfl ?_
          refine L.rd (rd_pickF rfl rfl) rfl ?_
          refine L.rd (rd_move rfl) rfl ?_
          first | refine L.partG rfl rfl (fun g72 => ?_) (fun g72 => ?_) | refine L.partGB rfl rfl (fun g72 => ?_) (fun g72 => ?_)
          ·
            exact absurd rfl g72
          ·
            refine L.yes rfl rfl ?_
            refine L.rd (rd_move rfl) rfl ?_
            refine L.yes rfl rfl ?_
            first | refine L.rd (rd_not rfl) rfl ?_ | refine L.rd (rd_notB rfl) rfl ?_
            refine L.yes rfl rfl ?_
            refine L.rd (rd_move rfl) rfl ?_
            first | refine L.partG rfl rfl (fun g75 => ?_) (fun g75 => ?_) | refine L.partGB rfl rfl (fun g75 => ?_) (fun g75 => ?_)
            ·
              refine L.yes rfl rfl ?_
              refine L.rd (rd_move rfl) rfl ?_
              refine L.yes rfl rfl ?_
              refine L.rd (rd_lenSlice tok rfl rfl rfl) rfl ?_
              refine L.yes rfl rfl ?_
              refine L.rd (rd_neq rfl rfl) rfl ?_
              refine L.yes rfl rfl ?_
              refine L.rd (rd_pickT rfl rfl) rfl ?_
              refine L.rd (rd_pickF rfl rfl) rfl ?_
              refine L.nil ?_
              exact X.ct ⟨_, (by repeat' (first | exact trivial | refine ⟨rfl, ?_⟩)), _, rfl, by first | rfl | exact decide_eq_false (by rw [getD_nil (o := lex (bl src)) (by simpa using g75)]; simp), he6⟩
            ·
              refine L.no rfl rfl rfl rfl ?_
              refine L.no rfl rfl rfl rfl ?_
              refine L.no rfl rfl rfl rfl ?_
              refine L.yes rfl rfl ?_
              refine L.rd (rd_pickF rfl rfl) rfl ?_
              refine L.rd (rd_pickF rfl rfl) rfl ?_
              refine L.nil ?_
              exact X.ct ⟨_, (by repeat' (first | exact trivial | refine ⟨rfl, ?_⟩)), _, rfl, by first | rfl | exact decide_eq_false (by rw [getD_nil (o := lex (bl src)) (by simpa using g75)]; simp), he6⟩
      ·
        rintro l w6 ⟨b80, rfl, rfl, he6⟩
        replace hB := (hB.ext he6).wide (Nat.le_refl _) he6.size
        replace hE := hE.ext he6
        replace hP := hP.ext he6
        refine X.sq ?_
        first | refine V.cond rfl (fun h80 => ?_) (fun h80 => ?_) | refine V.condB rfl (fun h80 => ?_) (fun h80 => ?_)
        ·
          cases h80
        ·
          refine V.skip ?_
          refine X.sq ?_
          refine V.seq ?_
          refine V.region ?_
          refine L.rd (rd_move rfl) rfl ?_
          refine L.ef (e_call rfl (decTok_ok _ bs _ hD hB hl hs) rfl ?_)
          rintro tv w7 ⟨ts, hTk, he7⟩
          obtain ⟨ta, tc, rfl, hft⟩ := id hTk.form
          replace hB := (hB.ext he7).wide (Nat.le_refl _) he7.size
          replace hE := hE.ext he7
          replace hP := hP.ext he7
          replace hTk := hTk.wide (Nat.zero_le _) (Nat.le_refl _)
          refine L.rd (rd_assign rfl) rfl ?_
          refine L.nil ?_
          refine X.sq ?_
          refine V.seq ?_
          refine V.region ?_
          refine L.rd (rd_move rfl) rfl ?_
          refine L.ef (e_call rfl (iparse_ok _ ts _ hTk) rfl ?_)
          rintro _ w8 ⟨nv8, ns8, rt8, rfl, ho8, hs8, hn8, he8⟩
          obtain ⟨a8, c8, rfl⟩ := own_form ho8
          replace hB := (hB.ext he8).wide (Nat.le_refl _) he8.size
          replace hTk := (hTk.ext he8).wide (Nat.le_refl _) he8.size
          replace hE := hE.ext he8
          replace hP := hP.ext he8
          refine L.rd (rd_move rfl) rfl ?_
          refine L.rd (rd_ext0 rfl) rfl ?_
          refine L.rd (rd_ext1 rfl) rfl ?_
          refine L.ef (e_alloc (cs := [_, _]) tok rfl rfl (by first | (simp only [size_addB, size_setB, size_drew]; rfl) | rfl) rfl ?_)
          refine L.ef (e_store (vs := [_, _]) tok rfl rfl rfl rfl (by (repeat (first | assumption | (refine Bl.new' ?_ _ _; first | with_reducible rfl | (simp only [size_addB, size_setB, size_drew]; done)) | apply Bl.add | apply Bl.drew | (apply Bl.setNe; omega) | (refine Bl.set' ?_ _ _; (try simp only [size_addB, size_setB, size_drew]); omega)))) rfl (by simp [Value.oneCell']) (by simp) ?_)
          refine L.rd (rd_assign rfl) rfl ?_
          refine L.nil ?_
          refine X.sq ?_
          refine V.seq ?_
          generalize hw9 : setB _ _ _ _ = w9
          have he9 := ext_of_new hw9
          have hb9 : Bl w9 w8.heap.size 34 [.slice a8 ns8.length c8, .int .i64 rt8] := bl_of_new hw9
          have hR8 := (Rs.of_own ho8).le he9.leC
          replace hB := (hB.ext he9).wide (Nat.le_refl _) he9.size
          replace hTk := (hTk.ext he9).wide (Nat.le_refl _) he9.size
          replace hE := hE.ext he9
          replace hP := hP.ext he9
          refine V.region ?_
          refine L.rd (rd_move rfl) rfl ?_
          refine L.ef (e_call rfl (sparse_ok _ ts _ hTk) rfl ?_)
          rintro _ w10 ⟨nv10, ns10, rt10, rfl, ho10, hs10, hn10, he10⟩
          obtain ⟨a10, c10, rfl⟩ := own_form ho10
          replace hB := (hB.ext he10).wide (Nat.le_refl _) he10.size
          replace hR8 := hR8.le he10.leC
          replace hE := hE.ext he10
          replace hP := hP.ext he10
          replace hb9 := hb9.ext he10
          refine L.rd (rd_move rfl) rfl ?_
          refine L.rd (rd_ext0 rfl) rfl ?_
          refine L.rd (rd_ext1 rfl) rfl ?_
          refine L.ef (e_alloc (cs := [_, _]) tok rfl rfl (by first | (simp only [size_addB, size_setB, size_drew]; rfl) | rfl) rfl ?_)
          refine L.ef (e_store (vs := [_, _]) tok rfl rfl rfl rfl (by (repeat (first | assumption | (refine Bl.new' ?_ _ _; first | with_reducible rfl | (simp only [size_addB, size_setB, size_drew]; done)) | apply Bl.add | apply Bl.drew | (apply Bl.setNe; omega) | (refine Bl.set' ?_ _ _; (try simp only [size_addB, size_setB, size_drew]); omega)))) rfl (by simp [Value.oneCell']) (by simp) ?_)
          refine L.rd (rd_assign rfl) rfl ?_
          refine L.nil ?_
          refine X.sq ?_
          refine V.seq ?_
          refine V.seq ?_
          generalize hw11 : setB _ _ _ _ = w11
          have he11 := ext_of_new hw11
          have hb11 : Bl w11 w10.heap.size 34 [.slice a10 ns10.length c10, .int .i64 rt10] := bl_of_new hw11
          have hR10 := (Rs.of_own ho10).le he11.leC
          replace hB := (hB.ext he11).wide (Nat.le_refl _) he11.size
          replace hR8 := hR8.le he11.leC
          replace hE := hE.ext he11
          replace hP := hP.ext he11
          replace hb9 := hb9.ext he11
          have hsame := x_same hs8 hn8 hs10 hn10
          have hlen8 := x_len hs8 hn8 (fun t ht => (parse_wt ht).2.1)
          refine V.region ?_
          refine L.rd (rd_move rfl) rfl ?_
          refine L.rd (rd_move rfl) rfl ?_
          refine L.rd (rd_neqB tok rfl rfl rfl rfl) rfl ?_
          refine L.rd (rd_move rfl) rfl ?_
          first | refine L.partG rfl rfl (fun g96 => ?_) (fun g96 => ?_) | refine L.partGB rfl rfl (fun g96 => ?_) (fun g96 => ?_)
          ·
            exact absurd rfl g96
          ·
            refine L.yes rfl rfl ?_
            refine L.rd (rd_loadN tok rfl rfl rfl hb9.cells rfl) rfl ?_
            refine L.yes rfl rfl ?_
            refine L.rd (rd_loadN tok rfl rfl rfl hb11.cells rfl) rfl ?_
            refine L.yes rfl rfl ?_
            refine L.ef (e_call rfl (eqExpr_ok _ _ ns8 ns10 rt8 rt10 _ hR8 hR10 (by omega)) rfl ?_)
            rintro _ w12 ⟨rfl, he12⟩
            replace hB := (hB.ext he12).wide (Nat.le_refl _) he12.size
            replace hE := hE.ext he12
            replace hP := hP.ext he12
            replace hb9 := hb9.ext he12
            refine L.yes rfl rfl ?_
            first | refine L.rd (rd_not rfl) rfl ?_ | refine L.rd (rd_notB rfl) rfl ?_
            refine L.rd (rd_pickF rfl rfl) rfl ?_
            refine L.rd (rd_move rfl) rfl ?_
            first | refine L.partG rfl rfl (fun g102 => ?_) (fun g102 => ?_) | refine L.partGB rfl rfl (fun g102 => ?_) (fun g102 => ?_)
            ·
              exact absurd hsame g102
            ·
              refine L.yes rfl rfl ?_
              refine L.rd (rd_loadN tok rfl rfl rfl hb9.cells rfl) rfl ?_
              refine L.yes rfl rfl ?_
              refine L.rd (rd_move rfl) rfl ?_
              refine L.yes rfl rfl ?_
              refine L.rd (rd_move rfl) rfl ?_
              refine L.yes rfl rfl ?_
              refine L.rd (rd_lenSlice tok rfl rfl rfl) rfl ?_
              refine L.yes rfl rfl ?_
              refine L.rd (rd_eql rfl rfl) rfl ?_
              refine L.yes rfl rfl ?_
              refine L.ef (e_call rfl (okE_ok _ _ _ _ _ _ _ (fun h => by
                  obtain ⟨t, ht⟩ := Option.isSome_iff_exists.1 h
                  exact decide_eq_false (by have := (parse_wt ht).2.2; omega)) (fun h => x_zero hn8 h)) rfl ?_)
              rintro _ w13 ⟨rfl, he13⟩
              replace hB := (hB.ext he13).wide (Nat.le_refl _) he13.size
              replace hE := hE.ext he13
              replace hP := hP.ext he13
              refine L.yes rfl rfl ?_
              first | refine L.rd (rd_not rfl) rfl ?_ | refine L.rd (rd_notB rfl) rfl ?_
              refine L.rd (rd_pickF rfl rfl) rfl ?_
              refine L.nil ?_
              refine X.sq ?_
              first | refine V.cond rfl (fun h110 => ?_) (fun h110 => ?_) | refine V.condB rfl (fun h110 => ?_) (fun h110 => ?_)
              ·
                cases h110
              ·
                refine V.skip ?_
                refine X.sq ?_
                refine V.seq ?_
                refine V.seq ?_
                refine V.region ?_
                refine L.rd (rd_move rfl) rfl ?_
                refine L.ef (e_call rfl (decWild_ok _ bs _ hB hl hs) rfl ?_)
                rintro _ w14 ⟨nv14, ns14, rt14, rfl, hN14, hl14, hv14, he14⟩
                replace hB := (hB.ext he14).wide (Nat.le_refl _) he14.size
                replace hE := hE.ext he14
                replace hP := hP.ext he14
                refine L.rd (rd_move rfl) rfl ?_
                refine L.rd (rd_move rfl) rfl ?_
                refine L.ef (e_call rfl (robustTree_ok ns14 rt14 nv14 _ pt y _ hN14 hl14 hv14 hP.rs) rfl ?_)
                rintro _ w15 ⟨rfl, he15⟩
                replace hB := (hB.ext he15).wide (Nat.le_refl _) he15.size
                replace hE := hE.ext he15
                replace hP := hP.ext he15
                first | refine L.rd (rd_not rfl) rfl ?_ | refine L.rd (rd_notB rfl) rfl ?_
                refine L.nil ?_
                refine X.sq ?_
                first | refine V.cond rfl (fun h116 => ?_) (fun h116 => ?_) | refine V.condB rfl (fun h116 => ?_) (fun h116 => ?_)
                ·
                  cases h116
                ·
                  refine V.skip ?_
                  refine X.sq ?_
                  refine V.seq ?_
                  refine V.seq ?_
                  refine V.region ?_
                  refine L.rd (rd_move rfl) rfl ?_
                  refine L.ef (e_call rfl (decMut_ok _ bs _ hB hl hs) rfl ?_)
                  rintro _ w16 ⟨nv16, ns16, rt16, rfl, hN16, hl16, hv16, he16⟩
                  replace hB := (hB.ext he16).wide (Nat.le_refl _) he16.size
                  replace hE := hE.ext he16
                  replace hP := hP.ext he16
                  refine L.rd (rd_move rfl) rfl ?_
                  refine L.rd (rd_move rfl) rfl ?_
                  refine L.ef (e_call rfl (robustTree_ok ns16 rt16 nv16 _ pt y _ hN16 hl16 hv16 hP.rs) rfl ?_)
                  rintro _ w17 ⟨rfl, he17⟩
                  replace hB := (hB.ext he17).wide (Nat.le_refl _) he17.size
                  replace hE := hE.ext he17
                  replace hP := hP.ext he17
                  first | refine L.rd (rd_not rfl) rfl ?_ | refine L.rd (rd_notB rfl) rfl ?_
                  refine L.nil ?_
                  refine X.sq ?_
                  first | refine V.cond rfl (fun h122 => ?_) (fun h122 => ?_) | refine V.condB rfl (fun h122 => ?_) (fun h122 => ?_)
                  ·
                    cases h122
                  ·
                    refine V.skip ?_
                    refine X.sq ?_
                    refine V.seq ?_
                    refine V.region ?_
                    refine L.rd (rd_move rfl) rfl ?_
                    refine L.ef (e_call rfl (decTerms_ok _ bs _ hB hl hs) rfl ?_)
                    rintro vt w18 ⟨Ls, hT, hCq, hLl, hLf, he18⟩
                    obtain ⟨la, lc, rfl, -⟩ := id hT.form
                    replace hB := (hB.ext he18).wide (Nat.le_refl _) he18.size
                    replace hE := hE.ext he18
                    replace hP := hP.ext he18
                    have hSm : Sm (pol Ls) := ⟨by rw [pol_length]; omega, fun t ht => by
                      simp only [pol, List.mem_map] at ht
                      obtain ⟨u, hu, rfl⟩ := ht
                      have := hLf u hu
                      simp only []; omega⟩
                    refine L.rd (rd_assign rfl) rfl ?_
                    refine L.nil ?_
                    refine X.sq ?_
                    refine V.seq ?_
                    refine V.region ?_
                    refine L.rd (rd_move rfl) rfl ?_
                    refine L.ef (e_call rfl (inorm_ok _ Ls _ hT hCq) rfl ?_)
                    rintro _ w19 ⟨v19, L19, rfl, hO19, hq19, he19⟩
                    obtain ⟨a19, c19, rfl⟩ := own_form hO19.top
                    have hT19 := hO19.tl
                    replace hB := (hB.ext he19).wide (Nat.le_refl _) he19.size
                    replace hE := hE.ext he19
                    replace hP := hP.ext he19
                    replace hT := hT.ext he19
                    refine L.rd (rd_move rfl) rfl ?_
                    refine L.rd (rd_ext0 rfl) rfl ?_
                    refine L.rd (rd_ext1 rfl) rfl ?_
                    refine L.ef (e_alloc (cs := [_]) tok rfl rfl (by first | (simp only [size_addB, size_setB, size_drew]; rfl) | rfl) rfl ?_)
                    refine L.ef (e_store (vs := [_]) tok rfl rfl rfl rfl (by (repeat (first | assumption | (refine Bl.new' ?_ _ _; first | with_reducible rfl | (simp only [size_addB, size_setB, size_drew]; done)) | apply Bl.add | apply Bl.drew | (apply Bl.setNe; omega) | (refine Bl.set' ?_ _ _; (try simp only [size_addB, size_setB, size_drew]); omega)))) rfl (by simp [Value.oneCell']) (by simp) ?_)
                    refine L.rd (rd_assign rfl) rfl ?_
                    refine L.nil ?_
                    refine X.sq ?_
                    refine V.seq ?_
                    generalize hw20 : setB _ _ _ _ = w20
                    have he20 := ext_of_new hw20
                    have hb20 : Bl w20 w19.heap.size 44 [.slice a19 L19.length c19] := bl_of_new hw20
                    replace hB := (hB.ext he20).wide (Nat.le_refl _) he20.size
                    replace hE := hE.ext he20
                    replace hP := hP.ext he20
                    replace hT := hT.ext he20
                    replace hT19 := hT19.ext he20
                    refine V.region ?_
                    refine L.rd (rd_move rfl) rfl ?_
                    refine L.ef (e_call rfl (snorm_ok _ Ls _ hT hCq) rfl ?_)
                    rintro _ w21 ⟨v21, L21, rfl, hO21, hq21, he21⟩
                    obtain ⟨a21, c21, rfl⟩ := own_form hO21.top
                    have hT21 := hO21.tl
                    replace hB := (hB.ext he21).wide (Nat.le_refl _) he21.size
                    replace hE := hE.ext he21
                    replace hP := hP.ext he21
                    replace hT := hT.ext he21
                    replace hT19 := hT19.ext he21
                    replace hb20 := hb20.ext he21
                    refine L.rd (rd_move rfl) rfl ?_
                    refine L.rd (rd_ext0 rfl) rfl ?_
                    refine L.rd (rd_ext1 rfl) rfl ?_
                    refine L.ef (e_alloc (cs := [_]) tok rfl rfl (by first | (simp only [size_addB, size_setB, size_drew]; rfl) | rfl) rfl ?_)
                    refine L.ef (e_store (vs := [_]) tok rfl rfl rfl rfl (by (repeat (first | assumption | (refine Bl.new' ?_ _ _; first | with_reducible rfl | (simp only [size_addB, size_setB, size_drew]; done)) | apply Bl.add | apply Bl.drew | (apply Bl.setNe; omega) | (refine Bl.set' ?_ _ _; (try simp only [size_addB, size_setB, size_drew]); omega)))) rfl (by simp [Value.oneCell']) (by simp) ?_)
                    refine L.rd (rd_assign rfl) rfl ?_
                    refine L.nil ?_
                    refine X.sq ?_
                    refine V.seq ?_
                    refine V.seq ?_
                    generalize hw22 : setB _ _ _ _ = w22
                    have he22 := ext_of_new hw22
                    have hb22 : Bl w22 w21.heap.size 44 [.slice a21 L21.length c21] := bl_of_new hw22
                    replace hB := (hB.ext he22).wide (Nat.le_refl _) he22.size
                    replace hE := hE.ext he22
                    replace hP := hP.ext he22
                    replace hT := hT.ext he22
                    replace hT19 := hT19.ext he22
                    replace hb20 := hb20.ext he22
                    replace hT21 := hT21.ext he22
                    have hS19 := (norm_s4 hq19).sm
                    refine V.region ?_
                    refine L.rd (rd_move rfl) rfl ?_
                    refine L.rd (rd_move rfl) rfl ?_
                    refine L.rd (rd_neqB tok rfl rfl rfl rfl) rfl ?_
                    refine L.rd (rd_move rfl) rfl ?_
                    first | refine L.partG rfl rfl (fun g138 => ?_) (fun g138 => ?_) | refine L.partGB rfl rfl (fun g138 => ?_) (fun g138 => ?_)
                    ·
                      exact absurd rfl g138
                    ·
                      refine L.yes rfl rfl ?_
                      refine L.rd (rd_loadN tok rfl rfl rfl hb20.cells rfl) rfl ?_
                      refine L.yes rfl rfl ?_
                      refine L.rd (rd_loadN tok rfl rfl rfl hb22.cells rfl) rfl ?_
                      refine L.yes rfl rfl ?_
                      refine L.ef (e_call rfl (eqPoly_ok _ _ L19 L21 _ hT19 hT21 hS19) rfl ?_)
                      rintro _ w23 ⟨rfl, he23⟩
                      replace hB := (hB.ext he23).wide (Nat.le_refl _) he23.size
                      replace hE := hE.ext he23
                      replace hP := hP.ext he23
                      replace hT := hT.ext he23
                      replace hT19 := hT19.ext he23
                      replace hb20 := hb20.ext he23
                      refine L.yes rfl rfl ?_
                      first | refine L.rd (rd_not rfl) rfl ?_ | refine L.rd (rd_notB rfl) rfl ?_
                      refine L.rd (rd_pickF rfl rfl) rfl ?_
                      refine L.rd (rd_move rfl) rfl ?_
                      first | refine L.partG rfl rfl (fun g144 => ?_) (fun g144 => ?_) | refine L.partGB rfl rfl (fun g144 => ?_) (fun g144 => ?_)
                      ·
                        exact absurd (hq19.trans hq21.symm) g144
                      ·
                        refine L.yes rfl rfl ?_
                        refine L.rd (rd_loadN tok rfl rfl rfl hb20.cells rfl) rfl ?_
                        refine L.yes rfl rfl ?_
                        refine L.rd (rd_move rfl) rfl ?_
                        refine L.yes rfl rfl ?_
                        refine L.rd (rd_move rfl) rfl ?_
                        refine L.yes rfl rfl ?_
                        refine L.rd (rd_lenSlice tok rfl rfl rfl) rfl ?_
                        refine L.yes rfl rfl ?_
                        refine L.rd (rd_gtr rfl rfl) rfl ?_
                        refine L.yes rfl rfl ?_
                        refine L.ef (e_call rfl (okP_ok _ _ _ _ _ _ (fun h => by
                            obtain ⟨r, hr⟩ := Option.isSome_iff_exists.1 h
                            have := inOk_len (normP_good hr).1
                            rw [pol_length] at this
                            exact decide_eq_false (by omega)) (fun h => p_zero hq19 h)) rfl ?_)
                        rintro _ w24 ⟨rfl, he24⟩
                        replace hB := (hB.ext he24).wide (Nat.le_refl _) he24.size
                        replace hE := hE.ext he24
                        replace hP := hP.ext he24
                        replace hT := hT.ext he24
                        replace hT19 := hT19.ext he24
                        replace hb20 := hb20.ext he24
                        refine L.yes rfl rfl ?_
                        first | refine L.rd (rd_not rfl) rfl ?_ | refine L.rd (rd_notB rfl) rfl ?_
                        refine L.rd (rd_pickF rfl rfl) rfl ?_
                        refine L.nil ?_
                        refine X.sq ?_
                        first | refine V.cond rfl (fun h152 => ?_) (fun h152 => ?_) | refine V.condB rfl (fun h152 => ?_) (fun h152 => ?_)
                        ·
                          cases h152
                        ·
                          refine V.skip ?_
                          refine X.sq ?_
                          refine V.seq ?_
                          refine V.seq ?_
                          refine V.region ?_
                          refine L.rd (rd_move rfl) rfl ?_
                          refine L.rd (rd_build (out := [_]) tok rfl rfl rfl rfl rfl) rfl ?_
                          refine L.rd (rd_move rfl) rfl ?_
                          refine L.rd (rd_move rfl) rfl ?_
                          refine L.ef (e_call rfl (robustPoly_ok Ls _ _ pt y _ hT hCq hSm hP) rfl ?_)
                          rintro _ w25 ⟨rfl, he25⟩
                          replace hB := (hB.ext he25).wide (Nat.le_refl _) he25.size
                          replace hE := hE.ext he25
                          replace hP := hP.ext he25
                          replace hT19 := hT19.ext he25
                          replace hb20 := hb20.ext he25
                          first | refine L.rd (rd_not rfl) rfl ?_ | refine L.rd (rd_notB rfl) rfl ?_
                          refine L.nil ?_
                          refine X.sq ?_
                          first | refine V.cond rfl (fun h158 => ?_) (fun h158 => ?_) | refine V.condB rfl (fun h158 => ?_) (fun h158 => ?_)
                          ·
                            cases h158
                          ·
                            refine V.skip ?_
                            refine X.sq ?_
                            refine V.seq ?_
                            refine V.seq ?_
                            refine V.cut (fun l w' => l = [(0, .slice ba bs.length bc), (3, .string src), (5, .int .i64 y), (6, .bool badv), (166, .bool false)] ∧ Ext w25.heap.size w25 w') ?_ ?_
                            ·
                              refine V.region ?_
                              refine L.rd (rd_move rfl) rfl ?_
                              refine L.rd (rd_move rfl) rfl ?_
                              first | refine L.partG rfl rfl (fun g160 => ?_) (fun g160 => ?_) | refine L.partGB rfl rfl (fun g160 => ?_) (fun g160 => ?_)
                              ·
                                have hgd := norm_some hq19 (by simpa using g160)
                                refine L.yes rfl rfl ?_
                                refine L.rd (rd_loadN tok rfl rfl rfl hb20.cells rfl) rfl ?_
                                refine L.yes rfl rfl ?_
                                refine L.rd (rd_move rfl) rfl ?_
                                refine L.yes rfl rfl ?_
                                refine L.rd (rd_move rfl) rfl ?_
                                refine L.yes rfl rfl ?_
                                refine L.ef (e_call rfl (robustPoly_ok L19 _ _ pt y _ hT19 hgd.2 hS19 hP) rfl ?_)
                                rintro _ w26 ⟨rfl, he26⟩
                                refine L.yes rfl rfl ?_
                                first | refine L.rd (rd_not rfl) rfl ?_ | refine L.rd (rd_notB rfl) rfl ?_
                                refine L.rd (rd_pickT rfl rfl) rfl ?_
                                refine L.nil ?_
                                first
                                  | exact X.ct ⟨_, (by repeat' (first | exact trivial | refine ⟨rfl, ?_⟩)), rfl, he26⟩
                                  | exact X.ct ⟨_, (by repeat' (first | exact trivial | refine ⟨rfl, ?_⟩)), rfl, Ext.refl _ _⟩
                              ·
                                refine L.no rfl rfl rfl rfl ?_
                                refine L.no rfl rfl rfl rfl ?_
                                refine L.no rfl rfl rfl rfl ?_
                                refine L.no rfl rfl rfl rfl ?_
                                refine L.no rfl rfl rfl rfl ?_
                                refine L.rd (rd_pickF rfl rfl) rfl ?_
                                refine L.nil ?_
                                first
                                  | exact X.ct ⟨_, (by repeat' (first | exact trivial | refine ⟨rfl, ?_⟩)), rfl, he26⟩
                                  | exact X.ct ⟨_, (by repeat' (first | exact trivial | refine ⟨rfl, ?_⟩)), rfl, Ext.refl _ _⟩
                            ·
                              rintro l w26 ⟨rfl, he26⟩
                              replace hB := (hB.ext he26).wide (Nat.le_refl _) he26.size
                              replace hE := hE.ext he26
                              refine X.sq ?_
                              first | refine V.cond rfl (fun h166 => ?_) (fun h166 => ?_) | refine V.condB rfl (fun h166 => ?_) (fun h166 => ?_)
                              ·
                                cases h166
                              ·
                                refine V.skip ?_
                                refine X.sq ?_
                                refine V.seq ?_
                                refine V.region ?_
                                refine L.rd (rd_move rfl) rfl ?_
                                refine L.ef (e_call rfl (isimp_ok src _ (by omega)) rfl ?_)
                                rintro _ w27 ⟨rfl, he27⟩
                                replace hB := (hB.ext he27).wide (Nat.le_refl _) he27.size
                                replace hE := hE.ext he27
                                refine L.rd (rd_move rfl) rfl ?_
                                refine L.rd (rd_ext0 rfl) rfl ?_
                                refine L.rd (rd_ext1 rfl) rfl ?_
                                refine L.rd (rd_assign rfl) rfl ?_
                                refine L.rd (rd_assign rfl) rfl ?_
                                refine L.nil ?_
                                refine X.sq ?_
                                refine V.seq ?_
                                refine V.region ?_
                                refine L.rd (rd_move rfl) rfl ?_
                                refine L.ef (e_call rfl (ssimp_ok src _ (by omega)) rfl ?_)
                                rintro _ w28 ⟨rfl, he28⟩
                                replace hB := (hB.ext he28).wide (Nat.le_refl _) he28.size
                                replace hE := hE.ext he28
                                refine L.rd (rd_move rfl) rfl ?_
                                refine L.rd (rd_ext0 rfl) rfl ?_
                                refine L.rd (rd_ext1 rfl) rfl ?_
                                refine L.rd (rd_assign rfl) rfl ?_
                                refine L.rd (rd_assign rfl) rfl ?_
                                refine L.nil ?_
                                refine X.sq ?_
                                refine V.seq ?_
                                refine V.seq ?_
                                refine V.region ?_
                                refine L.rd (rd_move rfl) rfl ?_
                                refine L.rd (rd_move rfl) rfl ?_
                                refine L.rd (rd_neqB tok rfl rfl rfl rfl) rfl ?_
                                refine L.rd (rd_move rfl) rfl ?_
                                first | refine L.partG rfl rfl (fun g180 => ?_) (fun g180 => ?_) | refine L.partGB rfl rfl (fun g180 => ?_) (fun g180 => ?_)
                                ·
                                  exact absurd rfl g180
                                ·
                                  refine L.yes rfl rfl ?_
                                  refine L.rd (rd_move rfl) rfl ?_
                                  refine L.yes rfl rfl ?_
                                  refine L.rd (rd_move rfl) rfl ?_
                                  refine L.yes rfl rfl ?_
                                  refine L.rd (rd_neqS rfl rfl) rfl ?_
                                  refine L.rd (rd_pickF rfl rfl) rfl ?_
                                  refine L.rd (rd_move rfl) rfl ?_
                                  first | refine L.partG rfl rfl (fun g185 => ?_) (fun g185 => ?_) | refine L.partGB rfl rfl (fun g185 => ?_) (fun g185 => ?_)
                                  ·
                                    exact absurd g185 (by simp)
                                  ·
                                    refine L.yes rfl rfl ?_
                                    refine L.rd (rd_move rfl) rfl ?_
                                    refine L.yes rfl rfl ?_
                                    refine L.rd (rd_move rfl) rfl ?_
                                    refine L.yes rfl rfl ?_
                                    refine L.ef (e_call rfl (okS_ok _ _ _ _ (fun _ => rfl) (fun h => tx_none' h)) rfl ?_)
                                    rintro _ w29 ⟨rfl, he29⟩
                                    replace hB := (hB.ext he29).wide (Nat.le_refl _) he29.size
                                    replace hE := hE.ext he29
                                    refine L.yes rfl rfl ?_
                                    first | refine L.rd (rd_not rfl) rfl ?_ | refine L.rd (rd_notB rfl) rfl ?_
                                    refine L.rd (rd_pickF rfl rfl) rfl ?_
                                    refine L.nil ?_
                                    refine X.sq ?_
                                    first | refine V.cond rfl (fun h190 => ?_) (fun h190 => ?_) | refine V.condB rfl (fun h190 => ?_) (fun h190 => ?_)
                                    ·
                                      cases h190
                                    ·
                                      refine V.skip ?_
                                      refine X.sq ?_
                                      refine V.seq ?_
                                      refine V.region ?_
                                      refine L.rd (rd_move rfl) rfl ?_
                                      refine L.rd (rd_move rfl) rfl ?_
                                      refine L.ef (e_call rfl (ider_ok y src _ (by omega)) rfl ?_)
                                      rintro _ w30 ⟨rfl, he30⟩
                                      replace hB := (hB.ext he30).wide (Nat.le_refl _) he30.size
                                      replace hE := hE.ext he30
                                      refine L.rd (rd_move rfl) rfl ?_
                                      refine L.rd (rd_ext0 rfl) rfl ?_
                                      refine L.rd (rd_ext1 rfl) rfl ?_
                                      refine L.rd (rd_assign rfl) rfl ?_
                                      refine L.rd (rd_assign rfl) rfl ?_
                                      refine L.nil ?_
                                      refine X.sq ?_
                                      refine V.seq ?_
                                      refine V.region ?_
                                      refine L.rd (rd_move rfl) rfl ?_
                                      refine L.rd (rd_move rfl) rfl ?_
                                      refine L.ef (e_call rfl (sder_ok y src _ (by omega)) rfl ?_)
                                      rintro _ w31 ⟨rfl, he31⟩
                                      replace hB := (hB.ext he31).wide (Nat.le_refl _) he31.size
                                      replace hE := hE.ext he31
                                      refine L.rd (rd_move rfl) rfl ?_
                                      refine L.rd (rd_ext0 rfl) rfl ?_
                                      refine L.rd (rd_ext1 rfl) rfl ?_
                                      refine L.rd (rd_assign rfl) rfl ?_
                                      refine L.rd (rd_assign rfl) rfl ?_
                                      refine L.nil ?_
                                      refine X.sq ?_
                                      refine V.seq ?_
                                      refine V.seq ?_
                                      refine V.region ?_
                                      refine L.rd (rd_move rfl) rfl ?_
                                      refine L.rd (rd_move rfl) rfl ?_
                                      refine L.rd (rd_neqB tok rfl rfl rfl rfl) rfl ?_
                                      refine L.rd (rd_move rfl) rfl ?_
                                      first | refine L.partG rfl rfl (fun g206 => ?_) (fun g206 => ?_) | refine L.partGB rfl rfl (fun g206 => ?_) (fun g206 => ?_)
                                      ·
                                        exact absurd rfl g206
                                      ·
                                        refine L.yes rfl rfl ?_
                                        refine L.rd (rd_move rfl) rfl ?_
                                        refine L.yes rfl rfl ?_
                                        refine L.rd (rd_move rfl) rfl ?_
                                        refine L.yes rfl rfl ?_
                                        refine L.rd (rd_neqS rfl rfl) rfl ?_
                                        refine L.rd (rd_pickF rfl rfl) rfl ?_
                                        refine L.rd (rd_move rfl) rfl ?_
                                        first | refine L.partG rfl rfl (fun g211 => ?_) (fun g211 => ?_) | refine L.partGB rfl rfl (fun g211 => ?_) (fun g211 => ?_)
                                        ·
                                          exact absurd g211 (by simp)
                                        ·
                                          refine L.yes rfl rfl ?_
                                          refine L.rd (rd_move rfl) rfl ?_
                                          refine L.yes rfl rfl ?_
                                          refine L.rd (rd_move rfl) rfl ?_
                                          refine L.yes rfl rfl ?_
                                          refine L.rd (rd_move rfl) rfl ?_
                                          refine L.yes rfl rfl ?_
                                          refine L.ef (e_call rfl (okS_ok _ _ _ _ (fun h => hbv (der_rng' h)) (fun h => tx_none' h)) rfl ?_)
                                          rintro _ w32 ⟨rfl, he32⟩
                                          replace hB := (hB.ext he32).wide (Nat.le_refl _) he32.size
                                          replace hE := hE.ext he32
                                          refine L.yes rfl rfl ?_
                                          first | refine L.rd (rd_not rfl) rfl ?_ | refine L.rd (rd_notB rfl) rfl ?_
                                          refine L.rd (rd_pickF rfl rfl) rfl ?_
                                          refine L.nil ?_
                                          refine X.sq ?_
                                          first | refine V.cond rfl (fun h217 => ?_) (fun h217 => ?_) | refine V.condB rfl (fun h217 => ?_) (fun h217 => ?_)
                                          ·
                                            cases h217
                                          ·
                                            refine V.skip ?_
                                            refine X.sq ?_
                                            refine V.seq ?_
                                            refine V.region ?_
                                            refine L.rd (rd_move rfl) rfl ?_
                                            refine L.ef (e_call rfl (decSrc_ok _ bs _ hB hl hs) rfl ?_)
                                            rintro _ w33 ⟨src2, rfl, hsrc2, he33⟩
                                            replace hE := hE.ext he33
                                            refine L.rd (rd_assign rfl) rfl ?_
                                            refine L.nil ?_
                                            refine X.sq ?_
                                            refine V.seq ?_
                                            refine V.region ?_
                                            refine L.rd (rd_move rfl) rfl ?_
                                            refine L.ef (e_call rfl (isimp_ok src2 _ (by omega)) rfl ?_)
                                            rintro _ w34 ⟨rfl, he34⟩
                                            replace hE := hE.ext he34
                                            refine L.rd (rd_move rfl) rfl ?_
                                            refine L.rd (rd_ext0 rfl) rfl ?_
                                            refine L.rd (rd_ext1 rfl) rfl ?_
                                            refine L.rd (rd_assign rfl) rfl ?_
                                            refine L.rd (rd_assign rfl) rfl ?_
                                            refine L.nil ?_
                                            refine X.sq ?_
                                            refine V.seq ?_
                                            refine V.region ?_
                                            refine L.rd (rd_move rfl) rfl ?_
                                            refine L.ef (e_call rfl (ssimp_ok src2 _ (by omega)) rfl ?_)
                                            rintro _ w35 ⟨rfl, he35⟩
                                            replace hE := hE.ext he35
                                            refine L.rd (rd_move rfl) rfl ?_
                                            refine L.rd (rd_ext0 rfl) rfl ?_
                                            refine L.rd (rd_ext1 rfl) rfl ?_
                                            refine L.rd (rd_assign rfl) rfl ?_
                                            refine L.rd (rd_assign rfl) rfl ?_
                                            refine L.nil ?_
                                            refine X.sq ?_
                                            refine V.seq ?_
                                            refine V.seq ?_
                                            refine V.region ?_
                                            refine L.rd (rd_move rfl) rfl ?_
                                            refine L.rd (rd_move rfl) rfl ?_
                                            refine L.rd (rd_neqB tok rfl rfl rfl rfl) rfl ?_
                                            refine L.rd (rd_move rfl) rfl ?_
                                            first | refine L.partG rfl rfl (fun g233 => ?_) (fun g233 => ?_) | refine L.partGB rfl rfl (fun g233 => ?_) (fun g233 => ?_)
                                            ·
                                              exact absurd rfl g233
                                            ·
                                              refine L.yes rfl rfl ?_
                                              refine L.rd (rd_move rfl) rfl ?_
                                              refine L.yes rfl rfl ?_
                                              refine L.rd (rd_move rfl) rfl ?_
                                              refine L.yes rfl rfl ?_
                                              refine L.rd (rd_neqS rfl rfl) rfl ?_
                                              refine L.rd (rd_pickF rfl rfl) rfl ?_
                                              refine L.rd (rd_move rfl) rfl ?_
                                              first | refine L.partG rfl rfl (fun g238 => ?_) (fun g238 => ?_) | refine L.partGB rfl rfl (fun g238 => ?_) (fun g238 => ?_)
                                              ·
                                                exact absurd g238 (by simp)
                                              ·
                                                refine L.yes rfl rfl ?_
                                                refine L.rd (rd_move rfl) rfl ?_
                                                refine L.yes rfl rfl ?_
                                                refine L.rd (rd_move rfl) rfl ?_
                                                refine L.yes rfl rfl ?_
                                                refine L.ef (e_call rfl (okS_ok _ _ _ _ (fun _ => rfl) (fun h => tx_none' h)) rfl ?_)
                                                rintro _ w36 ⟨rfl, he36⟩
                                                replace hE := hE.ext he36
                                                refine L.yes rfl rfl ?_
                                                first | refine L.rd (rd_not rfl) rfl ?_ | refine L.rd (rd_notB rfl) rfl ?_
                                                refine L.rd (rd_pickF rfl rfl) rfl ?_
                                                refine L.nil ?_
                                                refine X.sq ?_
                                                first | refine V.cond rfl (fun h243 => ?_) (fun h243 => ?_) | refine V.condB rfl (fun h243 => ?_) (fun h243 => ?_)
                                                ·
                                                  cases h243
                                                ·
                                                  refine V.skip ?_
                                                  refine X.sq ?_
                                                  refine V.seq ?_
                                                  refine V.region ?_
                                                  refine L.rd (rd_move rfl) rfl ?_
                                                  refine L.rd (rd_move rfl) rfl ?_
                                                  refine L.ef (e_call rfl (ider_ok y src2 _ (by omega)) rfl ?_)
                                                  rintro _ w37 ⟨rfl, he37⟩
                                                  replace hE := hE.ext he37
                                                  refine L.rd (rd_move rfl) rfl ?_
                                                  refine L.rd (rd_ext0 rfl) rfl ?_
                                                  refine L.rd (rd_ext1 rfl) rfl ?_
                                                  refine L.rd (rd_assign rfl) rfl ?_
                                                  refine L.rd (rd_assign rfl) rfl ?_
                                                  refine L.nil ?_
                                                  refine X.sq ?_
                                                  refine V.seq ?_
                                                  refine V.region ?_
                                                  refine L.rd (rd_move rfl) rfl ?_
                                                  refine L.rd (rd_move rfl) rfl ?_
                                                  refine L.ef (e_call rfl (sder_ok y src2 _ (by omega)) rfl ?_)
                                                  rintro _ w38 ⟨rfl, he38⟩
                                                  replace hE := hE.ext he38
                                                  refine L.rd (rd_move rfl) rfl ?_
                                                  refine L.rd (rd_ext0 rfl) rfl ?_
                                                  refine L.rd (rd_ext1 rfl) rfl ?_
                                                  refine L.rd (rd_assign rfl) rfl ?_
                                                  refine L.rd (rd_assign rfl) rfl ?_
                                                  refine L.nil ?_
                                                  refine X.sq ?_
                                                  refine V.seq ?_
                                                  refine V.region ?_
                                                  refine L.rd (rd_move rfl) rfl ?_
                                                  refine L.rd (rd_move rfl) rfl ?_
                                                  refine L.rd (rd_eqlB tok rfl rfl rfl rfl) rfl ?_
                                                  refine L.rd (rd_move rfl) rfl ?_
                                                  first | refine L.partG rfl rfl (fun g259 => ?_) (fun g259 => ?_) | refine L.partGB rfl rfl (fun g259 => ?_) (fun g259 => ?_)
                                                  ·
                                                    refine L.yes rfl rfl ?_
                                                    refine L.rd (rd_move rfl) rfl ?_
                                                    refine L.yes rfl rfl ?_
                                                    refine L.rd (rd_move rfl) rfl ?_
                                                    refine L.yes rfl rfl ?_
                                                    refine L.rd (rd_eqlS rfl rfl) rfl ?_
                                                    refine L.rd (rd_pickT rfl rfl) rfl ?_
                                                    refine L.rd (rd_move rfl) rfl ?_
                                                    first | refine L.partG rfl rfl (fun g264 => ?_) (fun g264 => ?_) | refine L.partGB rfl rfl (fun g264 => ?_) (fun g264 => ?_)
                                                    ·
                                                      refine L.yes rfl rfl ?_
                                                      refine L.rd (rd_move rfl) rfl ?_
                                                      refine L.yes rfl rfl ?_
                                                      refine L.rd (rd_move rfl) rfl ?_
                                                      refine L.yes rfl rfl ?_
                                                      refine L.rd (rd_move rfl) rfl ?_
                                                      refine L.yes rfl rfl ?_
                                                      refine L.ef (e_call rfl (okS_ok _ _ _ _ (fun h => hbv (der_rng' h)) (fun h => tx_none' h)) rfl ?_)
                                                      rintro _ w39 ⟨rfl, he39⟩
                                                      refine L.rd (rd_pickT rfl rfl) rfl ?_
                                                      refine L.rd (rd_assign rfl) rfl ?_
                                                      refine L.nil ?_
                                                      refine X.sq ?_
                                                      refine V.ret ?_
                                                      refine ret_1 Yaam.results3 rfl ?_
                                                      exact ⟨rfl, hE.next he39⟩
                                                    ·
                                                      simp at g264
                                                  ·
                                                    exact absurd rfl g259
open Go.ChangeShapes Go.WideShapes Go.ChangeAt Go.RowKit
theorem own : ownKnob Yaam.prog.godebug = none := by kernel_rfl
theorem laidOut : laidOutB Yaam.prog = true := by kernel_rfl
theorem readable0 : Yaam.prog.readableRec 22 = true := by kernel_rfl

set_option maxRecDepth 100000 in
theorem lifted (os : Os) (started : os.Started) (H : Type) (enc : TypeId × Value → H) :
    ReturnsInHanded {} Yaam.checked os 3 .any (Rows.fnRobustSpec.pre6 enc Yaam.prog Yaam.f3 Rows.fnRobustRow.domain false) (Rows.fnRobustSpec.post enc Yaam.prog Yaam.f3 false true false false) := by
  refine returnsInHanded_of_change_sized (C := Yaam.checked) own started (by kernel_rfl) Yaam.func3
    (ChangeSpec.witness6 (enc := enc) (C := Yaam.checked) false ⟨#[], #[.slice none 0 0], []⟩ 8 (by kernel_rfl) (by kernel_rfl) (by kernel_rfl) (by kernel_rfl)) ?_
  intro W base args ds gs before hval0 hW hcnd hwt0 _
  have hval : ∀ (j : Nat) t v, Yaam.f3.params[j]? = some t → args[j]? = some v → Value.okWide Yaam.prog W .any base t v := hval0
  have hwt : (DataW.weightsEach Yaam.prog (Yaam.f3.params.toList ++ _) (ds ++ gs)).all (· ≤ reachBytes) = true := hwt0
  have hW' := hW
  obtain ⟨p, q, hA0, hV, rfl, hfz, hnd⟩ := hW
  have hA : DataW.TrodAll enc Yaam.prog W 0 (fun _ => true) true Yaam.f3.params.toList args.toList ds p := hA0
  rw [Yaam.params3] at hA hval hwt
  obtain ⟨v0, vs0, d0, ds0, p0, q0, hargs0, rfl, rfl, h0, r0⟩ := trodAll_cons hA
  obtain ⟨hnil, rfl, rfl⟩ := trodAll_nil r0
  obtain rfl : args = #[v0] := by cases args; simp_all
  obtain ⟨rfl, rfl⟩ := trodVars_none hV
  have hok0 := hval 0 22 v0 rfl rfl
  have hww0 := weights_arg hwt (j := 0) rfl rfl
  obtain ⟨fuel0, hy0⟩ := id h0
  rw [one_cell Yaam.underlying22 hok0] at hy0
  obtain ⟨bs0, hR0, hl0, hz0, hD0⟩ := bytes_of_trod Yaam.underlying22 (by kernel_rfl) (by kernel_rfl) (by decide +kernel) hy0 hww0
  clear hA0 hval0
  simp only [List.append_nil] at hW'
  refine (law v0 bs0 W hD0 hR0 hz0 hl0).call.mono fun e W' ⟨v, he, hv, hg⟩ => ?_
  subst he hv
  exact ⟨_, rfl, post_belowE (pv := []) hW' (fun _ _ _ => (trodAll_mk1 (shut_bool Yaam.underlying4 _))) (trodAll_mk1 (Below.trod laidOut readable0 (by decide +kernel) h0 hg.below (fun x hx => hW'.lt x (by first | exact hx | (simp only [List.mem_append]; simp [hx]))))) rfl (by simp) hg⟩

theorem over : Rows.fnRobustRow.holds Yaam.pinned (OpenSpec.ofChange Rows.fnRobustSpec) :=
  OpenClaim.holds_of_wide 3 Yaam.f3 rfl rfl rfl rfl rfl rfl rfl ⟨rfl, rfl, rfl, rfl, rfl⟩ rfl rfl rfl rfl rfl (by kernel_rfl) Yaam.func3 (by kernel_rfl)
    (of_decide_eq_true (by kernel_rfl)) (by unfold Func.isWrapper; first | (rw [if_pos (by decide +kernel)]; kernel_rfl) | (rw [if_neg (by decide +kernel)]; exact ⟨rfl, rfl⟩))
    (fun os started H enc _ => lifted os started H enc)

theorem proved : Rows.FnRobustSaid :=
  over
end Go.Proofs.YbxaawGreat.fnRobust
