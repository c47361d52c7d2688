/-
  laws.robustTree, walked: at any nodes that can be read.
-/
import Derived.Test.YbxaawGreatIevW
import Derived.Test.YbxaawGreatIptW2
import Derived.Test.YbxaawGreatBadW
import Derived.Test.YbxaawGreatCnW4
import Derived.Test.YbxaawGreatXpW2
import Derived.Test.YbxaawGreatSxW3
import Derived.Test.YbxaawGreatDfW
import Derived.Test.YbxaawGreatDfW3
import Derived.Test.YbxaawGreatDerW
import Derived.Test.YbxaawGreatEqExprW
import Derived.Test.YbxaawGreatEqPolyW
import Derived.Test.YbxaawGreatCloneW
import Derived.Test.YbxaawGreatRtW
set_option linter.unusedVariables false
set_option linter.unusedSimpArgs false
set_option maxRecDepth 10000
set_option maxHeartbeats 4000000
namespace Go.Mw
theorem x_same {R : Option Tre} {ns1 ns2 : List Nd} {r1 r2 : Int} (h1 : ∀ t, R = some t → ns1 = flat t 0 ∧ r1 = (tsz t : Int) - 1) (h2 : R = none → ns1 = [] ∧ r1 = 0) (k1 : ∀ t, R = some t → ns2 = flat t 0 ∧ r2 = (tsz t : Int) - 1) (k2 : R = none → ns2 = [] ∧ r2 = 0) : r1 = r2 ∧ ns1 = ns2 := by
  cases h : R with
  | none =>
    obtain ⟨rfl, rfl⟩ := h2 h
    obtain ⟨rfl, rfl⟩ := k2 h
    exact ⟨rfl, rfl⟩
  | some t =>
    obtain ⟨rfl, rfl⟩ := h1 t h
    obtain ⟨rfl, rfl⟩ := k1 t h
    exact ⟨rfl, rfl⟩
theorem x_len {R : Option Tre} {ns : List Nd} {r1 : Int} (h1 : ∀ t, R = some t → ns = flat t 0 ∧ r1 = (tsz t : Int) - 1) (h2 : R = none → ns = [] ∧ r1 = 0) (hz : ∀ t, R = some t → tsz t ≤ 500000) : ns.length ≤ 500000 := by
  cases h : R with
  | none => obtain ⟨rfl, -⟩ := h2 h; simp
  | some t =>
    obtain ⟨rfl, -⟩ := h1 t h
    rw [flat_len]; exact hz t h
theorem x_zero {R : Option Tre} {ns : List Nd} {r1 : Int} (h2 : R = none → ns = [] ∧ r1 = 0) (h : R.isSome = false) : ns.length = 0 ∧ r1 = 0 := by
  obtain ⟨rfl, rfl⟩ := h2 (by cases R <;> simp_all)
  exact ⟨rfl, rfl⟩
theorem p_zero {R : Option (List PT)} {Ls : List Lt} (hp : pol Ls = R.getD []) (h : R.isSome = false) : Ls.length = 0 := by
  have hn : R = none := by cases R <;> simp_all
  rw [hn] at hp
  have := congrArg List.length hp
  rwa [pol_length] at this
theorem p_sm {R : Option (List PT)} {Ls : List Lt} (hp : pol Ls = R.getD []) (hc : ∀ q, R = some q → canon q = true) : Sm (pol Ls) := by
  rw [hp]
  cases h : R with
  | none => exact ⟨by simp, fun t ht => by cases ht⟩
  | some q => exact canon_sm (hc q h)
theorem dif_rng {y : Int} {t : Tre} (h : (difT y t).isSome = true) : 0 ≤ y ∧ y ≤ 25 := by
  unfold difT at h
  split at h
  · rename_i hc; exact ⟨hc.1, hc.2.1⟩
  · cases h
end Go.Mw
namespace Go.Proofs.YbxaawGreat
open Go.Mw
/-- what the functions answer at these nodes -/
structure RB (ns : List Nd) (root : Int) (nv pv : Value) (pt : List Int) (y : Int) (b : Bool) (x : Int) (ok : Bool) (oC : Option Tre) (oP : Option (List PT)) (oD : Option Tre) (oS : Option (List Nat)) : Prop where
  wfs : ∀ w, Rs w 5 nv ns.length (ns.flatMap ndE) → Ret Yaam.prog 44 [.agg #[nv, .int .i64 root]] w fun r w' => r = .bool b ∧ Ext w.heap.size w w'
  wfi : ∀ w, Rs w 5 nv ns.length (ns.flatMap ndE) → Ret Yaam.prog 45 [.agg #[nv, .int .i64 root]] w fun r w' => r = .bool b ∧ Ext w.heap.size w w'
  evs : ∀ w, Rs w 5 nv ns.length (ns.flatMap ndE) → Rs w 1 pv pt.length (iC .i64 pt) → Ret Yaam.prog 47 [.agg #[nv, .int .i64 root], pv] w fun r w' => r = .tuple #[.int .i64 x, .bool ok] ∧ Ext w.heap.size w w'
  evi : ∀ w, Rs w 5 nv ns.length (ns.flatMap ndE) → Rs w 1 pv pt.length (iC .i64 pt) → Ret Yaam.prog 46 [.agg #[nv, .int .i64 root], pv] w fun r w' => r = .tuple #[.int .i64 x, .bool ok] ∧ Ext w.heap.size w w'
  cs : ∀ w, Rs w 5 nv ns.length (ns.flatMap ndE) → Ret Yaam.prog 50 [.agg #[nv, .int .i64 root]] w (XPost 80 oC w)
  ci : ∀ w, Rs w 5 nv ns.length (ns.flatMap ndE) → Ret Yaam.prog 49 [.agg #[nv, .int .i64 root]] w (XPost 80 oC w)
  ps : ∀ w, Rs w 5 nv ns.length (ns.flatMap ndE) → Ret Yaam.prog 52 [.agg #[nv, .int .i64 root]] w (TPost oP w)
  pi_ : ∀ w, Rs w 5 nv ns.length (ns.flatMap ndE) → Ret Yaam.prog 51 [.agg #[nv, .int .i64 root]] w (TPost oP w)
  ds : ∀ w, Rs w 5 nv ns.length (ns.flatMap ndE) → Ret Yaam.prog 54 [.agg #[nv, .int .i64 root], .int .i64 y] w (XPost 80 oD w)
  di : ∀ w, Rs w 5 nv ns.length (ns.flatMap ndE) → Ret Yaam.prog 53 [.agg #[nv, .int .i64 root], .int .i64 y] w (XPost 80 oD w)
  ss : ∀ w, Rs w 5 nv ns.length (ns.flatMap ndE) → Ret Yaam.prog 56 [.agg #[nv, .int .i64 root]] w (PrQ oS w)
  si : ∀ w, Rs w 5 nv ns.length (ns.flatMap ndE) → Ret Yaam.prog 55 [.agg #[nv, .int .i64 root]] w (PrQ oS w)
  ok1 : ok = true → b = true ∧ pt.length = 26
  ok0 : ok = false → x = 0
  okc : oC.isSome = true → b = true
  szc : ∀ t, oC = some t → tsz t ≤ 500000
  okp : oP.isSome = true → b = true
  smp : ∀ q, oP = some q → canon q = true
  okd : oD.isSome = true → b = true ∧ 0 ≤ y ∧ y ≤ 25
  szd : ∀ t, oD = some t → tsz t ≤ 500000
  oks : oS.isSome = true → b = true
theorem rb_all (ns : List Nd) (root : Int) (nv pv : Value) (pt : List Int) (y : Int) (hlen : ns.length ≤ 10000000) (hvw : ∀ nd ∈ ns, w64 nd.2.1 = nd.2.1) : ∃ b x ok oC oP oD oS, RB ns root nv pv pt y b x ok oC oP oD oS := by
  by_cases h : WF ns root
  · obtain ⟨t, hw, rfl, rfl, hz⟩ := h
    have hwi := flat_wi t 0 hvw
    refine ⟨true, if pt.length = 26 then evT pt t else 0, decide (pt.length = 26), some (cn t), tpP t, difT y t, txt t 0, ?_⟩
    exact ⟨fun w hN => swf_ok t hw hz nv w hN, fun w hN => iwf_ok t hw hz nv w hN, fun w hN hP => sevalE_ok t hw hz nv pv pt w hN hP, fun w hN hP => ievalE_ok t hw hz nv pv pt w hN hP, fun w hN => scanon_ok t hw hz nv w hN, fun w hN => icanon_ok t hw hz nv w hN, fun w hN => stopoly_ok t hw hwi hz nv w hN, fun w hN => itopoly_ok t hw hwi hz nv w hN, fun w hN => sdiff_ok y t hw hz nv w hN, fun w hN => idiff_ok y t hw hz nv w hN, fun w hN => sprintE_ok t hw hz nv w hN, fun w hN => iprintE_ok t hw hz nv w hN, fun h => ⟨rfl, of_decide_eq_true h⟩, fun h => if_neg (of_decide_eq_false h), fun _ => rfl, fun t' h => by
      simp only [Option.some.injEq] at h
      subst h
      exact Nat.le_trans (cn_wz t hw).sz hz, fun _ => rfl, fun q h => (tpP_canon hw hwi h).1, fun h => ⟨rfl, dif_rng h⟩, fun t' h => (dif_wt hw hwi h).2.2, fun _ => rfl⟩
  · refine ⟨false, 0, false, none, none, none, none, ?_⟩
    exact ⟨fun w hN => swf_bad ns root h nv w hN (by omega), fun w hN => iwf_bad ns root h nv w hN (by omega), fun w hN hP => sevalE_bad ns root h nv pv _ _ w hN (by omega) hP, fun w hN hP => ievalE_bad ns root h nv pv _ _ w hN (by omega) hP, fun w hN => scanon_bad ns root h nv w hN (by omega), fun w hN => icanon_bad ns root h nv w hN (by omega), fun w hN => stopoly_bad ns root h nv w hN (by omega), fun w hN => itopoly_bad ns root h nv w hN (by omega), fun w hN => sdiff_bad ns root y h nv w hN (by omega), fun w hN => idiff_bad ns root y h nv w hN (by omega), fun w hN => sprintE_bad ns root h nv w hN (by omega), fun w hN => iprintE_bad ns root h nv w hN (by omega), fun h => (by cases h), fun _ => rfl, fun h => (by cases h), fun t h => (by cases h), fun h => (by cases h), fun q h => (by cases h), fun h => (by cases h), fun t h => (by cases h), fun h => (by cases h)⟩

theorem robustTree_ok (ns : List Nd) (root : Int) (nv pv : Value) (pt : List Int) (y : Int) (w : World) (hN : Rs w 5 nv ns.length (ns.flatMap ndE)) (hlen : ns.length ≤ 10000000) (hvw : ∀ nd ∈ ns, w64 nd.2.1 = nd.2.1) (hP : Rs w 1 pv pt.length (iC .i64 pt)) : Ret Yaam.prog 15 [.agg #[nv, .int .i64 root], pv, .int .i64 y] w fun r w' => r = .bool true ∧ Ext w.heap.size w w' := by
  obtain ⟨b, x, ok, oC, oP, oD, oS, R⟩ := rb_all ns root nv pv pt y hlen hvw
  obtain ⟨na, nc, rfl, hfn⟩ := id hN.form
  obtain ⟨pa, pc, rfl, hfp⟩ := id hP.form
  refine enter3 Yaam.func15 Yaam.ntmps15 (by kernel_rfl) rfl rfl ?_
  refine V.seq ?_
  refine V.region ?_
  refine L.ef (e_box (cs := [_, _]) rfl rfl (by first | (simp only [size_addB, size_setB, size_drew]; rfl) | rfl) rfl ?_)
  refine L.rd (rd_assign rfl) rfl ?_
  refine L.nil ?_
  refine X.sq ?_
  refine V.seq ?_
  have hb := Bl.new w 34 [.slice na ns.length nc, .int .i64 root]
  have hE := (Ext.refl _ w).addNew 34 [.slice na ns.length nc, .int .i64 root]
  replace hN := hN.le hE.leC
  replace hP := hP.le hE.leC
  generalize addB w 34 [.slice na ns.length nc, .int .i64 root] = u0 at hb hE hN hP ⊢
  refine V.region ?_
  refine L.rd (rd_loadN tok rfl rfl rfl hb.cells rfl) rfl ?_
  refine L.ef (e_call rfl (R.wfs _ hN) rfl ?_)
  rintro _ w1 ⟨rfl, he1⟩
  replace hN := hN.le he1.leC
  replace hP := hP.le he1.leC
  replace hE := hE.ext he1
  replace hb := hb.ext he1
  refine L.rd (rd_assign rfl) rfl ?_
  refine L.nil ?_
  refine X.sq ?_
  refine V.seq ?_
  refine V.seq ?_
  refine V.region ?_
  refine L.rd (rd_loadN tok rfl rfl rfl hb.cells rfl) rfl ?_
  refine L.ef (e_call rfl (R.wfi _ hN) rfl ?_)
  rintro _ w2 ⟨rfl, he2⟩
  replace hN := hN.le he2.leC
  replace hP := hP.le he2.leC
  replace hE := hE.ext he2
  replace hb := hb.ext he2
  refine L.rd (rd_move rfl) rfl ?_
  refine L.rd (rd_neqB tok rfl rfl rfl rfl) rfl ?_
  refine L.nil ?_
  refine X.sq ?_
  first | refine V.cond rfl (fun h34 => ?_) (fun h34 => ?_) | refine V.condB rfl (fun h34 => ?_) (fun h34 => ?_)
  ·
    exact absurd rfl h34
  ·
    refine V.skip ?_
    refine X.sq ?_
    refine V.seq ?_
    refine V.cut (fun l w' => ∃ bv : Bool, l = [(1, .slice pa pt.length pc), (2, .int .i64 y), (3, .pointer (some ⟨w.heap.size, 0, none⟩)), (7, .bool b), (8, .bool bv)] ∧ (0 ≤ y ∧ y ≤ 25 → bv = false) ∧ w2 = w') ?_ ?_
    ·
      refine V.region ?_
      refine L.rd (rd_move rfl) rfl ?_
      refine L.rd (rd_lss rfl rfl) rfl ?_
      refine L.rd (rd_move rfl) rfl ?_
      first | refine L.partG rfl rfl (fun g37 => ?_) (fun g37 => ?_) | refine L.partGB rfl rfl (fun g37 => ?_) (fun g37 => ?_)
      ·
        refine L.no rfl rfl rfl rfl ?_
        refine L.no rfl rfl rfl rfl ?_
        refine L.rd (rd_pickT rfl rfl) rfl ?_
        refine L.rd (rd_assign rfl) rfl ?_
        refine L.nil ?_
        exact X.ct ⟨_, (by repeat' (first | exact trivial | refine ⟨rfl, ?_⟩)), _, rfl, fun hy => by first | (exfalso; omega) | exact decide_eq_false (by omega), rfl⟩
      ·
        refine L.yes rfl rfl ?_
        refine L.rd (rd_move rfl) rfl ?_
        refine L.yes rfl rfl ?_
        refine L.rd (rd_geq rfl rfl) rfl ?_
        refine L.rd (rd_pickF rfl rfl) rfl ?_
        refine L.rd (rd_assign rfl) rfl ?_
        refine L.nil ?_
        exact X.ct ⟨_, (by repeat' (first | exact trivial | refine ⟨rfl, ?_⟩)), _, rfl, fun hy => by first | (exfalso; omega) | exact decide_eq_false (by omega), rfl⟩
    ·
      rintro l w' ⟨badv, rfl, hbv, rfl⟩
      refine X.sq ?_
      refine V.seq ?_
      refine V.region ?_
      refine L.rd (rd_loadN tok rfl rfl rfl hb.cells rfl) rfl ?_
      refine L.rd (rd_move rfl) rfl ?_
      refine L.ef (e_call rfl (R.evi _ hN hP) rfl ?_)
      rintro _ w3 ⟨rfl, he3⟩
      replace hN := hN.le he3.leC
      replace hP := hP.le he3.leC
      replace hE := hE.ext he3
      replace hb := hb.ext he3
      refine L.rd (rd_move rfl) rfl ?_
      refine L.rd (rd_ext0 rfl) rfl ?_
      refine L.rd (rd_ext1 rfl) rfl ?_
      refine L.rd (rd_assign rfl) rfl ?_
      refine L.rd (rd_assign rfl) rfl ?_
      refine L.nil ?_
      refine X.sq ?_
      refine V.seq ?_
      refine V.region ?_
      refine L.rd (rd_loadN tok rfl rfl rfl hb.cells rfl) rfl ?_
      refine L.rd (rd_move rfl) rfl ?_
      refine L.ef (e_call rfl (R.evs _ hN hP) rfl ?_)
      rintro _ w4 ⟨rfl, he4⟩
      replace hN := hN.le he4.leC
      replace hE := hE.ext he4
      replace hb := hb.ext he4
      refine L.rd (rd_move rfl) rfl ?_
      refine L.rd (rd_ext0 rfl) rfl ?_
      refine L.rd (rd_ext1 rfl) rfl ?_
      refine L.rd (rd_assign rfl) rfl ?_
      refine L.rd (rd_assign rfl) rfl ?_
      refine L.nil ?_
      refine X.sq ?_
      refine V.seq ?_
      refine V.seq ?_
      refine V.cut (fun l w' => l = [(2, .int .i64 y), (3, .pointer (some ⟨w.heap.size, 0, none⟩)), (7, .bool b), (8, .bool badv), (73, .bool false)] ∧ Ext w4.heap.size w4 w') ?_ ?_
      ·
        refine V.region ?_
        refine L.rd (rd_move rfl) rfl ?_
        refine L.rd (rd_move rfl) rfl ?_
        refine L.rd (rd_neqB tok rfl rfl rfl rfl) rfl ?_
        refine L.rd (rd_move rfl) rfl ?_
        first | refine L.partG rfl rfl (fun g56 => ?_) (fun g56 => ?_) | refine L.partGB rfl rfl (fun g56 => ?_) (fun g56 => ?_)
        ·
          exact absurd rfl g56
        ·
          refine L.yes rfl rfl ?_
          refine L.rd (rd_move rfl) rfl ?_
          refine L.yes rfl rfl ?_
          refine L.rd (rd_move rfl) rfl ?_
          refine L.yes rfl rfl ?_
          refine L.rd (rd_neq rfl rfl) rfl ?_
          refine L.rd (rd_pickF rfl rfl) rfl ?_
          refine L.rd (rd_move rfl) rfl ?_
          first | refine L.partG rfl rfl (fun g61 => ?_) (fun g61 => ?_) | refine L.partGB rfl rfl (fun g61 => ?_) (fun g61 => ?_)
          ·
            exact absurd rfl g61
          ·
            refine L.yes rfl rfl ?_
            refine L.rd (rd_move rfl) rfl ?_
            refine L.yes rfl rfl ?_
            refine L.rd (rd_move rfl) rfl ?_
            refine L.yes rfl rfl ?_
            refine L.rd (rd_move rfl) rfl ?_
            refine L.yes rfl rfl ?_
            first | refine L.rd (rd_not rfl) rfl ?_ | refine L.rd (rd_notB rfl) rfl ?_
            refine L.yes rfl rfl ?_
            refine L.rd (rd_move rfl) rfl ?_
            first | refine L.partG rfl rfl (fun g66 => ?_) (fun g66 => ?_) | refine L.partGB rfl rfl (fun g66 => ?_) (fun g66 => ?_)
            ·
              refine L.no rfl rfl rfl rfl ?_
              refine L.no rfl rfl rfl rfl ?_
              refine L.no rfl rfl rfl rfl ?_
              refine L.yes rfl rfl ?_
              refine L.rd (rd_pickT rfl rfl) rfl ?_
              refine L.yes rfl rfl ?_
              refine L.ef (e_call rfl (okI_ok _ _ _ _ (fun h => by have := R.ok1 h; first | exact decide_eq_false (by omega) | (exfalso; simp [this.1] at g66)) R.ok0) rfl ?_)
              rintro _ w5 ⟨rfl, he5⟩
              refine L.yes rfl rfl ?_
              first | refine L.rd (rd_not rfl) rfl ?_ | refine L.rd (rd_notB rfl) rfl ?_
              refine L.rd (rd_pickF rfl rfl) rfl ?_
              refine L.nil ?_
              exact X.ct ⟨_, (by repeat' (first | exact trivial | refine ⟨rfl, ?_⟩)), rfl, he5⟩
            ·
              refine L.yes rfl rfl ?_
              refine L.rd (rd_move rfl) rfl ?_
              refine L.yes rfl rfl ?_
              refine L.rd (rd_lenSlice tok rfl rfl rfl) rfl ?_
              refine L.yes rfl rfl ?_
              refine L.rd (rd_neq rfl rfl) rfl ?_
              refine L.yes rfl rfl ?_
              refine L.rd (rd_pickF rfl rfl) rfl ?_
              refine L.yes rfl rfl ?_
              refine L.ef (e_call rfl (okI_ok _ _ _ _ (fun h => by have := R.ok1 h; first | exact decide_eq_false (by omega) | (exfalso; simp [this.1] at g66)) R.ok0) rfl ?_)
              rintro _ w5 ⟨rfl, he5⟩
              refine L.yes rfl rfl ?_
              first | refine L.rd (rd_not rfl) rfl ?_ | refine L.rd (rd_notB rfl) rfl ?_
              refine L.rd (rd_pickF rfl rfl) rfl ?_
              refine L.nil ?_
              exact X.ct ⟨_, (by repeat' (first | exact trivial | refine ⟨rfl, ?_⟩)), rfl, he5⟩
      ·
        rintro l w5 ⟨rfl, he5⟩
        replace hN := hN.le he5.leC
        replace hE := hE.ext he5
        replace hb := hb.ext he5
        refine X.sq ?_
        first | refine V.cond rfl (fun h73 => ?_) (fun h73 => ?_) | refine V.condB rfl (fun h73 => ?_) (fun h73 => ?_)
        ·
          cases h73
        ·
          refine V.skip ?_
          refine X.sq ?_
          refine V.seq ?_
          refine V.region ?_
          refine L.rd (rd_loadN tok rfl rfl rfl hb.cells rfl) rfl ?_
          refine L.ef (e_call rfl (R.ci _ hN) rfl ?_)
          rintro _ w6 ⟨nv6, ns6, rt6, rfl, ho6, hs6, hn6, he6⟩
          obtain ⟨a6, c6, rfl⟩ := own_form ho6
          replace hN := hN.le he6.leC
          replace hE := hE.ext he6
          replace hb := hb.ext he6
          refine L.rd (rd_move rfl) rfl ?_
          refine L.rd (rd_ext0 rfl) rfl ?_
          refine L.rd (rd_ext1 rfl) rfl ?_
          refine L.ef (e_alloc (cs := [_, _]) tok rfl rfl (by first | (simp only [size_addB, size_setB, size_drew]; rfl) | rfl) rfl ?_)
          refine L.ef (e_store (vs := [_, _]) tok rfl rfl rfl rfl (by (repeat (first | assumption | (refine Bl.new' ?_ _ _; first | with_reducible rfl | (simp only [size_addB, size_setB, size_drew]; done)) | apply Bl.add | apply Bl.drew | (apply Bl.setNe; omega) | (refine Bl.set' ?_ _ _; (try simp only [size_addB, size_setB, size_drew]); omega)))) rfl (by simp [Value.oneCell']) (by simp) ?_)
          refine L.rd (rd_assign rfl) rfl ?_
          refine L.nil ?_
          refine X.sq ?_
          refine V.seq ?_
          generalize hw7 : setB _ _ _ _ = w7
          have he7 := ext_of_new hw7
          have hb7 : Bl w7 w6.heap.size 34 [.slice a6 ns6.length c6, .int .i64 rt6] := bl_of_new hw7
          have hR6 := (Rs.of_own ho6).le he7.leC
          replace hN := hN.le he7.leC
          replace hE := hE.ext he7
          replace hb := hb.ext he7
          refine V.region ?_
          refine L.rd (rd_loadN tok rfl rfl rfl hb.cells rfl) rfl ?_
          refine L.ef (e_call rfl (R.cs _ hN) rfl ?_)
          rintro _ w8 ⟨nv8, ns8, rt8, rfl, ho8, hs8, hn8, he8⟩
          obtain ⟨a8, c8, rfl⟩ := own_form ho8
          replace hN := hN.le he8.leC
          replace hR6 := hR6.le he8.leC
          replace hE := hE.ext he8
          replace hb := hb.ext he8
          replace hb7 := hb7.ext he8
          refine L.rd (rd_move rfl) rfl ?_
          refine L.rd (rd_ext0 rfl) rfl ?_
          refine L.rd (rd_ext1 rfl) rfl ?_
          refine L.ef (e_alloc (cs := [_, _]) tok rfl rfl (by first | (simp only [size_addB, size_setB, size_drew]; rfl) | rfl) rfl ?_)
          refine L.ef (e_store (vs := [_, _]) tok rfl rfl rfl rfl (by (repeat (first | assumption | (refine Bl.new' ?_ _ _; first | with_reducible rfl | (simp only [size_addB, size_setB, size_drew]; done)) | apply Bl.add | apply Bl.drew | (apply Bl.setNe; omega) | (refine Bl.set' ?_ _ _; (try simp only [size_addB, size_setB, size_drew]); omega)))) rfl (by simp [Value.oneCell']) (by simp) ?_)
          refine L.rd (rd_assign rfl) rfl ?_
          refine L.nil ?_
          refine X.sq ?_
          refine V.seq ?_
          refine V.seq ?_
          generalize hw9 : setB _ _ _ _ = w9
          have he9 := ext_of_new hw9
          have hb9 : Bl w9 w8.heap.size 34 [.slice a8 ns8.length c8, .int .i64 rt8] := bl_of_new hw9
          have hR8 := (Rs.of_own ho8).le he9.leC
          replace hN := hN.le he9.leC
          replace hR6 := hR6.le he9.leC
          replace hE := hE.ext he9
          replace hb := hb.ext he9
          replace hb7 := hb7.ext he9
          have hsame := x_same hs6 hn6 hs8 hn8
          have hlen6 := x_len hs6 hn6 R.szc
          refine V.region ?_
          refine L.rd (rd_move rfl) rfl ?_
          refine L.rd (rd_move rfl) rfl ?_
          refine L.rd (rd_neqB tok rfl rfl rfl rfl) rfl ?_
          refine L.rd (rd_move rfl) rfl ?_
          first | refine L.partG rfl rfl (fun g87 => ?_) (fun g87 => ?_) | refine L.partGB rfl rfl (fun g87 => ?_) (fun g87 => ?_)
          ·
            exact absurd rfl g87
          ·
            refine L.yes rfl rfl ?_
            refine L.rd (rd_loadN tok rfl rfl rfl hb7.cells rfl) rfl ?_
            refine L.yes rfl rfl ?_
            refine L.rd (rd_loadN tok rfl rfl rfl hb9.cells rfl) rfl ?_
            refine L.yes rfl rfl ?_
            refine L.ef (e_call rfl (eqExpr_ok _ _ ns6 ns8 rt6 rt8 _ hR6 hR8 (by omega)) rfl ?_)
            rintro _ w10 ⟨rfl, he10⟩
            replace hN := hN.le he10.leC
            replace hE := hE.ext he10
            replace hb := hb.ext he10
            replace hb7 := hb7.ext he10
            refine L.yes rfl rfl ?_
            first | refine L.rd (rd_not rfl) rfl ?_ | refine L.rd (rd_notB rfl) rfl ?_
            refine L.rd (rd_pickF rfl rfl) rfl ?_
            refine L.rd (rd_move rfl) rfl ?_
            first | refine L.partG rfl rfl (fun g93 => ?_) (fun g93 => ?_) | refine L.partGB rfl rfl (fun g93 => ?_) (fun g93 => ?_)
            ·
              exact absurd hsame g93
            ·
              refine L.yes rfl rfl ?_
              refine L.rd (rd_loadN tok rfl rfl rfl hb7.cells rfl) rfl ?_
              refine L.yes rfl rfl ?_
              refine L.rd (rd_move rfl) rfl ?_
              refine L.yes rfl rfl ?_
              refine L.rd (rd_move rfl) rfl ?_
              refine L.yes rfl rfl ?_
              first | refine L.rd (rd_not rfl) rfl ?_ | refine L.rd (rd_notB rfl) rfl ?_
              refine L.yes rfl rfl ?_
              refine L.ef (e_call rfl (okE_ok _ _ _ _ _ _ _ (fun h => by rw [R.okc h]; rfl) (fun h => x_zero hn6 h)) rfl ?_)
              rintro _ w11 ⟨rfl, he11⟩
              replace hN := hN.le he11.leC
              replace hE := hE.ext he11
              replace hb := hb.ext he11
              refine L.yes rfl rfl ?_
              first | refine L.rd (rd_not rfl) rfl ?_ | refine L.rd (rd_notB rfl) rfl ?_
              refine L.rd (rd_pickF rfl rfl) rfl ?_
              refine L.nil ?_
              refine X.sq ?_
              first | refine V.cond rfl (fun h100 => ?_) (fun h100 => ?_) | refine V.condB rfl (fun h100 => ?_) (fun h100 => ?_)
              ·
                cases h100
              ·
                refine V.skip ?_
                refine X.sq ?_
                refine V.seq ?_
                refine V.region ?_
                refine L.rd (rd_loadN tok rfl rfl rfl hb.cells rfl) rfl ?_
                refine L.ef (e_call rfl (R.pi_ _ hN) rfl ?_)
                rintro _ w12 ⟨v12, L12, rfl, hT12, hp12, he12⟩
                obtain ⟨a12, c12, rfl, -⟩ := hT12.form
                replace hN := hN.le he12.leC
                replace hE := hE.ext he12
                replace hb := hb.ext he12
                refine L.rd (rd_move rfl) rfl ?_
                refine L.rd (rd_ext0 rfl) rfl ?_
                refine L.rd (rd_ext1 rfl) rfl ?_
                refine L.ef (e_alloc (cs := [_]) tok rfl rfl (by first | (simp only [size_addB, size_setB, size_drew]; rfl) | rfl) rfl ?_)
                refine L.ef (e_store (vs := [_]) tok rfl rfl rfl rfl (by (repeat (first | assumption | (refine Bl.new' ?_ _ _; first | with_reducible rfl | (simp only [size_addB, size_setB, size_drew]; done)) | apply Bl.add | apply Bl.drew | (apply Bl.setNe; omega) | (refine Bl.set' ?_ _ _; (try simp only [size_addB, size_setB, size_drew]); omega)))) rfl (by simp [Value.oneCell']) (by simp) ?_)
                refine L.rd (rd_assign rfl) rfl ?_
                refine L.nil ?_
                refine X.sq ?_
                refine V.seq ?_
                generalize hw13 : setB _ _ _ _ = w13
                have he13 := ext_of_new hw13
                have hb13 : Bl w13 w12.heap.size 44 [.slice a12 L12.length c12] := bl_of_new hw13
                replace hN := hN.le he13.leC
                replace hE := hE.ext he13
                replace hb := hb.ext he13
                replace hT12 := hT12.ext he13
                refine V.region ?_
                refine L.rd (rd_loadN tok rfl rfl rfl hb.cells rfl) rfl ?_
                refine L.ef (e_call rfl (R.ps _ hN) rfl ?_)
                rintro _ w14 ⟨v14, L14, rfl, hT14, hp14, he14⟩
                obtain ⟨a14, c14, rfl, -⟩ := hT14.form
                replace hN := hN.le he14.leC
                replace hE := hE.ext he14
                replace hb := hb.ext he14
                replace hT12 := hT12.ext he14
                replace hb13 := hb13.ext he14
                refine L.rd (rd_move rfl) rfl ?_
                refine L.rd (rd_ext0 rfl) rfl ?_
                refine L.rd (rd_ext1 rfl) rfl ?_
                refine L.ef (e_alloc (cs := [_]) tok rfl rfl (by first | (simp only [size_addB, size_setB, size_drew]; rfl) | rfl) rfl ?_)
                refine L.ef (e_store (vs := [_]) tok rfl rfl rfl rfl (by (repeat (first | assumption | (refine Bl.new' ?_ _ _; first | with_reducible rfl | (simp only [size_addB, size_setB, size_drew]; done)) | apply Bl.add | apply Bl.drew | (apply Bl.setNe; omega) | (refine Bl.set' ?_ _ _; (try simp only [size_addB, size_setB, size_drew]); omega)))) rfl (by simp [Value.oneCell']) (by simp) ?_)
                refine L.rd (rd_assign rfl) rfl ?_
                refine L.nil ?_
                refine X.sq ?_
                refine V.seq ?_
                refine V.seq ?_
                generalize hw15 : setB _ _ _ _ = w15
                have he15 := ext_of_new hw15
                have hb15 : Bl w15 w14.heap.size 44 [.slice a14 L14.length c14] := bl_of_new hw15
                replace hN := hN.le he15.leC
                replace hE := hE.ext he15
                replace hb := hb.ext he15
                replace hT12 := hT12.ext he15
                replace hb13 := hb13.ext he15
                replace hT14 := hT14.ext he15
                refine V.region ?_
                refine L.rd (rd_move rfl) rfl ?_
                refine L.rd (rd_move rfl) rfl ?_
                refine L.rd (rd_neqB tok rfl rfl rfl rfl) rfl ?_
                refine L.rd (rd_move rfl) rfl ?_
                first | refine L.partG rfl rfl (fun g114 => ?_) (fun g114 => ?_) | refine L.partGB rfl rfl (fun g114 => ?_) (fun g114 => ?_)
                ·
                  exact absurd rfl g114
                ·
                  refine L.yes rfl rfl ?_
                  refine L.rd (rd_loadN tok rfl rfl rfl hb13.cells rfl) rfl ?_
                  refine L.yes rfl rfl ?_
                  refine L.rd (rd_loadN tok rfl rfl rfl hb15.cells rfl) rfl ?_
                  refine L.yes rfl rfl ?_
                  refine L.ef (e_call rfl (eqPoly_ok _ _ L12 L14 _ hT12 hT14 (p_sm hp12 R.smp)) rfl ?_)
                  rintro _ w16 ⟨rfl, he16⟩
                  replace hN := hN.le he16.leC
                  replace hE := hE.ext he16
                  replace hb := hb.ext he16
                  replace hb13 := hb13.ext he16
                  refine L.yes rfl rfl ?_
                  first | refine L.rd (rd_not rfl) rfl ?_ | refine L.rd (rd_notB rfl) rfl ?_
                  refine L.rd (rd_pickF rfl rfl) rfl ?_
                  refine L.rd (rd_move rfl) rfl ?_
                  first | refine L.partG rfl rfl (fun g120 => ?_) (fun g120 => ?_) | refine L.partGB rfl rfl (fun g120 => ?_) (fun g120 => ?_)
                  ·
                    exact absurd (hp12.trans hp14.symm) g120
                  ·
                    refine L.yes rfl rfl ?_
                    refine L.rd (rd_loadN tok rfl rfl rfl hb13.cells rfl) rfl ?_
                    refine L.yes rfl rfl ?_
                    refine L.rd (rd_move rfl) rfl ?_
                    refine L.yes rfl rfl ?_
                    refine L.rd (rd_move rfl) rfl ?_
                    refine L.yes rfl rfl ?_
                    first | refine L.rd (rd_not rfl) rfl ?_ | refine L.rd (rd_notB rfl) rfl ?_
                    refine L.yes rfl rfl ?_
                    refine L.ef (e_call rfl (okP_ok _ _ _ _ _ _ (fun h => by rw [R.okp h]; rfl) (fun h => p_zero hp12 h)) rfl ?_)
                    rintro _ w17 ⟨rfl, he17⟩
                    replace hN := hN.le he17.leC
                    replace hE := hE.ext he17
                    replace hb := hb.ext he17
                    refine L.yes rfl rfl ?_
                    first | refine L.rd (rd_not rfl) rfl ?_ | refine L.rd (rd_notB rfl) rfl ?_
                    refine L.rd (rd_pickF rfl rfl) rfl ?_
                    refine L.nil ?_
                    refine X.sq ?_
                    first | refine V.cond rfl (fun h127 => ?_) (fun h127 => ?_) | refine V.condB rfl (fun h127 => ?_) (fun h127 => ?_)
                    ·
                      cases h127
                    ·
                      refine V.skip ?_
                      refine X.sq ?_
                      refine V.seq ?_
                      refine V.region ?_
                      refine L.rd (rd_loadN tok rfl rfl rfl hb.cells rfl) rfl ?_
                      refine L.rd (rd_move rfl) rfl ?_
                      refine L.ef (e_call rfl (R.di _ hN) rfl ?_)
                      rintro _ w18 ⟨nv18, ns18, rt18, rfl, ho18, hs18, hn18, he18⟩
                      obtain ⟨a18, c18, rfl⟩ := own_form ho18
                      replace hN := hN.le he18.leC
                      replace hE := hE.ext he18
                      replace hb := hb.ext he18
                      refine L.rd (rd_move rfl) rfl ?_
                      refine L.rd (rd_ext0 rfl) rfl ?_
                      refine L.rd (rd_ext1 rfl) rfl ?_
                      refine L.ef (e_alloc (cs := [_, _]) tok rfl rfl (by first | (simp only [size_addB, size_setB, size_drew]; rfl) | rfl) rfl ?_)
                      refine L.ef (e_store (vs := [_, _]) tok rfl rfl rfl rfl (by (repeat (first | assumption | (refine Bl.new' ?_ _ _; first | with_reducible rfl | (simp only [size_addB, size_setB, size_drew]; done)) | apply Bl.add | apply Bl.drew | (apply Bl.setNe; omega) | (refine Bl.set' ?_ _ _; (try simp only [size_addB, size_setB, size_drew]); omega)))) rfl (by simp [Value.oneCell']) (by simp) ?_)
                      refine L.rd (rd_assign rfl) rfl ?_
                      refine L.nil ?_
                      refine X.sq ?_
                      refine V.seq ?_
                      generalize hw19 : setB _ _ _ _ = w19
                      have he19 := ext_of_new hw19
                      have hb19 : Bl w19 w18.heap.size 34 [.slice a18 ns18.length c18, .int .i64 rt18] := bl_of_new hw19
                      have hR18 := (Rs.of_own ho18).le he19.leC
                      replace hN := hN.le he19.leC
                      replace hE := hE.ext he19
                      replace hb := hb.ext he19
                      refine V.region ?_
                      refine L.rd (rd_loadN tok rfl rfl rfl hb.cells rfl) rfl ?_
                      refine L.rd (rd_move rfl) rfl ?_
                      refine L.ef (e_call rfl (R.ds _ hN) rfl ?_)
                      rintro _ w20 ⟨nv20, ns20, rt20, rfl, ho20, hs20, hn20, he20⟩
                      obtain ⟨a20, c20, rfl⟩ := own_form ho20
                      replace hN := hN.le he20.leC
                      replace hR18 := hR18.le he20.leC
                      replace hE := hE.ext he20
                      replace hb := hb.ext he20
                      replace hb19 := hb19.ext he20
                      refine L.rd (rd_move rfl) rfl ?_
                      refine L.rd (rd_ext0 rfl) rfl ?_
                      refine L.rd (rd_ext1 rfl) rfl ?_
                      refine L.ef (e_alloc (cs := [_, _]) tok rfl rfl (by first | (simp only [size_addB, size_setB, size_drew]; rfl) | rfl) rfl ?_)
                      refine L.ef (e_store (vs := [_, _]) tok rfl rfl rfl rfl (by (repeat (first | assumption | (refine Bl.new' ?_ _ _; first | with_reducible rfl | (simp only [size_addB, size_setB, size_drew]; done)) | apply Bl.add | apply Bl.drew | (apply Bl.setNe; omega) | (refine Bl.set' ?_ _ _; (try simp only [size_addB, size_setB, size_drew]); omega)))) rfl (by simp [Value.oneCell']) (by simp) ?_)
                      generalize hw21 : setB _ _ _ _ = w21
                      have he21 := ext_of_new hw21
                      have hb21 : Bl w21 w20.heap.size 34 [.slice a20 ns20.length c20, .int .i64 rt20] := bl_of_new hw21
                      have hR20 := (Rs.of_own ho20).le he21.leC
                      replace hN := hN.le he21.leC
                      replace hR18 := hR18.le he21.leC
                      replace hE := hE.ext he21
                      replace hb := hb.ext he21
                      replace hb19 := hb19.ext he21
                      have hsame2 := x_same hs18 hn18 hs20 hn20
                      have hlen18 := x_len hs18 hn18 R.szd
                      refine L.rd (rd_assign rfl) rfl ?_
                      refine L.nil ?_
                      refine X.sq ?_
                      refine V.seq ?_
                      refine V.seq ?_
                      refine V.cut (fun l w' => l = [(3, .pointer (some ⟨w.heap.size, 0, none⟩)), (7, .bool b), (159, .bool false)] ∧ Ext w21.heap.size w21 w') ?_ ?_
                      ·
                        refine V.region ?_
                        refine L.rd (rd_move rfl) rfl ?_
                        refine L.rd (rd_move rfl) rfl ?_
                        refine L.rd (rd_neqB tok rfl rfl rfl rfl) rfl ?_
                        refine L.rd (rd_move rfl) rfl ?_
                        first | refine L.partG rfl rfl (fun g143 => ?_) (fun g143 => ?_) | refine L.partGB rfl rfl (fun g143 => ?_) (fun g143 => ?_)
                        ·
                          exact absurd rfl g143
                        ·
                          refine L.yes rfl rfl ?_
                          refine L.rd (rd_loadN tok rfl rfl rfl hb19.cells rfl) rfl ?_
                          refine L.yes rfl rfl ?_
                          refine L.rd (rd_loadN tok rfl rfl rfl hb21.cells rfl) rfl ?_
                          refine L.yes rfl rfl ?_
                          refine L.ef (e_call rfl (eqExpr_ok _ _ ns18 ns20 rt18 rt20 _ hR18 hR20 (by omega)) rfl ?_)
                          rintro _ w22 ⟨rfl, he22⟩
                          replace hb19 := hb19.ext he22
                          refine L.yes rfl rfl ?_
                          first | refine L.rd (rd_not rfl) rfl ?_ | refine L.rd (rd_notB rfl) rfl ?_
                          refine L.rd (rd_pickF rfl rfl) rfl ?_
                          refine L.rd (rd_move rfl) rfl ?_
                          first | refine L.partG rfl rfl (fun g149 => ?_) (fun g149 => ?_) | refine L.partGB rfl rfl (fun g149 => ?_) (fun g149 => ?_)
                          ·
                            exact absurd hsame2 g149
                          ·
                            refine L.yes rfl rfl ?_
                            refine L.rd (rd_loadN tok rfl rfl rfl hb19.cells rfl) rfl ?_
                            refine L.yes rfl rfl ?_
                            refine L.rd (rd_move rfl) rfl ?_
                            refine L.yes rfl rfl ?_
                            refine L.rd (rd_move rfl) rfl ?_
                            refine L.yes rfl rfl ?_
                            first | refine L.rd (rd_not rfl) rfl ?_ | refine L.rd (rd_notB rfl) rfl ?_
                            refine L.yes rfl rfl ?_
                            refine L.rd (rd_move rfl) rfl ?_
                            first | refine L.partG rfl rfl (fun g154 => ?_) (fun g154 => ?_) | refine L.partGB rfl rfl (fun g154 => ?_) (fun g154 => ?_)
                            ·
                              refine L.no rfl rfl rfl rfl ?_
                              refine L.yes rfl rfl ?_
                              refine L.rd (rd_pickT rfl rfl) rfl ?_
                              refine L.yes rfl rfl ?_
                              refine L.ef (e_call rfl (okE_ok _ _ _ _ _ _ _ (fun h => by have := R.okd h; first | exact hbv this.2 | (exfalso; simp [this.1] at g154)) (fun h => x_zero hn18 h)) rfl ?_)
                              rintro _ w23 ⟨rfl, he23⟩
                              refine L.yes rfl rfl ?_
                              first | refine L.rd (rd_not rfl) rfl ?_ | refine L.rd (rd_notB rfl) rfl ?_
                              refine L.rd (rd_pickF rfl rfl) rfl ?_
                              refine L.nil ?_
                              exact X.ct ⟨_, (by repeat' (first | exact trivial | refine ⟨rfl, ?_⟩)), rfl, he22.next he23⟩
                            ·
                              refine L.yes rfl rfl ?_
                              refine L.rd (rd_move rfl) rfl ?_
                              refine L.yes rfl rfl ?_
                              refine L.rd (rd_pickF rfl rfl) rfl ?_
                              refine L.yes rfl rfl ?_
                              refine L.ef (e_call rfl (okE_ok _ _ _ _ _ _ _ (fun h => by have := R.okd h; first | exact hbv this.2 | (exfalso; simp [this.1] at g154)) (fun h => x_zero hn18 h)) rfl ?_)
                              rintro _ w23 ⟨rfl, he23⟩
                              refine L.yes rfl rfl ?_
                              first | refine L.rd (rd_not rfl) rfl ?_ | refine L.rd (rd_notB rfl) rfl ?_
                              refine L.rd (rd_pickF rfl rfl) rfl ?_
                              refine L.nil ?_
                              exact X.ct ⟨_, (by repeat' (first | exact trivial | refine ⟨rfl, ?_⟩)), rfl, he22.next he23⟩
                      ·
                        rintro l w23 ⟨rfl, he23⟩
                        replace hN := hN.le he23.leC
                        replace hE := hE.ext he23
                        replace hb := hb.ext he23
                        refine X.sq ?_
                        first | refine V.cond rfl (fun h159 => ?_) (fun h159 => ?_) | refine V.condB rfl (fun h159 => ?_) (fun h159 => ?_)
                        ·
                          cases h159
                        ·
                          refine V.skip ?_
                          refine X.sq ?_
                          refine V.seq ?_
                          refine V.region ?_
                          refine L.rd (rd_loadN tok rfl rfl rfl hb.cells rfl) rfl ?_
                          refine L.ef (e_call rfl (R.si _ hN) rfl ?_)
                          rintro _ w24 ⟨rfl, he24⟩
                          replace hN := hN.le he24.leC
                          replace hE := hE.ext he24
                          replace hb := hb.ext he24
                          refine L.rd (rd_move rfl) rfl ?_
                          refine L.rd (rd_ext0 rfl) rfl ?_
                          refine L.rd (rd_ext1 rfl) rfl ?_
                          refine L.rd (rd_assign rfl) rfl ?_
                          refine L.rd (rd_assign rfl) rfl ?_
                          refine L.nil ?_
                          refine X.sq ?_
                          refine V.seq ?_
                          refine V.region ?_
                          refine L.rd (rd_loadN tok rfl rfl rfl hb.cells rfl) rfl ?_
                          refine L.ef (e_call rfl (R.ss _ hN) rfl ?_)
                          rintro _ w25 ⟨rfl, he25⟩
                          replace hE := hE.ext he25
                          refine L.rd (rd_move rfl) rfl ?_
                          refine L.rd (rd_ext0 rfl) rfl ?_
                          refine L.rd (rd_ext1 rfl) rfl ?_
                          refine L.rd (rd_assign rfl) rfl ?_
                          refine L.rd (rd_assign rfl) rfl ?_
                          refine L.nil ?_
                          refine X.sq ?_
                          refine V.seq ?_
                          refine V.region ?_
                          refine L.rd (rd_move rfl) rfl ?_
                          refine L.rd (rd_move rfl) rfl ?_
                          refine L.rd (rd_eqlB tok rfl rfl rfl rfl) rfl ?_
                          refine L.rd (rd_move rfl) rfl ?_
                          first | refine L.partG rfl rfl (fun g173 => ?_) (fun g173 => ?_) | refine L.partGB rfl rfl (fun g173 => ?_) (fun g173 => ?_)
                          ·
                            refine L.yes rfl rfl ?_
                            refine L.rd (rd_move rfl) rfl ?_
                            refine L.yes rfl rfl ?_
                            refine L.rd (rd_move rfl) rfl ?_
                            refine L.yes rfl rfl ?_
                            refine L.rd (rd_eqlS rfl rfl) rfl ?_
                            refine L.rd (rd_pickT rfl rfl) rfl ?_
                            refine L.rd (rd_move rfl) rfl ?_
                            first | refine L.partG rfl rfl (fun g178 => ?_) (fun g178 => ?_) | refine L.partGB rfl rfl (fun g178 => ?_) (fun g178 => ?_)
                            ·
                              refine L.yes rfl rfl ?_
                              refine L.rd (rd_move rfl) rfl ?_
                              refine L.yes rfl rfl ?_
                              refine L.rd (rd_move rfl) rfl ?_
                              refine L.yes rfl rfl ?_
                              refine L.rd (rd_move rfl) rfl ?_
                              refine L.yes rfl rfl ?_
                              first | refine L.rd (rd_not rfl) rfl ?_ | refine L.rd (rd_notB rfl) rfl ?_
                              refine L.yes rfl rfl ?_
                              refine L.ef (e_call rfl (okS_ok _ _ _ _ (fun h => by rw [R.oks h]; rfl) (fun h => by cases oS with | none => rfl | some z => cases h)) rfl ?_)
                              rintro _ w26 ⟨rfl, he26⟩
                              refine L.rd (rd_pickT rfl rfl) rfl ?_
                              refine L.rd (rd_assign rfl) rfl ?_
                              refine L.nil ?_
                              refine X.sq ?_
                              refine V.ret ?_
                              refine ret_1 Yaam.results15 rfl ?_
                              exact ⟨rfl, hE.next he26⟩
                            ·
                              simp at g178
                          ·
                            exact absurd rfl g173
end Go.Proofs.YbxaawGreat
