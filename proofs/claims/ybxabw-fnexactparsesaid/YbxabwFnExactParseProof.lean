/-
  The statement FnExactParseSaid.
-/
import Derived.Test.YbxabwRows
import Derived.Test.YbxabwRowP
import Derived.Test.YbxabwPrsW
import Derived.Test.YbxabwNodeW
import Derived.Test.YbxabwLawB
import Derived.WalkKit
import Derived.ProofKit
import Derived.SizedLaws
set_option linter.unusedVariables false
set_option linter.unusedSimpArgs false
set_option maxRecDepth 10000
namespace Go.Mw
theorem xp_same {ts : List TK} {ns ms : List Nd} {r1 r2 : Int} (h1 : ∀ t, parseP ts = some t → ns = flat t 0 ∧ r1 = (tsz t : Int) - 1) (h2 : parseP ts = none → ns = [] ∧ r1 = 0) (k1 : ∀ t, parseP ts = some t → ms = flat t 0 ∧ r2 = (tsz t : Int) - 1) (k2 : parseP ts = none → ms = [] ∧ r2 = 0) : r1 = r2 ∧ ns = ms := by
  cases h : parseP ts with
  | none =>
    obtain ⟨rfl, rfl⟩ := h2 h
    obtain ⟨rfl, rfl⟩ := k2 h
    exact ⟨rfl, rfl⟩
  | some t =>
    obtain ⟨rfl, rfl⟩ := h1 t h
    obtain ⟨rfl, rfl⟩ := k1 t h
    exact ⟨rfl, rfl⟩
theorem xp_len {ts : List TK} {ns : List Nd} {r1 : Int} (h1 : ∀ t, parseP ts = some t → ns = flat t 0 ∧ r1 = (tsz t : Int) - 1) (h2 : parseP ts = none → ns = [] ∧ r1 = 0) : ns.length ≤ 500000 := by
  cases h : parseP ts with
  | none =>
    obtain ⟨rfl, -⟩ := h2 h
    simp
  | some t =>
    obtain ⟨rfl, -⟩ := h1 t h
    rw [flat_len]
    exact (parse_wt h).2.1
end Go.Mw
namespace Go.Proofs.Ybxabw.fnExactParse
open Go.Mw

theorem law (tv : Value) (ts : List TK) (w : World) (hT : Rr w 0 w.heap.size 2 tv ts.length (prC ts)) :
    Ret Yabm.prog 5 [tv] w fun v w' => v = .bool true ∧ Ext w.heap.size w w' := by
  obtain ⟨ta, tc, rfl, hft⟩ := id hT.form
  refine enter1 Yabm.func5 Yabm.ntmps5 (by kernel_rfl) rfl rfl ?_
  refine V.seq ?_
  refine V.region ?_
  refine L.rd (rd_assign rfl) rfl ?_
  refine L.nil ?_
  refine X.sq ?_
  refine V.seq ?_
  refine V.seq ?_
  have hE := Ext.refl w.heap.size w
  refine V.region ?_
  refine L.rd (rd_move rfl) rfl ?_
  refine L.rd (rd_lenSlice tok rfl rfl rfl) rfl ?_
  refine L.rd (rd_gtr rfl rfl) rfl ?_
  refine L.nil ?_
  refine X.sq ?_
  first | refine V.cond rfl (fun h16 => ?_) (fun h16 => ?_) | refine V.condB rfl (fun h16 => ?_) (fun h16 => ?_)
  ·
    refine V.seq ?_
    refine V.region ?_
    refine L.rd (rd_assign rfl) rfl ?_
    refine L.nil ?_
    refine X.sq ?_
    refine V.ret ?_
    refine X.sqRet ?_
    refine ret_1 Yabm.results5 rfl ?_
    exact ⟨rfl, hE⟩
  ·
    refine V.skip ?_
    refine X.sq ?_
    refine V.seq ?_
    have hlt : ts.length ≤ 4294967296 := by omega
    refine V.region ?_
    refine L.rd (rd_move rfl) rfl ?_
    refine L.ef (e_call rfl (tokIn_ok _ ts false _ hT.rs hlt) rfl ?_)
    rintro v1 w1 ⟨ho1, he1⟩
    obtain ⟨a1, c1, rfl⟩ := own_form ho1
    replace hE := hE.ext he1
    replace hT := hT.ext he1
    refine L.ef (e_call rfl (sparse_ok _ ts _ ((Ow.mk' ho1).rr.wide (Nat.zero_le _) (Nat.le_refl _))) rfl ?_)
    rintro _ w2 ⟨nv2, ns2, rt2, rfl, ho2, hs2, hn2, he2⟩
    obtain ⟨a2, c2, rfl⟩ := own_form ho2
    replace hE := hE.ext he2
    replace hT := hT.ext he2
    have hl2 := xp_len hs2 hn2
    refine L.rd (rd_move rfl) rfl ?_
    refine L.rd (rd_ext0 rfl) rfl ?_
    refine L.rd (rd_ext1 rfl) rfl ?_
    refine L.ef (e_alloc (cs := [_, _]) tok rfl rfl (by first | (simp only [size_addB, size_setB, size_drew]; rfl) | rfl) rfl ?_)
    refine L.ef (e_store (vs := [_, _]) tok rfl rfl rfl rfl (by (repeat (first | assumption | (refine Bl.new' ?_ _ _; first | with_reducible rfl | (simp only [size_addB, size_setB, size_drew]; done)) | apply Bl.add | apply Bl.drew | (apply Bl.setNe; omega) | (refine Bl.set' ?_ _ _; (try simp only [size_addB, size_setB, size_drew]); omega)))) rfl (by simp [Value.oneCell']) (by simp) ?_)
    refine L.rd (rd_assign rfl) rfl ?_
    refine L.nil ?_
    refine X.sq ?_
    refine V.seq ?_
    generalize hwa : setB _ _ _ _ = wa
    have hea := ext_of_new hwa
    have hmw : Bl wa w2.heap.size 34 [.slice a2 ns2.length c2, .int .i64 rt2] := bl_of_new hwa
    replace hE := hE.ext hea
    replace hT := hT.ext hea
    have hR2 := (Rs.of_own ho2).le hea.leC
    refine V.region ?_
    refine L.rd (rd_loadN tok rfl rfl rfl hmw.cells rfl) rfl ?_
    refine L.ef (e_call rfl (exprOut_ok _ ns2 rt2 _ hR2 (by omega)) rfl ?_)
    rintro _ w3 ⟨v3, rfl, ho3, he3⟩
    obtain ⟨a3, c3, rfl⟩ := own_form ho3
    replace hE := hE.ext he3
    replace hT := hT.ext he3
    refine L.ef (e_alloc (cs := [_, _]) tok rfl rfl (by first | (simp only [size_addB, size_setB, size_drew]; rfl) | rfl) rfl ?_)
    refine L.ef (e_store (vs := [_, _]) tok rfl rfl rfl rfl (by (repeat (first | assumption | (refine Bl.new' ?_ _ _; first | with_reducible rfl | (simp only [size_addB, size_setB, size_drew]; done)) | apply Bl.add | apply Bl.drew | (apply Bl.setNe; omega) | (refine Bl.set' ?_ _ _; (try simp only [size_addB, size_setB, size_drew]); omega)))) rfl (by simp [Value.oneCell']) (by simp) ?_)
    refine L.nil ?_
    refine X.sq ?_
    refine V.seq ?_
    generalize hwb : setB _ _ _ _ = wb
    have heb := ext_of_new hwb
    have hwn : Bl wb w3.heap.size 40 [.slice a3 ns2.length c3, .int .i64 rt2] := bl_of_new hwb
    have hsb := size_of_new hwb
    replace hE := hE.ext heb
    replace hT := hT.ext heb
    have hTw := ((Ow.mk' ho3).ext heb).rr
    refine V.region ?_
    refine L.rd (rd_move rfl) rfl ?_
    refine L.ef (e_call rfl (flipTokL_ok _ ts _ hT.rs hlt) rfl ?_)
    rintro vf w4 ⟨hof, he4⟩
    obtain ⟨af, cf, rfl⟩ := own_form hof
    replace hE := hE.ext he4
    replace hT := hT.ext he4
    replace hwn := hwn.ext he4
    replace hTw := hTw.ext he4
    have hTf := (Ow.mk' hof).rr
    have z1 := he1.size
    have z2 := he2.size
    have z3 := hea.size
    have z4 := he3.size
    have z6 := he4.size
    refine L.rd (rd_assign rfl) rfl ?_
    refine L.nil ?_
    refine X.sq ?_
    refine V.seq ?_
    refine V.seq ?_
    refine V.region ?_
    refine L.rd (rd_assign rfl) rfl ?_
    refine L.nil ?_
    refine X.sq ?_
    refine V.block ?_
    refine V.loop (fun m l wr => ∃ (k : Nat), l = [(0, .slice ta ts.length tc), (4, .bool (parseP ts).isSome), (5, .pointer (some ⟨w3.heap.size, 0, none⟩)), (6, .slice af ts.length cf), (7, .int .i64 k)] ∧ m = 2 - k ∧ k ≤ 2 ∧ Ext w.heap.size w wr ∧ Rr wr 0 w.heap.size 2 (.slice ta ts.length tc) ts.length (prC ts) ∧ Bl wr w3.heap.size 40 [.slice a3 ns2.length c3, .int .i64 rt2] ∧ Rr wr wa.heap.size w3.heap.size 5 (.slice a3 ns2.length c3) ns2.length (ns2.flatMap ndE) ∧ Rr wr wb.heap.size w4.heap.size 2 (.slice af ts.length cf) ts.length (prC (ts.map flipT)) ∧ w4.heap.size ≤ wr.heap.size) ?_ ?_
    ·
      exact ⟨_, _, (by repeat' (first | exact trivial | refine ⟨rfl, ?_⟩)), 0, rfl, rfl, by omega, hE, hT, hwn, hTw, hTf, Nat.le_refl _⟩
    ·
      clear hE hT hwn hTw hTf hmw hR2
      rintro m l wr ⟨k, rfl, rfl, hk, hE, hT, hwn, hTw, hTf, hwr⟩
      refine V.seq ?_
      refine V.seq ?_
      refine V.region ?_
      refine L.rd (rd_move rfl) rfl ?_
      refine L.rd (rd_lss rfl rfl) rfl ?_
      refine L.nil ?_
      refine X.sq ?_
      first | refine V.cond rfl (fun h28 => ?_) (fun h28 => ?_) | refine V.condB rfl (fun h28 => ?_) (fun h28 => ?_)
      ·
        refine V.skip ?_
        refine X.sq ?_
        refine V.seq ?_
        refine V.block ?_
        refine V.seq ?_
        refine V.region ?_
        refine L.rd (rd_move rfl) rfl ?_
        refine L.rd (rd_move rfl) rfl ?_
        refine L.rd (rd_eql rfl rfl) rfl ?_
        refine L.ef (e_call rfl (tokIn_ok _ ts _ _ hT.rs hlt) rfl ?_)
        rintro v5 w5 ⟨ho5, he5⟩
        obtain ⟨a5, c5, rfl⟩ := own_form ho5
        have hO5 := Ow.mk' ho5
        replace hE := hE.ext he5
        replace hT := hT.ext he5
        replace hwn := hwn.ext he5
        replace hTw := hTw.ext he5
        replace hTf := hTf.ext he5
        refine L.rd (rd_assign rfl) rfl ?_
        refine L.nil ?_
        refine X.sq ?_
        refine V.seq ?_
        refine V.region ?_
        refine L.rd (rd_move rfl) rfl ?_
        refine L.ef (e_call rfl (iparse_ok _ ts _ (hO5.rr.wide (Nat.zero_le _) (Nat.le_refl _))) rfl ?_)
        rintro _ w6 ⟨nv6, ns6, rt6, rfl, ho6, hs6, hn6, he6⟩
        obtain ⟨a6, c6, rfl⟩ := own_form ho6
        have hO6 := Ow.mk' ho6
        replace hE := hE.ext he6
        replace hT := hT.ext he6
        replace hwn := hwn.ext he6
        replace hTw := hTw.ext he6
        replace hTf := hTf.ext he6
        replace hO5 := hO5.ext he6
        have hl6 := xp_len hs6 hn6
        have hsame := xp_same hs6 hn6 hs2 hn2
        refine L.rd (rd_move rfl) rfl ?_
        refine L.rd (rd_ext0 rfl) rfl ?_
        refine L.rd (rd_ext1 rfl) rfl ?_
        refine L.ef (e_alloc (cs := [_, _]) tok rfl rfl (by first | (simp only [size_addB, size_setB, size_drew]; rfl) | rfl) rfl ?_)
        refine L.ef (e_store (vs := [_, _]) tok rfl rfl rfl rfl (by (repeat (first | assumption | (refine Bl.new' ?_ _ _; first | with_reducible rfl | (simp only [size_addB, size_setB, size_drew]; done)) | apply Bl.add | apply Bl.drew | (apply Bl.setNe; omega) | (refine Bl.set' ?_ _ _; (try simp only [size_addB, size_setB, size_drew]); omega)))) rfl (by simp [Value.oneCell']) (by simp) ?_)
        refine L.rd (rd_assign rfl) rfl ?_
        refine L.nil ?_
        refine X.sq ?_
        refine V.seq ?_
        refine V.seq ?_
        generalize hwc : setB _ _ _ _ = wc
        have hec := ext_of_new hwc
        have hgb : Bl wc w6.heap.size 34 [.slice a6 ns6.length c6, .int .i64 rt6] := bl_of_new hwc
        have hsc := size_of_new hwc
        replace hE := hE.ext hec
        replace hT := hT.ext hec
        replace hwn := hwn.ext hec
        replace hTw := hTw.ext hec
        replace hTf := hTf.ext hec
        replace hO5 := hO5.ext hec
        replace hO6 := hO6.ext hec
        refine V.region ?_
        refine L.rd (rd_move rfl) rfl ?_
        refine L.ef (e_call rfl (tokOut_ok _ ts _ hO5.rr.rs hlt) rfl ?_)
        rintro v7 w7 ⟨ho7, he7⟩
        obtain ⟨a7, c7, rfl⟩ := own_form ho7
        replace hE := hE.ext he7
        replace hT := hT.ext he7
        replace hwn := hwn.ext he7
        replace hTw := hTw.ext he7
        replace hTf := hTf.ext he7
        replace hO5 := hO5.ext he7
        replace hO6 := hO6.ext he7
        replace hgb := hgb.ext he7
        refine L.rd (rd_move rfl) rfl ?_
        refine L.ef (e_call rfl (eqTokL_ok _ _ ts ts _ (Rs.of_own ho7) hT.rs hlt) rfl ?_)
        rintro _ w8 ⟨rfl, he8⟩
        replace hE := hE.ext he8
        replace hT := hT.ext he8
        replace hwn := hwn.ext he8
        replace hTw := hTw.ext he8
        replace hTf := hTf.ext he8
        replace hO5 := hO5.ext he8
        replace hO6 := hO6.ext he8
        replace hgb := hgb.ext he8
        first | refine L.rd (rd_not rfl) rfl ?_ | refine L.rd (rd_notB rfl) rfl ?_
        refine L.nil ?_
        refine X.sq ?_
        first | refine V.cond rfl (fun h44 => ?_) (fun h44 => ?_) | refine V.condB rfl (fun h44 => ?_) (fun h44 => ?_)
        ·
          exact absurd rfl h44
        ·
          refine V.skip ?_
          refine X.sq ?_
          refine V.seq ?_
          refine V.seq ?_
          have heS : Ext w8.heap.size w8 w8.drew := (Ext.refl _ w8).drew
          refine V.draw [] mixed ?_
          refine D.take 0 [true, false, false, false, false, false, false, false, false, false] (.sq (.sq (.bk (.sq (.lp (.bk (.sq .bd))))))) rfl (rd_move rfl) rfl (by kernel_rfl) rfl (LeC.drew _) ?_
          refine D.take 1 [true, true, false, false, false, false, false, false, false, false] (.sq (.sq (.bk (.sq (.lp (.bk (.sq .bd))))))) rfl (rd_move rfl) rfl (by kernel_rfl) rfl (LeC.drew _) ?_
          refine D.take 2 [true, true, true, false, false, false, false, false, false, false] (.sq (.sq (.bk (.sq (.lp (.bk (.sq .bd))))))) rfl (rd_neqB tok rfl rfl rfl rfl) rfl (by kernel_rfl) rfl (LeC.drew _) ?_
          refine D.take 3 [true, true, true, true, false, false, false, false, false, false] (.sq (.sq (.bk (.sq (.lp (.bk (.sq .bd))))))) rfl (rd_move rfl) rfl (by kernel_rfl) rfl (LeC.drew _) ?_
          first | refine D.part 48 rfl (fun g48 => ?_) (fun g48 => ?_) | refine D.partB 48 rfl (fun g48 => ?_) (fun g48 => ?_)
          ·
            exact absurd rfl g48
          ·
            refine D.takeYes 4 [true, true, true, true, true, false, false, false, false, false] (.sq (.sq (.bk (.sq (.lp (.bk (.sq .bd))))))) rfl rfl rfl (rd_loadN tok rfl rfl rfl hgb.cells rfl) rfl (by kernel_rfl) rfl (LeC.drew _) ?_
            refine D.takeYes 6 [true, true, true, true, true, false, true, false, false, false] (.sq (.sq (.bk (.sq (.lp (.bk (.sq .bd))))))) rfl rfl rfl (rd_loadN tok rfl rfl rfl hwn.cells rfl) rfl (by kernel_rfl) rfl (LeC.drew _) ?_
            refine D.oneYes 5 [true, true, true, true, true, true, true, false, false, false] rfl rfl rfl (by kernel_rfl) rfl (e_call rfl (exprOut_ok _ ns6 rt6 _ (hO6.rr.ext heS).rs (by omega)) rfl ?_)
            rintro _ w9 ⟨v9, rfl, ho9, he9⟩
            replace heS := heS.next he9
            refine ⟨fun _ => (heS.leC), ?_⟩
            refine D.oneYes 7 [true, true, true, true, true, true, true, true, false, false] rfl rfl rfl (by kernel_rfl) rfl (e_call rfl (eqExprL_ok _ _ ns6 ns2 rt6 rt2 _ (Rs.of_own ho9) (hTw.ext heS).rs (by omega)) rfl ?_)
            rintro _ w10 ⟨rfl, he10⟩
            replace heS := heS.next he10
            refine ⟨fun _ => (heS.leC), ?_⟩
            first | refine D.takeYes 8 [true, true, true, true, true, true, true, true, true, false] (.sq (.sq (.bk (.sq (.lp (.bk (.sq .bd))))))) rfl rfl rfl (rd_not rfl) rfl (by kernel_rfl) rfl (heS.leC) ?_ | refine D.takeYes 8 [true, true, true, true, true, true, true, true, true, false] (.sq (.sq (.bk (.sq (.lp (.bk (.sq .bd))))))) rfl rfl rfl (rd_notB rfl) rfl (by kernel_rfl) rfl (heS.leC) ?_
            refine D.take 9 [true, true, true, true, true, true, true, true, true, true] (.sq (.sq (.bk (.sq (.lp (.bk (.sq .bd))))))) rfl (rd_pickF rfl rfl) rfl (by kernel_rfl) rfl (heS.leC) ?_
            refine D.done (by kernel_rfl) ?_
            refine X.sq ?_
            first | refine V.cond rfl (fun h54 => ?_) (fun h54 => ?_) | refine V.condB rfl (fun h54 => ?_) (fun h54 => ?_)
            ·
              exact absurd hsame h54
            ·
              refine V.skip ?_
              refine X.sq ?_
              refine V.seq ?_
              skip
              replace hE := hE.ext heS
              replace hT := hT.ext heS
              replace hwn := hwn.ext heS
              replace hTw := hTw.ext heS
              replace hTf := hTf.ext heS
              replace hO5 := hO5.ext heS
              replace hO6 := hO6.ext heS
              replace hgb := hgb.ext heS
              have y1 := he5.size
              have y2 := he6.size
              have y4 := he7.size
              have y5 := he8.size
              have y6 := heS.size
              clear heS
              refine V.region ?_
              refine L.rd (rd_fieldAddr tok rfl rfl rfl rfl rfl rfl) rfl ?_
              refine L.rd (rd_load1 tok rfl rfl rfl (hgb.cell rfl)) rfl ?_
              refine L.ef (e_call rfl (growNodes_ok _ ns6 _ _ hO6.own (by omega) (by omega)) rfl ?_)
              rintro _ w11 ⟨ho11, hg11⟩
              obtain ⟨hO11, hR11⟩ := hO6.grown hg11 ho11
              clear hO6
              replace hE := hE.rg hR11 (by omega)
              replace hT := hT.rg hR11 (by omega)
              replace hwn := hwn.rg hR11 (by omega)
              replace hTw := hTw.rg hR11 (by omega)
              replace hTf := hTf.rg hR11 (by omega)
              replace hO5 := hO5.rg hR11 (by omega)
              replace hgb := hgb.rg hR11 (by omega)
              refine L.nil ?_
              refine X.sq ?_
              refine V.seq ?_
              refine V.seq ?_
              have heS : Ext w11.heap.size w11 w11.drew := (Ext.refl _ w11).drew
              have y7 := hR11.size
              refine V.draw [] mixed ?_
              refine D.take 0 [true, false, false, false, false, false, false, false, false, false, false, false] (.sq (.sq (.bk (.sq (.lp (.bk (.sq .bd))))))) rfl (rd_move rfl) rfl (by kernel_rfl) rfl (LeC.drew _) ?_
              refine D.take 2 [true, false, true, false, false, false, false, false, false, false, false, false] (.sq (.sq (.bk (.sq (.lp (.bk (.sq .bd))))))) rfl (rd_move rfl) rfl (by kernel_rfl) rfl (LeC.drew _) ?_
              refine D.one 1 [true, true, true, false, false, false, false, false, false, false, false, false] rfl (by kernel_rfl) rfl (e_call rfl (tokOut_ok _ ts _ (hO5.rr.ext heS).rs hlt) rfl ?_)
              rintro v12 w12 ⟨ho12, he12⟩
              obtain ⟨a12, c12, rfl⟩ := own_form ho12
              replace heS := heS.next he12
              refine ⟨fun _ => (heS.leC), ?_⟩
              refine D.one 3 [true, true, true, true, false, false, false, false, false, false, false, false] rfl (by kernel_rfl) rfl (e_call rfl (eqTokL_ok _ _ ts ts _ (Rs.of_own ho12) (hT.ext heS).rs hlt) rfl ?_)
              rintro _ w13 ⟨rfl, he13⟩
              replace heS := heS.next he13
              refine ⟨fun _ => (heS.leC), ?_⟩
              first | refine D.take 4 [true, true, true, true, true, false, false, false, false, false, false, false] (.sq (.sq (.bk (.sq (.lp (.bk (.sq .bd))))))) rfl (rd_not rfl) rfl (by kernel_rfl) rfl (heS.leC) ?_ | refine D.take 4 [true, true, true, true, true, false, false, false, false, false, false, false] (.sq (.sq (.bk (.sq (.lp (.bk (.sq .bd))))))) rfl (rd_notB rfl) rfl (by kernel_rfl) rfl (heS.leC) ?_
              refine D.take 5 [true, true, true, true, true, true, false, false, false, false, false, false] (.sq (.sq (.bk (.sq (.lp (.bk (.sq .bd))))))) rfl (rd_move rfl) rfl (by kernel_rfl) rfl (heS.leC) ?_
              first | refine D.part 63 rfl (fun g63 => ?_) (fun g63 => ?_) | refine D.partB 63 rfl (fun g63 => ?_) (fun g63 => ?_)
              ·
                exact absurd rfl g63
              ·
                refine D.takeYes 6 [true, true, true, true, true, true, true, false, false, false, false, false] (.sq (.sq (.bk (.sq (.lp (.bk (.sq .bd))))))) rfl rfl rfl (rd_loadN tok rfl rfl rfl hgb.cells rfl) rfl (by kernel_rfl) rfl (heS.leC) ?_
                refine D.takeYes 8 [true, true, true, true, true, true, true, false, true, false, false, false] (.sq (.sq (.bk (.sq (.lp (.bk (.sq .bd))))))) rfl rfl rfl (rd_loadN tok rfl rfl rfl hwn.cells rfl) rfl (by kernel_rfl) rfl (heS.leC) ?_
                refine D.oneYes 7 [true, true, true, true, true, true, true, true, true, false, false, false] rfl rfl rfl (by kernel_rfl) rfl (e_call rfl (exprOut_ok _ ns6 rt6 _ (hO11.rr.ext heS).rs (by omega)) rfl ?_)
                rintro _ w14 ⟨v14, rfl, ho14, he14⟩
                replace heS := heS.next he14
                refine ⟨fun _ => (heS.leC), ?_⟩
                refine D.oneYes 9 [true, true, true, true, true, true, true, true, true, true, false, false] rfl rfl rfl (by kernel_rfl) rfl (e_call rfl (eqExprL_ok _ _ ns6 ns2 rt6 rt2 _ (Rs.of_own ho14) (hTw.ext heS).rs (by omega)) rfl ?_)
                rintro _ w15 ⟨rfl, he15⟩
                replace heS := heS.next he15
                refine ⟨fun _ => (heS.leC), ?_⟩
                first | refine D.takeYes 10 [true, true, true, true, true, true, true, true, true, true, true, false] (.sq (.sq (.bk (.sq (.lp (.bk (.sq .bd))))))) rfl rfl rfl (rd_not rfl) rfl (by kernel_rfl) rfl (heS.leC) ?_ | refine D.takeYes 10 [true, true, true, true, true, true, true, true, true, true, true, false] (.sq (.sq (.bk (.sq (.lp (.bk (.sq .bd))))))) rfl rfl rfl (rd_notB rfl) rfl (by kernel_rfl) rfl (heS.leC) ?_
                refine D.take 11 [true, true, true, true, true, true, true, true, true, true, true, true] (.sq (.sq (.bk (.sq (.lp (.bk (.sq .bd))))))) rfl (rd_pickF rfl rfl) rfl (by kernel_rfl) rfl (heS.leC) ?_
                refine D.done (by kernel_rfl) ?_
                refine X.sq ?_
                first | refine V.cond rfl (fun h69 => ?_) (fun h69 => ?_) | refine V.condB rfl (fun h69 => ?_) (fun h69 => ?_)
                ·
                  exact absurd hsame h69
                ·
                  refine V.skip ?_
                  refine X.sq ?_
                  refine V.seq ?_
                  skip
                  replace hE := hE.ext heS
                  replace hT := hT.ext heS
                  replace hwn := hwn.ext heS
                  replace hTw := hTw.ext heS
                  replace hTf := hTf.ext heS
                  replace hO5 := hO5.ext heS
                  replace hO11 := hO11.ext heS
                  replace hgb := hgb.ext heS
                  have y8 := heS.size
                  clear heS
                  refine V.region ?_
                  refine L.rd (rd_move rfl) rfl ?_
                  refine L.ef (e_call rfl (flipToks_ok _ ts _ _ hO5.own hlt) rfl ?_)
                  rintro _ w16 ⟨ho16, hg16⟩
                  obtain ⟨hO16, hR16⟩ := hO5.grown hg16 ho16
                  clear hO5
                  replace hE := hE.rg hR16 (by omega)
                  replace hT := hT.rg hR16 (by omega)
                  replace hwn := hwn.rg hR16 (by omega)
                  replace hTw := hTw.rg hR16 (by omega)
                  replace hTf := hTf.rg hR16 (by omega)
                  replace hO11 := hO11.rg hR16 (by omega)
                  replace hgb := hgb.rg hR16 (by omega)
                  refine L.nil ?_
                  refine X.sq ?_
                  refine V.seq ?_
                  refine V.seq ?_
                  have heS : Ext w16.heap.size w16 w16.drew := (Ext.refl _ w16).drew
                  have y9 := hR16.size
                  have hlm : (ts.map flipT).length = ts.length := List.length_map _
                  refine V.draw [] mixed ?_
                  refine D.take 0 [true, false, false, false, false, false, false, false, false, false, false, false] (.sq (.sq (.bk (.sq (.lp (.bk (.sq .bd))))))) rfl (rd_move rfl) rfl (by kernel_rfl) rfl (LeC.drew _) ?_
                  refine D.take 2 [true, false, true, false, false, false, false, false, false, false, false, false] (.sq (.sq (.bk (.sq (.lp (.bk (.sq .bd))))))) rfl (rd_move rfl) rfl (by kernel_rfl) rfl (LeC.drew _) ?_
                  refine D.one 1 [true, true, true, false, false, false, false, false, false, false, false, false] rfl (by kernel_rfl) rfl (e_call rfl (tokOut_ok _ (ts.map flipT) _ (by rw [hlm]; exact (hO16.rr.ext heS).rs) (by omega)) rfl ?_)
                  rintro v17 w17 ⟨ho17, he17⟩
                  rw [hlm] at ho17
                  obtain ⟨a17, c17, rfl⟩ := own_form ho17
                  replace heS := heS.next he17
                  refine ⟨fun _ => (heS.leC), ?_⟩
                  refine D.one 3 [true, true, true, true, false, false, false, false, false, false, false, false] rfl (by kernel_rfl) rfl (e_call rfl (eqTokL_ok _ _ (ts.map flipT) (ts.map flipT) _ (by rw [hlm]; exact Rs.of_own ho17) (by rw [hlm]; exact (hTf.ext heS).rs) (by omega)) rfl ?_)
                  rintro _ w18 ⟨rfl, he18⟩
                  replace heS := heS.next he18
                  refine ⟨fun _ => (heS.leC), ?_⟩
                  first | refine D.take 4 [true, true, true, true, true, false, false, false, false, false, false, false] (.sq (.sq (.bk (.sq (.lp (.bk (.sq .bd))))))) rfl (rd_not rfl) rfl (by kernel_rfl) rfl (heS.leC) ?_ | refine D.take 4 [true, true, true, true, true, false, false, false, false, false, false, false] (.sq (.sq (.bk (.sq (.lp (.bk (.sq .bd))))))) rfl (rd_notB rfl) rfl (by kernel_rfl) rfl (heS.leC) ?_
                  refine D.take 5 [true, true, true, true, true, true, false, false, false, false, false, false] (.sq (.sq (.bk (.sq (.lp (.bk (.sq .bd))))))) rfl (rd_move rfl) rfl (by kernel_rfl) rfl (heS.leC) ?_
                  first | refine D.part 77 rfl (fun g77 => ?_) (fun g77 => ?_) | refine D.partB 77 rfl (fun g77 => ?_) (fun g77 => ?_)
                  ·
                    exact absurd rfl g77
                  ·
                    refine D.takeYes 6 [true, true, true, true, true, true, true, false, false, false, false, false] (.sq (.sq (.bk (.sq (.lp (.bk (.sq .bd))))))) rfl rfl rfl (rd_loadN tok rfl rfl rfl hgb.cells rfl) rfl (by kernel_rfl) rfl (heS.leC) ?_
                    refine D.takeYes 8 [true, true, true, true, true, true, true, false, true, false, false, false] (.sq (.sq (.bk (.sq (.lp (.bk (.sq .bd))))))) rfl rfl rfl (rd_loadN tok rfl rfl rfl hwn.cells rfl) rfl (by kernel_rfl) rfl (heS.leC) ?_
                    refine D.oneYes 7 [true, true, true, true, true, true, true, true, true, false, false, false] rfl rfl rfl (by kernel_rfl) rfl (e_call rfl (exprOut_ok _ ns6 rt6 _ (hO11.rr.ext heS).rs (by omega)) rfl ?_)
                    rintro _ w19 ⟨v19, rfl, ho19, he19⟩
                    replace heS := heS.next he19
                    refine ⟨fun _ => (heS.leC), ?_⟩
                    refine D.oneYes 9 [true, true, true, true, true, true, true, true, true, true, false, false] rfl rfl rfl (by kernel_rfl) rfl (e_call rfl (eqExprL_ok _ _ ns6 ns2 rt6 rt2 _ (Rs.of_own ho19) (hTw.ext heS).rs (by omega)) rfl ?_)
                    rintro _ w20 ⟨rfl, he20⟩
                    replace heS := heS.next he20
                    refine ⟨fun _ => (heS.leC), ?_⟩
                    first | refine D.takeYes 10 [true, true, true, true, true, true, true, true, true, true, true, false] (.sq (.sq (.bk (.sq (.lp (.bk (.sq .bd))))))) rfl rfl rfl (rd_not rfl) rfl (by kernel_rfl) rfl (heS.leC) ?_ | refine D.takeYes 10 [true, true, true, true, true, true, true, true, true, true, true, false] (.sq (.sq (.bk (.sq (.lp (.bk (.sq .bd))))))) rfl rfl rfl (rd_notB rfl) rfl (by kernel_rfl) rfl (heS.leC) ?_
                    refine D.take 11 [true, true, true, true, true, true, true, true, true, true, true, true] (.sq (.sq (.bk (.sq (.lp (.bk (.sq .bd))))))) rfl (rd_pickF rfl rfl) rfl (by kernel_rfl) rfl (heS.leC) ?_
                    refine D.done (by kernel_rfl) ?_
                    refine X.sq ?_
                    first | refine V.cond rfl (fun h83 => ?_) (fun h83 => ?_) | refine V.condB rfl (fun h83 => ?_) (fun h83 => ?_)
                    ·
                      exact absurd hsame h83
                    ·
                      refine V.skip ?_
                      refine X.sq ?_
                      refine V.seq ?_
                      skip
                      replace hE := hE.ext heS
                      replace hT := hT.ext heS
                      replace hwn := hwn.ext heS
                      replace hTw := hTw.ext heS
                      replace hTf := hTf.ext heS
                      replace hO16 := hO16.ext heS
                      replace hO11 := hO11.ext heS
                      replace hgb := hgb.ext heS
                      have y10 := heS.size
                      clear heS
                      refine V.region ?_
                      refine L.rd (rd_fieldAddr tok rfl rfl rfl rfl rfl rfl) rfl ?_
                      refine L.rd (rd_load1 tok rfl rfl rfl (hgb.cell rfl)) rfl ?_
                      refine L.ef (e_call rfl (flipNodes_ok _ ns6 _ _ hO11.own (by omega)) rfl ?_)
                      rintro _ w21 ⟨ho21, hg21⟩
                      obtain ⟨hO21, hR21⟩ := hO11.grown hg21 ho21
                      clear hO11
                      replace hE := hE.rg hR21 (by omega)
                      replace hT := hT.rg hR21 (by omega)
                      replace hwn := hwn.rg hR21 (by omega)
                      replace hTw := hTw.rg hR21 (by omega)
                      replace hTf := hTf.rg hR21 (by omega)
                      replace hO16 := hO16.rg hR21 (by omega)
                      replace hgb := hgb.rg hR21 (by omega)
                      refine L.nil ?_
                      refine X.sq ?_
                      refine V.seq ?_
                      refine V.seq ?_
                      refine V.region ?_
                      refine L.rd (rd_move rfl) rfl ?_
                      refine L.ef (e_call rfl (tokOut_ok _ (ts.map flipT) _ (by rw [hlm]; exact hO16.rr.rs) (by omega)) rfl ?_)
                      rintro v22 w22 ⟨ho22, he22⟩
                      rw [hlm] at ho22
                      obtain ⟨a22, c22, rfl⟩ := own_form ho22
                      have y11 := hR21.size
                      replace hE := hE.ext he22
                      replace hT := hT.ext he22
                      replace hwn := hwn.ext he22
                      replace hTw := hTw.ext he22
                      replace hTf := hTf.ext he22
                      replace hO21 := hO21.ext he22
                      replace hgb := hgb.ext he22
                      refine L.rd (rd_move rfl) rfl ?_
                      refine L.ef (e_call rfl (eqTokL_ok _ _ (ts.map flipT) (ts.map flipT) _ (by rw [hlm]; exact Rs.of_own ho22) (by rw [hlm]; exact hTf.rs) (by omega)) rfl ?_)
                      rintro _ w23 ⟨rfl, he23⟩
                      replace hE := hE.ext he23
                      replace hT := hT.ext he23
                      replace hwn := hwn.ext he23
                      replace hTw := hTw.ext he23
                      replace hTf := hTf.ext he23
                      replace hO21 := hO21.ext he23
                      replace hgb := hgb.ext he23
                      first | refine L.rd (rd_not rfl) rfl ?_ | refine L.rd (rd_notB rfl) rfl ?_
                      refine L.nil ?_
                      refine X.sq ?_
                      first | refine V.cond rfl (fun h91 => ?_) (fun h91 => ?_) | refine V.condB rfl (fun h91 => ?_) (fun h91 => ?_)
                      ·
                        exact absurd rfl h91
                      ·
                        refine V.skip ?_
                        refine X.sq ?_
                        refine V.seq ?_
                        have hlN : (ns6.map flipN).length = ns6.length := List.length_map _
                        have y12 := he22.size
                        have y13 := he23.size
                        refine V.region ?_
                        refine L.rd (rd_loadN tok rfl rfl rfl hgb.cells rfl) rfl ?_
                        refine L.ef (e_call rfl (exprOut_ok _ (ns6.map flipN) rt6 _ (by rw [hlN]; exact hO21.rr.rs) (by omega)) rfl ?_)
                        rintro _ w24 ⟨v24, rfl, ho24, he24⟩
                        rw [hlN] at ho24
                        obtain ⟨a24, c24, rfl⟩ := own_form ho24
                        replace hE := hE.ext he24
                        replace hT := hT.ext he24
                        replace hwn := hwn.ext he24
                        replace hTw := hTw.ext he24
                        replace hTf := hTf.ext he24
                        replace hO21 := hO21.ext he24
                        replace hgb := hgb.ext he24
                        refine L.ef (e_alloc (cs := [_, _]) tok rfl rfl (by first | (simp only [size_addB, size_setB, size_drew]; rfl) | rfl) rfl ?_)
                        refine L.ef (e_store (vs := [_, _]) tok rfl rfl rfl rfl (by (repeat (first | assumption | (refine Bl.new' ?_ _ _; first | with_reducible rfl | (simp only [size_addB, size_setB, size_drew]; done)) | apply Bl.add | apply Bl.drew | (apply Bl.setNe; omega) | (refine Bl.set' ?_ _ _; (try simp only [size_addB, size_setB, size_drew]); omega)))) rfl (by simp [Value.oneCell']) (by simp) ?_)
                        refine L.nil ?_
                        refine X.sq ?_
                        refine V.seq ?_
                        generalize hwd : setB _ _ _ _ = wd
                        have hed := ext_of_new hwd
                        have hsp : Bl wd w24.heap.size 40 [.slice a24 ns6.length c24, .int .i64 rt6] := bl_of_new hwd
                        have hsd := size_of_new hwd
                        replace hE := hE.ext hed
                        replace hT := hT.ext hed
                        replace hwn := hwn.ext hed
                        replace hTw := hTw.ext hed
                        replace hTf := hTf.ext hed
                        replace hO21 := hO21.ext hed
                        replace hgb := hgb.ext hed
                        have hTs := ((Ow.mk' ho24).ext hed).rr
                        have y14 := he24.size
                        refine V.region ?_
                        refine L.rd (rd_move rfl) rfl ?_
                        refine L.rd (rd_move rfl) rfl ?_
                        refine L.rd (rd_eql rfl rfl) rfl ?_
                        refine L.ef (e_call rfl (tokIn_ok _ ts _ _ hT.rs hlt) rfl ?_)
                        rintro v25 w25 ⟨ho25, he25⟩
                        obtain ⟨a25, c25, rfl⟩ := own_form ho25
                        replace hE := hE.ext he25
                        replace hT := hT.ext he25
                        replace hwn := hwn.ext he25
                        replace hTw := hTw.ext he25
                        replace hTf := hTf.ext he25
                        replace hO21 := hO21.ext he25
                        replace hgb := hgb.ext he25
                        replace hsp := hsp.ext he25
                        replace hTs := hTs.ext he25
                        refine L.ef (e_call rfl (iparse_ok _ ts _ ((Ow.mk' ho25).rr.wide (Nat.zero_le _) (Nat.le_refl _))) rfl ?_)
                        rintro _ w26 ⟨nv26, ns26, rt26, rfl, ho26, hs26, hn26, he26⟩
                        obtain ⟨a26, c26, rfl⟩ := own_form ho26
                        have hO26 := Ow.mk' ho26
                        replace hE := hE.ext he26
                        replace hT := hT.ext he26
                        replace hwn := hwn.ext he26
                        replace hTw := hTw.ext he26
                        replace hTf := hTf.ext he26
                        replace hO21 := hO21.ext he26
                        replace hgb := hgb.ext he26
                        replace hsp := hsp.ext he26
                        replace hTs := hTs.ext he26
                        have hl26 := xp_len hs26 hn26
                        have hsame2 := xp_same hs26 hn26 hs2 hn2
                        refine L.rd (rd_move rfl) rfl ?_
                        refine L.rd (rd_ext0 rfl) rfl ?_
                        refine L.rd (rd_ext1 rfl) rfl ?_
                        refine L.ef (e_alloc (cs := [_, _]) tok rfl rfl (by first | (simp only [size_addB, size_setB, size_drew]; rfl) | rfl) rfl ?_)
                        refine L.ef (e_store (vs := [_, _]) tok rfl rfl rfl rfl (by (repeat (first | assumption | (refine Bl.new' ?_ _ _; first | with_reducible rfl | (simp only [size_addB, size_setB, size_drew]; done)) | apply Bl.add | apply Bl.drew | (apply Bl.setNe; omega) | (refine Bl.set' ?_ _ _; (try simp only [size_addB, size_setB, size_drew]); omega)))) rfl (by simp [Value.oneCell']) (by simp) ?_)
                        refine L.rd (rd_assign rfl) rfl ?_
                        refine L.nil ?_
                        refine X.sq ?_
                        refine V.seq ?_
                        refine V.seq ?_
                        generalize hwe : setB _ _ _ _ = we
                        have hee := ext_of_new hwe
                        have hg2 : Bl we w26.heap.size 34 [.slice a26 ns26.length c26, .int .i64 rt26] := bl_of_new hwe
                        have hse := size_of_new hwe
                        replace hE := hE.ext hee
                        replace hT := hT.ext hee
                        replace hwn := hwn.ext hee
                        replace hTw := hTw.ext hee
                        replace hTf := hTf.ext hee
                        replace hO21 := hO21.ext hee
                        replace hgb := hgb.ext hee
                        replace hsp := hsp.ext hee
                        replace hTs := hTs.ext hee
                        replace hO26 := hO26.ext hee
                        have y15 := he25.size
                        have y16 := he26.size
                        have heS : Ext we.heap.size we we.drew := (Ext.refl _ we).drew
                        refine V.draw [] mixed ?_
                        refine D.take 0 [true, false, false, false, false, false, false, false, false, false] (.sq (.sq (.bk (.sq (.lp (.bk (.sq .bd))))))) rfl (rd_move rfl) rfl (by kernel_rfl) rfl (LeC.drew _) ?_
                        refine D.take 1 [true, true, false, false, false, false, false, false, false, false] (.sq (.sq (.bk (.sq (.lp (.bk (.sq .bd))))))) rfl (rd_move rfl) rfl (by kernel_rfl) rfl (LeC.drew _) ?_
                        refine D.take 2 [true, true, true, false, false, false, false, false, false, false] (.sq (.sq (.bk (.sq (.lp (.bk (.sq .bd))))))) rfl (rd_neqB tok rfl rfl rfl rfl) rfl (by kernel_rfl) rfl (LeC.drew _) ?_
                        refine D.take 3 [true, true, true, true, false, false, false, false, false, false] (.sq (.sq (.bk (.sq (.lp (.bk (.sq .bd))))))) rfl (rd_move rfl) rfl (by kernel_rfl) rfl (LeC.drew _) ?_
                        first | refine D.part 105 rfl (fun g105 => ?_) (fun g105 => ?_) | refine D.partB 105 rfl (fun g105 => ?_) (fun g105 => ?_)
                        ·
                          exact absurd rfl g105
                        ·
                          refine D.takeYes 4 [true, true, true, true, true, false, false, false, false, false] (.sq (.sq (.bk (.sq (.lp (.bk (.sq .bd))))))) rfl rfl rfl (rd_loadN tok rfl rfl rfl hg2.cells rfl) rfl (by kernel_rfl) rfl (LeC.drew _) ?_
                          refine D.takeYes 6 [true, true, true, true, true, false, true, false, false, false] (.sq (.sq (.bk (.sq (.lp (.bk (.sq .bd))))))) rfl rfl rfl (rd_loadN tok rfl rfl rfl hwn.cells rfl) rfl (by kernel_rfl) rfl (LeC.drew _) ?_
                          refine D.oneYes 5 [true, true, true, true, true, true, true, false, false, false] rfl rfl rfl (by kernel_rfl) rfl (e_call rfl (exprOut_ok _ ns26 rt26 _ (hO26.rr.ext heS).rs (by omega)) rfl ?_)
                          rintro _ w27 ⟨v27, rfl, ho27, he27⟩
                          replace heS := heS.next he27
                          refine ⟨fun _ => (heS.leC), ?_⟩
                          refine D.oneYes 7 [true, true, true, true, true, true, true, true, false, false] rfl rfl rfl (by kernel_rfl) rfl (e_call rfl (eqExprL_ok _ _ ns26 ns2 rt26 rt2 _ (Rs.of_own ho27) (hTw.ext heS).rs (by omega)) rfl ?_)
                          rintro _ w28 ⟨rfl, he28⟩
                          replace heS := heS.next he28
                          refine ⟨fun _ => (heS.leC), ?_⟩
                          first | refine D.takeYes 8 [true, true, true, true, true, true, true, true, true, false] (.sq (.sq (.bk (.sq (.lp (.bk (.sq .bd))))))) rfl rfl rfl (rd_not rfl) rfl (by kernel_rfl) rfl (heS.leC) ?_ | refine D.takeYes 8 [true, true, true, true, true, true, true, true, true, false] (.sq (.sq (.bk (.sq (.lp (.bk (.sq .bd))))))) rfl rfl rfl (rd_notB rfl) rfl (by kernel_rfl) rfl (heS.leC) ?_
                          refine D.take 9 [true, true, true, true, true, true, true, true, true, true] (.sq (.sq (.bk (.sq (.lp (.bk (.sq .bd))))))) rfl (rd_pickF rfl rfl) rfl (by kernel_rfl) rfl (heS.leC) ?_
                          refine D.done (by kernel_rfl) ?_
                          refine X.sq ?_
                          first | refine V.cond rfl (fun h111 => ?_) (fun h111 => ?_) | refine V.condB rfl (fun h111 => ?_) (fun h111 => ?_)
                          ·
                            exact absurd hsame2 h111
                          ·
                            refine V.skip ?_
                            refine X.sq ?_
                            refine V.seq ?_
                            skip
                            replace hE := hE.ext heS
                            replace hT := hT.ext heS
                            replace hwn := hwn.ext heS
                            replace hTw := hTw.ext heS
                            replace hTf := hTf.ext heS
                            replace hO21 := hO21.ext heS
                            replace hgb := hgb.ext heS
                            replace hsp := hsp.ext heS
                            replace hTs := hTs.ext heS
                            replace hO26 := hO26.ext heS
                            replace hg2 := hg2.ext heS
                            have y17 := heS.size
                            clear heS
                            refine V.region ?_
                            refine L.rd (rd_fieldAddr tok rfl rfl rfl rfl rfl rfl) rfl ?_
                            refine L.rd (rd_load1 tok rfl rfl rfl (hg2.cell rfl)) rfl ?_
                            refine L.ef (e_call rfl (flipNodes_ok _ ns26 _ _ hO26.own (by omega)) rfl ?_)
                            rintro _ w29 ⟨ho29, hg29⟩
                            obtain ⟨hO29, hR29⟩ := hO26.grown hg29 ho29
                            clear hO26
                            replace hE := hE.rg hR29 (by omega)
                            replace hT := hT.rg hR29 (by omega)
                            replace hwn := hwn.rg hR29 (by omega)
                            replace hTw := hTw.rg hR29 (by omega)
                            replace hTf := hTf.rg hR29 (by omega)
                            replace hO21 := hO21.rg hR29 (by omega)
                            replace hgb := hgb.rg hR29 (by omega)
                            replace hsp := hsp.rg hR29 (by omega)
                            replace hTs := hTs.rg hR29 (by omega)
                            refine L.nil ?_
                            refine X.sq ?_
                            refine V.seq ?_
                            have heS : Ext w29.heap.size w29 w29.drew := (Ext.refl _ w29).drew
                            have y18 := hR29.size
                            refine V.draw [] mixed ?_
                            refine D.take 0 [true, false, false, false, false] (.sq (.bk (.sq (.lp (.bk (.sq .bd)))))) rfl (rd_loadN tok rfl rfl rfl hgb.cells rfl) rfl (by kernel_rfl) rfl (LeC.drew _) ?_
                            refine D.take 2 [true, false, true, false, false] (.sq (.bk (.sq (.lp (.bk (.sq .bd)))))) rfl (rd_loadN tok rfl rfl rfl hsp.cells rfl) rfl (by kernel_rfl) rfl (LeC.drew _) ?_
                            refine D.one 1 [true, true, true, false, false] rfl (by kernel_rfl) rfl (e_call rfl (exprOut_ok _ (ns6.map flipN) rt6 _ (by rw [hlN]; exact (hO21.rr.ext heS).rs) (by omega)) rfl ?_)
                            rintro _ w30 ⟨v30, rfl, ho30, he30⟩
                            rw [hlN] at ho30
                            replace heS := heS.next he30
                            refine ⟨fun _ => (heS.leC), ?_⟩
                            refine D.one 3 [true, true, true, true, false] rfl (by kernel_rfl) rfl (e_call rfl (eqExprL_ok _ _ (ns6.map flipN) (ns6.map flipN) rt6 rt6 _ (by rw [hlN]; exact Rs.of_own ho30) (by rw [hlN]; exact (hTs.ext heS).rs) (by omega)) rfl ?_)
                            rintro _ w31 ⟨rfl, he31⟩
                            replace heS := heS.next he31
                            refine ⟨fun _ => (heS.leC), ?_⟩
                            first | refine D.take 4 [true, true, true, true, true] (.sq (.bk (.sq (.lp (.bk (.sq .bd)))))) rfl (rd_not rfl) rfl (by kernel_rfl) rfl (heS.leC) ?_ | refine D.take 4 [true, true, true, true, true] (.sq (.bk (.sq (.lp (.bk (.sq .bd)))))) rfl (rd_notB rfl) rfl (by kernel_rfl) rfl (heS.leC) ?_
                            refine D.done (by kernel_rfl) ?_
                            refine X.sq ?_
                            first | refine V.cond rfl (fun h119 => ?_) (fun h119 => ?_) | refine V.condB rfl (fun h119 => ?_) (fun h119 => ?_)
                            ·
                              exact absurd ⟨rfl, rfl⟩ h119
                            ·
                              refine V.skip ?_
                              refine X.bk ?_
                              refine X.sq ?_
                              refine V.region ?_
                              refine L.rd (rd_move rfl) rfl ?_
                              (refine L.rd (rd_add3 rfl rfl ?_) rfl ?_; omega)
                              refine L.rd (rd_assign rfl) rfl ?_
                              refine L.nil ?_
                              have y19 := heS.size
                              replace hE := hE.ext heS
                              replace hT := hT.ext heS
                              replace hwn := hwn.ext heS
                              replace hTw := hTw.ext heS
                              replace hTf := hTf.ext heS
                              exact X.lp ⟨_, _, by omega, (by repeat' (first | exact trivial | refine ⟨rfl, ?_⟩)), k + 1, rfl, rfl, by omega, hE, hT, hwn, hTw, hTf, by omega⟩
      ·
        refine V.exit ?_
        refine X.sqExit ?_
        refine X.lpExit ?_
        refine X.bkHere ?_
        refine X.sq ?_
        refine V.seq ?_
        refine V.region ?_
        refine L.rd (rd_assign rfl) rfl ?_
        refine L.nil ?_
        refine X.sq ?_
        refine V.ret ?_
        refine ret_1 Yabm.results5 rfl ?_
        exact ⟨rfl, hE⟩
open Go.ChangeShapes Go.WideShapes Go.ChangeAt Go.RowKit
theorem own : ownKnob Yabm.prog.godebug = none := by kernel_rfl
theorem laidOut : laidOutB Yabm.prog = true := by kernel_rfl
theorem readable0 : Yabm.prog.readableRec 26 = true := by kernel_rfl

set_option maxRecDepth 100000 in
theorem lifted (os : Os) (started : os.Started) (H : Type) (enc : TypeId × Value → H) :
    ReturnsInHanded {} Yabm.checked os 5 .any (Rows.fnExactParseSpec.pre6 enc Yabm.prog Yabm.f5 Rows.fnExactParseRow.domain false) (Rows.fnExactParseSpec.post enc Yabm.prog Yabm.f5 false true false false) := by
  refine returnsInHanded_of_change_sized (C := Yabm.checked) own started (by kernel_rfl) Yabm.func5
    (ChangeSpec.witness6 (enc := enc) (C := Yabm.checked) false ⟨#[], #[.slice none 0 0], []⟩ 8 (by kernel_rfl) (by kernel_rfl) (by kernel_rfl) (by kernel_rfl)) ?_
  intro W base args ds gs before hval0 hW hcnd hwt0 _
  have hval : ∀ (j : Nat) t v, Yabm.f5.params[j]? = some t → args[j]? = some v → Value.okWide Yabm.prog W .any base t v := hval0
  have hwt : (DataW.weightsEach Yabm.prog (Yabm.f5.params.toList ++ _) (ds ++ gs)).all (· ≤ reachBytes) = true := hwt0
  have hW' := hW
  obtain ⟨p, q, hA0, hV, rfl, hfz, hnd⟩ := hW
  have hA : DataW.TrodAll enc Yabm.prog W 0 (fun _ => true) true Yabm.f5.params.toList args.toList ds p := hA0
  rw [Yabm.params5] at hA hval hwt
  obtain ⟨v0, vs0, d0, ds0, p0, q0, hargs0, rfl, rfl, h0, r0⟩ := trodAll_cons hA
  obtain ⟨hnil, rfl, rfl⟩ := trodAll_nil r0
  obtain rfl : args = #[v0] := by cases args; simp_all
  obtain ⟨rfl, rfl⟩ := trodVars_none hV
  have hok0 := hval 0 26 v0 rfl rfl
  have hww0 := weights_arg hwt (j := 0) rfl rfl
  obtain ⟨fuel0, hy0⟩ := id h0
  rw [one_cell Yabm.underlying26 hok0] at hy0
  obtain ⟨ps0, hR0, hl0, hz0⟩ := prs_of_trod Yabm.underlying26 Yabm.underlying97 (by kernel_rfl) rfl rfl (by kernel_rfl) (by kernel_rfl) (by kernel_rfl) (by kernel_rfl) (by decide +kernel) hy0 hww0
  clear hA0 hval0
  simp only [List.append_nil] at hW'
  refine (law v0 ps0 W hR0).call.mono fun e W' ⟨v, he, hv, hg⟩ => ?_
  subst he hv
  exact ⟨_, rfl, post_belowE (pv := []) hW' (fun _ _ _ => (trodAll_mk1 (shut_bool Yabm.underlying4 _))) (trodAll_mk1 (Below.trod laidOut readable0 (by decide +kernel) h0 hg.below (fun x hx => hW'.lt x (by first | exact hx | (simp only [List.mem_append]; simp [hx]))))) rfl (by simp) hg⟩

theorem over : Rows.fnExactParseRow.holds Yabm.pinned (OpenSpec.ofChange Rows.fnExactParseSpec) :=
  OpenClaim.holds_of_wide 5 Yabm.f5 rfl rfl rfl rfl rfl rfl rfl ⟨rfl, rfl, rfl, rfl, rfl⟩ rfl rfl rfl rfl rfl (by kernel_rfl) Yabm.func5 (by kernel_rfl)
    (of_decide_eq_true (by kernel_rfl)) (by unfold Func.isWrapper; first | (rw [if_pos (by decide +kernel)]; kernel_rfl) | (rw [if_neg (by decide +kernel)]; exact ⟨rfl, rfl⟩))
    (fun os started H enc _ => lifted os started H enc)

theorem proved : Rows.FnExactParseSaid :=
  over
end Go.Proofs.Ybxabw.fnExactParse
