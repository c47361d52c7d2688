/-
  The model's expander, walked: minus signs and powers.
-/
import Derived.Test.YbxaawGreatSxW
set_option linter.unusedVariables false
set_option linter.unusedSimpArgs false
set_option maxRecDepth 10000
set_option maxHeartbeats 4000000
namespace Go.Proofs.YbxaawGreat
open Go.Mw

theorem sx_un (bs : Nat) (k v x : Int) (a : Tre) (hA : (k = 3 ∧ v = 0) ∨ (k = 7 ∧ 0 ≤ v ∧ v ≤ 1000000)) (ih : ∀ (p : Value) (w : World) (u : Nat), Tm 119 w 0 a p → Bl w bs 141 [.int .i64 u, .bool false] → u ≤ 100000 → Ret Yaam.prog 97 [.pointer (some ⟨bs, 0, none⟩), p] w (XPq bs (xp a u) w)) (u : Nat) (hu : u ≤ 100000) (b : Nat) (q : Option Addr) (w : World) (hn : Bl w b 119 [.int .i64 k, .int .i64 v, .int .i64 x, .pointer q, .pointer none]) (ht : Tm 119 w 0 a (.pointer q)) (hx : Bl w bs 141 [.int .i64 u, .bool false]) : Ret Yaam.prog 97 [.pointer (some ⟨bs, 0, none⟩), .pointer (some ⟨b, 0, none⟩)] w (XPq bs ((xp a u).bind fun p => stA k v x p.1 [] p.2) w) := by
  refine enter2 Yaam.func97 Yaam.ntmps97 (by kernel_rfl) rfl rfl ?_
  refine V.seq ?_
  refine V.region ?_
  refine L.rd (rd_assign rfl) rfl ?_
  refine L.nil ?_
  refine X.sq ?_
  refine V.seq ?_
  refine V.seq ?_
  refine V.region ?_
  refine L.rd (rd_move rfl) rfl ?_
  refine L.rd (rd_nilCheck rfl) rfl ?_
  refine L.rd (rd_fieldAddr tok rfl rfl rfl rfl rfl rfl) rfl ?_
  refine L.rd (rd_load1 tok rfl rfl rfl (hx.cell (i := 1) rfl)) rfl ?_
  refine L.nil ?_
  refine X.sq ?_
  first | refine V.cond rfl (fun h24 => ?_) (fun h24 => ?_) | refine V.condB rfl (fun h24 => ?_) (fun h24 => ?_)
  ·
    cases h24
  ·
    refine V.skip ?_
    refine X.sq ?_
    refine V.seq ?_
    refine V.seq ?_
    refine V.region ?_
    refine L.rd (rd_move rfl) rfl ?_
    refine L.rd (rd_nilCheck rfl) rfl ?_
    refine L.rd (rd_fieldAddr tok rfl rfl rfl rfl rfl rfl) rfl ?_
    refine L.rd (rd_load1 tok rfl rfl rfl (hn.cell rfl)) rfl ?_
    refine L.nil ?_
    refine X.sq ?_
    refine V.block ?_
    refine V.seq ?_
    refine V.region ?_
    refine L.rd (rd_eql rfl rfl) rfl ?_
    refine L.rd (rd_assign rfl) rfl ?_
    refine L.nil ?_
    refine X.sq ?_
    first | refine V.cond rfl (fun h29 => ?_) (fun h29 => ?_) | refine V.condB rfl (fun h29 => ?_) (fun h29 => ?_)
    ·
      refine V.seq ?_
      exfalso
      omega
    ·
      refine V.seq ?_
      refine V.region ?_
      refine L.rd (rd_eql rfl rfl) rfl ?_
      refine L.rd (rd_assign rfl) rfl ?_
      refine L.nil ?_
      refine X.sq ?_
      first | refine V.cond rfl (fun h50 => ?_) (fun h50 => ?_) | refine V.condB rfl (fun h50 => ?_) (fun h50 => ?_)
      ·
        refine V.seq ?_
        exfalso
        omega
      ·
        refine V.seq ?_
        refine V.region ?_
        refine L.rd (rd_eql rfl rfl) rfl ?_
        refine L.rd (rd_assign rfl) rfl ?_
        refine L.nil ?_
        refine X.sq ?_
        first | refine V.cond rfl (fun h67 => ?_) (fun h67 => ?_) | refine V.condB rfl (fun h67 => ?_) (fun h67 => ?_)
        ·
          refine V.seq ?_
          refine V.region ?_
          refine L.rd (rd_move rfl) rfl ?_
          refine L.rd (rd_move rfl) rfl ?_
          refine L.rd (rd_nilCheck rfl) rfl ?_
          refine L.rd (rd_fieldAddr tok rfl rfl rfl rfl rfl rfl) rfl ?_
          refine L.rd (rd_load1 tok rfl rfl rfl (hn.cell (i := 3) rfl)) rfl ?_
          refine L.ef (e_call rfl (ih _ _ u ht hx hu) rfl ?_)
          rintro r1 w1 ⟨hr1, u1, b1, hx1, hb1, hg1⟩
          have hn1 := hn.rgT hx hr1 rfl
          refine L.rd (rd_assign rfl) rfl ?_
          refine L.nil ?_
          refine X.sq ?_
          refine V.seq ?_
          refine V.seq ?_
          refine V.region ?_
          refine L.rd (rd_move rfl) rfl ?_
          refine L.rd (rd_nilCheck rfl) rfl ?_
          refine L.rd (rd_fieldAddr tok rfl rfl rfl rfl rfl rfl) rfl ?_
          refine L.rd (rd_load1 tok rfl rfl rfl (hx1.cell (i := 1) rfl)) rfl ?_
          refine L.nil ?_
          refine X.sq ?_
          first | refine V.cond rfl (fun h78 => ?_) (fun h78 => ?_) | refine V.condB rfl (fun h78 => ?_) (fun h78 => ?_)
          ·
            refine V.seq ?_
            refine V.region ?_
            refine L.rd (rd_assign rfl) rfl ?_
            refine L.nil ?_
            refine X.sq ?_
            refine V.ret ?_
            refine X.sqRet ?_
            refine X.bkRet ?_
            refine X.sqRet ?_
            refine ret_1 Yaam.results97 rfl ?_
            exact XPo.bad hr1 hx1 h78 (by rw [hb1 h78]; rfl)
          ·
            refine V.skip ?_
            refine X.sq ?_
            refine V.seq ?_
            obtain ⟨A, hxa, hO1, hcA, hu1⟩ := hg1 h78
            obtain ⟨aa, ac, rfl⟩ := own_form hO1
            have hAl := hcA.len
            subst h78
            rw [hxa, Option.bind_some]
            simp only []
            refine V.region ?_
            refine L.rd (rd_move rfl) rfl ?_
            refine L.rd (rd_move rfl) rfl ?_
            refine L.rd (rd_lenSlice tok rfl rfl rfl) rfl ?_
            refine L.ef (e_call rfl (charge_ok A.length u1 _ bs hx1 hu1 (by omega)) rfl ?_)
            rintro _ w2 ⟨b2, hx2, hb2, hb2', hr2⟩
            have hO2 := own_rgT hO1 hx1 hr2 rfl
            refine L.nil ?_
            refine X.sq ?_
            refine V.seq ?_
            refine V.seq ?_
            refine V.region ?_
            refine L.rd (rd_move rfl) rfl ?_
            refine L.rd (rd_nilCheck rfl) rfl ?_
            refine L.rd (rd_fieldAddr tok rfl rfl rfl rfl rfl rfl) rfl ?_
            refine L.rd (rd_load1 tok rfl rfl rfl (hx2.cell (i := 1) rfl)) rfl ?_
            refine L.nil ?_
            refine X.sq ?_
            first | refine V.cond rfl (fun h86 => ?_) (fun h86 => ?_) | refine V.condB rfl (fun h86 => ?_) (fun h86 => ?_)
            ·
              refine V.seq ?_
              refine V.region ?_
              refine L.rd (rd_assign rfl) rfl ?_
              refine L.nil ?_
              refine X.sq ?_
              refine V.ret ?_
              refine X.sqRet ?_
              refine X.bkRet ?_
              refine X.sqRet ?_
              refine ret_1 Yaam.results97 rfl ?_
              exact XPo.bad (hr1.trans hr2) hx2 h86 (by rw [st3 h67, chg_no (hb2 h86)]; rfl)
            ·
              refine V.skip ?_
              refine X.sq ?_
              refine V.seq ?_
              have hu2 := hb2' h86
              subst h86
              refine V.region ?_
              refine L.rd (rd_move rfl) rfl ?_
              refine L.rd (rd_lenSlice tok rfl rfl rfl) rfl ?_
              refine L.ef (e_make (e := 103) (zs := .int .i64 0 :: iC .i32 z26) (m := A.length) (c := A.length) tok rfl rfl rfl rfl rfl rfl rfl rfl (by first | (simp only [size_addB, size_setB, size_drew]; rfl) | rfl) rfl (by omega) (by simp only []; omega) (by omega) ?_)
              refine L.rd (rd_assign rfl) rfl ?_
              refine L.nil ?_
              refine X.sq ?_
              refine V.seq ?_
              refine V.seq ?_
              refine V.region ?_
              refine L.rd (rd_move rfl) rfl ?_
              refine L.rd (rd_lenSlice tok rfl rfl rfl) rfl ?_
              refine L.rd (rd_move rfl) rfl ?_
              refine L.nil ?_
              refine X.sq ?_
              refine V.block ?_
              refine V.loop (fun m l w4 => ∃ (i : Nat) (C : List MT), l = [(0, .pointer (some ⟨bs, 0, none⟩)), (6, .slice aa A.length ac), (7, .slice (some ⟨w2.heap.size, 0, none⟩) A.length A.length), (91, .int .i64 A.length), (92, .int .i64 i)] ∧ m = A.length - i ∧ i ≤ A.length ∧ Ext w2.heap.size w2 w4 ∧ Bl w4 w2.heap.size 103 (C.flatMap mtE) ∧ C.length = A.length ∧ C.take i = (negM A).take i) ?_ ?_
              ·
                refine ⟨_, _, (by repeat' (first | exact trivial | refine ⟨rfl, ?_⟩)), 0, List.replicate A.length (0, z26), rfl, rfl, by omega, (Ext.refl _ _).addNew _ _, ?_, by simp, by simp⟩
                have := Bl.new w2 103 ((List.replicate A.length (.int .i64 0 :: iC .i32 z26)).flatten)
                rw [← fm_replicate mtE_len, mtE_z]
                exact this
              ·
                rintro m l w4 ⟨i, C, rfl, rfl, hi, hE4, hbo, hCl, htk⟩
                have hO4 := own_ext hO2 hE4
                have hs4 := hbo.lt
                refine V.seq ?_
                refine V.region ?_
                refine L.rd (rd_lss rfl rfl) rfl ?_
                refine L.nil ?_
                refine X.sq ?_
                refine V.seq ?_
                first | refine V.cond rfl (fun h93 => ?_) (fun h93 => ?_) | refine V.condB rfl (fun h93 => ?_) (fun h93 => ?_)
                ·
                  obtain ⟨⟨tc, tv⟩, ht_⟩ := nth_of_lt A i (by omega)
                  obtain ⟨g, c, hv, -, -, hc⟩ := own_some hO4 (by omega)
                  simp only [Value.slice.injEq] at hv
                  obtain ⟨rfl, -, rfl⟩ := hv
                  have hcx := mt_at hc ht_
                  have htv := hcA.nm.vl _ (List.mem_of_getElem? ht_)
                  simp only at htv
                  have hneg : (negM A)[i]? = some (w64 (-tc), tv) := by unfold negM; rw [List.getElem?_map, ht_]; rfl
                  refine V.skip ?_
                  refine X.sq ?_
                  refine V.seq ?_
                  refine V.block ?_
                  refine V.seq ?_
                  refine V.region ?_
                  refine L.rd (rd_move rfl) rfl ?_
                  refine L.rd (rd_assign rfl) rfl ?_
                  refine L.nil ?_
                  refine X.sq ?_
                  refine V.seq ?_
                  refine V.region ?_
                  refine L.rd (rd_move rfl) rfl ?_
                  refine L.rd (rd_move rfl) rfl ?_
                  (refine L.rd (rd_indexSlice (sz := 27) tok rfl rfl rfl rfl rfl rfl rfl ?_) rfl ?_; omega)
                  refine L.rd (rd_loadN tok rfl rfl rfl hcx (mtE_len _).symm) rfl ?_
                  refine L.ef (e_alloc (cs := .int .i64 0 :: iC .i32 z26) tok rfl rfl (by first | (simp only [size_addB, size_setB, size_drew]; rfl) | rfl) rfl ?_)
                  refine L.ef (e_store (vs := mtE (tc, tv)) tok rfl rfl rfl rfl (cs := .int .i64 0 :: iC .i32 z26) (by (repeat (first | assumption | (refine Bl.new' ?_ _ _; first | with_reducible rfl | (simp only [size_addB, size_setB, size_drew]; done)) | apply Bl.add | apply Bl.drew | (apply Bl.setNe; omega) | (refine Bl.set' ?_ _ _; (try simp only [size_addB, size_setB, size_drew]); omega)))) (mtE_len _) (mtE_one _) (by rw [mtE_len]; simp [iC, z26]) ?_)
                  (rw [putAll _ _ (by rw [mtE_len]; simp [iC, z26])])
                  refine L.nil ?_
                  refine X.sq ?_
                  refine V.seq ?_
                  generalize hw5 : setB _ _ _ _ = w5
                  have hb5 : Bl w5 w4.heap.size 103 (.int .i64 tc :: iC .i32 tv) := by rw [← hw5, ← mtE_eq htv]; refine Bl.set' ?_ _ _; rw [size_addB]; omega
                  have he5 : Ext w4.heap.size w4 w5 := by rw [← hw5]; exact ((Ext.refl _ _).addNew _ _).set (Nat.le_refl _) _ _
                  have hbo5 := he5.bl hbo.lt hbo
                  refine V.region ?_
                  refine L.rd (rd_fieldAddr tok rfl rfl rfl rfl rfl rfl) rfl ?_
                  refine L.rd (rd_load1 tok rfl rfl rfl (hb5.cell rfl)) rfl ?_
                  refine L.rd (rd_negW rfl) rfl ?_
                  refine L.rd (rd_fieldAddr tok rfl rfl rfl rfl rfl rfl) rfl ?_
                  refine L.ef (e_store (vs := [_]) tok rfl rfl rfl rfl hb5 rfl (by simp [Value.oneCell']) (by simp) ?_)
                  refine L.nil ?_
                  refine X.sq ?_
                  generalize hw6 : setB _ _ _ _ = w6
                  have hb6 : Bl w6 w4.heap.size 103 (mtE (w64 (-tc), tv)) := by rw [← hw6, mtE_eq htv]; exact hb5.set _ _
                  have he6 : Ext w4.heap.size w4 w6 := by rw [← hw6]; exact he5.set (Nat.le_refl _) _ _
                  have hbo6 := he6.bl hbo.lt hbo
                  refine V.region ?_
                  refine L.rd (rd_move rfl) rfl ?_
                  refine L.rd (rd_move rfl) rfl ?_
                  refine L.rd (rd_loadN tok rfl rfl rfl hb6.cells (mtE_len _).symm) rfl ?_
                  (refine L.rd (rd_indexSlice (sz := 27) tok rfl rfl rfl rfl rfl rfl rfl ?_) rfl ?_; omega)
                  refine L.ef (e_store (vs := mtE (w64 (-tc), tv)) tok rfl rfl rfl rfl hbo6 (mtE_len _) (mtE_one _) (by rw [fm_length mtE_len, mtE_len, hCl]; simp; omega) ?_)
                  (simp only [Nat.zero_add, Int.toNat_natCast])
                  refine L.nil ?_
                  refine X.bk ?_
                  refine X.sq ?_
                  refine V.region ?_
                  (refine L.rd (rd_add3 rfl rfl ?_) rfl ?_; omega)
                  refine L.rd (rd_move rfl) rfl ?_
                  refine L.nil ?_
                  have hput := fm_put mtE_len [] C i (w64 (-tc), tv) (by omega)
                  rw [List.append_nil, List.append_nil] at hput
                  rw [hput]
                  exact X.lp ⟨_, _, by omega, (by repeat' (first | exact trivial | refine ⟨rfl, ?_⟩)), i + 1, C.set i (w64 (-tc), tv), rfl, rfl, by omega, (hE4.next he6).set (Nat.le_refl _) _ _, hbo6.set _ _, by simp [hCl], take_put_next (negM A) C i _ (by rw [hCl, negM_len]) hneg htk⟩
                ·
                  refine V.exit ?_
                  refine X.sqExit ?_
                  refine X.lpExit ?_
                  refine X.bkHere ?_
                  refine X.sq ?_
                  refine V.seq ?_
                  have hCe : C = negM A := by
                    have : i = A.length := by omega
                    subst this
                    rwa [List.take_of_length_le (by omega), List.take_of_length_le (by rw [negM_len]; omega)] at htk
                  subst hCe
                  have hx4 := hE4.bl hx2.lt hx2
                  have hOn := own_of_bl (base := 0) (sz := 27) (n := (negM A).length) hbo (fm_length mtE_len _) (Nat.zero_le _) (by unfold maxLen; omega)
                  rw [hCl] at hOn
                  have hOn' : w4.ownsRow 0 103 27 (.slice (some ⟨w2.heap.size, 0, none⟩) A.length A.length) (negM A).length ((negM A).flatMap mtE) := by rw [negM_len]; exact hOn
                  refine V.region ?_
                  refine L.rd (rd_move rfl) rfl ?_
                  refine L.rd (rd_move rfl) rfl ?_
                  refine L.ef (e_call rfl (keep_ok (negM A) hcA.neg.vl _ _ _ bs hx4 hOn') rfl ?_)
                  rintro r7 w7 ⟨b7, hx7, hb7, hg7, hr7⟩
                  refine L.rd (rd_assign rfl) rfl ?_
                  refine L.nil ?_
                  refine X.sq ?_
                  refine V.ret ?_
                  refine X.bkRet ?_
                  refine X.sqRet ?_
                  refine ret_1 Yaam.results97 rfl ?_
                  cases b7 with
                  | true => have := hb7 rfl; rw [hcA.neg.ok] at this; cases this
                  | false => exact XPo.good (((hr1.trans hr2).trans (Rg.ext hE4 _ _)).trans hr7) hx7 rfl (by rw [st3 h67, chg_yes hu2]; rfl) (hg7 rfl).2 hcA.neg hu2
        ·
          refine V.seq ?_
          refine V.seq ?_
          have hk7 : k = 7 := by omega
          refine V.region ?_
          refine L.rd (rd_eql rfl rfl) rfl ?_
          refine L.rd (rd_assign rfl) rfl ?_
          refine L.nil ?_
          refine X.sq ?_
          first | refine V.cond rfl (fun h111 => ?_) (fun h111 => ?_) | refine V.condB rfl (fun h111 => ?_) (fun h111 => ?_)
          ·
            refine V.skip ?_
            refine X.sq ?_
            first | refine V.cond rfl (fun h111_ => ?_) (fun h111_ => ?_) | refine V.condB rfl (fun h111_ => ?_) (fun h111_ => ?_)
            ·
              refine V.seq ?_
              exfalso
              omega
            ·
              exact absurd h111 h111_
          ·
            refine V.region ?_
            refine L.rd (rd_eql rfl rfl) rfl ?_
            refine L.rd (rd_assign rfl) rfl ?_
            refine L.nil ?_
            refine X.sq ?_
            first | refine V.cond rfl (fun h111 => ?_) (fun h111 => ?_) | refine V.condB rfl (fun h111 => ?_) (fun h111 => ?_)
            ·
              refine V.seq ?_
              exfalso
              omega
            ·
              refine V.seq ?_
              refine V.region ?_
              refine L.rd (rd_eql rfl rfl) rfl ?_
              refine L.rd (rd_assign rfl) rfl ?_
              refine L.nil ?_
              refine X.sq ?_
              first | refine V.cond rfl (fun h181 => ?_) (fun h181 => ?_) | refine V.condB rfl (fun h181 => ?_) (fun h181 => ?_)
              ·
                refine V.seq ?_
                exfalso
                omega
              ·
                refine V.seq ?_
                refine V.region ?_
                refine L.rd (rd_eql rfl rfl) rfl ?_
                refine L.rd (rd_assign rfl) rfl ?_
                refine L.nil ?_
                refine X.sq ?_
                first | refine V.cond rfl (fun h219 => ?_) (fun h219 => ?_) | refine V.condB rfl (fun h219 => ?_) (fun h219 => ?_)
                ·
                  refine V.seq ?_
                  refine V.region ?_
                  refine L.rd (rd_move rfl) rfl ?_
                  refine L.rd (rd_move rfl) rfl ?_
                  refine L.rd (rd_nilCheck rfl) rfl ?_
                  refine L.rd (rd_fieldAddr tok rfl rfl rfl rfl rfl rfl) rfl ?_
                  refine L.rd (rd_load1 tok rfl rfl rfl (hn.cell (i := 3) rfl)) rfl ?_
                  refine L.ef (e_call rfl (ih _ _ u ht hx hu) rfl ?_)
                  rintro r1 w1 ⟨hr1, u1, b1, hx1, hb1, hg1⟩
                  have hn1 := hn.rgT hx hr1 rfl
                  refine L.rd (rd_assign rfl) rfl ?_
                  refine L.nil ?_
                  refine X.sq ?_
                  refine V.seq ?_
                  refine V.seq ?_
                  refine V.region ?_
                  refine L.rd (rd_move rfl) rfl ?_
                  refine L.rd (rd_nilCheck rfl) rfl ?_
                  refine L.rd (rd_fieldAddr tok rfl rfl rfl rfl rfl rfl) rfl ?_
                  refine L.rd (rd_load1 tok rfl rfl rfl (hx1.cell (i := 1) rfl)) rfl ?_
                  refine L.nil ?_
                  refine X.sq ?_
                  first | refine V.cond rfl (fun h230 => ?_) (fun h230 => ?_) | refine V.condB rfl (fun h230 => ?_) (fun h230 => ?_)
                  ·
                    refine V.seq ?_
                    refine V.region ?_
                    refine L.rd (rd_assign rfl) rfl ?_
                    refine L.nil ?_
                    refine X.sq ?_
                    refine V.ret ?_
                    refine X.sqRet ?_
                    refine X.bkRet ?_
                    refine X.sqRet ?_
                    refine ret_1 Yaam.results97 rfl ?_
                    exact XPo.bad hr1 hx1 h230 (by rw [hb1 h230]; rfl)
                  ·
                    refine V.skip ?_
                    refine X.sq ?_
                    refine V.seq ?_
                    refine V.seq ?_
                    obtain ⟨A, hxa, hO1, hcA, hu1⟩ := hg1 h230
                    obtain ⟨aa, ac, rfl⟩ := own_form hO1
                    have hAl := hcA.len
                    subst h230
                    rw [hxa, Option.bind_some]
                    simp only []
                    refine V.region ?_
                    refine L.rd (rd_move rfl) rfl ?_
                    refine L.rd (rd_nilCheck rfl) rfl ?_
                    refine L.rd (rd_fieldAddr tok rfl rfl rfl rfl rfl rfl) rfl ?_
                    refine L.rd (rd_load1 tok rfl rfl rfl (hn1.cell (i := 1) rfl)) rfl ?_
                    refine L.rd (rd_eql rfl rfl) rfl ?_
                    refine L.nil ?_
                    refine X.sq ?_
                    first | refine V.cond rfl (fun h235 => ?_) (fun h235 => ?_) | refine V.condB rfl (fun h235 => ?_) (fun h235 => ?_)
                    ·
                      refine V.seq ?_
                      refine V.region ?_
                      refine L.rd (rd_move rfl) rfl ?_
                      refine L.ef (e_call rfl (charge_ok 1 u1 _ bs hx1 hu1 (by omega)) rfl ?_)
                      rintro _ w2 ⟨b2, hx2, hb2, hb2', hr2⟩
                      refine L.nil ?_
                      refine X.sq ?_
                      refine V.seq ?_
                      refine V.seq ?_
                      refine V.region ?_
                      refine L.rd (rd_move rfl) rfl ?_
                      refine L.rd (rd_nilCheck rfl) rfl ?_
                      refine L.rd (rd_fieldAddr tok rfl rfl rfl rfl rfl rfl) rfl ?_
                      refine L.rd (rd_load1 tok rfl rfl rfl (hx2.cell (i := 1) rfl)) rfl ?_
                      refine L.nil ?_
                      refine X.sq ?_
                      first | refine V.cond rfl (fun h241 => ?_) (fun h241 => ?_) | refine V.condB rfl (fun h241 => ?_) (fun h241 => ?_)
                      ·
                        refine V.seq ?_
                        refine V.region ?_
                        refine L.rd (rd_assign rfl) rfl ?_
                        refine L.nil ?_
                        refine X.sq ?_
                        refine V.ret ?_
                        refine X.sqRet ?_
                        refine X.sqRet ?_
                        refine X.bkRet ?_
                        refine X.sqRet ?_
                        refine ret_1 Yaam.results97 rfl ?_
                        exact XPo.bad (hr1.trans hr2) hx2 h241 (by rw [st70 hk7 h235, chg_no (hb2 h241)]; rfl)
                      ·
                        refine V.skip ?_
                        refine X.sq ?_
                        refine V.seq ?_
                        refine V.region ?_
                        refine L.rd (rd_build (out := [_, _, _, _, _, _, _, _, _, _, _, _, _, _, _, _, _, _, _, _, _, _, _, _, _, _, _]) tok rfl rfl rfl rfl rfl) rfl ?_
                        refine L.ef (e_buildSlice1 (e := 103) (cs := .int .i64 1 :: iC .i32 z26) tok rfl rfl rfl rfl rfl rfl rfl rfl rfl (by first | (simp only [size_addB, size_setB, size_drew]; rfl) | rfl) rfl ?_)
                        refine L.rd (rd_assign rfl) rfl ?_
                        refine L.nil ?_
                        refine X.sq ?_
                        refine V.ret ?_
                        refine X.sqRet ?_
                        refine X.bkRet ?_
                        refine X.sqRet ?_
                        refine ret_1 Yaam.results97 rfl ?_
                        refine XPo.good (R := oneM) ((hr1.trans hr2).trans (Rg.ext ((Ext.refl _ _).addNew _ _) _ _)) (hx2.add _ _) h241 (by rw [st70 hk7 h235, chg_yes (hb2' h241)]; rfl) ?_ CM.unit (hb2' h241)
                        rw [oneM, List.flatMap_cons, List.flatMap_nil, List.append_nil, mtE_z]
                        exact own_of_bl (Bl.new _ _ _) (by simp [iC, z26]) (Nat.zero_le _) (by unfold maxLen; simp)
                    ·
                      refine V.skip ?_
                      refine X.sq ?_
                      refine V.seq ?_
                      refine V.region ?_
                      refine L.rd (rd_build (out := [_, _, _, _, _, _, _, _, _, _, _, _, _, _, _, _, _, _, _, _, _, _, _, _, _, _, _]) tok rfl rfl rfl rfl rfl) rfl ?_
                      refine L.ef (e_buildSlice1 (e := 103) (cs := .int .i64 1 :: iC .i32 z26) tok rfl rfl rfl rfl rfl rfl rfl rfl rfl (by first | (simp only [size_addB, size_setB, size_drew]; rfl) | rfl) rfl ?_)
                      refine L.rd (rd_assign rfl) rfl ?_
                      refine L.nil ?_
                      refine X.sq ?_
                      refine V.seq ?_
                      have hst : stA k v x A [] u1 = pwL v.toNat v.toNat oneM A u1 := st7 hk7 h235
                      have hOr : (addB w1 103 (.int .i64 1 :: iC .i32 z26)).ownsRow 0 103 27 (.slice (some ⟨w1.heap.size, 0, none⟩) 1 1) oneM.length (oneM.flatMap mtE) := by
                        rw [oneM, List.flatMap_cons, List.flatMap_nil, List.append_nil, mtE_z]
                        exact own_of_bl (Bl.new _ _ _) (by simp [iC, z26]) (Nat.zero_le _) (by unfold maxLen; simp)
                      have he3 := (Ext.refl _ w1).addNew 103 (.int .i64 1 :: iC .i32 z26)
                      generalize addB w1 103 (.int .i64 1 :: iC .i32 z26) = w3 at hOr he3 ⊢
                      have hn3 := he3.bl hn1.lt hn1
                      have hx3 := he3.bl hx1.lt hx1
                      have hOq := own_ext hO1 he3
                      refine V.region ?_
                      refine L.rd (rd_move rfl) rfl ?_
                      refine L.rd (rd_assign rfl) rfl ?_
                      refine L.nil ?_
                      refine X.sq ?_
                      refine V.seq ?_
                      refine V.region ?_
                      refine L.rd (rd_move rfl) rfl ?_
                      refine L.rd (rd_nilCheck rfl) rfl ?_
                      refine L.rd (rd_fieldAddr tok rfl rfl rfl rfl rfl rfl) rfl ?_
                      refine L.rd (rd_load1 tok rfl rfl rfl (hn3.cell (i := 1) rfl)) rfl ?_
                      refine L.rd (rd_assign rfl) rfl ?_
                      refine L.nil ?_
                      refine X.sq ?_
                      refine V.seq ?_
                      refine V.block ?_
                      refine V.loop (fun m l w4 => ∃ (kk u2 f : Nat) (rv qv : Value) (R Q : List MT), l = [(0, .pointer (some ⟨bs, 0, none⟩)), (18, rv), (19, qv), (20, .int .i64 kk)] ∧ m = kk ∧ 1 ≤ kk ∧ kk ≤ f ∧ kk ≤ 1000000 ∧ u2 ≤ 100000 ∧ Rg bs (bs + 1) w w4 ∧ Bl w4 bs 141 [.int .i64 u2, .bool false] ∧ w4.ownsRow 0 103 27 rv R.length (R.flatMap mtE) ∧ w4.ownsRow 0 103 27 qv Q.length (Q.flatMap mtE) ∧ CM R ∧ CM Q ∧ pwL f kk R Q u2 = pwL v.toNat v.toNat oneM A u1) ?_ ?_
                      ·
                        refine ⟨v.toNat, _, ?_, v.toNat, u1, v.toNat, _, _, oneM, A, rfl, rfl, by omega, by omega, by omega, hu1, hr1.trans (Rg.ext he3 _ _), hx3, hOr, hOq, CM.unit, hcA, rfl⟩
                        have hvn : ((v.toNat : Nat) : Int) = v := by omega
                        exact ⟨rfl, rfl, rfl, by rw [hvn]; rfl, trivial⟩
                      ·
                        rintro m l w4 ⟨kk, u2, f, rv, qv, R, Q, rfl, hm, hkk1, hkf, hkk2, hu2, hr4, hx4, hOR, hOQ, hcR, hcQ, hpw⟩
                        obtain rfl : kk = m := hm.symm
                        obtain ⟨f, rfl⟩ : ∃ f', f = f' + 1 := ⟨f - 1, by omega⟩
                        rw [pwL] at hpw
                        have hRl := hcR.len
                        have hQl := hcQ.len
                        have hRQ : R.length * Q.length ≤ 16777216 := Nat.mul_le_mul hRl hQl
                        have hQQ : Q.length * Q.length ≤ 16777216 := Nat.mul_le_mul hQl hQl
                        obtain ⟨ra, rc, rfl⟩ := own_form hOR
                        obtain ⟨qa, qc, rfl⟩ := own_form hOQ
                        refine V.seq ?_
                        refine V.seq ?_
                        refine V.region ?_
                        refine L.rd (rd_move rfl) rfl ?_
                        refine L.rd (rd_gtr rfl rfl) rfl ?_
                        refine L.nil ?_
                        refine X.sq ?_
                        first | refine V.cond rfl (fun h252 => ?_) (fun h252 => ?_) | refine V.condB rfl (fun h252 => ?_) (fun h252 => ?_)
                        ·
                          refine V.skip ?_
                          refine X.sq ?_
                          refine V.block ?_
                          refine V.seq ?_
                          refine V.seq ?_
                          refine V.region ?_
                          refine L.rd (rd_move rfl) rfl ?_
                          refine L.rd (rd_remE (r := ((kk % 2 : Nat) : Int)) rfl rfl (by decide) (by rw [Int.tmod_eq_emod_of_nonneg (by omega)]; omega)) rfl ?_
                          refine L.rd (rd_eql rfl rfl) rfl ?_
                          refine L.nil ?_
                          refine X.sq ?_
                          refine V.cut (fun l w' => ∃ (u3 : Nat) (rv2 : Value) (R1 : List MT), l = [(0, .pointer (some ⟨bs, 0, none⟩)), (18, rv2), (19, .slice qa Q.length qc), (20, .int .i64 kk)] ∧ u3 ≤ 100000 ∧ Rg bs (bs + 1) w w' ∧ Bl w' bs 141 [.int .i64 u3, .bool false] ∧ w'.ownsRow 0 103 27 rv2 R1.length (R1.flatMap mtE) ∧ w'.ownsRow 0 103 27 (.slice qa Q.length qc) Q.length (Q.flatMap mtE) ∧ CM R1 ∧ (if kk % 2 = 1 then (chg u2 (R.length * Q.length)).bind (opM (prods R Q)) else some (R, u2)) = some (R1, u3)) ?_ ?_
                          ·
                            first | refine V.cond rfl (fun h255 => ?_) (fun h255 => ?_) | refine V.condB rfl (fun h255 => ?_) (fun h255 => ?_)
                            ·
                              refine V.seq ?_
                              refine V.region ?_
                              refine L.rd (rd_move rfl) rfl ?_
                              refine L.rd (rd_move rfl) rfl ?_
                              refine L.rd (rd_lenSlice tok rfl rfl rfl) rfl ?_
                              refine L.rd (rd_move rfl) rfl ?_
                              refine L.rd (rd_lenSlice tok rfl rfl rfl) rfl ?_
                              refine L.rd (rd_mulE (r := ((R.length * Q.length : Nat) : Int)) rfl rfl (by rw [← Int.natCast_mul, wrap_i64_in (by omega)])) rfl ?_
                              refine L.ef (e_call rfl (charge_ok (R.length * Q.length) u2 _ bs hx4 hu2 (by omega)) rfl ?_)
                              rintro _ w5 ⟨b5, hx5, hb5, hb5', hr5⟩
                              have hOR5 := own_rgT hOR hx4 hr5 rfl
                              have hOQ5 := own_rgT hOQ hx4 hr5 rfl
                              refine L.nil ?_
                              refine X.sq ?_
                              refine V.seq ?_
                              refine V.seq ?_
                              refine V.region ?_
                              refine L.rd (rd_move rfl) rfl ?_
                              refine L.rd (rd_nilCheck rfl) rfl ?_
                              refine L.rd (rd_fieldAddr tok rfl rfl rfl rfl rfl rfl) rfl ?_
                              refine L.rd (rd_load1 tok rfl rfl rfl (hx5.cell (i := 1) rfl)) rfl ?_
                              refine L.nil ?_
                              refine X.sq ?_
                              first | refine V.cond rfl (fun h266 => ?_) (fun h266 => ?_) | refine V.condB rfl (fun h266 => ?_) (fun h266 => ?_)
                              ·
                                refine V.seq ?_
                                refine V.region ?_
                                refine L.rd (rd_assign rfl) rfl ?_
                                refine L.nil ?_
                                refine X.sq ?_
                                refine V.ret ?_
                                refine X.sqRet ?_
                                refine X.ctRet ?_
                                refine X.sqRet ?_
                                refine X.bkRet ?_
                                refine X.lpRet ?_
                                refine X.bkRet ?_
                                refine X.sqRet ?_
                                refine X.bkRet ?_
                                refine X.sqRet ?_
                                refine ret_1 Yaam.results97 rfl ?_
                                exact XPo.bad (hr4.trans hr5) hx5 h266 (by rw [hst, ← hpw, if_pos (by omega), chg_no (hb5 h266)]; rfl)
                              ·
                                refine V.skip ?_
                                refine X.sq ?_
                                refine V.seq ?_
                                have hu5 := hb5' h266
                                subst h266
                                refine V.region ?_
                                refine L.rd (rd_move rfl) rfl ?_
                                refine L.rd (rd_move rfl) rfl ?_
                                refine L.rd (rd_move rfl) rfl ?_
                                refine L.ef (e_call rfl (mulM_ok R Q hcR.hv hcQ.hv (by omega) (by omega) (by omega) _ _ _ (Sl.of_own hOR5) (Sl.of_own hOQ5)) rfl ?_)
                                rintro r6 w6 ⟨hO6, he6⟩
                                have hx6 := he6.bl hx5.lt hx5
                                have hOQ6 := own_ext hOQ5 he6
                                have hVp := prods_vl hcR.hv hcQ.hv
                                refine L.ef (e_call rfl (keep_ok (nf (prods R Q)) (nf_vl hVp) _ _ _ bs hx6 (own_low hO6 (Nat.zero_le _))) rfl ?_)
                                rintro r7 w7 ⟨b7, hx7, hb7, hg7, hr7⟩
                                have hOQ7 := own_rgT hOQ6 hx6 hr7 rfl
                                have hR7 := ((hr4.trans hr5).trans (Rg.ext he6 _ _)).trans hr7
                                refine L.rd (rd_assign rfl) rfl ?_
                                refine L.nil ?_
                                refine X.sq ?_
                                refine V.seq ?_
                                refine V.region ?_
                                refine L.rd (rd_move rfl) rfl ?_
                                refine L.rd (rd_nilCheck rfl) rfl ?_
                                refine L.rd (rd_fieldAddr tok rfl rfl rfl rfl rfl rfl) rfl ?_
                                refine L.rd (rd_load1 tok rfl rfl rfl (hx7.cell (i := 1) rfl)) rfl ?_
                                refine L.nil ?_
                                refine X.sq ?_
                                first | refine V.cond rfl (fun h275 => ?_) (fun h275 => ?_) | refine V.condB rfl (fun h275 => ?_) (fun h275 => ?_)
                                ·
                                  refine V.seq ?_
                                  refine V.region ?_
                                  refine L.rd (rd_assign rfl) rfl ?_
                                  refine L.nil ?_
                                  refine X.sq ?_
                                  refine V.ret ?_
                                  refine X.ctRet ?_
                                  refine X.sqRet ?_
                                  refine X.bkRet ?_
                                  refine X.lpRet ?_
                                  refine X.bkRet ?_
                                  refine X.sqRet ?_
                                  refine X.bkRet ?_
                                  refine X.sqRet ?_
                                  refine ret_1 Yaam.results97 rfl ?_
                                  exact XPo.bad hR7 hx7 h275 (by rw [hst, ← hpw, if_pos (by omega), chg_yes hu5, Option.bind_some, opM_no (hb7 h275)]; rfl)
                                ·
                                  refine V.skip ?_
                                  subst h275
                                  exact X.ct ⟨_, (by repeat' (first | exact trivial | refine ⟨rfl, ?_⟩)), u2 + max (R.length * Q.length) 1, _, nf (prods R Q), rfl, hu5, hR7, hx7, (hg7 rfl).2, hOQ7, CM.of_nf hVp (hg7 rfl).1, by rw [if_pos (by omega), chg_yes hu5, Option.bind_some, opM_yes (hg7 rfl).1]⟩
                            ·
                              refine V.skip ?_
                              exact X.ct ⟨_, (by repeat' (first | exact trivial | refine ⟨rfl, ?_⟩)), u2, _, R, rfl, hu2, hr4, hx4, hOR, hOQ, hcR, by rw [if_neg (by omega)]⟩
                          ·
                            clear hOR hOQ hx4 hr4
                            rintro l w8 ⟨u3, rv2, R1, rfl, hu3, hr8, hx8, hOR, hOQ, hcR1, hfst⟩
                            rw [hfst, Option.bind_some] at hpw
                            refine X.sq ?_
                            refine V.seq ?_
                            refine V.region ?_
                            refine L.rd (rd_move rfl) rfl ?_
                            refine L.rd (rd_quoE (r := ((kk / 2 : Nat) : Int)) rfl rfl (by decide) (by rw [Int.tdiv_eq_ediv_of_nonneg (by omega), wrap_i64_in (by omega)]; omega)) rfl ?_
                            refine L.rd (rd_assign rfl) rfl ?_
                            refine L.nil ?_
                            refine X.sq ?_
                            refine V.seq ?_
                            refine V.seq ?_
                            refine V.region ?_
                            refine L.rd (rd_move rfl) rfl ?_
                            refine L.rd (rd_eql rfl rfl) rfl ?_
                            refine L.nil ?_
                            refine X.sq ?_
                            first | refine V.cond rfl (fun h279 => ?_) (fun h279 => ?_) | refine V.condB rfl (fun h279 => ?_) (fun h279 => ?_)
                            ·
                              refine V.exit ?_
                              refine X.sqExit ?_
                              refine X.bkOut rfl ?_
                              refine X.lpExit ?_
                              refine X.bkHere ?_
                              refine X.sq ?_
                              refine V.seq ?_
                              refine V.region ?_
                              refine L.rd (rd_move rfl) rfl ?_
                              refine L.rd (rd_assign rfl) rfl ?_
                              refine L.nil ?_
                              refine X.sq ?_
                              refine V.ret ?_
                              refine X.bkRet ?_
                              refine X.sqRet ?_
                              refine ret_1 Yaam.results97 rfl ?_
                              rw [if_pos (by omega)] at hpw
                              exact XPo.good hr8 hx8 rfl (by rw [hst, ← hpw]) hOR hcR1 hu3
                            ·
                              rw [if_neg (by omega)] at hpw
                              refine V.skip ?_
                              refine X.sq ?_
                              refine V.seq ?_
                              refine V.region ?_
                              refine L.rd (rd_move rfl) rfl ?_
                              refine L.rd (rd_move rfl) rfl ?_
                              refine L.rd (rd_lenSlice tok rfl rfl rfl) rfl ?_
                              refine L.rd (rd_move rfl) rfl ?_
                              refine L.rd (rd_lenSlice tok rfl rfl rfl) rfl ?_
                              refine L.rd (rd_mulE (r := ((Q.length * Q.length : Nat) : Int)) rfl rfl (by rw [← Int.natCast_mul, wrap_i64_in (by omega)])) rfl ?_
                              refine L.ef (e_call rfl (charge_ok (Q.length * Q.length) u3 _ bs hx8 hu3 (by omega)) rfl ?_)
                              rintro _ w9 ⟨b9, hx9, hb9, hb9', hr9⟩
                              have hOR9 := own_rgT hOR hx8 hr9 rfl
                              have hOQ9 := own_rgT hOQ hx8 hr9 rfl
                              refine L.nil ?_
                              refine X.sq ?_
                              refine V.seq ?_
                              refine V.seq ?_
                              refine V.region ?_
                              refine L.rd (rd_move rfl) rfl ?_
                              refine L.rd (rd_nilCheck rfl) rfl ?_
                              refine L.rd (rd_fieldAddr tok rfl rfl rfl rfl rfl rfl) rfl ?_
                              refine L.rd (rd_load1 tok rfl rfl rfl (hx9.cell (i := 1) rfl)) rfl ?_
                              refine L.nil ?_
                              refine X.sq ?_
                              first | refine V.cond rfl (fun h290 => ?_) (fun h290 => ?_) | refine V.condB rfl (fun h290 => ?_) (fun h290 => ?_)
                              ·
                                refine V.seq ?_
                                refine V.region ?_
                                refine L.rd (rd_assign rfl) rfl ?_
                                refine L.nil ?_
                                refine X.sq ?_
                                refine V.ret ?_
                                refine X.sqRet ?_
                                refine X.bkRet ?_
                                refine X.lpRet ?_
                                refine X.bkRet ?_
                                refine X.sqRet ?_
                                refine X.bkRet ?_
                                refine X.sqRet ?_
                                refine ret_1 Yaam.results97 rfl ?_
                                exact XPo.bad (hr8.trans hr9) hx9 h290 (by rw [hst, ← hpw, chg_no (hb9 h290)]; rfl)
                              ·
                                refine V.skip ?_
                                refine X.sq ?_
                                refine V.seq ?_
                                have hu9 := hb9' h290
                                subst h290
                                refine V.region ?_
                                refine L.rd (rd_move rfl) rfl ?_
                                refine L.rd (rd_move rfl) rfl ?_
                                refine L.rd (rd_move rfl) rfl ?_
                                refine L.ef (e_call rfl (mulM_ok Q Q hcQ.hv hcQ.hv (by omega) (by omega) (by omega) _ _ _ (Sl.of_own hOQ9) (Sl.of_own hOQ9)) rfl ?_)
                                rintro r6 w10 ⟨hO10, he10⟩
                                have hx10 := he10.bl hx9.lt hx9
                                have hOR10 := own_ext hOR9 he10
                                have hVp := prods_vl hcQ.hv hcQ.hv
                                refine L.ef (e_call rfl (keep_ok (nf (prods Q Q)) (nf_vl hVp) _ _ _ bs hx10 (own_low hO10 (Nat.zero_le _))) rfl ?_)
                                rintro r7 w11 ⟨b11, hx11, hb11, hg11, hr11⟩
                                have hOR11 := own_rgT hOR10 hx10 hr11 rfl
                                have hR11 := ((hr8.trans hr9).trans (Rg.ext he10 _ _)).trans hr11
                                refine L.rd (rd_assign rfl) rfl ?_
                                refine L.nil ?_
                                refine X.sq ?_
                                refine V.seq ?_
                                refine V.region ?_
                                refine L.rd (rd_move rfl) rfl ?_
                                refine L.rd (rd_nilCheck rfl) rfl ?_
                                refine L.rd (rd_fieldAddr tok rfl rfl rfl rfl rfl rfl) rfl ?_
                                refine L.rd (rd_load1 tok rfl rfl rfl (hx11.cell (i := 1) rfl)) rfl ?_
                                refine L.nil ?_
                                refine X.sq ?_
                                first | refine V.cond rfl (fun h299 => ?_) (fun h299 => ?_) | refine V.condB rfl (fun h299 => ?_) (fun h299 => ?_)
                                ·
                                  refine V.seq ?_
                                  refine V.region ?_
                                  refine L.rd (rd_assign rfl) rfl ?_
                                  refine L.nil ?_
                                  refine X.sq ?_
                                  refine V.ret ?_
                                  refine X.bkRet ?_
                                  refine X.lpRet ?_
                                  refine X.bkRet ?_
                                  refine X.sqRet ?_
                                  refine X.bkRet ?_
                                  refine X.sqRet ?_
                                  refine ret_1 Yaam.results97 rfl ?_
                                  exact XPo.bad hR11 hx11 h299 (by rw [hst, ← hpw, chg_yes hu9, Option.bind_some, opM_no (hb11 h299)]; rfl)
                                ·
                                  refine V.skip ?_
                                  refine X.bk ?_
                                  subst h299
                                  rw [chg_yes hu9, Option.bind_some, opM_yes (hg11 rfl).1, Option.bind_some] at hpw
                                  exact X.lp ⟨kk / 2, _, by omega, (by repeat' (first | exact trivial | refine ⟨rfl, ?_⟩)), kk / 2, u3 + max (Q.length * Q.length) 1, f, _, _, R1, nf (prods Q Q), rfl, rfl, by omega, by omega, by omega, hu9, hR11, hx11, hOR11, (hg11 rfl).2, hcR1, CM.of_nf hVp (hg11 rfl).1, hpw⟩
                        ·
                          omega
                ·
                  omega
end Go.Proofs.YbxaawGreat
