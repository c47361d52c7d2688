/-
  The two Derivative, walked.
-/
import Derived.Test.YbxaawGreatSimpW
import Derived.Test.YbxaawGreatDfW
import Derived.Test.YbxaawGreatDfW3
set_option linter.unusedVariables false
set_option linter.unusedSimpArgs false
set_option maxRecDepth 10000
set_option maxHeartbeats 4000000
namespace Go.Mw
def derP (y : Int) (l : List Nat) : Option (List Nat) := (srcP l).bind fun t => (difT y (cn t)).bind tpT
theorem dif_wt {y : Int} {t d : Tre} (hw : Wt t) (hi : Wi t) (h : difT y t = some d) : Wt d ∧ Wi d ∧ tsz d ≤ 500000 := by
  unfold difT at h
  split at h
  · rename_i hc
    simp only [Option.some.injEq] at h
    subst h
    exact ⟨dT_wt y t hw, dT_wi y t hw hi, by rw [tsz_dT]; exact hc.2.2⟩
  · cases h
end Go.Mw
namespace Go.Proofs.YbxaawGreat
open Go.Mw Lexp

theorem sder_ok (y : Int) (s : ByteArray) (w : World) (hs : s.size ≤ 1099511627776) : Ret Yaam.prog 28 [.string s, .int .i64 y] w (TxPost (derP y (bl s)) w) := by
  refine enter2 Yaam.func28 Yaam.ntmps28 (by kernel_rfl) rfl rfl ?_
  refine V.seq ?_
  refine V.region ?_
  refine L.rd (rd_assign rfl) rfl ?_
  refine L.rd (rd_assign rfl) rfl ?_
  refine L.nil ?_
  refine X.sq ?_
  refine V.seq ?_
  refine V.region ?_
  refine L.rd (rd_move rfl) rfl ?_
  refine L.ef (e_call rfl (parseSrc_ok s _ hs) rfl ?_)
  rintro _ w1 ⟨nv, ns, root, rfl, ho1, hg1, hn1, he1⟩
  obtain ⟨na, nc, rfl⟩ := own_form ho1
  refine L.rd (rd_move rfl) rfl ?_
  refine L.rd (rd_ext0 rfl) rfl ?_
  refine L.rd (rd_ext1 rfl) rfl ?_
  refine L.ef (e_alloc (cs := [_, _]) tok rfl rfl (by first | (simp only [size_addB, size_setB, size_drew]; rfl) | rfl) rfl ?_)
  refine L.ef (e_store (vs := [_, _]) tok rfl rfl rfl rfl (by (repeat (first | assumption | (refine Bl.new' ?_ _ _; first | with_reducible rfl | (simp only [size_addB, size_setB, size_drew]; done)) | apply Bl.add | apply Bl.drew | (apply Bl.setNe; omega) | (refine Bl.set' ?_ _ _; (try simp only [size_addB, size_setB, size_drew]); omega)))) rfl (by simp [Value.oneCell']) (by simp) ?_)
  refine L.rd (rd_assign rfl) rfl ?_
  refine L.nil ?_
  refine X.sq ?_
  refine V.seq ?_
  refine V.seq ?_
  generalize hw2 : setB _ _ _ _ = w2
  have hb2 : Bl w2 w1.heap.size 34 [.slice na ns.length nc, .int .i64 root] := by rw [← hw2]; refine Bl.set' ?_ _ _; rw [size_addB]; omega
  have he2 : Ext w1.heap.size w1 w2 := by rw [← hw2]; exact ((Ext.refl _ _).addNew _ _).set (Nat.le_refl _) _ _
  have hE2 := he1.next he2
  have ho2 := own_ext ho1 he2
  refine V.region ?_
  refine L.rd (rd_move rfl) rfl ?_
  first | refine L.rd (rd_not rfl) rfl ?_ | refine L.rd (rd_notB rfl) rfl ?_
  refine L.nil ?_
  refine X.sq ?_
  first | refine V.cond rfl (fun h20 => ?_) (fun h20 => ?_) | refine V.condB rfl (fun h20 => ?_) (fun h20 => ?_)
  ·
    refine V.seq ?_
    refine V.region ?_
    refine L.rd (rd_assign rfl) rfl ?_
    refine L.rd (rd_assign rfl) rfl ?_
    refine L.nil ?_
    refine X.sq ?_
    refine V.ret ?_
    refine X.sqRet ?_
    refine ret_2 Yaam.results28 rfl rfl ?_
    refine tx_bad ?_ hE2
    unfold derP
    cases hl : srcP (bl s) with
    | none => rfl
    | some ts => rw [hl] at h20; cases h20
  ·
    refine V.skip ?_
    refine X.sq ?_
    refine V.seq ?_
    obtain ⟨t, ht⟩ : ∃ t, srcP (bl s) = some t := by
      cases hl : srcP (bl s) with
      | none => rw [hl] at h20; cases h20
      | some ts => exact ⟨ts, rfl⟩
    obtain ⟨hwt, hwi, hsz⟩ := src_wt ht
    obtain ⟨rfl, rfl⟩ := hg1 t ht
    have hwz := cn_wz t hwt
    have hwzs := hwz.sz
    have hcwi := cn_wi t hwi
    have hsimp : derP y (bl s) = (difT y (cn t)).bind tpT := by unfold derP; rw [ht]; rfl
    rw [hsimp]
    refine V.region ?_
    refine L.rd (rd_loadN tok rfl rfl rfl hb2.cells rfl) rfl ?_
    refine L.ef (e_call rfl (scanon_ok t hwt hsz _ _ (Rs.of_own ho2)) rfl ?_)
    rintro _ w3 ⟨nv3, ns3, root3, rfl, ho3, hg3, hn3, he3⟩
    obtain ⟨rfl, rfl⟩ := hg3 (cn t) rfl
    obtain ⟨na3, nc3, rfl⟩ := own_form ho3
    have hE3 := hE2.next he3
    refine L.rd (rd_move rfl) rfl ?_
    refine L.rd (rd_ext0 rfl) rfl ?_
    refine L.rd (rd_ext1 rfl) rfl ?_
    refine L.ef (e_alloc (cs := [_, _]) tok rfl rfl (by first | (simp only [size_addB, size_setB, size_drew]; rfl) | rfl) rfl ?_)
    refine L.ef (e_store (vs := [_, _]) tok rfl rfl rfl rfl (by (repeat (first | assumption | (refine Bl.new' ?_ _ _; first | with_reducible rfl | (simp only [size_addB, size_setB, size_drew]; done)) | apply Bl.add | apply Bl.drew | (apply Bl.setNe; omega) | (refine Bl.set' ?_ _ _; (try simp only [size_addB, size_setB, size_drew]); omega)))) rfl (by simp [Value.oneCell']) (by simp) ?_)
    refine L.rd (rd_assign rfl) rfl ?_
    refine L.nil ?_
    refine X.sq ?_
    refine V.seq ?_
    refine V.seq ?_
    generalize hw4 : setB _ _ _ _ = w4
    have hb4 : Bl w4 w3.heap.size 34 [.slice na3 (flat (cn t) 0).length nc3, .int .i64 ((tsz (cn t) : Int) - 1)] := by rw [← hw4]; refine Bl.set' ?_ _ _; rw [size_addB]; omega
    have he4 : Ext w3.heap.size w3 w4 := by rw [← hw4]; exact ((Ext.refl _ _).addNew _ _).set (Nat.le_refl _) _ _
    have hE4 := hE3.next he4
    have ho4 := own_ext ho3 he4
    refine V.region ?_
    refine L.rd (rd_move rfl) rfl ?_
    first | refine L.rd (rd_not rfl) rfl ?_ | refine L.rd (rd_notB rfl) rfl ?_
    refine L.nil ?_
    refine X.sq ?_
    first | refine V.cond rfl (fun h27 => ?_) (fun h27 => ?_) | refine V.condB rfl (fun h27 => ?_) (fun h27 => ?_)
    ·
      cases h27
    ·
      refine V.skip ?_
      refine X.sq ?_
      refine V.seq ?_
      refine V.region ?_
      refine L.rd (rd_loadN tok rfl rfl rfl hb4.cells rfl) rfl ?_
      refine L.rd (rd_move rfl) rfl ?_
      refine L.ef (e_call rfl (sdiff_ok y (cn t) hwz.wt (by omega) _ _ (Rs.of_own ho4)) rfl ?_)
      rintro _ w5 ⟨nv5, ns5, root5, rfl, ho5, hg5, hn5, he5⟩
      obtain ⟨na5, nc5, rfl⟩ := own_form ho5
      have hE5 := hE4.next he5
      refine L.rd (rd_move rfl) rfl ?_
      refine L.rd (rd_ext0 rfl) rfl ?_
      refine L.rd (rd_ext1 rfl) rfl ?_
      refine L.ef (e_alloc (cs := [_, _]) tok rfl rfl (by first | (simp only [size_addB, size_setB, size_drew]; rfl) | rfl) rfl ?_)
      refine L.ef (e_store (vs := [_, _]) tok rfl rfl rfl rfl (by (repeat (first | assumption | (refine Bl.new' ?_ _ _; first | with_reducible rfl | (simp only [size_addB, size_setB, size_drew]; done)) | apply Bl.add | apply Bl.drew | (apply Bl.setNe; omega) | (refine Bl.set' ?_ _ _; (try simp only [size_addB, size_setB, size_drew]); omega)))) rfl (by simp [Value.oneCell']) (by simp) ?_)
      refine L.rd (rd_assign rfl) rfl ?_
      refine L.nil ?_
      refine X.sq ?_
      refine V.seq ?_
      refine V.seq ?_
      generalize hw6 : setB _ _ _ _ = w6
      have hb6 : Bl w6 w5.heap.size 34 [.slice na5 ns5.length nc5, .int .i64 root5] := by rw [← hw6]; refine Bl.set' ?_ _ _; rw [size_addB]; omega
      have he6 : Ext w5.heap.size w5 w6 := by rw [← hw6]; exact ((Ext.refl _ _).addNew _ _).set (Nat.le_refl _) _ _
      have hE6 := hE5.next he6
      have ho6 := own_ext ho5 he6
      refine V.region ?_
      refine L.rd (rd_move rfl) rfl ?_
      first | refine L.rd (rd_not rfl) rfl ?_ | refine L.rd (rd_notB rfl) rfl ?_
      refine L.nil ?_
      refine X.sq ?_
      first | refine V.cond rfl (fun h35 => ?_) (fun h35 => ?_) | refine V.condB rfl (fun h35 => ?_) (fun h35 => ?_)
      ·
        refine V.seq ?_
        refine V.region ?_
        refine L.rd (rd_assign rfl) rfl ?_
        refine L.rd (rd_assign rfl) rfl ?_
        refine L.nil ?_
        refine X.sq ?_
        refine V.ret ?_
        refine X.sqRet ?_
        refine ret_2 Yaam.results28 rfl rfl ?_
        refine tx_bad ?_ hE6
        cases hl : difT y (cn t) with
        | none => rfl
        | some ts => rw [hl] at h35; cases h35
      ·
        refine V.skip ?_
        refine X.sq ?_
        refine V.seq ?_
        obtain ⟨d, hd⟩ : ∃ d, difT y (cn t) = some d := by
          cases hl : difT y (cn t) with
          | none => rw [hl] at h35; cases h35
          | some ts => exact ⟨ts, rfl⟩
        obtain ⟨rfl, rfl⟩ := hg5 d hd
        obtain ⟨hdw, hdi, hdz⟩ := dif_wt hwz.wt hcwi hd
        rw [hd, Option.bind_some]
        refine V.region ?_
        refine L.rd (rd_loadN tok rfl rfl rfl hb6.cells rfl) rfl ?_
        refine L.ef (e_call rfl (stopoly_ok d hdw hdi hdz _ _ (Rs.of_own ho6)) rfl ?_)
        rintro _ w7 ⟨v7, Ls, rfl, hT7, hpl, he7⟩
        obtain ⟨pa, pc, rfl, -⟩ := hT7.form
        have hE7 := hE6.next he7
        refine L.rd (rd_move rfl) rfl ?_
        refine L.rd (rd_ext0 rfl) rfl ?_
        refine L.rd (rd_ext1 rfl) rfl ?_
        refine L.ef (e_alloc (cs := [_]) tok rfl rfl (by first | (simp only [size_addB, size_setB, size_drew]; rfl) | rfl) rfl ?_)
        refine L.ef (e_store (vs := [_]) tok rfl rfl rfl rfl (by (repeat (first | assumption | (refine Bl.new' ?_ _ _; first | with_reducible rfl | (simp only [size_addB, size_setB, size_drew]; done)) | apply Bl.add | apply Bl.drew | (apply Bl.setNe; omega) | (refine Bl.set' ?_ _ _; (try simp only [size_addB, size_setB, size_drew]); omega)))) rfl (by simp [Value.oneCell']) (by simp) ?_)
        refine L.rd (rd_assign rfl) rfl ?_
        refine L.nil ?_
        refine X.sq ?_
        refine V.seq ?_
        refine V.seq ?_
        generalize hw8 : setB _ _ _ _ = w8
        have hb8 : Bl w8 w7.heap.size 44 [.slice pa Ls.length pc] := by rw [← hw8]; refine Bl.set' ?_ _ _; rw [size_addB]; omega
        have he8 : Ext w7.heap.size w7 w8 := by rw [← hw8]; exact ((Ext.refl _ _).addNew _ _).set (Nat.le_refl _) _ _
        have hE8 := hE7.next he8
        have hT8 := hT7.ext he8
        refine V.region ?_
        refine L.rd (rd_move rfl) rfl ?_
        first | refine L.rd (rd_not rfl) rfl ?_ | refine L.rd (rd_notB rfl) rfl ?_
        refine L.nil ?_
        refine X.sq ?_
        first | refine V.cond rfl (fun h42 => ?_) (fun h42 => ?_) | refine V.condB rfl (fun h42 => ?_) (fun h42 => ?_)
        ·
          refine V.seq ?_
          refine V.region ?_
          refine L.rd (rd_assign rfl) rfl ?_
          refine L.rd (rd_assign rfl) rfl ?_
          refine L.nil ?_
          refine X.sq ?_
          refine V.ret ?_
          refine X.sqRet ?_
          refine ret_2 Yaam.results28 rfl rfl ?_
          refine tx_bad ?_ hE8
          unfold tpT
          cases hl : tpP d with
          | none => rfl
          | some q => rw [hl] at h42; cases h42
        ·
          refine V.skip ?_
          refine X.sq ?_
          refine V.seq ?_
          obtain ⟨p, hp⟩ : ∃ p, tpP d = some p := by
            cases hl : tpP d with
            | none => rw [hl] at h42; cases h42
            | some q => exact ⟨q, rfl⟩
          obtain ⟨hcp, hcq⟩ := tpP_canon hdw hdi hp
          rw [hp, Option.getD_some] at hpl
          subst hpl
          refine V.region ?_
          refine L.rd (rd_loadN tok rfl rfl rfl hb8.cells rfl) rfl ?_
          refine L.ef (e_call rfl (sprint_ok _ Ls _ hT8 (canon_sm hcp)) rfl ?_)
          rintro _ w9 ⟨rfl, he9⟩
          refine L.rd (rd_ext0 rfl) rfl ?_
          refine L.rd (rd_ext1 rfl) rfl ?_
          refine L.rd (rd_assign rfl) rfl ?_
          refine L.rd (rd_assign rfl) rfl ?_
          refine L.nil ?_
          refine X.sq ?_
          refine V.ret ?_
          refine ret_2 Yaam.results28 rfl rfl ?_
          refine ⟨?_, hE8.next he9⟩
          unfold tpT
          rw [hp, hcp, if_pos rfl]
          rfl

theorem ider_ok (y : Int) (s : ByteArray) (w : World) (hs : s.size ≤ 1099511627776) : Ret Yaam.prog 27 [.string s, .int .i64 y] w (TxPost (derP y (bl s)) w) := by
  refine enter2 Yaam.func27 Yaam.ntmps27 (by kernel_rfl) rfl rfl ?_
  refine V.seq ?_
  refine V.region ?_
  refine L.rd (rd_assign rfl) rfl ?_
  refine L.rd (rd_assign rfl) rfl ?_
  refine L.nil ?_
  refine X.sq ?_
  refine V.seq ?_
  refine V.region ?_
  refine L.rd (rd_move rfl) rfl ?_
  refine L.ef (e_call rfl (ilex_ok s _ hs) rfl ?_)
  rintro _ w0 ⟨sv0, rfl, ho0, he0⟩
  obtain ⟨sa, sn, rfl⟩ := slice_form ho0
  refine L.rd (rd_move rfl) rfl ?_
  refine L.rd (rd_ext0 rfl) rfl ?_
  refine L.rd (rd_ext1 rfl) rfl ?_
  refine L.rd (rd_assign rfl) rfl ?_
  refine L.rd (rd_assign rfl) rfl ?_
  refine L.nil ?_
  refine X.sq ?_
  refine V.seq ?_
  refine V.seq ?_
  refine V.region ?_
  refine L.rd (rd_move rfl) rfl ?_
  first | refine L.rd (rd_not rfl) rfl ?_ | refine L.rd (rd_notB rfl) rfl ?_
  refine L.nil ?_
  refine X.sq ?_
  first | refine V.cond rfl (fun h22 => ?_) (fun h22 => ?_) | refine V.condB rfl (fun h22 => ?_) (fun h22 => ?_)
  ·
    refine V.seq ?_
    refine V.region ?_
    refine L.rd (rd_assign rfl) rfl ?_
    refine L.rd (rd_assign rfl) rfl ?_
    refine L.nil ?_
    refine X.sq ?_
    refine V.ret ?_
    refine X.sqRet ?_
    refine ret_2 Yaam.results27 rfl rfl ?_
    refine tx_bad ?_ he0
    unfold derP srcP
    cases hl : lex (bl s) with
    | none => rfl
    | some ts => rw [hl] at h22; cases h22
  ·
    refine V.skip ?_
    refine X.sq ?_
    refine V.seq ?_
    obtain ⟨ts, hts⟩ : ∃ ts, lex (bl s) = some ts := by
      cases hl : lex (bl s) with
      | none => rw [hl] at h22; cases h22
      | some ts => exact ⟨ts, rfl⟩
    rw [hts] at ho0
    simp only [hts, Option.getD_some]
    have hsrc : srcP (bl s) = parseP ts := by unfold srcP; rw [hts]; rfl
    refine V.region ?_
    refine L.rd (rd_move rfl) rfl ?_
    refine L.ef (e_call rfl (iparse_ok _ ts _ (Rr.of_own (own_low ho0 (Nat.zero_le _)) (fun k hk => (own_block_lt ho0 hk).2))) rfl ?_)
    rintro _ w1 ⟨nv, ns, root, rfl, ho1, hg1, hn1, he1'⟩
    rw [← hsrc] at hg1 hn1 ⊢
    have he1 := he0.next he1'
    obtain ⟨na, nc, rfl⟩ := own_form ho1
    refine L.rd (rd_move rfl) rfl ?_
    refine L.rd (rd_ext0 rfl) rfl ?_
    refine L.rd (rd_ext1 rfl) rfl ?_
    refine L.ef (e_alloc (cs := [_, _]) tok rfl rfl (by first | (simp only [size_addB, size_setB, size_drew]; rfl) | rfl) rfl ?_)
    refine L.ef (e_store (vs := [_, _]) tok rfl rfl rfl rfl (by (repeat (first | assumption | (refine Bl.new' ?_ _ _; first | with_reducible rfl | (simp only [size_addB, size_setB, size_drew]; done)) | apply Bl.add | apply Bl.drew | (apply Bl.setNe; omega) | (refine Bl.set' ?_ _ _; (try simp only [size_addB, size_setB, size_drew]); omega)))) rfl (by simp [Value.oneCell']) (by simp) ?_)
    refine L.rd (rd_assign rfl) rfl ?_
    refine L.nil ?_
    refine X.sq ?_
    refine V.seq ?_
    refine V.seq ?_
    generalize hw2 : setB _ _ _ _ = w2
    have hb2 : Bl w2 w1.heap.size 34 [.slice na ns.length nc, .int .i64 root] := by rw [← hw2]; refine Bl.set' ?_ _ _; rw [size_addB]; omega
    have he2 : Ext w1.heap.size w1 w2 := by rw [← hw2]; exact ((Ext.refl _ _).addNew _ _).set (Nat.le_refl _) _ _
    have hE2 := he1.next he2
    have ho2 := own_ext ho1 he2
    refine V.region ?_
    refine L.rd (rd_move rfl) rfl ?_
    first | refine L.rd (rd_not rfl) rfl ?_ | refine L.rd (rd_notB rfl) rfl ?_
    refine L.nil ?_
    refine X.sq ?_
    first | refine V.cond rfl (fun h29 => ?_) (fun h29 => ?_) | refine V.condB rfl (fun h29 => ?_) (fun h29 => ?_)
    ·
      refine V.seq ?_
      refine V.region ?_
      refine L.rd (rd_assign rfl) rfl ?_
      refine L.rd (rd_assign rfl) rfl ?_
      refine L.nil ?_
      refine X.sq ?_
      refine V.ret ?_
      refine X.sqRet ?_
      refine ret_2 Yaam.results27 rfl rfl ?_
      refine tx_bad ?_ hE2
      unfold derP
      cases hl : srcP (bl s) with
      | none => rfl
      | some ts => rw [hl] at h29; cases h29
    ·
      refine V.skip ?_
      refine X.sq ?_
      refine V.seq ?_
      obtain ⟨t, ht⟩ : ∃ t, srcP (bl s) = some t := by
        cases hl : srcP (bl s) with
        | none => rw [hl] at h29; cases h29
        | some ts => exact ⟨ts, rfl⟩
      obtain ⟨hwt, hwi, hsz⟩ := src_wt ht
      obtain ⟨rfl, rfl⟩ := hg1 t ht
      have hwz := cn_wz t hwt
      have hwzs := hwz.sz
      have hcwi := cn_wi t hwi
      have hsimp : derP y (bl s) = (difT y (cn t)).bind tpT := by unfold derP; rw [ht]; rfl
      rw [hsimp]
      refine V.region ?_
      refine L.rd (rd_loadN tok rfl rfl rfl hb2.cells rfl) rfl ?_
      refine L.ef (e_call rfl (icanon_ok t hwt hsz _ _ (Rs.of_own ho2)) rfl ?_)
      rintro _ w3 ⟨nv3, ns3, root3, rfl, ho3, hg3, hn3, he3⟩
      obtain ⟨rfl, rfl⟩ := hg3 (cn t) rfl
      obtain ⟨na3, nc3, rfl⟩ := own_form ho3
      have hE3 := hE2.next he3
      refine L.rd (rd_move rfl) rfl ?_
      refine L.rd (rd_ext0 rfl) rfl ?_
      refine L.rd (rd_ext1 rfl) rfl ?_
      refine L.ef (e_alloc (cs := [_, _]) tok rfl rfl (by first | (simp only [size_addB, size_setB, size_drew]; rfl) | rfl) rfl ?_)
      refine L.ef (e_store (vs := [_, _]) tok rfl rfl rfl rfl (by (repeat (first | assumption | (refine Bl.new' ?_ _ _; first | with_reducible rfl | (simp only [size_addB, size_setB, size_drew]; done)) | apply Bl.add | apply Bl.drew | (apply Bl.setNe; omega) | (refine Bl.set' ?_ _ _; (try simp only [size_addB, size_setB, size_drew]); omega)))) rfl (by simp [Value.oneCell']) (by simp) ?_)
      refine L.rd (rd_assign rfl) rfl ?_
      refine L.nil ?_
      refine X.sq ?_
      refine V.seq ?_
      refine V.seq ?_
      generalize hw4 : setB _ _ _ _ = w4
      have hb4 : Bl w4 w3.heap.size 34 [.slice na3 (flat (cn t) 0).length nc3, .int .i64 ((tsz (cn t) : Int) - 1)] := by rw [← hw4]; refine Bl.set' ?_ _ _; rw [size_addB]; omega
      have he4 : Ext w3.heap.size w3 w4 := by rw [← hw4]; exact ((Ext.refl _ _).addNew _ _).set (Nat.le_refl _) _ _
      have hE4 := hE3.next he4
      have ho4 := own_ext ho3 he4
      refine V.region ?_
      refine L.rd (rd_move rfl) rfl ?_
      first | refine L.rd (rd_not rfl) rfl ?_ | refine L.rd (rd_notB rfl) rfl ?_
      refine L.nil ?_
      refine X.sq ?_
      first | refine V.cond rfl (fun h36 => ?_) (fun h36 => ?_) | refine V.condB rfl (fun h36 => ?_) (fun h36 => ?_)
      ·
        cases h36
      ·
        refine V.skip ?_
        refine X.sq ?_
        refine V.seq ?_
        refine V.region ?_
        refine L.rd (rd_loadN tok rfl rfl rfl hb4.cells rfl) rfl ?_
        refine L.rd (rd_move rfl) rfl ?_
        refine L.ef (e_call rfl (idiff_ok y (cn t) hwz.wt (by omega) _ _ (Rs.of_own ho4)) rfl ?_)
        rintro _ w5 ⟨nv5, ns5, root5, rfl, ho5, hg5, hn5, he5⟩
        obtain ⟨na5, nc5, rfl⟩ := own_form ho5
        have hE5 := hE4.next he5
        refine L.rd (rd_move rfl) rfl ?_
        refine L.rd (rd_ext0 rfl) rfl ?_
        refine L.rd (rd_ext1 rfl) rfl ?_
        refine L.ef (e_alloc (cs := [_, _]) tok rfl rfl (by first | (simp only [size_addB, size_setB, size_drew]; rfl) | rfl) rfl ?_)
        refine L.ef (e_store (vs := [_, _]) tok rfl rfl rfl rfl (by (repeat (first | assumption | (refine Bl.new' ?_ _ _; first | with_reducible rfl | (simp only [size_addB, size_setB, size_drew]; done)) | apply Bl.add | apply Bl.drew | (apply Bl.setNe; omega) | (refine Bl.set' ?_ _ _; (try simp only [size_addB, size_setB, size_drew]); omega)))) rfl (by simp [Value.oneCell']) (by simp) ?_)
        refine L.rd (rd_assign rfl) rfl ?_
        refine L.nil ?_
        refine X.sq ?_
        refine V.seq ?_
        refine V.seq ?_
        generalize hw6 : setB _ _ _ _ = w6
        have hb6 : Bl w6 w5.heap.size 34 [.slice na5 ns5.length nc5, .int .i64 root5] := by rw [← hw6]; refine Bl.set' ?_ _ _; rw [size_addB]; omega
        have he6 : Ext w5.heap.size w5 w6 := by rw [← hw6]; exact ((Ext.refl _ _).addNew _ _).set (Nat.le_refl _) _ _
        have hE6 := hE5.next he6
        have ho6 := own_ext ho5 he6
        refine V.region ?_
        refine L.rd (rd_move rfl) rfl ?_
        first | refine L.rd (rd_not rfl) rfl ?_ | refine L.rd (rd_notB rfl) rfl ?_
        refine L.nil ?_
        refine X.sq ?_
        first | refine V.cond rfl (fun h44 => ?_) (fun h44 => ?_) | refine V.condB rfl (fun h44 => ?_) (fun h44 => ?_)
        ·
          refine V.seq ?_
          refine V.region ?_
          refine L.rd (rd_assign rfl) rfl ?_
          refine L.rd (rd_assign rfl) rfl ?_
          refine L.nil ?_
          refine X.sq ?_
          refine V.ret ?_
          refine X.sqRet ?_
          refine ret_2 Yaam.results27 rfl rfl ?_
          refine tx_bad ?_ hE6
          cases hl : difT y (cn t) with
          | none => rfl
          | some ts => rw [hl] at h44; cases h44
        ·
          refine V.skip ?_
          refine X.sq ?_
          refine V.seq ?_
          obtain ⟨d, hd⟩ : ∃ d, difT y (cn t) = some d := by
            cases hl : difT y (cn t) with
            | none => rw [hl] at h44; cases h44
            | some ts => exact ⟨ts, rfl⟩
          obtain ⟨rfl, rfl⟩ := hg5 d hd
          obtain ⟨hdw, hdi, hdz⟩ := dif_wt hwz.wt hcwi hd
          rw [hd, Option.bind_some]
          refine V.region ?_
          refine L.rd (rd_loadN tok rfl rfl rfl hb6.cells rfl) rfl ?_
          refine L.ef (e_call rfl (itopoly_ok d hdw hdi hdz _ _ (Rs.of_own ho6)) rfl ?_)
          rintro _ w7 ⟨v7, Ls, rfl, hT7, hpl, he7⟩
          obtain ⟨pa, pc, rfl, -⟩ := hT7.form
          have hE7 := hE6.next he7
          refine L.rd (rd_move rfl) rfl ?_
          refine L.rd (rd_ext0 rfl) rfl ?_
          refine L.rd (rd_ext1 rfl) rfl ?_
          refine L.ef (e_alloc (cs := [_]) tok rfl rfl (by first | (simp only [size_addB, size_setB, size_drew]; rfl) | rfl) rfl ?_)
          refine L.ef (e_store (vs := [_]) tok rfl rfl rfl rfl (by (repeat (first | assumption | (refine Bl.new' ?_ _ _; first | with_reducible rfl | (simp only [size_addB, size_setB, size_drew]; done)) | apply Bl.add | apply Bl.drew | (apply Bl.setNe; omega) | (refine Bl.set' ?_ _ _; (try simp only [size_addB, size_setB, size_drew]); omega)))) rfl (by simp [Value.oneCell']) (by simp) ?_)
          refine L.rd (rd_assign rfl) rfl ?_
          refine L.nil ?_
          refine X.sq ?_
          refine V.seq ?_
          refine V.seq ?_
          generalize hw8 : setB _ _ _ _ = w8
          have hb8 : Bl w8 w7.heap.size 44 [.slice pa Ls.length pc] := by rw [← hw8]; refine Bl.set' ?_ _ _; rw [size_addB]; omega
          have he8 : Ext w7.heap.size w7 w8 := by rw [← hw8]; exact ((Ext.refl _ _).addNew _ _).set (Nat.le_refl _) _ _
          have hE8 := hE7.next he8
          have hT8 := hT7.ext he8
          refine V.region ?_
          refine L.rd (rd_move rfl) rfl ?_
          first | refine L.rd (rd_not rfl) rfl ?_ | refine L.rd (rd_notB rfl) rfl ?_
          refine L.nil ?_
          refine X.sq ?_
          first | refine V.cond rfl (fun h51 => ?_) (fun h51 => ?_) | refine V.condB rfl (fun h51 => ?_) (fun h51 => ?_)
          ·
            refine V.seq ?_
            refine V.region ?_
            refine L.rd (rd_assign rfl) rfl ?_
            refine L.rd (rd_assign rfl) rfl ?_
            refine L.nil ?_
            refine X.sq ?_
            refine V.ret ?_
            refine X.sqRet ?_
            refine ret_2 Yaam.results27 rfl rfl ?_
            refine tx_bad ?_ hE8
            unfold tpT
            cases hl : tpP d with
            | none => rfl
            | some q => rw [hl] at h51; cases h51
          ·
            refine V.skip ?_
            refine X.sq ?_
            refine V.seq ?_
            obtain ⟨p, hp⟩ : ∃ p, tpP d = some p := by
              cases hl : tpP d with
              | none => rw [hl] at h51; cases h51
              | some q => exact ⟨q, rfl⟩
            obtain ⟨hcp, hcq⟩ := tpP_canon hdw hdi hp
            rw [hp, Option.getD_some] at hpl
            subst hpl
            refine V.region ?_
            refine L.rd (rd_loadN tok rfl rfl rfl hb8.cells rfl) rfl ?_
            refine L.ef (e_call rfl (iprint_ok _ Ls _ hT8 (canon_sm hcp)) rfl ?_)
            rintro _ w9 ⟨rfl, he9⟩
            refine L.rd (rd_ext0 rfl) rfl ?_
            refine L.rd (rd_ext1 rfl) rfl ?_
            refine L.rd (rd_assign rfl) rfl ?_
            refine L.rd (rd_assign rfl) rfl ?_
            refine L.nil ?_
            refine X.sq ?_
            refine V.ret ?_
            refine ret_2 Yaam.results27 rfl rfl ?_
            refine ⟨?_, hE8.next he9⟩
            unfold tpT
            rw [hp, hcp, if_pos rfl]
            rfl
end Go.Proofs.YbxaawGreat
