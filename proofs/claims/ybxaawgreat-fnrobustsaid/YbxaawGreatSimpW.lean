/-
  spec.ParseSrc, the two Simplify, walked.
-/
import Derived.Test.YbxaawGreatSimpP
import Derived.Test.YbxaawGreatCnW2
import Derived.Test.YbxaawGreatCnW4
import Derived.Test.YbxaawGreatSxW3
import Derived.Test.YbxaawGreatPrintW2
import Derived.Test.YbxaawGreatLexW3
set_option linter.unusedVariables false
set_option linter.unusedSimpArgs false
set_option maxRecDepth 10000
set_option maxHeartbeats 4000000
namespace Go.Proofs.YbxaawGreat
open Go.Mw Lexp

theorem parseSrc_ok (s : ByteArray) (w : World) (hs : s.size ≤ 1099511627776) : Ret Yaam.prog 75 [.string s] w (XPost 80 (srcP (bl s)) w) := by
  refine enter1 Yaam.func75 Yaam.ntmps75 (by kernel_rfl) rfl rfl ?_
  refine V.seq ?_
  refine V.region ?_
  refine L.ef (e_alloc (cs := [_, _]) tok rfl rfl (by first | (simp only [size_addB, size_setB, size_drew]; rfl) | rfl) rfl ?_)
  refine L.rd (rd_assign rfl) rfl ?_
  refine L.nil ?_
  refine X.sq ?_
  refine V.seq ?_
  have hr := Bl.new w 34 [.slice none 0 0, .int .i64 0]
  have hE := (Ext.refl _ w).addNew 34 [.slice none 0 0, .int .i64 0]
  generalize addB w 34 [.slice none 0 0, .int .i64 0] = w0 at hr hE ⊢
  refine V.region ?_
  refine L.rd (rd_move rfl) rfl ?_
  refine L.ef (e_call rfl (slex_ok s _ hs) rfl ?_)
  rintro _ w1 ⟨sv1, rfl, ho1, he1⟩
  obtain ⟨sa, sn, rfl⟩ := slice_form ho1
  have hr1 := he1.bl hr.lt hr
  have hE1 := hE.next he1
  have hl0 := hr.lt
  have hs1 := he1.size
  refine L.rd (rd_move rfl) rfl ?_
  refine L.rd (rd_ext0 rfl) rfl ?_
  refine L.rd (rd_ext1 rfl) rfl ?_
  refine L.rd (rd_assign rfl) rfl ?_
  refine L.rd (rd_assign rfl) rfl ?_
  refine L.nil ?_
  refine X.sq ?_
  refine V.seq ?_
  refine V.seq ?_
  refine V.region ?_
  refine L.rd (rd_move rfl) rfl ?_
  first | refine L.rd (rd_not rfl) rfl ?_ | refine L.rd (rd_notB rfl) rfl ?_
  refine L.nil ?_
  refine X.sq ?_
  first | refine V.cond rfl (fun h12 => ?_) (fun h12 => ?_) | refine V.condB rfl (fun h12 => ?_) (fun h12 => ?_)
  ·
    refine V.seq ?_
    refine V.region ?_
    refine L.rd (rd_build (out := [_, _]) tok rfl rfl rfl rfl rfl) rfl ?_
    refine L.ef (e_store (vs := [_, _]) tok rfl rfl rfl rfl hr1 rfl (by simp [Value.oneCell']) (by simp) ?_)
    refine L.rd (rd_assign rfl) rfl ?_
    refine L.nil ?_
    refine X.sq ?_
    refine V.ret ?_
    refine X.sqRet ?_
    refine ret_c1 tok Yaam.results75 rfl rfl rfl rfl (Bl.cells (hr1.set _ _)) rfl ?_
    refine XPost.bad ?_ (hE1.set (by omega) _ _)
    unfold srcP
    cases hl : lex (bl s) with
    | none => rfl
    | some ts => rw [hl] at h12; cases h12
  ·
    refine V.skip ?_
    refine X.sq ?_
    refine V.seq ?_
    obtain ⟨ts, hts⟩ : ∃ ts, lex (bl s) = some ts := by
      cases hl : lex (bl s) with
      | none => rw [hl] at h12; cases h12
      | some ts => exact ⟨ts, rfl⟩
    rw [hts] at ho1
    simp only [hts, Option.getD_some]
    refine V.region ?_
    refine L.rd (rd_move rfl) rfl ?_
    refine L.ef (e_call rfl (sparse_ok _ ts _ (Rr.of_own (own_low ho1 (Nat.zero_le _)) (fun k hk => (own_block_lt ho1 hk).2))) rfl ?_)
    rintro _ w2 ⟨nv, ns, root, rfl, ho2, hg2, hn2, he2⟩
    obtain ⟨na, nc, rfl⟩ := own_form ho2
    have hr2 := he2.bl hr1.lt hr1
    have hE2 := hE1.next he2
    refine L.rd (rd_ext0 rfl) rfl ?_
    refine L.rd (rd_ext1 rfl) rfl ?_
    refine L.ef (e_store (vs := [_, _]) tok rfl rfl rfl rfl hr2 rfl (by simp [Value.oneCell']) (by simp) ?_)
    refine L.rd (rd_assign rfl) rfl ?_
    refine L.nil ?_
    refine X.sq ?_
    refine V.ret ?_
    refine ret_c1 tok Yaam.results75 rfl rfl rfl rfl (Bl.cells (hr2.set _ _)) rfl ?_
    have hsrc : srcP (bl s) = parseP ts := by unfold srcP; rw [hts]; rfl
    rw [hsrc]
    refine ⟨_, ns, _, rfl, ?_, hg2, hn2, hE2.set (by omega) _ _⟩
    refine own_low (own_same ho2 fun q hq => ?_) (hE1.size)
    have := (own_block_lt ho2 hq).1
    exact (Rg.set (w := w2) (lo := w.heap.size) (hi := w.heap.size + 1) (by omega) 34 _).block q (own_block_lt ho2 hq).2 (by omega)

/-- from a tree's nodes to the text, behind ToPoly -/
theorem tx_bad {R : Option (List Nat)} {w w' : World} (h : R = none) (he : Ext w.heap.size w w') : TxPost R w (.tuple #[.string ⟨#[]⟩, .bool false]) w' := by
  subst h
  exact ⟨rfl, he⟩

theorem ssimp_ok (s : ByteArray) (w : World) (hs : s.size ≤ 1099511627776) : Ret Yaam.prog 25 [.string s] w (TxPost (simpP (bl s)) w) := by
  refine enter1 Yaam.func25 Yaam.ntmps25 (by kernel_rfl) rfl rfl ?_
  refine V.seq ?_
  refine V.region ?_
  refine L.rd (rd_assign rfl) rfl ?_
  refine L.rd (rd_assign rfl) rfl ?_
  refine L.nil ?_
  refine X.sq ?_
  refine V.seq ?_
  refine V.region ?_
  refine L.rd (rd_move rfl) rfl ?_
  refine L.ef (e_call rfl (parseSrc_ok s _ hs) rfl ?_)
  rintro _ w1 ⟨nv, ns, root, rfl, ho1, hg1, hn1, he1⟩
  obtain ⟨na, nc, rfl⟩ := own_form ho1
  refine L.rd (rd_move rfl) rfl ?_
  refine L.rd (rd_ext0 rfl) rfl ?_
  refine L.rd (rd_ext1 rfl) rfl ?_
  refine L.ef (e_alloc (cs := [_, _]) tok rfl rfl (by first | (simp only [size_addB, size_setB, size_drew]; rfl) | rfl) rfl ?_)
  refine L.ef (e_store (vs := [_, _]) tok rfl rfl rfl rfl (by (repeat (first | assumption | (refine Bl.new' ?_ _ _; first | with_reducible rfl | (simp only [size_addB, size_setB, size_drew]; done)) | apply Bl.add | apply Bl.drew | (apply Bl.setNe; omega) | (refine Bl.set' ?_ _ _; (try simp only [size_addB, size_setB, size_drew]); omega)))) rfl (by simp [Value.oneCell']) (by simp) ?_)
  refine L.rd (rd_assign rfl) rfl ?_
  refine L.nil ?_
  refine X.sq ?_
  refine V.seq ?_
  refine V.seq ?_
  generalize hw2 : setB _ _ _ _ = w2
  have hb2 : Bl w2 w1.heap.size 34 [.slice na ns.length nc, .int .i64 root] := by rw [← hw2]; refine Bl.set' ?_ _ _; rw [size_addB]; omega
  have he2 : Ext w1.heap.size w1 w2 := by rw [← hw2]; exact ((Ext.refl _ _).addNew _ _).set (Nat.le_refl _) _ _
  have hE2 := he1.next he2
  have ho2 := own_ext ho1 he2
  refine V.region ?_
  refine L.rd (rd_move rfl) rfl ?_
  first | refine L.rd (rd_not rfl) rfl ?_ | refine L.rd (rd_notB rfl) rfl ?_
  refine L.nil ?_
  refine X.sq ?_
  first | refine V.cond rfl (fun h16 => ?_) (fun h16 => ?_) | refine V.condB rfl (fun h16 => ?_) (fun h16 => ?_)
  ·
    refine V.seq ?_
    refine V.region ?_
    refine L.rd (rd_assign rfl) rfl ?_
    refine L.rd (rd_assign rfl) rfl ?_
    refine L.nil ?_
    refine X.sq ?_
    refine V.ret ?_
    refine X.sqRet ?_
    refine ret_2 Yaam.results25 rfl rfl ?_
    refine tx_bad ?_ hE2
    unfold simpP
    cases hl : srcP (bl s) with
    | none => rfl
    | some ts => rw [hl] at h16; cases h16
  ·
    refine V.skip ?_
    refine X.sq ?_
    refine V.seq ?_
    obtain ⟨t, ht⟩ : ∃ t, srcP (bl s) = some t := by
      cases hl : srcP (bl s) with
      | none => rw [hl] at h16; cases h16
      | some ts => exact ⟨ts, rfl⟩
    obtain ⟨hwt, hwi, hsz⟩ := src_wt ht
    obtain ⟨rfl, rfl⟩ := hg1 t ht
    have hwz := cn_wz t hwt
    have hwzs := hwz.sz
    have hcwi := cn_wi t hwi
    have hsimp : simpP (bl s) = tpT (cn t) := by unfold simpP; rw [ht]; rfl
    rw [hsimp]
    refine V.region ?_
    refine L.rd (rd_loadN tok rfl rfl rfl hb2.cells rfl) rfl ?_
    refine L.ef (e_call rfl (scanon_ok t hwt hsz _ _ (Rs.of_own ho2)) rfl ?_)
    rintro _ w3 ⟨nv3, ns3, root3, rfl, ho3, hg3, hn3, he3⟩
    obtain ⟨rfl, rfl⟩ := hg3 (cn t) rfl
    obtain ⟨na3, nc3, rfl⟩ := own_form ho3
    have hE3 := hE2.next he3
    refine L.rd (rd_move rfl) rfl ?_
    refine L.rd (rd_ext0 rfl) rfl ?_
    refine L.rd (rd_ext1 rfl) rfl ?_
    refine L.ef (e_alloc (cs := [_, _]) tok rfl rfl (by first | (simp only [size_addB, size_setB, size_drew]; rfl) | rfl) rfl ?_)
    refine L.ef (e_store (vs := [_, _]) tok rfl rfl rfl rfl (by (repeat (first | assumption | (refine Bl.new' ?_ _ _; first | with_reducible rfl | (simp only [size_addB, size_setB, size_drew]; done)) | apply Bl.add | apply Bl.drew | (apply Bl.setNe; omega) | (refine Bl.set' ?_ _ _; (try simp only [size_addB, size_setB, size_drew]); omega)))) rfl (by simp [Value.oneCell']) (by simp) ?_)
    refine L.rd (rd_assign rfl) rfl ?_
    refine L.nil ?_
    refine X.sq ?_
    refine V.seq ?_
    refine V.seq ?_
    generalize hw4 : setB _ _ _ _ = w4
    have hb4 : Bl w4 w3.heap.size 34 [.slice na3 (flat (cn t) 0).length nc3, .int .i64 ((tsz (cn t) : Int) - 1)] := by rw [← hw4]; refine Bl.set' ?_ _ _; rw [size_addB]; omega
    have he4 : Ext w3.heap.size w3 w4 := by rw [← hw4]; exact ((Ext.refl _ _).addNew _ _).set (Nat.le_refl _) _ _
    have hE4 := hE3.next he4
    have ho4 := own_ext ho3 he4
    refine V.region ?_
    refine L.rd (rd_move rfl) rfl ?_
    first | refine L.rd (rd_not rfl) rfl ?_ | refine L.rd (rd_notB rfl) rfl ?_
    refine L.nil ?_
    refine X.sq ?_
    first | refine V.cond rfl (fun h23 => ?_) (fun h23 => ?_) | refine V.condB rfl (fun h23 => ?_) (fun h23 => ?_)
    ·
      cases h23
    ·
      refine V.skip ?_
      refine X.sq ?_
      refine V.seq ?_
      refine V.region ?_
      refine L.rd (rd_loadN tok rfl rfl rfl hb4.cells rfl) rfl ?_
      refine L.ef (e_call rfl (stopoly_ok (cn t) hwz.wt hcwi (by omega) _ _ (Rs.of_own ho4)) rfl ?_)
      rintro _ w5 ⟨v5, Ls, rfl, hT5, hpl, he5⟩
      obtain ⟨pa, pc, rfl, -⟩ := hT5.form
      have hE5 := hE4.next he5
      refine L.rd (rd_move rfl) rfl ?_
      refine L.rd (rd_ext0 rfl) rfl ?_
      refine L.rd (rd_ext1 rfl) rfl ?_
      refine L.ef (e_alloc (cs := [_]) tok rfl rfl (by first | (simp only [size_addB, size_setB, size_drew]; rfl) | rfl) rfl ?_)
      refine L.ef (e_store (vs := [_]) tok rfl rfl rfl rfl (by (repeat (first | assumption | (refine Bl.new' ?_ _ _; first | with_reducible rfl | (simp only [size_addB, size_setB, size_drew]; done)) | apply Bl.add | apply Bl.drew | (apply Bl.setNe; omega) | (refine Bl.set' ?_ _ _; (try simp only [size_addB, size_setB, size_drew]); omega)))) rfl (by simp [Value.oneCell']) (by simp) ?_)
      refine L.rd (rd_assign rfl) rfl ?_
      refine L.nil ?_
      refine X.sq ?_
      refine V.seq ?_
      refine V.seq ?_
      generalize hw6 : setB _ _ _ _ = w6
      have hb6 : Bl w6 w5.heap.size 44 [.slice pa Ls.length pc] := by rw [← hw6]; refine Bl.set' ?_ _ _; rw [size_addB]; omega
      have he6 : Ext w5.heap.size w5 w6 := by rw [← hw6]; exact ((Ext.refl _ _).addNew _ _).set (Nat.le_refl _) _ _
      have hE6 := hE5.next he6
      have hT6 := hT5.ext he6
      refine V.region ?_
      refine L.rd (rd_move rfl) rfl ?_
      first | refine L.rd (rd_not rfl) rfl ?_ | refine L.rd (rd_notB rfl) rfl ?_
      refine L.nil ?_
      refine X.sq ?_
      first | refine V.cond rfl (fun h30 => ?_) (fun h30 => ?_) | refine V.condB rfl (fun h30 => ?_) (fun h30 => ?_)
      ·
        refine V.seq ?_
        refine V.region ?_
        refine L.rd (rd_assign rfl) rfl ?_
        refine L.rd (rd_assign rfl) rfl ?_
        refine L.nil ?_
        refine X.sq ?_
        refine V.ret ?_
        refine X.sqRet ?_
        refine ret_2 Yaam.results25 rfl rfl ?_
        refine tx_bad ?_ hE6
        unfold tpT
        cases hl : tpP (cn t) with
        | none => rfl
        | some q => rw [hl] at h30; cases h30
      ·
        refine V.skip ?_
        refine X.sq ?_
        refine V.seq ?_
        obtain ⟨p, hp⟩ : ∃ p, tpP (cn t) = some p := by
          cases hl : tpP (cn t) with
          | none => rw [hl] at h30; cases h30
          | some q => exact ⟨q, rfl⟩
        obtain ⟨hcp, hcq⟩ := tpP_canon hwz.wt hcwi hp
        rw [hp, Option.getD_some] at hpl
        subst hpl
        refine V.region ?_
        refine L.rd (rd_loadN tok rfl rfl rfl hb6.cells rfl) rfl ?_
        refine L.ef (e_call rfl (sprint_ok _ Ls _ hT6 (canon_sm hcp)) rfl ?_)
        rintro _ w7 ⟨rfl, he7⟩
        refine L.rd (rd_ext0 rfl) rfl ?_
        refine L.rd (rd_ext1 rfl) rfl ?_
        refine L.rd (rd_assign rfl) rfl ?_
        refine L.rd (rd_assign rfl) rfl ?_
        refine L.nil ?_
        refine X.sq ?_
        refine V.ret ?_
        refine ret_2 Yaam.results25 rfl rfl ?_
        refine ⟨?_, hE6.next he7⟩
        unfold tpT
        rw [hp, hcp, if_pos rfl]
        rfl

theorem isimp_ok (s : ByteArray) (w : World) (hs : s.size ≤ 1099511627776) : Ret Yaam.prog 24 [.string s] w (TxPost (simpP (bl s)) w) := by
  refine enter1 Yaam.func24 Yaam.ntmps24 (by kernel_rfl) rfl rfl ?_
  refine V.seq ?_
  refine V.region ?_
  refine L.rd (rd_assign rfl) rfl ?_
  refine L.rd (rd_assign rfl) rfl ?_
  refine L.nil ?_
  refine X.sq ?_
  refine V.seq ?_
  refine V.region ?_
  refine L.rd (rd_move rfl) rfl ?_
  refine L.ef (e_call rfl (ilex_ok s _ hs) rfl ?_)
  rintro _ w0 ⟨sv0, rfl, ho0, he0⟩
  obtain ⟨sa, sn, rfl⟩ := slice_form ho0
  refine L.rd (rd_move rfl) rfl ?_
  refine L.rd (rd_ext0 rfl) rfl ?_
  refine L.rd (rd_ext1 rfl) rfl ?_
  refine L.rd (rd_assign rfl) rfl ?_
  refine L.rd (rd_assign rfl) rfl ?_
  refine L.nil ?_
  refine X.sq ?_
  refine V.seq ?_
  refine V.seq ?_
  refine V.region ?_
  refine L.rd (rd_move rfl) rfl ?_
  first | refine L.rd (rd_not rfl) rfl ?_ | refine L.rd (rd_notB rfl) rfl ?_
  refine L.nil ?_
  refine X.sq ?_
  first | refine V.cond rfl (fun h18 => ?_) (fun h18 => ?_) | refine V.condB rfl (fun h18 => ?_) (fun h18 => ?_)
  ·
    refine V.seq ?_
    refine V.region ?_
    refine L.rd (rd_assign rfl) rfl ?_
    refine L.rd (rd_assign rfl) rfl ?_
    refine L.nil ?_
    refine X.sq ?_
    refine V.ret ?_
    refine X.sqRet ?_
    refine ret_2 Yaam.results24 rfl rfl ?_
    refine tx_bad ?_ he0
    unfold simpP srcP
    cases hl : lex (bl s) with
    | none => rfl
    | some ts => rw [hl] at h18; cases h18
  ·
    refine V.skip ?_
    refine X.sq ?_
    refine V.seq ?_
    obtain ⟨ts, hts⟩ : ∃ ts, lex (bl s) = some ts := by
      cases hl : lex (bl s) with
      | none => rw [hl] at h18; cases h18
      | some ts => exact ⟨ts, rfl⟩
    rw [hts] at ho0
    simp only [hts, Option.getD_some]
    have hsrc : srcP (bl s) = parseP ts := by unfold srcP; rw [hts]; rfl
    refine V.region ?_
    refine L.rd (rd_move rfl) rfl ?_
    refine L.ef (e_call rfl (iparse_ok _ ts _ (Rr.of_own (own_low ho0 (Nat.zero_le _)) (fun k hk => (own_block_lt ho0 hk).2))) rfl ?_)
    rintro _ w1 ⟨nv, ns, root, rfl, ho1, hg1, hn1, he1'⟩
    rw [← hsrc] at hg1 hn1 ⊢
    have he1 := he0.next he1'
    obtain ⟨na, nc, rfl⟩ := own_form ho1
    refine L.rd (rd_move rfl) rfl ?_
    refine L.rd (rd_ext0 rfl) rfl ?_
    refine L.rd (rd_ext1 rfl) rfl ?_
    refine L.ef (e_alloc (cs := [_, _]) tok rfl rfl (by first | (simp only [size_addB, size_setB, size_drew]; rfl) | rfl) rfl ?_)
    refine L.ef (e_store (vs := [_, _]) tok rfl rfl rfl rfl (by (repeat (first | assumption | (refine Bl.new' ?_ _ _; first | with_reducible rfl | (simp only [size_addB, size_setB, size_drew]; done)) | apply Bl.add | apply Bl.drew | (apply Bl.setNe; omega) | (refine Bl.set' ?_ _ _; (try simp only [size_addB, size_setB, size_drew]); omega)))) rfl (by simp [Value.oneCell']) (by simp) ?_)
    refine L.rd (rd_assign rfl) rfl ?_
    refine L.nil ?_
    refine X.sq ?_
    refine V.seq ?_
    refine V.seq ?_
    generalize hw2 : setB _ _ _ _ = w2
    have hb2 : Bl w2 w1.heap.size 34 [.slice na ns.length nc, .int .i64 root] := by rw [← hw2]; refine Bl.set' ?_ _ _; rw [size_addB]; omega
    have he2 : Ext w1.heap.size w1 w2 := by rw [← hw2]; exact ((Ext.refl _ _).addNew _ _).set (Nat.le_refl _) _ _
    have hE2 := he1.next he2
    have ho2 := own_ext ho1 he2
    refine V.region ?_
    refine L.rd (rd_move rfl) rfl ?_
    first | refine L.rd (rd_not rfl) rfl ?_ | refine L.rd (rd_notB rfl) rfl ?_
    refine L.nil ?_
    refine X.sq ?_
    first | refine V.cond rfl (fun h25 => ?_) (fun h25 => ?_) | refine V.condB rfl (fun h25 => ?_) (fun h25 => ?_)
    ·
      refine V.seq ?_
      refine V.region ?_
      refine L.rd (rd_assign rfl) rfl ?_
      refine L.rd (rd_assign rfl) rfl ?_
      refine L.nil ?_
      refine X.sq ?_
      refine V.ret ?_
      refine X.sqRet ?_
      refine ret_2 Yaam.results24 rfl rfl ?_
      refine tx_bad ?_ hE2
      unfold simpP
      cases hl : srcP (bl s) with
      | none => rfl
      | some ts => rw [hl] at h25; cases h25
    ·
      refine V.skip ?_
      refine X.sq ?_
      refine V.seq ?_
      obtain ⟨t, ht⟩ : ∃ t, srcP (bl s) = some t := by
        cases hl : srcP (bl s) with
        | none => rw [hl] at h25; cases h25
        | some ts => exact ⟨ts, rfl⟩
      obtain ⟨hwt, hwi, hsz⟩ := src_wt ht
      obtain ⟨rfl, rfl⟩ := hg1 t ht
      have hwz := cn_wz t hwt
      have hwzs := hwz.sz
      have hcwi := cn_wi t hwi
      have hsimp : simpP (bl s) = tpT (cn t) := by unfold simpP; rw [ht]; rfl
      rw [hsimp]
      refine V.region ?_
      refine L.rd (rd_loadN tok rfl rfl rfl hb2.cells rfl) rfl ?_
      refine L.ef (e_call rfl (icanon_ok t hwt hsz _ _ (Rs.of_own ho2)) rfl ?_)
      rintro _ w3 ⟨nv3, ns3, root3, rfl, ho3, hg3, hn3, he3⟩
      obtain ⟨rfl, rfl⟩ := hg3 (cn t) rfl
      obtain ⟨na3, nc3, rfl⟩ := own_form ho3
      have hE3 := hE2.next he3
      refine L.rd (rd_move rfl) rfl ?_
      refine L.rd (rd_ext0 rfl) rfl ?_
      refine L.rd (rd_ext1 rfl) rfl ?_
      refine L.ef (e_alloc (cs := [_, _]) tok rfl rfl (by first | (simp only [size_addB, size_setB, size_drew]; rfl) | rfl) rfl ?_)
      refine L.ef (e_store (vs := [_, _]) tok rfl rfl rfl rfl (by (repeat (first | assumption | (refine Bl.new' ?_ _ _; first | with_reducible rfl | (simp only [size_addB, size_setB, size_drew]; done)) | apply Bl.add | apply Bl.drew | (apply Bl.setNe; omega) | (refine Bl.set' ?_ _ _; (try simp only [size_addB, size_setB, size_drew]); omega)))) rfl (by simp [Value.oneCell']) (by simp) ?_)
      refine L.rd (rd_assign rfl) rfl ?_
      refine L.nil ?_
      refine X.sq ?_
      refine V.seq ?_
      refine V.seq ?_
      generalize hw4 : setB _ _ _ _ = w4
      have hb4 : Bl w4 w3.heap.size 34 [.slice na3 (flat (cn t) 0).length nc3, .int .i64 ((tsz (cn t) : Int) - 1)] := by rw [← hw4]; refine Bl.set' ?_ _ _; rw [size_addB]; omega
      have he4 : Ext w3.heap.size w3 w4 := by rw [← hw4]; exact ((Ext.refl _ _).addNew _ _).set (Nat.le_refl _) _ _
      have hE4 := hE3.next he4
      have ho4 := own_ext ho3 he4
      refine V.region ?_
      refine L.rd (rd_move rfl) rfl ?_
      first | refine L.rd (rd_not rfl) rfl ?_ | refine L.rd (rd_notB rfl) rfl ?_
      refine L.nil ?_
      refine X.sq ?_
      first | refine V.cond rfl (fun h32 => ?_) (fun h32 => ?_) | refine V.condB rfl (fun h32 => ?_) (fun h32 => ?_)
      ·
        cases h32
      ·
        refine V.skip ?_
        refine X.sq ?_
        refine V.seq ?_
        refine V.region ?_
        refine L.rd (rd_loadN tok rfl rfl rfl hb4.cells rfl) rfl ?_
        refine L.ef (e_call rfl (itopoly_ok (cn t) hwz.wt hcwi (by omega) _ _ (Rs.of_own ho4)) rfl ?_)
        rintro _ w5 ⟨v5, Ls, rfl, hT5, hpl, he5⟩
        obtain ⟨pa, pc, rfl, -⟩ := hT5.form
        have hE5 := hE4.next he5
        refine L.rd (rd_move rfl) rfl ?_
        refine L.rd (rd_ext0 rfl) rfl ?_
        refine L.rd (rd_ext1 rfl) rfl ?_
        refine L.ef (e_alloc (cs := [_]) tok rfl rfl (by first | (simp only [size_addB, size_setB, size_drew]; rfl) | rfl) rfl ?_)
        refine L.ef (e_store (vs := [_]) tok rfl rfl rfl rfl (by (repeat (first | assumption | (refine Bl.new' ?_ _ _; first | with_reducible rfl | (simp only [size_addB, size_setB, size_drew]; done)) | apply Bl.add | apply Bl.drew | (apply Bl.setNe; omega) | (refine Bl.set' ?_ _ _; (try simp only [size_addB, size_setB, size_drew]); omega)))) rfl (by simp [Value.oneCell']) (by simp) ?_)
        refine L.rd (rd_assign rfl) rfl ?_
        refine L.nil ?_
        refine X.sq ?_
        refine V.seq ?_
        refine V.seq ?_
        generalize hw6 : setB _ _ _ _ = w6
        have hb6 : Bl w6 w5.heap.size 44 [.slice pa Ls.length pc] := by rw [← hw6]; refine Bl.set' ?_ _ _; rw [size_addB]; omega
        have he6 : Ext w5.heap.size w5 w6 := by rw [← hw6]; exact ((Ext.refl _ _).addNew _ _).set (Nat.le_refl _) _ _
        have hE6 := hE5.next he6
        have hT6 := hT5.ext he6
        refine V.region ?_
        refine L.rd (rd_move rfl) rfl ?_
        first | refine L.rd (rd_not rfl) rfl ?_ | refine L.rd (rd_notB rfl) rfl ?_
        refine L.nil ?_
        refine X.sq ?_
        first | refine V.cond rfl (fun h39 => ?_) (fun h39 => ?_) | refine V.condB rfl (fun h39 => ?_) (fun h39 => ?_)
        ·
          refine V.seq ?_
          refine V.region ?_
          refine L.rd (rd_assign rfl) rfl ?_
          refine L.rd (rd_assign rfl) rfl ?_
          refine L.nil ?_
          refine X.sq ?_
          refine V.ret ?_
          refine X.sqRet ?_
          refine ret_2 Yaam.results24 rfl rfl ?_
          refine tx_bad ?_ hE6
          unfold tpT
          cases hl : tpP (cn t) with
          | none => rfl
          | some q => rw [hl] at h39; cases h39
        ·
          refine V.skip ?_
          refine X.sq ?_
          refine V.seq ?_
          obtain ⟨p, hp⟩ : ∃ p, tpP (cn t) = some p := by
            cases hl : tpP (cn t) with
            | none => rw [hl] at h39; cases h39
            | some q => exact ⟨q, rfl⟩
          obtain ⟨hcp, hcq⟩ := tpP_canon hwz.wt hcwi hp
          rw [hp, Option.getD_some] at hpl
          subst hpl
          refine V.region ?_
          refine L.rd (rd_loadN tok rfl rfl rfl hb6.cells rfl) rfl ?_
          refine L.ef (e_call rfl (iprint_ok _ Ls _ hT6 (canon_sm hcp)) rfl ?_)
          rintro _ w7 ⟨rfl, he7⟩
          refine L.rd (rd_ext0 rfl) rfl ?_
          refine L.rd (rd_ext1 rfl) rfl ?_
          refine L.rd (rd_assign rfl) rfl ?_
          refine L.rd (rd_assign rfl) rfl ?_
          refine L.nil ?_
          refine X.sq ?_
          refine V.ret ?_
          refine ret_2 Yaam.results24 rfl rfl ?_
          refine ⟨?_, hE6.next he7⟩
          unfold tpT
          rw [hp, hcp, if_pos rfl]
          rfl
end Go.Proofs.YbxaawGreat
