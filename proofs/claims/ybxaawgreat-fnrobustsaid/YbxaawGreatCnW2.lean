/-
  spec.toTree, canonNode, Canon, walked.
-/
import Derived.Test.YbxaawGreatCnW
import Derived.Test.YbxaawGreatWfW2
set_option linter.unusedVariables false
set_option linter.unusedSimpArgs false
set_option maxRecDepth 10000
namespace Go.Proofs.YbxaawGreat
open Go.Mw

theorem toTree_ok (ns : List Nd) (nv : Value) (w0 : World) (hN : Rs w0 5 nv ns.length (ns.flatMap ndE)) (hlen : ns.length ≤ 1000000) : ∀ (t : Tre) (b : Nat) (ix : Int) (w : World), Wt t → At ns t b → ix = (b : Int) + tsz t - 1 → Ext w0.heap.size w0 w → Ret Yaam.prog 92 [nv, .int .i64 ix] w (CPo 0 t w) := by
  obtain ⟨na, nc, rfl, hfn⟩ := hN.form
  refine Tre.ind (fun k v x c b ix w hw hat hix hE => ?_) (fun k v x c ih b ix w hw hat hix hE => ?_) (fun k v x n c ih1 ih2 b ix w hw hat hix hE => ?_)
  · have hnd := hat 0 (k, v, x, -1, -1) rfl
    rw [Nat.add_zero] at hnd
    have hbl := (List.getElem?_eq_some_iff.1 hnd).1
    rw [tsz] at hix
    obtain ⟨b1, o1, rfl, hc1⟩ := hfn.resolve_left (by omega)
    obtain rfl : ix = (b : Int) := by omega
    have hcx := (hc1.le hE.leC).sub (b * 5) (ndE (k, v, x, -1, -1)) (fun j u hu => fm_get ndE_len ns b _ hnd j u hu)
    have hA : (k = 1 ∧ x = 0) ∨ (k = 2 ∧ v = 0 ∧ 0 ≤ x ∧ x ≤ 25) := hw
    refine enter2 Yaam.func92 Yaam.ntmps92 (by kernel_rfl) rfl rfl ?_
    refine V.seq ?_
    refine V.region ?_
    refine L.rd (rd_assign rfl) rfl ?_
    refine L.nil ?_
    refine X.sq ?_
    refine V.seq ?_
    refine V.region ?_
    refine L.rd (rd_move rfl) rfl ?_
    refine L.rd (rd_move rfl) rfl ?_
    (refine L.rd (rd_indexSlice (sz := 5) tok rfl rfl rfl rfl rfl rfl rfl ?_) rfl ?_; omega)
    refine L.rd (rd_loadN tok rfl rfl rfl hcx rfl) rfl ?_
    refine L.ef (e_alloc (cs := [_, _, _, _, _]) tok rfl rfl (by first | (simp only [size_addB, size_setB, size_drew]; rfl) | rfl) rfl ?_)
    refine L.ef (e_store (vs := [_, _, _, _, _]) tok rfl rfl rfl rfl (by (repeat (first | assumption | (refine Bl.new' ?_ _ _; first | with_reducible rfl | (simp only [size_addB, size_setB, size_drew]; done)) | apply Bl.add | apply Bl.drew | (apply Bl.setNe; omega) | (refine Bl.set' ?_ _ _; (try simp only [size_addB, size_setB, size_drew]); omega)))) rfl (by simp [Value.oneCell']) (by simp) ?_)
    refine L.nil ?_
    refine X.sq ?_
    refine V.seq ?_
    refine V.seq ?_
    generalize hw3 : setB _ _ _ _ = w3
    have hb3 : Bl w3 w.heap.size 80 [.int .i64 k, .int .i64 v, .int .i64 x, .int .i64 (-1), .int .i64 (-1)] := by rw [← hw3]; refine Bl.set' ?_ _ _; rw [size_addB]; omega
    have he3 : Ext w.heap.size w w3 := by rw [← hw3]; exact ((Ext.refl _ _).addNew _ _).set (Nat.le_refl _) _ _
    have hE3 := hE.next he3
    refine V.region ?_
    refine L.rd (rd_fieldAddr tok rfl rfl rfl rfl rfl rfl) rfl ?_
    refine L.rd (rd_load1 tok rfl rfl rfl (hb3.cell rfl)) rfl ?_
    refine L.nil ?_
    refine X.sq ?_
    refine V.block ?_
    refine V.seq ?_
    refine V.region ?_
    refine L.rd (rd_eql rfl rfl) rfl ?_
    refine L.rd (rd_assign rfl) rfl ?_
    refine L.nil ?_
    refine X.sq ?_
    first | refine V.cond rfl (fun h16 => ?_) (fun h16 => ?_) | refine V.condB rfl (fun h16 => ?_) (fun h16 => ?_)
    ·
      refine V.seq ?_
      refine V.region ?_
      refine L.rd (rd_fieldAddr tok rfl rfl rfl rfl rfl rfl) rfl ?_
      refine L.rd (rd_load1 tok rfl rfl rfl (hb3.cell (i := 1) rfl)) rfl ?_
      refine L.ef (e_call rfl (snum_ok v _) rfl ?_)
      rintro _ w4 ⟨rfl, hb4, he4⟩
      refine L.rd (rd_assign rfl) rfl ?_
      refine L.nil ?_
      refine X.sq ?_
      refine V.ret ?_
      refine X.bkRet ?_
      refine X.sqRet ?_
      refine ret_1 Yaam.results92 rfl ?_
      obtain ⟨rfl, rfl⟩ : k = 1 ∧ x = 0 := by omega
      exact ⟨_, rfl, ⟨_, rfl, Nat.zero_le _, hb4⟩, he3.next he4⟩
    ·
      refine V.seq ?_
      refine V.region ?_
      refine L.rd (rd_eql rfl rfl) rfl ?_
      refine L.rd (rd_assign rfl) rfl ?_
      refine L.nil ?_
      refine X.sq ?_
      first | refine V.cond rfl (fun h21 => ?_) (fun h21 => ?_) | refine V.condB rfl (fun h21 => ?_) (fun h21 => ?_)
      ·
        refine V.seq ?_
        refine V.region ?_
        refine L.rd (rd_fieldAddr tok rfl rfl rfl rfl rfl rfl) rfl ?_
        refine L.rd (rd_load1 tok rfl rfl rfl (hb3.cell (i := 2) rfl)) rfl ?_
        refine L.rd (rd_build (out := [_, _, _, _, _]) tok rfl rfl rfl rfl rfl) rfl ?_
        refine L.ef (e_box (cs := [_, _, _, _, _]) rfl rfl (by first | (simp only [size_addB, size_setB, size_drew]; rfl) | rfl) rfl ?_)
        refine L.rd (rd_assign rfl) rfl ?_
        refine L.nil ?_
        refine X.sq ?_
        refine V.ret ?_
        refine X.bkRet ?_
        refine X.sqRet ?_
        refine ret_1 Yaam.results92 rfl ?_
        obtain ⟨rfl, rfl⟩ : k = 2 ∧ v = 0 := by omega
        exact ⟨_, rfl, ⟨_, rfl, Nat.zero_le _, Bl.new _ _ _⟩, he3.addNew _ _⟩
      ·
        refine V.seq ?_
        exfalso
        omega
  · have hfl := flat_len (c 0) b
    have htp := tsz_pos (c 0)
    have hnd := hat (tsz (c 0)) (k, v, x, (b : Int) + tsz (c 0) - 1, -1) (by rw [flat, List.getElem?_append_right (by omega), hfl, Nat.sub_self]; rfl)
    have hbl := (List.getElem?_eq_some_iff.1 hnd).1
    have hat1 : At ns (c 0) b := fun j nd h => hat j nd (by rw [flat]; exact app_some h)
    obtain ⟨hx0, hA, hw1⟩ := hw
    rw [tsz] at hix
    obtain ⟨b1, o1, rfl, hc1⟩ := hfn.resolve_left (by omega)
    obtain rfl : ix = ((b + tsz (c 0) : Nat) : Int) := by omega
    have hcx := (hc1.le hE.leC).sub ((b + tsz (c 0)) * 5) (ndE (k, v, x, (b : Int) + tsz (c 0) - 1, -1)) (fun j u hu => fm_get ndE_len ns _ _ hnd j u hu)
    have hkk : k = 3 ∨ k = 7 := by rcases hA with h | h; exact .inl h.1; exact .inr h.1
    refine enter2 Yaam.func92 Yaam.ntmps92 (by kernel_rfl) rfl rfl ?_
    refine V.seq ?_
    refine V.region ?_
    refine L.rd (rd_assign rfl) rfl ?_
    refine L.nil ?_
    refine X.sq ?_
    refine V.seq ?_
    refine V.region ?_
    refine L.rd (rd_move rfl) rfl ?_
    refine L.rd (rd_move rfl) rfl ?_
    (refine L.rd (rd_indexSlice (sz := 5) tok rfl rfl rfl rfl rfl rfl rfl ?_) rfl ?_; omega)
    refine L.rd (rd_loadN tok rfl rfl rfl hcx rfl) rfl ?_
    refine L.ef (e_alloc (cs := [_, _, _, _, _]) tok rfl rfl (by first | (simp only [size_addB, size_setB, size_drew]; rfl) | rfl) rfl ?_)
    refine L.ef (e_store (vs := [_, _, _, _, _]) tok rfl rfl rfl rfl (by (repeat (first | assumption | (refine Bl.new' ?_ _ _; first | with_reducible rfl | (simp only [size_addB, size_setB, size_drew]; done)) | apply Bl.add | apply Bl.drew | (apply Bl.setNe; omega) | (refine Bl.set' ?_ _ _; (try simp only [size_addB, size_setB, size_drew]); omega)))) rfl (by simp [Value.oneCell']) (by simp) ?_)
    refine L.nil ?_
    refine X.sq ?_
    refine V.seq ?_
    refine V.seq ?_
    generalize hw3 : setB _ _ _ _ = w3
    have hb3 : Bl w3 w.heap.size 80 [.int .i64 k, .int .i64 v, .int .i64 x, .int .i64 ((b : Int) + tsz (c 0) - 1), .int .i64 (-1)] := by rw [← hw3]; refine Bl.set' ?_ _ _; rw [size_addB]; omega
    have he3 : Ext w.heap.size w w3 := by rw [← hw3]; exact ((Ext.refl _ _).addNew _ _).set (Nat.le_refl _) _ _
    have hE3 := hE.next he3
    refine V.region ?_
    refine L.rd (rd_fieldAddr tok rfl rfl rfl rfl rfl rfl) rfl ?_
    refine L.rd (rd_load1 tok rfl rfl rfl (hb3.cell rfl)) rfl ?_
    refine L.nil ?_
    refine X.sq ?_
    refine V.block ?_
    refine V.seq ?_
    refine V.region ?_
    refine L.rd (rd_eql rfl rfl) rfl ?_
    refine L.rd (rd_assign rfl) rfl ?_
    refine L.nil ?_
    refine X.sq ?_
    first | refine V.cond rfl (fun h16 => ?_) (fun h16 => ?_) | refine V.condB rfl (fun h16 => ?_) (fun h16 => ?_)
    ·
      refine V.seq ?_
      exfalso
      omega
    ·
      refine V.seq ?_
      refine V.region ?_
      refine L.rd (rd_eql rfl rfl) rfl ?_
      refine L.rd (rd_assign rfl) rfl ?_
      refine L.nil ?_
      refine X.sq ?_
      first | refine V.cond rfl (fun h21 => ?_) (fun h21 => ?_) | refine V.condB rfl (fun h21 => ?_) (fun h21 => ?_)
      ·
        refine V.seq ?_
        exfalso
        omega
      ·
        refine V.seq ?_
        refine V.region ?_
        refine L.rd (rd_eql rfl rfl) rfl ?_
        refine L.rd (rd_assign rfl) rfl ?_
        refine L.nil ?_
        refine X.sq ?_
        first | refine V.cond rfl (fun h27 => ?_) (fun h27 => ?_) | refine V.condB rfl (fun h27 => ?_) (fun h27 => ?_)
        ·
          refine V.seq ?_
          refine V.region ?_
          refine L.rd (rd_move rfl) rfl ?_
          refine L.rd (rd_fieldAddr tok rfl rfl rfl rfl rfl rfl) rfl ?_
          refine L.rd (rd_load1 tok rfl rfl rfl (hb3.cell (i := 3) rfl)) rfl ?_
          refine L.ef (e_call rfl (ih b _ _ hw1 hat1 rfl hE3) rfl ?_)
          rintro _ w4 ⟨a4, rfl, ht4, he4⟩
          refine L.rd (rd_assign rfl) rfl ?_
          refine L.nil ?_
          refine X.sq ?_
          refine V.seq ?_
          refine V.region ?_
          refine L.rd (rd_move rfl) rfl ?_
          refine L.rd (rd_build (out := [_, _, _, _, _]) tok rfl rfl rfl rfl rfl) rfl ?_
          refine L.ef (e_box (cs := [_, _, _, _, _]) rfl rfl (by first | (simp only [size_addB, size_setB, size_drew]; rfl) | rfl) rfl ?_)
          refine L.rd (rd_assign rfl) rfl ?_
          refine L.nil ?_
          refine X.sq ?_
          refine V.ret ?_
          refine X.bkRet ?_
          refine X.sqRet ?_
          refine ret_1 Yaam.results92 rfl ?_
          obtain ⟨rfl, rfl⟩ : k = 3 ∧ v = 0 := by omega
          subst hx0
          have he5 := (Ext.refl _ w4).addNew 119 [.int .i64 3, .int .i64 0, .int .i64 0, .pointer a4, .pointer none]
          exact ⟨_, rfl, ⟨_, _, rfl, Nat.zero_le _, Bl.new _ _ _, ht4.ext he5⟩, (he3.next he4).next he5⟩
        ·
          refine V.seq ?_
          refine V.region ?_
          refine L.rd (rd_eql rfl rfl) rfl ?_
          refine L.rd (rd_assign rfl) rfl ?_
          refine L.nil ?_
          refine X.sq ?_
          first | refine V.cond rfl (fun h36 => ?_) (fun h36 => ?_) | refine V.condB rfl (fun h36 => ?_) (fun h36 => ?_)
          ·
            refine V.seq ?_
            refine V.region ?_
            refine L.rd (rd_move rfl) rfl ?_
            refine L.rd (rd_fieldAddr tok rfl rfl rfl rfl rfl rfl) rfl ?_
            refine L.rd (rd_load1 tok rfl rfl rfl (hb3.cell (i := 3) rfl)) rfl ?_
            refine L.ef (e_call rfl (ih b _ _ hw1 hat1 rfl hE3) rfl ?_)
            rintro _ w4 ⟨a4, rfl, ht4, he4⟩
            have hb4 := he4.bl hb3.lt hb3
            refine L.rd (rd_assign rfl) rfl ?_
            refine L.nil ?_
            refine X.sq ?_
            refine V.seq ?_
            refine V.region ?_
            refine L.rd (rd_fieldAddr tok rfl rfl rfl rfl rfl rfl) rfl ?_
            refine L.rd (rd_load1 tok rfl rfl rfl (hb4.cell (i := 1) rfl)) rfl ?_
            refine L.rd (rd_move rfl) rfl ?_
            refine L.rd (rd_build (out := [_, _, _, _, _]) tok rfl rfl rfl rfl rfl) rfl ?_
            refine L.ef (e_box (cs := [_, _, _, _, _]) rfl rfl (by first | (simp only [size_addB, size_setB, size_drew]; rfl) | rfl) rfl ?_)
            refine L.rd (rd_assign rfl) rfl ?_
            refine L.nil ?_
            refine X.sq ?_
            refine V.ret ?_
            refine X.bkRet ?_
            refine X.sqRet ?_
            refine ret_1 Yaam.results92 rfl ?_
            have hk7 : k = 7 := h36
            subst hk7
            subst hx0
            have he5 := (Ext.refl _ w4).addNew 119 [.int .i64 7, .int .i64 v, .int .i64 0, .pointer a4, .pointer none]
            exact ⟨_, rfl, ⟨_, _, rfl, Nat.zero_le _, Bl.new _ _ _, ht4.ext he5⟩, (he3.next he4).next he5⟩
          ·
            refine V.skip ?_
            refine X.bk ?_
            refine X.sq ?_
            refine V.seq ?_
            exfalso
            omega
  · have hfl := flat_len (c 0) b
    have hfl2 := flat_len (c 1) (b + tsz (c 0))
    have htp := tsz_pos (c 0)
    have htp2 := tsz_pos (c 1)
    have hnd := hat (tsz (c 0) + tsz (c 1)) (k, v, x, (b : Int) + tsz (c 0) - 1, (b : Int) + tsz (c 0) + tsz (c 1) - 1) (by rw [flat, List.getElem?_append_right (by rw [List.length_append]; omega), List.length_append, hfl, hfl2, Nat.sub_self]; rfl)
    have hbl := (List.getElem?_eq_some_iff.1 hnd).1
    have hat1 : At ns (c 0) b := fun j nd h => hat j nd (by rw [flat]; exact app_some (app_some h))
    have hat2 : At ns (c 1) (b + tsz (c 0)) := fun j nd h => by
      have hj := (List.getElem?_eq_some_iff.1 h).1
      have := hat (tsz (c 0) + j) nd (by rw [flat, List.append_assoc, List.getElem?_append_right (by omega), hfl, Nat.add_sub_cancel_left]; exact app_some h)
      rwa [← Nat.add_assoc] at this
    obtain ⟨rfl, hv0, hx0, hkk, hw1, hw2⟩ := hw
    rw [tsz] at hix
    obtain ⟨b1, o1, rfl, hc1⟩ := hfn.resolve_left (by omega)
    obtain rfl : ix = ((b + (tsz (c 0) + tsz (c 1)) : Nat) : Int) := by omega
    have hcx := (hc1.le hE.leC).sub ((b + (tsz (c 0) + tsz (c 1))) * 5) (ndE (k, v, x, (b : Int) + tsz (c 0) - 1, (b : Int) + tsz (c 0) + tsz (c 1) - 1)) (fun j u hu => fm_get ndE_len ns _ _ hnd j u hu)
    refine enter2 Yaam.func92 Yaam.ntmps92 (by kernel_rfl) rfl rfl ?_
    refine V.seq ?_
    refine V.region ?_
    refine L.rd (rd_assign rfl) rfl ?_
    refine L.nil ?_
    refine X.sq ?_
    refine V.seq ?_
    refine V.region ?_
    refine L.rd (rd_move rfl) rfl ?_
    refine L.rd (rd_move rfl) rfl ?_
    (refine L.rd (rd_indexSlice (sz := 5) tok rfl rfl rfl rfl rfl rfl rfl ?_) rfl ?_; omega)
    refine L.rd (rd_loadN tok rfl rfl rfl hcx rfl) rfl ?_
    refine L.ef (e_alloc (cs := [_, _, _, _, _]) tok rfl rfl (by first | (simp only [size_addB, size_setB, size_drew]; rfl) | rfl) rfl ?_)
    refine L.ef (e_store (vs := [_, _, _, _, _]) tok rfl rfl rfl rfl (by (repeat (first | assumption | (refine Bl.new' ?_ _ _; first | with_reducible rfl | (simp only [size_addB, size_setB, size_drew]; done)) | apply Bl.add | apply Bl.drew | (apply Bl.setNe; omega) | (refine Bl.set' ?_ _ _; (try simp only [size_addB, size_setB, size_drew]); omega)))) rfl (by simp [Value.oneCell']) (by simp) ?_)
    refine L.nil ?_
    refine X.sq ?_
    refine V.seq ?_
    refine V.seq ?_
    generalize hw3 : setB _ _ _ _ = w3
    have hb3 : Bl w3 w.heap.size 80 [.int .i64 k, .int .i64 v, .int .i64 x, .int .i64 ((b : Int) + tsz (c 0) - 1), .int .i64 ((b : Int) + tsz (c 0) + tsz (c 1) - 1)] := by rw [← hw3]; refine Bl.set' ?_ _ _; rw [size_addB]; omega
    have he3 : Ext w.heap.size w w3 := by rw [← hw3]; exact ((Ext.refl _ _).addNew _ _).set (Nat.le_refl _) _ _
    have hE3 := hE.next he3
    refine V.region ?_
    refine L.rd (rd_fieldAddr tok rfl rfl rfl rfl rfl rfl) rfl ?_
    refine L.rd (rd_load1 tok rfl rfl rfl (hb3.cell rfl)) rfl ?_
    refine L.nil ?_
    refine X.sq ?_
    refine V.block ?_
    refine V.seq ?_
    refine V.region ?_
    refine L.rd (rd_eql rfl rfl) rfl ?_
    refine L.rd (rd_assign rfl) rfl ?_
    refine L.nil ?_
    refine X.sq ?_
    first | refine V.cond rfl (fun h16 => ?_) (fun h16 => ?_) | refine V.condB rfl (fun h16 => ?_) (fun h16 => ?_)
    ·
      refine V.seq ?_
      exfalso
      omega
    ·
      refine V.seq ?_
      refine V.region ?_
      refine L.rd (rd_eql rfl rfl) rfl ?_
      refine L.rd (rd_assign rfl) rfl ?_
      refine L.nil ?_
      refine X.sq ?_
      first | refine V.cond rfl (fun h21 => ?_) (fun h21 => ?_) | refine V.condB rfl (fun h21 => ?_) (fun h21 => ?_)
      ·
        refine V.seq ?_
        exfalso
        omega
      ·
        refine V.seq ?_
        refine V.region ?_
        refine L.rd (rd_eql rfl rfl) rfl ?_
        refine L.rd (rd_assign rfl) rfl ?_
        refine L.nil ?_
        refine X.sq ?_
        first | refine V.cond rfl (fun h27 => ?_) (fun h27 => ?_) | refine V.condB rfl (fun h27 => ?_) (fun h27 => ?_)
        ·
          refine V.seq ?_
          exfalso
          omega
        ·
          refine V.seq ?_
          refine V.region ?_
          refine L.rd (rd_eql rfl rfl) rfl ?_
          refine L.rd (rd_assign rfl) rfl ?_
          refine L.nil ?_
          refine X.sq ?_
          first | refine V.cond rfl (fun h36 => ?_) (fun h36 => ?_) | refine V.condB rfl (fun h36 => ?_) (fun h36 => ?_)
          ·
            refine V.seq ?_
            exfalso
            omega
          ·
            refine V.skip ?_
            refine X.bk ?_
            refine X.sq ?_
            refine V.seq ?_
            refine V.region ?_
            refine L.rd (rd_move rfl) rfl ?_
            refine L.rd (rd_fieldAddr tok rfl rfl rfl rfl rfl rfl) rfl ?_
            refine L.rd (rd_load1 tok rfl rfl rfl (hb3.cell (i := 3) rfl)) rfl ?_
            refine L.ef (e_call rfl (ih1 b _ _ hw1 hat1 rfl hE3) rfl ?_)
            rintro _ w4 ⟨a4, rfl, ht4, he4⟩
            have hb4 := he4.bl hb3.lt hb3
            refine L.rd (rd_assign rfl) rfl ?_
            refine L.nil ?_
            refine X.sq ?_
            refine V.seq ?_
            refine V.region ?_
            refine L.rd (rd_move rfl) rfl ?_
            refine L.rd (rd_fieldAddr tok rfl rfl rfl rfl rfl rfl) rfl ?_
            refine L.rd (rd_load1 tok rfl rfl rfl (hb4.cell (i := 4) rfl)) rfl ?_
            refine L.ef (e_call rfl (ih2 (b + tsz (c 0)) _ _ hw2 hat2 (by omega) (hE3.next he4)) rfl ?_)
            rintro _ w5 ⟨a5, rfl, ht5, he5⟩
            have hb5 := he5.bl hb4.lt hb4
            refine L.rd (rd_assign rfl) rfl ?_
            refine L.nil ?_
            refine X.sq ?_
            refine V.seq ?_
            refine V.region ?_
            refine L.rd (rd_fieldAddr tok rfl rfl rfl rfl rfl rfl) rfl ?_
            refine L.rd (rd_load1 tok rfl rfl rfl (hb5.cell rfl)) rfl ?_
            refine L.rd (rd_move rfl) rfl ?_
            refine L.rd (rd_move rfl) rfl ?_
            refine L.rd (rd_build (out := [_, _, _, _, _]) tok rfl rfl rfl rfl rfl) rfl ?_
            refine L.ef (e_box (cs := [_, _, _, _, _]) rfl rfl (by first | (simp only [size_addB, size_setB, size_drew]; rfl) | rfl) rfl ?_)
            refine L.rd (rd_assign rfl) rfl ?_
            refine L.nil ?_
            refine X.sq ?_
            refine V.ret ?_
            refine ret_1 Yaam.results92 rfl ?_
            subst hv0 hx0
            have he6 := (Ext.refl _ w5).addNew 119 [.int .i64 k, .int .i64 0, .int .i64 0, .pointer a4, .pointer a5]
            exact ⟨_, rfl, ⟨_, _, _, rfl, Nat.zero_le _, Bl.new _ _ _, (ht4.ext he5).ext he6, ht5.ext he6⟩, ((he3.next he4).next he5).next he6⟩

theorem canonNode_ok : ∀ (t : Tre) (v : Value) (w : World), Wt t → Tm 119 w 0 t v → Ret Yaam.prog 91 [v] w (CPo 0 (cn t) w) := by
  refine Tre.ind (fun k vv x c v w hw h => ?_) (fun k vv x c ih v w hw h => ?_) (fun k vv x n c ih1 ih2 v w hw h => ?_)
  · obtain ⟨b, rfl, -, hb⟩ := h
    have hA : (k = 1 ∧ x = 0) ∨ (k = 2 ∧ vv = 0 ∧ 0 ≤ x ∧ x ≤ 25) := hw
    rw [cn]
    refine enter1 Yaam.func91 Yaam.ntmps91 (by kernel_rfl) rfl rfl ?_
    refine V.seq ?_
    refine V.region ?_
    refine L.rd (rd_assign rfl) rfl ?_
    refine L.nil ?_
    refine X.sq ?_
    refine V.seq ?_
    refine V.seq ?_
    refine V.region ?_
    refine L.rd (rd_move rfl) rfl ?_
    refine L.rd (rd_nilCheck rfl) rfl ?_
    refine L.rd (rd_fieldAddr tok rfl rfl rfl rfl rfl rfl) rfl ?_
    refine L.rd (rd_load1 tok rfl rfl rfl (hb.cell rfl)) rfl ?_
    refine L.nil ?_
    refine X.sq ?_
    refine V.block ?_
    refine V.seq ?_
    refine V.region ?_
    refine L.rd (rd_eql rfl rfl) rfl ?_
    refine L.rd (rd_assign rfl) rfl ?_
    refine L.nil ?_
    refine X.sq ?_
    first | refine V.cond rfl (fun h9 => ?_) (fun h9 => ?_) | refine V.condB rfl (fun h9 => ?_) (fun h9 => ?_)
    ·
      refine V.seq ?_
      refine V.region ?_
      refine L.rd (rd_move rfl) rfl ?_
      refine L.rd (rd_nilCheck rfl) rfl ?_
      refine L.rd (rd_fieldAddr tok rfl rfl rfl rfl rfl rfl) rfl ?_
      refine L.rd (rd_load1 tok rfl rfl rfl (hb.cell (i := 1) rfl)) rfl ?_
      refine L.ef (e_call rfl (snum_ok vv _) rfl ?_)
      rintro _ w4 ⟨rfl, hb4, he4⟩
      refine L.rd (rd_assign rfl) rfl ?_
      refine L.nil ?_
      refine X.sq ?_
      refine V.ret ?_
      refine X.bkRet ?_
      refine X.sqRet ?_
      refine ret_1 Yaam.results91 rfl ?_
      obtain ⟨rfl, rfl⟩ : k = 1 ∧ x = 0 := by omega
      exact ⟨_, rfl, Tm.leaf hb4 (Nat.zero_le _), he4⟩
    ·
      refine V.seq ?_
      refine V.region ?_
      refine L.rd (rd_eql rfl rfl) rfl ?_
      refine L.rd (rd_assign rfl) rfl ?_
      refine L.nil ?_
      refine X.sq ?_
      first | refine V.cond rfl (fun h16 => ?_) (fun h16 => ?_) | refine V.condB rfl (fun h16 => ?_) (fun h16 => ?_)
      ·
        refine V.seq ?_
        refine V.region ?_
        refine L.rd (rd_move rfl) rfl ?_
        refine L.rd (rd_nilCheck rfl) rfl ?_
        refine L.rd (rd_fieldAddr tok rfl rfl rfl rfl rfl rfl) rfl ?_
        refine L.rd (rd_load1 tok rfl rfl rfl (hb.cell (i := 2) rfl)) rfl ?_
        refine L.rd (rd_build (out := [_, _, _, _, _]) tok rfl rfl rfl rfl rfl) rfl ?_
        refine L.ef (e_box (cs := [_, _, _, _, _]) rfl rfl (by first | (simp only [size_addB, size_setB, size_drew]; rfl) | rfl) rfl ?_)
        refine L.rd (rd_assign rfl) rfl ?_
        refine L.nil ?_
        refine X.sq ?_
        refine V.ret ?_
        refine X.bkRet ?_
        refine X.sqRet ?_
        refine ret_1 Yaam.results91 rfl ?_
        obtain ⟨rfl, rfl⟩ : k = 2 ∧ vv = 0 := by omega
        exact ⟨_, rfl, Tm.leaf (Bl.new _ _ _) (Nat.zero_le _), (Ext.refl _ _).addNew _ _⟩
      ·
        refine V.seq ?_
        exfalso
        omega
  · obtain ⟨b, q, rfl, -, hb, ht⟩ := h
    obtain ⟨hx0, hA, hw1⟩ := hw
    have hkk : k = 3 ∨ k = 7 := by rcases hA with h | h; exact .inl h.1; exact .inr h.1
    have hwz := cn_wz (c 0) hw1
    rw [cn]
    refine enter1 Yaam.func91 Yaam.ntmps91 (by kernel_rfl) rfl rfl ?_
    refine V.seq ?_
    refine V.region ?_
    refine L.rd (rd_assign rfl) rfl ?_
    refine L.nil ?_
    refine X.sq ?_
    refine V.seq ?_
    refine V.seq ?_
    refine V.region ?_
    refine L.rd (rd_move rfl) rfl ?_
    refine L.rd (rd_nilCheck rfl) rfl ?_
    refine L.rd (rd_fieldAddr tok rfl rfl rfl rfl rfl rfl) rfl ?_
    refine L.rd (rd_load1 tok rfl rfl rfl (hb.cell rfl)) rfl ?_
    refine L.nil ?_
    refine X.sq ?_
    refine V.block ?_
    refine V.seq ?_
    refine V.region ?_
    refine L.rd (rd_eql rfl rfl) rfl ?_
    refine L.rd (rd_assign rfl) rfl ?_
    refine L.nil ?_
    refine X.sq ?_
    first | refine V.cond rfl (fun h9 => ?_) (fun h9 => ?_) | refine V.condB rfl (fun h9 => ?_) (fun h9 => ?_)
    ·
      refine V.seq ?_
      exfalso
      omega
    ·
      refine V.seq ?_
      refine V.region ?_
      refine L.rd (rd_eql rfl rfl) rfl ?_
      refine L.rd (rd_assign rfl) rfl ?_
      refine L.nil ?_
      refine X.sq ?_
      first | refine V.cond rfl (fun h16 => ?_) (fun h16 => ?_) | refine V.condB rfl (fun h16 => ?_) (fun h16 => ?_)
      ·
        refine V.seq ?_
        exfalso
        omega
      ·
        refine V.seq ?_
        refine V.region ?_
        refine L.rd (rd_eql rfl rfl) rfl ?_
        refine L.rd (rd_assign rfl) rfl ?_
        refine L.nil ?_
        refine X.sq ?_
        first | refine V.cond rfl (fun h24 => ?_) (fun h24 => ?_) | refine V.condB rfl (fun h24 => ?_) (fun h24 => ?_)
        ·
          refine V.seq ?_
          refine V.region ?_
          refine L.rd (rd_move rfl) rfl ?_
          refine L.rd (rd_nilCheck rfl) rfl ?_
          refine L.rd (rd_fieldAddr tok rfl rfl rfl rfl rfl rfl) rfl ?_
          refine L.rd (rd_load1 tok rfl rfl rfl (hb.cell (i := 3) rfl)) rfl ?_
          refine L.ef (e_call rfl (ih _ _ hw1 ht) rfl ?_)
          rintro _ w4 ⟨a4, rfl, ht4, he4⟩
          refine L.ef (e_call rfl (negRule_ok _ hwz.wt _ _ 0 (Nat.zero_le _) ht4) rfl ?_)
          rintro _ w5 ⟨a5, rfl, ht5, he5⟩
          refine L.rd (rd_assign rfl) rfl ?_
          refine L.nil ?_
          refine X.sq ?_
          refine V.ret ?_
          refine X.bkRet ?_
          refine X.sqRet ?_
          refine ret_1 Yaam.results91 rfl ?_
          rw [if_pos (by omega)]
          exact ⟨_, rfl, ht5, he4.next he5⟩
        ·
          refine V.seq ?_
          refine V.region ?_
          refine L.rd (rd_eql rfl rfl) rfl ?_
          refine L.rd (rd_assign rfl) rfl ?_
          refine L.nil ?_
          refine X.sq ?_
          first | refine V.cond rfl (fun h32 => ?_) (fun h32 => ?_) | refine V.condB rfl (fun h32 => ?_) (fun h32 => ?_)
          ·
            refine V.seq ?_
            refine V.draw [] mixed ?_
            refine D.take 0 [true, false, false, false, false, false, false, false, false, false, false] (.sq (.bk (.sq .bd))) rfl (rd_move rfl) rfl (by kernel_rfl) rfl (LeC.drew _) ?_
            refine D.take 1 [true, true, false, false, false, false, false, false, false, false, false] (.sq (.bk (.sq .bd))) rfl (rd_nilCheck rfl) rfl (by kernel_rfl) rfl (LeC.drew _) ?_
            refine D.take 2 [true, true, true, false, false, false, false, false, false, false, false] (.sq (.bk (.sq .bd))) rfl (rd_fieldAddr tok rfl rfl rfl rfl rfl rfl) rfl (by kernel_rfl) rfl (LeC.drew _) ?_
            refine D.take 3 [true, true, true, true, false, false, false, false, false, false, false] (.sq (.bk (.sq .bd))) rfl (rd_load1 tok rfl rfl rfl (hb.cell (i := 3) rfl)) rfl (by kernel_rfl) rfl (LeC.drew _) ?_
            refine D.take 5 [true, true, true, true, false, true, false, false, false, false, false] (.sq (.bk (.sq .bd))) rfl (rd_move rfl) rfl (by kernel_rfl) rfl (LeC.drew _) ?_
            refine D.take 6 [true, true, true, true, false, true, true, false, false, false, false] (.sq (.bk (.sq .bd))) rfl (rd_nilCheck rfl) rfl (by kernel_rfl) rfl (LeC.drew _) ?_
            refine D.take 7 [true, true, true, true, false, true, true, true, false, false, false] (.sq (.bk (.sq .bd))) rfl (rd_fieldAddr tok rfl rfl rfl rfl rfl rfl) rfl (by kernel_rfl) rfl (LeC.drew _) ?_
            refine D.take 8 [true, true, true, true, false, true, true, true, true, false, false] (.sq (.bk (.sq .bd))) rfl (rd_load1 tok rfl rfl rfl (hb.cell (i := 1) rfl)) rfl (by kernel_rfl) rfl (LeC.drew _) ?_
            refine D.one 4 [true, true, true, true, true, true, true, true, true, false, false] rfl (by kernel_rfl) rfl (e_call rfl (ih _ _ hw1 (ht.ext ((Ext.refl _ _).drew))) rfl ?_)
            rintro _ w4 ⟨a4, rfl, ht4, he4⟩
            have hE4 : Ext w.heap.size w w4 := (Ext.refl _ w).drew.trans he4
            refine ⟨fun _ => hE4.leC, ?_⟩
            refine D.one 9 [true, true, true, true, true, true, true, true, true, true, false] rfl (by kernel_rfl) rfl (e_call rfl (powRule_ok _ hwz.wt vv (by omega) _ _ 0 (Nat.zero_le _) ht4) rfl ?_)
            rintro _ w5 ⟨a5, rfl, ht5, he5⟩
            have hE5 := hE4.next he5
            refine ⟨fun _ => hE5.leC, ?_⟩
            refine D.take 10 [true, true, true, true, true, true, true, true, true, true, true] (.sq (.bk (.sq .bd))) rfl (rd_assign rfl) rfl (by kernel_rfl) rfl hE5.leC ?_
            refine D.done (by kernel_rfl) ?_
            refine X.sq ?_
            refine V.ret ?_
            refine X.bkRet ?_
            refine X.sqRet ?_
            refine ret_1 Yaam.results91 rfl ?_
            rw [if_neg (by omega)]
            exact ⟨_, rfl, ht5, hE5⟩
          ·
            refine V.skip ?_
            refine X.bk ?_
            refine X.sq ?_
            refine V.seq ?_
            exfalso
            omega
  · obtain ⟨b, q, q2, rfl, -, hb, ht, ht2⟩ := h
    obtain ⟨rfl, hv0, hx0, hkk, hw1, hw2⟩ := hw
    have hwz1 := cn_wz (c 0) hw1
    have hwz2 := cn_wz (c 1) hw2
    rw [cn]
    refine enter1 Yaam.func91 Yaam.ntmps91 (by kernel_rfl) rfl rfl ?_
    refine V.seq ?_
    refine V.region ?_
    refine L.rd (rd_assign rfl) rfl ?_
    refine L.nil ?_
    refine X.sq ?_
    refine V.seq ?_
    refine V.seq ?_
    refine V.region ?_
    refine L.rd (rd_move rfl) rfl ?_
    refine L.rd (rd_nilCheck rfl) rfl ?_
    refine L.rd (rd_fieldAddr tok rfl rfl rfl rfl rfl rfl) rfl ?_
    refine L.rd (rd_load1 tok rfl rfl rfl (hb.cell rfl)) rfl ?_
    refine L.nil ?_
    refine X.sq ?_
    refine V.block ?_
    refine V.seq ?_
    refine V.region ?_
    refine L.rd (rd_eql rfl rfl) rfl ?_
    refine L.rd (rd_assign rfl) rfl ?_
    refine L.nil ?_
    refine X.sq ?_
    first | refine V.cond rfl (fun h9 => ?_) (fun h9 => ?_) | refine V.condB rfl (fun h9 => ?_) (fun h9 => ?_)
    ·
      refine V.seq ?_
      exfalso
      omega
    ·
      refine V.seq ?_
      refine V.region ?_
      refine L.rd (rd_eql rfl rfl) rfl ?_
      refine L.rd (rd_assign rfl) rfl ?_
      refine L.nil ?_
      refine X.sq ?_
      first | refine V.cond rfl (fun h16 => ?_) (fun h16 => ?_) | refine V.condB rfl (fun h16 => ?_) (fun h16 => ?_)
      ·
        refine V.seq ?_
        exfalso
        omega
      ·
        refine V.seq ?_
        refine V.region ?_
        refine L.rd (rd_eql rfl rfl) rfl ?_
        refine L.rd (rd_assign rfl) rfl ?_
        refine L.nil ?_
        refine X.sq ?_
        first | refine V.cond rfl (fun h24 => ?_) (fun h24 => ?_) | refine V.condB rfl (fun h24 => ?_) (fun h24 => ?_)
        ·
          refine V.seq ?_
          exfalso
          omega
        ·
          refine V.seq ?_
          refine V.region ?_
          refine L.rd (rd_eql rfl rfl) rfl ?_
          refine L.rd (rd_assign rfl) rfl ?_
          refine L.nil ?_
          refine X.sq ?_
          first | refine V.cond rfl (fun h32 => ?_) (fun h32 => ?_) | refine V.condB rfl (fun h32 => ?_) (fun h32 => ?_)
          ·
            refine V.seq ?_
            exfalso
            omega
          ·
            refine V.skip ?_
            refine X.bk ?_
            refine X.sq ?_
            refine V.seq ?_
            refine V.region ?_
            refine L.rd (rd_move rfl) rfl ?_
            refine L.rd (rd_nilCheck rfl) rfl ?_
            refine L.rd (rd_fieldAddr tok rfl rfl rfl rfl rfl rfl) rfl ?_
            refine L.rd (rd_load1 tok rfl rfl rfl (hb.cell (i := 3) rfl)) rfl ?_
            refine L.ef (e_call rfl (ih1 _ _ hw1 ht) rfl ?_)
            rintro _ w4 ⟨a4, rfl, ht4, he4⟩
            have hb4 := he4.bl hb.lt hb
            have ht24 := ht2.ext he4
            refine L.rd (rd_assign rfl) rfl ?_
            refine L.nil ?_
            refine X.sq ?_
            refine V.seq ?_
            refine V.region ?_
            refine L.rd (rd_move rfl) rfl ?_
            refine L.rd (rd_nilCheck rfl) rfl ?_
            refine L.rd (rd_fieldAddr tok rfl rfl rfl rfl rfl rfl) rfl ?_
            refine L.rd (rd_load1 tok rfl rfl rfl (hb4.cell (i := 4) rfl)) rfl ?_
            refine L.ef (e_call rfl (ih2 _ _ hw2 ht24) rfl ?_)
            rintro _ w5 ⟨a5, rfl, ht5, he5⟩
            have hb5 := he5.bl hb4.lt hb4
            have ht45 := ht4.ext he5
            have hE5 := he4.next he5
            refine L.rd (rd_assign rfl) rfl ?_
            refine L.nil ?_
            refine X.sq ?_
            refine V.seq ?_
            refine V.seq ?_
            refine V.region ?_
            refine L.rd (rd_move rfl) rfl ?_
            refine L.rd (rd_nilCheck rfl) rfl ?_
            refine L.rd (rd_fieldAddr tok rfl rfl rfl rfl rfl rfl) rfl ?_
            refine L.rd (rd_load1 tok rfl rfl rfl (hb5.cell rfl)) rfl ?_
            refine L.rd (rd_eql rfl rfl) rfl ?_
            refine L.nil ?_
            refine X.sq ?_
            first | refine V.cond rfl (fun h58 => ?_) (fun h58 => ?_) | refine V.condB rfl (fun h58 => ?_) (fun h58 => ?_)
            ·
              refine V.seq ?_
              refine V.region ?_
              refine L.rd (rd_move rfl) rfl ?_
              refine L.rd (rd_move rfl) rfl ?_
              refine L.ef (e_call rfl (addRule_ok _ _ _ _ _ 0 (Nat.zero_le _) ht45 ht5) rfl ?_)
              rintro _ w6 ⟨a6, rfl, ht6, he6⟩
              refine L.rd (rd_assign rfl) rfl ?_
              refine L.nil ?_
              refine X.sq ?_
              refine V.ret ?_
              refine X.sqRet ?_
              refine ret_1 Yaam.results91 rfl ?_
              rw [if_pos (by omega)]
              exact ⟨_, rfl, ht6, hE5.next he6⟩
            ·
              refine V.skip ?_
              refine X.sq ?_
              refine V.seq ?_
              refine V.seq ?_
              refine V.region ?_
              refine L.rd (rd_move rfl) rfl ?_
              refine L.rd (rd_nilCheck rfl) rfl ?_
              refine L.rd (rd_fieldAddr tok rfl rfl rfl rfl rfl rfl) rfl ?_
              refine L.rd (rd_load1 tok rfl rfl rfl (hb5.cell rfl)) rfl ?_
              refine L.rd (rd_eql rfl rfl) rfl ?_
              refine L.nil ?_
              refine X.sq ?_
              first | refine V.cond rfl (fun h66 => ?_) (fun h66 => ?_) | refine V.condB rfl (fun h66 => ?_) (fun h66 => ?_)
              ·
                refine V.seq ?_
                refine V.region ?_
                refine L.rd (rd_move rfl) rfl ?_
                refine L.rd (rd_move rfl) rfl ?_
                refine L.ef (e_call rfl (subRule_ok _ _ hwz2.wt _ _ _ 0 (Nat.zero_le _) ht45 ht5) rfl ?_)
                rintro _ w6 ⟨a6, rfl, ht6, he6⟩
                refine L.rd (rd_assign rfl) rfl ?_
                refine L.nil ?_
                refine X.sq ?_
                refine V.ret ?_
                refine X.sqRet ?_
                refine ret_1 Yaam.results91 rfl ?_
                rw [if_neg (by omega), if_pos (by omega)]
                exact ⟨_, rfl, ht6, hE5.next he6⟩
              ·
                refine V.skip ?_
                refine X.sq ?_
                refine V.seq ?_
                refine V.region ?_
                refine L.rd (rd_move rfl) rfl ?_
                refine L.rd (rd_move rfl) rfl ?_
                refine L.ef (e_call rfl (mulRule_ok _ _ _ _ _ 0 (Nat.zero_le _) ht45 ht5) rfl ?_)
                rintro _ w6 ⟨a6, rfl, ht6, he6⟩
                refine L.rd (rd_assign rfl) rfl ?_
                refine L.nil ?_
                refine X.sq ?_
                refine V.ret ?_
                refine ret_1 Yaam.results91 rfl ?_
                rw [if_neg (by omega), if_neg (by omega)]
                exact ⟨_, rfl, ht6, hE5.next he6⟩

theorem scanon_ok (t : Tre) (hw : Wt t) (hz : tsz t ≤ 500000) (nv : Value) (w : World) (hN : Rs w 5 nv (flat t 0).length ((flat t 0).flatMap ndE)) : Ret Yaam.prog 50 [.agg #[nv, .int .i64 ((tsz t : Int) - 1)]] w (XPost 80 (some (cn t)) w) := by
  obtain ⟨na, nc, rfl, hfn⟩ := id hN.form
  have hfl := flat_len t 0
  have hwz := cn_wz t hw
  have hwzs := hwz.sz
  refine enter1 Yaam.func50 Yaam.ntmps50 (by kernel_rfl) rfl rfl ?_
  refine V.seq ?_
  refine V.region ?_
  refine L.ef (e_box (cs := [_, _]) rfl rfl (by first | (simp only [size_addB, size_setB, size_drew]; rfl) | rfl) rfl ?_)
  refine L.ef (e_alloc (cs := [_, _]) tok rfl rfl (by first | (simp only [size_addB, size_setB, size_drew]; rfl) | rfl) rfl ?_)
  refine L.rd (rd_assign rfl) rfl ?_
  refine L.nil ?_
  refine X.sq ?_
  refine V.seq ?_
  refine V.seq ?_
  have hp := (Bl.new w 34 [.slice na (flat t 0).length nc, .int .i64 ((tsz t : Int) - 1)]).add 34 [.slice none 0 0, .int .i64 0]
  have hr := Bl.new' (w := addB w 34 [.slice na (flat t 0).length nc, .int .i64 ((tsz t : Int) - 1)]) (b := w.heap.size + 1) (by rw [size_addB]) 34 [.slice none 0 0, .int .i64 0]
  have hE := ((Ext.refl _ w).addNew 34 [.slice na (flat t 0).length nc, .int .i64 ((tsz t : Int) - 1)]).addNew 34 [.slice none 0 0, .int .i64 0]
  generalize addB (addB w 34 [.slice na (flat t 0).length nc, .int .i64 ((tsz t : Int) - 1)]) 34 [.slice none 0 0, .int .i64 0] = w0 at hp hr hE ⊢
  have hrl := hr.lt
  refine V.region ?_
  refine L.rd (rd_loadN tok rfl rfl rfl hp.cells rfl) rfl ?_
  refine L.ef (e_call rfl (swf_ok t hw hz _ _ (hN.le hE.leC)) rfl ?_)
  rintro _ w1 ⟨rfl, he1⟩
  have hp1 := he1.bl hp.lt hp
  have hr1 := he1.bl hr.lt hr
  have hE1 := hE.next he1
  first | refine L.rd (rd_not rfl) rfl ?_ | refine L.rd (rd_notB rfl) rfl ?_
  refine L.nil ?_
  refine X.sq ?_
  first | refine V.cond rfl (fun h6 => ?_) (fun h6 => ?_) | refine V.condB rfl (fun h6 => ?_) (fun h6 => ?_)
  ·
    cases h6
  ·
    refine V.skip ?_
    refine X.sq ?_
    refine V.seq ?_
    refine V.region ?_
    refine L.rd (rd_fieldAddr tok rfl rfl rfl rfl rfl rfl) rfl ?_
    refine L.rd (rd_load1 tok rfl rfl rfl (hp1.cell rfl)) rfl ?_
    refine L.rd (rd_fieldAddr tok rfl rfl rfl rfl rfl rfl) rfl ?_
    refine L.rd (rd_load1 tok rfl rfl rfl (hp1.cell (i := 1) rfl)) rfl ?_
    refine L.ef (e_call rfl (toTree_ok (flat t 0) _ w hN (by omega) t 0 _ _ hw (fun j nd h => by rw [Nat.zero_add]; exact h) (by omega) hE1) rfl ?_)
    rintro _ w2 ⟨a2, rfl, ht2, he2⟩
    refine L.ef (e_call rfl (canonNode_ok t _ _ hw ht2) rfl ?_)
    rintro _ w3 ⟨a3, rfl, ht3, he3⟩
    refine L.ef (e_call rfl (toExpr_ok (cn t) _ _ 0 hwz.wt (by omega) ht3) rfl ?_)
    rintro _ w4 ⟨nv4, rfl, ho4, he4⟩
    obtain ⟨oa, oc, rfl⟩ := own_form ho4
    have he14 := (he2.next he3).next he4
    have hr4 := he14.bl hr1.lt hr1
    have hE4 := hE1.next he14
    have hs1 := hE1.size
    have hs2 := he2.size
    have hs3 := he3.size
    have hrl1 := hr1.lt
    refine L.ef (e_store (vs := [_, _]) tok rfl rfl rfl rfl hr4 rfl (by simp [Value.oneCell']) (by simp) ?_)
    refine L.rd (rd_assign rfl) rfl ?_
    refine L.nil ?_
    refine X.sq ?_
    refine V.ret ?_
    refine ret_c1 tok Yaam.results50 rfl rfl rfl rfl (Bl.cells (hr4.set _ _)) rfl ?_
    refine ⟨_, flat (cn t) 0, _, rfl, ?_, fun t2 ht2 => ?_, fun hn => (by cases hn), hE4.set (by omega) _ _⟩
    · refine own_low (own_same ho4 fun q hq => ?_) (by omega)
      have := (own_block_lt ho4 hq).1
      exact (Rg.set (w := w4) (lo := w.heap.size + 1) (hi := w.heap.size + 2) (by omega) 34 _).block q (own_block_lt ho4 hq).2 (by omega)
    · simp only [Option.some.injEq] at ht2
      subst ht2
      exact ⟨rfl, rfl⟩
end Go.Proofs.YbxaawGreat
