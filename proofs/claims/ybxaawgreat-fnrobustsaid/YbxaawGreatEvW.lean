/-
  spec.evalAt, spec.EvalExpr, walked on well-formed trees.
-/
import Derived.Test.YbxaawGreatFormP2
import Derived.Test.YbxaawGreatCnW2
import Derived.Test.YbxaawGreatEvalW
import Derived.Test.YbxaawGreatLawB
set_option linter.unusedVariables false
set_option linter.unusedSimpArgs false
set_option maxRecDepth 10000
namespace Go.Proofs.YbxaawGreat
open Go.Mw

theorem evalAt_ok (ns : List Nd) (nv pv : Value) (pt : List Int) (w0 : World) (hN : Rs w0 5 nv ns.length (ns.flatMap ndE)) (hlen : ns.length ≤ 1000000) (hP : Rs w0 1 pv pt.length (iC .i64 pt)) (hlp : pt.length = 26) : ∀ (t : Tre) (b : Nat) (ix : Int) (w : World), Wt t → At ns t b → ix = (b : Int) + tsz t - 1 → Ext w0.heap.size w0 w → Ret Yaam.prog 85 [nv, .int .i64 ix, pv] w fun r w' => r = .int .i64 (evT pt t) ∧ Ext w.heap.size w w' := by
  obtain ⟨na, nc, rfl, hfn⟩ := hN.form
  obtain ⟨pa, pc, rfl, hfp⟩ := hP.form
  obtain ⟨pb, po, rfl, hcp⟩ := hfp.resolve_left (by omega)
  refine Tre.ind (fun k v x c b ix w hw hat hix hE => ?_) (fun k v x c ih b ix w hw hat hix hE => ?_) (fun k v x n c ih1 ih2 b ix w hw hat hix hE => ?_)
  · have hnd := hat 0 (k, v, x, -1, -1) rfl
    rw [Nat.add_zero] at hnd
    have hbl := (List.getElem?_eq_some_iff.1 hnd).1
    rw [tsz] at hix
    obtain ⟨b1, o1, rfl, hc1⟩ := hfn.resolve_left (by omega)
    obtain rfl : ix = (b : Int) := by omega
    have hcx := (hc1.le hE.leC).sub (b * 5) (ndE (k, v, x, -1, -1)) (fun j u hu => fm_get ndE_len ns b _ hnd j u hu)
    have hA : (k = 1 ∧ x = 0) ∨ (k = 2 ∧ v = 0 ∧ 0 ≤ x ∧ x ≤ 25) := hw
    rw [evT]
    refine enter3 Yaam.func85 Yaam.ntmps85 (by kernel_rfl) rfl rfl ?_
    refine V.seq ?_
    refine V.region ?_
    refine L.rd (rd_assign rfl) rfl ?_
    refine L.nil ?_
    refine X.sq ?_
    refine V.seq ?_
    refine V.region ?_
    refine L.rd (rd_move rfl) rfl ?_
    refine L.rd (rd_move rfl) rfl ?_
    (refine L.rd (rd_indexSlice (sz := 5) tok rfl rfl rfl rfl rfl rfl rfl ?_) rfl ?_; omega)
    refine L.rd (rd_loadN tok rfl rfl rfl hcx rfl) rfl ?_
    refine L.ef (e_alloc (cs := [_, _, _, _, _]) tok rfl rfl (by first | (simp only [size_addB, size_setB, size_drew]; rfl) | rfl) rfl ?_)
    refine L.ef (e_store (vs := [_, _, _, _, _]) tok rfl rfl rfl rfl (by (repeat (first | assumption | (refine Bl.new' ?_ _ _; first | with_reducible rfl | (simp only [size_addB, size_setB, size_drew]; done)) | apply Bl.add | apply Bl.drew | (apply Bl.setNe; omega) | (refine Bl.set' ?_ _ _; (try simp only [size_addB, size_setB, size_drew]); omega)))) rfl (by simp [Value.oneCell']) (by simp) ?_)
    refine L.nil ?_
    refine X.sq ?_
    refine V.seq ?_
    refine V.seq ?_
    generalize hw3 : setB _ _ _ _ = w3
    have hb3 : Bl w3 w.heap.size 80 [.int .i64 k, .int .i64 v, .int .i64 x, .int .i64 (-1), .int .i64 (-1)] := bl_of_new hw3
    have he3 := ext_of_new hw3
    have hE3 := hE.next he3
    refine V.region ?_
    refine L.rd (rd_fieldAddr tok rfl rfl rfl rfl rfl rfl) rfl ?_
    refine L.rd (rd_load1 tok rfl rfl rfl (hb3.cell rfl)) rfl ?_
    refine L.nil ?_
    refine X.sq ?_
    refine V.block ?_
    refine V.seq ?_
    refine V.region ?_
    refine L.rd (rd_eql rfl rfl) rfl ?_
    refine L.rd (rd_assign rfl) rfl ?_
    refine L.nil ?_
    refine X.sq ?_
    first | refine V.cond rfl (fun h16 => ?_) (fun h16 => ?_) | refine V.condB rfl (fun h16 => ?_) (fun h16 => ?_)
    ·
      refine V.seq ?_
      refine V.region ?_
      refine L.rd (rd_fieldAddr tok rfl rfl rfl rfl rfl rfl) rfl ?_
      refine L.rd (rd_load1 tok rfl rfl rfl (hb3.cell (i := 1) rfl)) rfl ?_
      refine L.rd (rd_assign rfl) rfl ?_
      refine L.nil ?_
      refine X.sq ?_
      refine V.ret ?_
      refine X.bkRet ?_
      refine X.sqRet ?_
      refine ret_1 Yaam.results85 rfl ?_
      rw [if_pos (by omega)]
      exact ⟨rfl, he3⟩
    ·
      refine V.seq ?_
      refine V.region ?_
      refine L.rd (rd_eql rfl rfl) rfl ?_
      refine L.rd (rd_assign rfl) rfl ?_
      refine L.nil ?_
      refine X.sq ?_
      first | refine V.cond rfl (fun h20 => ?_) (fun h20 => ?_) | refine V.condB rfl (fun h20 => ?_) (fun h20 => ?_)
      ·
        refine V.seq ?_
        have hx : 0 ≤ x ∧ x ≤ 25 := by omega
        obtain ⟨y, hy⟩ := nth_of_lt pt x.toNat (by omega)
        have hyv : ptv pt x = y := by unfold ptv; rw [List.getD_eq_getElem?_getD, hy]; rfl
        have hcp3 := hcp.le hE3.leC
        refine V.region ?_
        refine L.rd (rd_move rfl) rfl ?_
        refine L.rd (rd_fieldAddr tok rfl rfl rfl rfl rfl rfl) rfl ?_
        refine L.rd (rd_load1 tok rfl rfl rfl (hb3.cell (i := 2) rfl)) rfl ?_
        (refine L.rd (rd_indexSlice (sz := 1) tok rfl rfl rfl rfl rfl rfl rfl ?_) rfl ?_; omega)
        refine L.rd (rd_load1 tok rfl rfl rfl (cells_at hcp3 (iC_get hy) (by simp))) rfl ?_
        refine L.rd (rd_assign rfl) rfl ?_
        refine L.nil ?_
        refine X.sq ?_
        refine V.ret ?_
        refine X.bkRet ?_
        refine X.sqRet ?_
        refine ret_1 Yaam.results85 rfl ?_
        rw [if_neg (by omega), hyv]
        exact ⟨rfl, he3⟩
      ·
        refine V.seq ?_
        exfalso
        omega
  · have hfl := flat_len (c 0) b
    have htp := tsz_pos (c 0)
    have hnd := hat (tsz (c 0)) (k, v, x, (b : Int) + tsz (c 0) - 1, -1) (by rw [flat, List.getElem?_append_right (by omega), hfl, Nat.sub_self]; rfl)
    have hbl := (List.getElem?_eq_some_iff.1 hnd).1
    have hat1 : At ns (c 0) b := fun j nd h => hat j nd (by rw [flat]; exact app_some h)
    obtain ⟨hx0, hA, hw1⟩ := hw
    rw [tsz] at hix
    obtain ⟨b1, o1, rfl, hc1⟩ := hfn.resolve_left (by omega)
    obtain rfl : ix = ((b + tsz (c 0) : Nat) : Int) := by omega
    have hcx := (hc1.le hE.leC).sub ((b + tsz (c 0)) * 5) (ndE (k, v, x, (b : Int) + tsz (c 0) - 1, -1)) (fun j u hu => fm_get ndE_len ns _ _ hnd j u hu)
    have hkk : k = 3 ∨ k = 7 := by rcases hA with h | h; exact .inl h.1; exact .inr h.1
    rw [evT]
    refine enter3 Yaam.func85 Yaam.ntmps85 (by kernel_rfl) rfl rfl ?_
    refine V.seq ?_
    refine V.region ?_
    refine L.rd (rd_assign rfl) rfl ?_
    refine L.nil ?_
    refine X.sq ?_
    refine V.seq ?_
    refine V.region ?_
    refine L.rd (rd_move rfl) rfl ?_
    refine L.rd (rd_move rfl) rfl ?_
    (refine L.rd (rd_indexSlice (sz := 5) tok rfl rfl rfl rfl rfl rfl rfl ?_) rfl ?_; omega)
    refine L.rd (rd_loadN tok rfl rfl rfl hcx rfl) rfl ?_
    refine L.ef (e_alloc (cs := [_, _, _, _, _]) tok rfl rfl (by first | (simp only [size_addB, size_setB, size_drew]; rfl) | rfl) rfl ?_)
    refine L.ef (e_store (vs := [_, _, _, _, _]) tok rfl rfl rfl rfl (by (repeat (first | assumption | (refine Bl.new' ?_ _ _; first | with_reducible rfl | (simp only [size_addB, size_setB, size_drew]; done)) | apply Bl.add | apply Bl.drew | (apply Bl.setNe; omega) | (refine Bl.set' ?_ _ _; (try simp only [size_addB, size_setB, size_drew]); omega)))) rfl (by simp [Value.oneCell']) (by simp) ?_)
    refine L.nil ?_
    refine X.sq ?_
    refine V.seq ?_
    refine V.seq ?_
    generalize hw3 : setB _ _ _ _ = w3
    have hb3 : Bl w3 w.heap.size 80 [.int .i64 k, .int .i64 v, .int .i64 x, .int .i64 ((b : Int) + tsz (c 0) - 1), .int .i64 (-1)] := bl_of_new hw3
    have he3 := ext_of_new hw3
    have hE3 := hE.next he3
    refine V.region ?_
    refine L.rd (rd_fieldAddr tok rfl rfl rfl rfl rfl rfl) rfl ?_
    refine L.rd (rd_load1 tok rfl rfl rfl (hb3.cell rfl)) rfl ?_
    refine L.nil ?_
    refine X.sq ?_
    refine V.block ?_
    refine V.seq ?_
    refine V.region ?_
    refine L.rd (rd_eql rfl rfl) rfl ?_
    refine L.rd (rd_assign rfl) rfl ?_
    refine L.nil ?_
    refine X.sq ?_
    first | refine V.cond rfl (fun h16 => ?_) (fun h16 => ?_) | refine V.condB rfl (fun h16 => ?_) (fun h16 => ?_)
    ·
      refine V.seq ?_
      exfalso
      omega
    ·
      refine V.seq ?_
      refine V.region ?_
      refine L.rd (rd_eql rfl rfl) rfl ?_
      refine L.rd (rd_assign rfl) rfl ?_
      refine L.nil ?_
      refine X.sq ?_
      first | refine V.cond rfl (fun h20 => ?_) (fun h20 => ?_) | refine V.condB rfl (fun h20 => ?_) (fun h20 => ?_)
      ·
        refine V.seq ?_
        exfalso
        omega
      ·
        refine V.seq ?_
        refine V.region ?_
        refine L.rd (rd_eql rfl rfl) rfl ?_
        refine L.rd (rd_assign rfl) rfl ?_
        refine L.nil ?_
        refine X.sq ?_
        first | refine V.cond rfl (fun h27 => ?_) (fun h27 => ?_) | refine V.condB rfl (fun h27 => ?_) (fun h27 => ?_)
        ·
          refine V.seq ?_
          refine V.region ?_
          refine L.rd (rd_move rfl) rfl ?_
          refine L.rd (rd_fieldAddr tok rfl rfl rfl rfl rfl rfl) rfl ?_
          refine L.rd (rd_load1 tok rfl rfl rfl (hb3.cell (i := 3) rfl)) rfl ?_
          refine L.rd (rd_move rfl) rfl ?_
          refine L.ef (e_call rfl (ih b _ _ hw1 hat1 rfl hE3) rfl ?_)
          rintro _ w4 ⟨rfl, he4⟩
          refine L.rd (rd_negW rfl) rfl ?_
          refine L.rd (rd_assign rfl) rfl ?_
          refine L.nil ?_
          refine X.sq ?_
          refine V.ret ?_
          refine X.bkRet ?_
          refine X.sqRet ?_
          refine ret_1 Yaam.results85 rfl ?_
          rw [if_pos (by omega)]
          exact ⟨rfl, he3.next he4⟩
        ·
          refine V.seq ?_
          refine V.region ?_
          refine L.rd (rd_eql rfl rfl) rfl ?_
          refine L.rd (rd_assign rfl) rfl ?_
          refine L.nil ?_
          refine X.sq ?_
          first | refine V.cond rfl (fun h35 => ?_) (fun h35 => ?_) | refine V.condB rfl (fun h35 => ?_) (fun h35 => ?_)
          ·
            refine V.seq ?_
            obtain ⟨n, hvn, hnl⟩ : ∃ n : Nat, v = n ∧ n ≤ 1000000 := ⟨v.toNat, by omega, by omega⟩
            subst hvn
            refine V.draw [] mixed ?_
            refine D.take 0 [true, false, false, false, false, false, false, false, false] (.sq (.bk (.sq .bd))) rfl (rd_move rfl) rfl (by kernel_rfl) rfl (LeC.drew _) ?_
            refine D.take 1 [true, true, false, false, false, false, false, false, false] (.sq (.bk (.sq .bd))) rfl (rd_fieldAddr tok rfl rfl rfl rfl rfl rfl) rfl (by kernel_rfl) rfl (LeC.drew _) ?_
            refine D.take 2 [true, true, true, false, false, false, false, false, false] (.sq (.bk (.sq .bd))) rfl (rd_load1 tok rfl rfl rfl (hb3.cell (i := 3) rfl)) rfl (by kernel_rfl) rfl (LeC.drew _) ?_
            refine D.take 3 [true, true, true, true, false, false, false, false, false] (.sq (.bk (.sq .bd))) rfl (rd_move rfl) rfl (by kernel_rfl) rfl (LeC.drew _) ?_
            refine D.take 5 [true, true, true, true, false, true, false, false, false] (.sq (.bk (.sq .bd))) rfl (rd_fieldAddr tok rfl rfl rfl rfl rfl rfl) rfl (by kernel_rfl) rfl (LeC.drew _) ?_
            refine D.take 6 [true, true, true, true, false, true, true, false, false] (.sq (.bk (.sq .bd))) rfl (rd_load1 tok rfl rfl rfl (hb3.cell (i := 1) rfl)) rfl (by kernel_rfl) rfl (LeC.drew _) ?_
            refine D.one 4 [true, true, true, true, true, true, true, false, false] rfl (by kernel_rfl) rfl (e_call rfl (ih b _ _ hw1 hat1 rfl hE3.drew) rfl ?_)
            rintro _ w4 ⟨rfl, he4⟩
            have hE4 : Ext w3.heap.size w3 w4 := (Ext.refl _ w3).drew.trans he4
            refine ⟨fun _ => hE4.leC, ?_⟩
            refine D.one 7 [true, true, true, true, true, true, true, true, false] rfl (by kernel_rfl) rfl (e_call rfl (powMod_ok _ n (by omega) _) rfl ?_)
            rintro _ _ ⟨rfl, rfl⟩
            refine ⟨fun _ => hE4.leC, ?_⟩
            refine D.take 8 [true, true, true, true, true, true, true, true, true] (.sq (.bk (.sq .bd))) rfl (rd_assign rfl) rfl (by kernel_rfl) rfl hE4.leC ?_
            refine D.done (by kernel_rfl) ?_
            refine X.sq ?_
            refine V.ret ?_
            refine X.bkRet ?_
            refine X.sqRet ?_
            refine ret_1 Yaam.results85 rfl ?_
            rw [if_neg (by omega), Int.toNat_natCast]
            exact ⟨rfl, he3.next hE4⟩
          ·
            refine V.skip ?_
            refine X.bk ?_
            refine X.sq ?_
            refine V.seq ?_
            exfalso
            omega
  · have hfl := flat_len (c 0) b
    have hfl2 := flat_len (c 1) (b + tsz (c 0))
    have htp := tsz_pos (c 0)
    have htp2 := tsz_pos (c 1)
    have hnd := hat (tsz (c 0) + tsz (c 1)) (k, v, x, (b : Int) + tsz (c 0) - 1, (b : Int) + tsz (c 0) + tsz (c 1) - 1) (by rw [flat, List.getElem?_append_right (by rw [List.length_append]; omega), List.length_append, hfl, hfl2, Nat.sub_self]; rfl)
    have hbl := (List.getElem?_eq_some_iff.1 hnd).1
    have hat1 : At ns (c 0) b := fun j nd h => hat j nd (by rw [flat]; exact app_some (app_some h))
    have hat2 : At ns (c 1) (b + tsz (c 0)) := fun j nd h => by
      have hj := (List.getElem?_eq_some_iff.1 h).1
      have := hat (tsz (c 0) + j) nd (by rw [flat, List.append_assoc, List.getElem?_append_right (by omega), hfl, Nat.add_sub_cancel_left]; exact app_some h)
      rwa [← Nat.add_assoc] at this
    obtain ⟨rfl, hv0, hx0, hkk, hw1, hw2⟩ := hw
    rw [tsz] at hix
    obtain ⟨b1, o1, rfl, hc1⟩ := hfn.resolve_left (by omega)
    obtain rfl : ix = ((b + (tsz (c 0) + tsz (c 1)) : Nat) : Int) := by omega
    have hcx := (hc1.le hE.leC).sub ((b + (tsz (c 0) + tsz (c 1))) * 5) (ndE (k, v, x, (b : Int) + tsz (c 0) - 1, (b : Int) + tsz (c 0) + tsz (c 1) - 1)) (fun j u hu => fm_get ndE_len ns _ _ hnd j u hu)
    rw [evT]
    refine enter3 Yaam.func85 Yaam.ntmps85 (by kernel_rfl) rfl rfl ?_
    refine V.seq ?_
    refine V.region ?_
    refine L.rd (rd_assign rfl) rfl ?_
    refine L.nil ?_
    refine X.sq ?_
    refine V.seq ?_
    refine V.region ?_
    refine L.rd (rd_move rfl) rfl ?_
    refine L.rd (rd_move rfl) rfl ?_
    (refine L.rd (rd_indexSlice (sz := 5) tok rfl rfl rfl rfl rfl rfl rfl ?_) rfl ?_; omega)
    refine L.rd (rd_loadN tok rfl rfl rfl hcx rfl) rfl ?_
    refine L.ef (e_alloc (cs := [_, _, _, _, _]) tok rfl rfl (by first | (simp only [size_addB, size_setB, size_drew]; rfl) | rfl) rfl ?_)
    refine L.ef (e_store (vs := [_, _, _, _, _]) tok rfl rfl rfl rfl (by (repeat (first | assumption | (refine Bl.new' ?_ _ _; first | with_reducible rfl | (simp only [size_addB, size_setB, size_drew]; done)) | apply Bl.add | apply Bl.drew | (apply Bl.setNe; omega) | (refine Bl.set' ?_ _ _; (try simp only [size_addB, size_setB, size_drew]); omega)))) rfl (by simp [Value.oneCell']) (by simp) ?_)
    refine L.nil ?_
    refine X.sq ?_
    refine V.seq ?_
    refine V.seq ?_
    generalize hw3 : setB _ _ _ _ = w3
    have hb3 : Bl w3 w.heap.size 80 [.int .i64 k, .int .i64 v, .int .i64 x, .int .i64 ((b : Int) + tsz (c 0) - 1), .int .i64 ((b : Int) + tsz (c 0) + tsz (c 1) - 1)] := bl_of_new hw3
    have he3 := ext_of_new hw3
    have hE3 := hE.next he3
    refine V.region ?_
    refine L.rd (rd_fieldAddr tok rfl rfl rfl rfl rfl rfl) rfl ?_
    refine L.rd (rd_load1 tok rfl rfl rfl (hb3.cell rfl)) rfl ?_
    refine L.nil ?_
    refine X.sq ?_
    refine V.block ?_
    refine V.seq ?_
    refine V.region ?_
    refine L.rd (rd_eql rfl rfl) rfl ?_
    refine L.rd (rd_assign rfl) rfl ?_
    refine L.nil ?_
    refine X.sq ?_
    first | refine V.cond rfl (fun h16 => ?_) (fun h16 => ?_) | refine V.condB rfl (fun h16 => ?_) (fun h16 => ?_)
    ·
      refine V.seq ?_
      exfalso
      omega
    ·
      refine V.seq ?_
      refine V.region ?_
      refine L.rd (rd_eql rfl rfl) rfl ?_
      refine L.rd (rd_assign rfl) rfl ?_
      refine L.nil ?_
      refine X.sq ?_
      first | refine V.cond rfl (fun h20 => ?_) (fun h20 => ?_) | refine V.condB rfl (fun h20 => ?_) (fun h20 => ?_)
      ·
        refine V.seq ?_
        exfalso
        omega
      ·
        refine V.seq ?_
        refine V.region ?_
        refine L.rd (rd_eql rfl rfl) rfl ?_
        refine L.rd (rd_assign rfl) rfl ?_
        refine L.nil ?_
        refine X.sq ?_
        first | refine V.cond rfl (fun h27 => ?_) (fun h27 => ?_) | refine V.condB rfl (fun h27 => ?_) (fun h27 => ?_)
        ·
          refine V.seq ?_
          exfalso
          omega
        ·
          refine V.seq ?_
          refine V.region ?_
          refine L.rd (rd_eql rfl rfl) rfl ?_
          refine L.rd (rd_assign rfl) rfl ?_
          refine L.nil ?_
          refine X.sq ?_
          first | refine V.cond rfl (fun h35 => ?_) (fun h35 => ?_) | refine V.condB rfl (fun h35 => ?_) (fun h35 => ?_)
          ·
            refine V.seq ?_
            exfalso
            omega
          ·
            refine V.skip ?_
            refine X.bk ?_
            refine X.sq ?_
            refine V.seq ?_
            refine V.region ?_
            refine L.rd (rd_move rfl) rfl ?_
            refine L.rd (rd_fieldAddr tok rfl rfl rfl rfl rfl rfl) rfl ?_
            refine L.rd (rd_load1 tok rfl rfl rfl (hb3.cell (i := 3) rfl)) rfl ?_
            refine L.rd (rd_move rfl) rfl ?_
            refine L.ef (e_call rfl (ih1 b _ _ hw1 hat1 rfl hE3) rfl ?_)
            rintro _ w4 ⟨rfl, he4⟩
            have hb4 := he4.bl hb3.lt hb3
            refine L.rd (rd_assign rfl) rfl ?_
            refine L.nil ?_
            refine X.sq ?_
            refine V.seq ?_
            refine V.region ?_
            refine L.rd (rd_move rfl) rfl ?_
            refine L.rd (rd_fieldAddr tok rfl rfl rfl rfl rfl rfl) rfl ?_
            refine L.rd (rd_load1 tok rfl rfl rfl (hb4.cell (i := 4) rfl)) rfl ?_
            refine L.rd (rd_move rfl) rfl ?_
            refine L.ef (e_call rfl (ih2 (b + tsz (c 0)) _ _ hw2 hat2 (by omega) (hE3.next he4)) rfl ?_)
            rintro _ w5 ⟨rfl, he5⟩
            have hb5 := he5.bl hb4.lt hb4
            refine L.rd (rd_assign rfl) rfl ?_
            refine L.nil ?_
            refine X.sq ?_
            refine V.seq ?_
            refine V.seq ?_
            refine V.region ?_
            refine L.rd (rd_fieldAddr tok rfl rfl rfl rfl rfl rfl) rfl ?_
            refine L.rd (rd_load1 tok rfl rfl rfl (hb5.cell rfl)) rfl ?_
            refine L.rd (rd_eql rfl rfl) rfl ?_
            refine L.nil ?_
            refine X.sq ?_
            first | refine V.cond rfl (fun h57 => ?_) (fun h57 => ?_) | refine V.condB rfl (fun h57 => ?_) (fun h57 => ?_)
            ·
              refine V.seq ?_
              refine V.region ?_
              refine L.rd (rd_move rfl) rfl ?_
              refine L.rd (rd_move rfl) rfl ?_
              refine L.rd (rd_addE (r := w64 (evT pt (c 0) + evT pt (c 1))) rfl rfl rfl) rfl ?_
              refine L.rd (rd_assign rfl) rfl ?_
              refine L.nil ?_
              refine X.sq ?_
              refine V.ret ?_
              refine X.sqRet ?_
              refine ret_1 Yaam.results85 rfl ?_
              rw [if_pos (by omega)]
              exact ⟨rfl, (he3.next he4).next he5⟩
            ·
              refine V.skip ?_
              refine X.sq ?_
              refine V.seq ?_
              refine V.seq ?_
              refine V.region ?_
              refine L.rd (rd_fieldAddr tok rfl rfl rfl rfl rfl rfl) rfl ?_
              refine L.rd (rd_load1 tok rfl rfl rfl (hb5.cell rfl)) rfl ?_
              refine L.rd (rd_eql rfl rfl) rfl ?_
              refine L.nil ?_
              refine X.sq ?_
              first | refine V.cond rfl (fun h63 => ?_) (fun h63 => ?_) | refine V.condB rfl (fun h63 => ?_) (fun h63 => ?_)
              ·
                refine V.seq ?_
                refine V.region ?_
                refine L.rd (rd_move rfl) rfl ?_
                refine L.rd (rd_move rfl) rfl ?_
                refine L.rd (rd_subE (r := w64 (evT pt (c 0) - evT pt (c 1))) rfl rfl rfl) rfl ?_
                refine L.rd (rd_assign rfl) rfl ?_
                refine L.nil ?_
                refine X.sq ?_
                refine V.ret ?_
                refine X.sqRet ?_
                refine ret_1 Yaam.results85 rfl ?_
                rw [if_neg (by omega), if_pos (by omega)]
                exact ⟨rfl, (he3.next he4).next he5⟩
              ·
                refine V.skip ?_
                refine X.sq ?_
                refine V.seq ?_
                refine V.region ?_
                refine L.rd (rd_move rfl) rfl ?_
                refine L.rd (rd_move rfl) rfl ?_
                refine L.rd (rd_mulE (r := w64 (evT pt (c 0) * evT pt (c 1))) rfl rfl rfl) rfl ?_
                refine L.rd (rd_assign rfl) rfl ?_
                refine L.nil ?_
                refine X.sq ?_
                refine V.ret ?_
                refine ret_1 Yaam.results85 rfl ?_
                rw [if_neg (by omega), if_neg (by omega)]
                exact ⟨rfl, (he3.next he4).next he5⟩

theorem sevalE_ok (t : Tre) (hw : Wt t) (hz : tsz t ≤ 500000) (nv pv : Value) (pt : List Int) (w : World) (hN : Rs w 5 nv (flat t 0).length ((flat t 0).flatMap ndE)) (hP : Rs w 1 pv pt.length (iC .i64 pt)) : Ret Yaam.prog 47 [.agg #[nv, .int .i64 ((tsz t : Int) - 1)], pv] w fun r w' => r = .tuple #[.int .i64 (if pt.length = 26 then evT pt t else 0), .bool (decide (pt.length = 26))] ∧ Ext w.heap.size w w' := by
  obtain ⟨na, nc, rfl, hfn⟩ := id hN.form
  obtain ⟨pa, pc, rfl, hfp⟩ := id hP.form
  have hfl := flat_len t 0
  refine enter2 Yaam.func47 Yaam.ntmps47 (by kernel_rfl) rfl rfl ?_
  refine V.seq ?_
  refine V.region ?_
  refine L.ef (e_box (cs := [_, _]) rfl rfl (by first | (simp only [size_addB, size_setB, size_drew]; rfl) | rfl) rfl ?_)
  refine L.rd (rd_assign rfl) rfl ?_
  refine L.rd (rd_assign rfl) rfl ?_
  refine L.nil ?_
  refine X.sq ?_
  refine V.seq ?_
  refine V.seq ?_
  have hp := Bl.new w 34 [.slice na (flat t 0).length nc, .int .i64 ((tsz t : Int) - 1)]
  have hE := (Ext.refl _ w).addNew 34 [.slice na (flat t 0).length nc, .int .i64 ((tsz t : Int) - 1)]
  have hN1 := hN.le hE.leC
  refine V.region ?_
  refine L.rd (rd_loadN tok rfl rfl rfl hp.cells rfl) rfl ?_
  refine L.ef (e_call rfl (swf_ok t hw hz _ _ hN1) rfl ?_)
  rintro _ w1 ⟨rfl, he1⟩
  have hE1 := hE.next he1
  have hp1 := he1.bl hp.lt hp
  first | refine L.rd (rd_not rfl) rfl ?_ | refine L.rd (rd_notB rfl) rfl ?_
  refine L.rd (rd_move rfl) rfl ?_
  first | refine L.partG rfl rfl (fun g9 => ?_) (fun g9 => ?_) | refine L.partGB rfl rfl (fun g9 => ?_) (fun g9 => ?_)
  ·
    first | cases g9 | simp at g9
  ·
    refine L.yes rfl rfl ?_
    refine L.rd (rd_move rfl) rfl ?_
    refine L.yes rfl rfl ?_
    refine L.rd (rd_lenSlice tok rfl rfl rfl) rfl ?_
    refine L.yes rfl rfl ?_
    refine L.rd (rd_neq rfl rfl) rfl ?_
    refine L.rd (rd_pickF rfl rfl) rfl ?_
    refine L.nil ?_
    refine X.sq ?_
    first | refine V.cond rfl (fun h13 => ?_) (fun h13 => ?_) | refine V.condB rfl (fun h13 => ?_) (fun h13 => ?_)
    ·
      refine V.seq ?_
      refine V.region ?_
      refine L.rd (rd_assign rfl) rfl ?_
      refine L.rd (rd_assign rfl) rfl ?_
      refine L.nil ?_
      refine X.sq ?_
      refine V.ret ?_
      refine X.sqRet ?_
      refine ret_2 Yaam.results47 rfl rfl ?_
      rw [if_neg (by omega), decide_eq_false (by omega)]
      exact ⟨rfl, hE1⟩
    ·
      refine V.skip ?_
      refine X.sq ?_
      refine V.seq ?_
      refine V.region ?_
      refine L.rd (rd_fieldAddr tok rfl rfl rfl rfl rfl rfl) rfl ?_
      refine L.rd (rd_load1 tok rfl rfl rfl (hp1.cell rfl)) rfl ?_
      refine L.rd (rd_fieldAddr tok rfl rfl rfl rfl rfl rfl) rfl ?_
      refine L.rd (rd_load1 tok rfl rfl rfl (hp1.cell (i := 1) rfl)) rfl ?_
      refine L.rd (rd_move rfl) rfl ?_
      refine L.ef (e_call rfl (evalAt_ok (flat t 0) _ _ pt w1 (hN.le hE1.leC) (by omega) (hP.le hE1.leC) (by omega) t 0 _ _ hw (fun j nd h => by rw [Nat.zero_add]; exact h) (by omega) (Ext.refl _ _)) rfl ?_)
      rintro _ w2 ⟨rfl, he2⟩
      refine L.rd (rd_assign rfl) rfl ?_
      refine L.rd (rd_assign rfl) rfl ?_
      refine L.nil ?_
      refine X.sq ?_
      refine V.ret ?_
      refine ret_2 Yaam.results47 rfl rfl ?_
      rw [if_pos (by omega), decide_eq_true (by omega)]
      exact ⟨rfl, hE1.next he2⟩
end Go.Proofs.YbxaawGreat
