/-
  impl.Print, walked.
-/
import Derived.Test.YbxaawGreatIptW
import Derived.Test.YbxaawGreatDfQ
set_option linter.unusedVariables false
set_option linter.unusedSimpArgs false
set_option maxRecDepth 10000
set_option maxHeartbeats 4000000
namespace Go.Mw
theorem own_kept {w w' : World} {u8 B e sz n : Nat} {v : Value} {xs : List Value} (ho : w.ownsRow B e sz v n xs) (hk : KeptBut u8 w w') (hne : Nat.beq e u8 = false) : w'.ownsRow B e sz v n xs := by
  rcases own_slc ho with ⟨rfl, rfl, rfl⟩ | ⟨g, cap, sp, hg, hs⟩
  · exact World.ownsRow_nil _ _ _ _
  · exact Slc.own ⟨hs.val, hk _ _ _ hs.bl hne, hs.len, hs.capn, hs.capm, hs.size⟩ hg
theorem sok_k {S : List Tre} {i : Nat} {nd : Nd} : ∀ {s : Tre}, sok S i nd s → nd.1 = s.k := by
  intro s h
  match s, h with
  | ⟨k, v, x, 0, c⟩, h => have h : nd = (k, v, x, -1, -1) := h; rw [h]
  | ⟨k, v, x, 1, c⟩, ⟨j, h1, h2, h3⟩ => rw [h3]
  | ⟨k, v, x, n + 2, c⟩, ⟨j, j2, h1, h2, h3, h4, h5⟩ => rw [h5]
theorem kid_nd {ns : List Nd} {S : List Tre} (hSb : Sb ns S) {j : Nat} {a : Tre} (h : S[j]? = some a) : ∃ v x l r, ns[j]? = some (a.k, v, x, l, r) := by
  have hl := (List.getElem?_eq_some_iff.1 h).1
  obtain ⟨⟨k, v, x, l, r⟩, hn⟩ : ∃ nd, ns[j]? = some nd := ⟨_, List.getElem?_eq_getElem (by rw [hSb.len]; exact hl)⟩
  have := sok_k (hSb.ok j _ a hn h).1
  simp only [] at this
  subst this
  exact ⟨v, x, l, r, hn⟩
/-- the state of the printer with its stack -/
structure IPI (eI u8 : TypeId) (w1 : World) (ns : List Nd) (S : List Tre) (T : Option (List Nat)) (w : World) (Lk : List AI) (acc : List Nat) (bv sv : Value) : Prop where
  own : w.ownsRow w1.heap.size eI 3 sv Lk.length (Lk.flatMap aiE)
  ok : ∀ a ∈ Lk, aok ns S a
  bf : Bf u8 w1 w bv acc
  tx : T = (rest Lk).map fun x => acc ++ x
theorem aok_app {ns : List Nd} {S : List Tre} {A B : List AI} (h : ∀ a ∈ A, aok ns S a) (k : ∀ a ∈ B, aok ns S a) : ∀ a ∈ A ++ B, aok ns S a := fun a ha => (List.mem_append.1 ha).elim (h a) (k a)
theorem aok_one {ns : List Nd} {S : List Tre} {b : AI} (h : aok ns S b) : ∀ a ∈ [b], aok ns S a := fun a ha => by
  simp only [List.mem_cons, List.not_mem_nil, or_false] at ha; subst ha; exact h
end Go.Mw
namespace Go.Proofs.YbxaawGreat
open Go.Mw
abbrev IPIq := IPI 159 5

theorem iprintE_ok (t : Tre) (hw : Wt t) (hz : tsz t ≤ 500000) (nv : Value) (w : World) (hN : Rs w 5 nv (flat t 0).length ((flat t 0).flatMap ndE)) : Ret Yaam.prog 55 [.agg #[nv, .int .i64 ((tsz t : Int) - 1)]] w (PrQ (txt t 0) w) := by
  obtain ⟨na, nc, rfl, hfn⟩ := id hN.form
  have hfl := flat_len t 0
  have htp := tsz_pos t
  have hSb := sb_tree hw
  have hroot := subs_root t
  have hSl := subs_len t
  have hiwf := iwf_ok t hw hz
  have hrt : ((tsz t : Int) - 1) = ((tsz t - 1 : Nat) : Int) := by omega
  rw [hrt] at hiwf ⊢
  generalize hns : flat t 0 = ns at *
  generalize hSS : subs t = S at *
  obtain ⟨b1, o1, rfl, hc1⟩ := hfn.resolve_left (by omega)
  refine enter1 Yaam.func55 Yaam.ntmps55 (by kernel_rfl) rfl rfl ?_
  refine V.seq ?_
  refine V.region ?_
  refine L.ef (e_box (cs := [_, _]) rfl rfl (by first | (simp only [size_addB, size_setB, size_drew]; rfl) | rfl) rfl ?_)
  refine L.rd (rd_assign rfl) rfl ?_
  refine L.rd (rd_assign rfl) rfl ?_
  refine L.nil ?_
  refine X.sq ?_
  refine V.seq ?_
  refine V.seq ?_
  have hp := Bl.new w 34 [.slice (some ⟨b1, o1, none⟩) ns.length nc, .int .i64 ((tsz t - 1 : Nat) : Int)]
  have hE := (Ext.refl _ w).addNew 34 [.slice (some ⟨b1, o1, none⟩) ns.length nc, .int .i64 ((tsz t - 1 : Nat) : Int)]
  refine V.region ?_
  refine L.rd (rd_loadN tok rfl rfl rfl hp.cells rfl) rfl ?_
  refine L.ef (e_call rfl (hiwf _ _ (hN.le hE.leC)) rfl ?_)
  rintro _ w1 ⟨rfl, he1⟩
  replace hp := he1.bl hp.lt hp
  replace hE := hE.next he1
  have hs1 := hE.size
  first | refine L.rd (rd_not rfl) rfl ?_ | refine L.rd (rd_notB rfl) rfl ?_
  refine L.nil ?_
  refine X.sq ?_
  first | refine V.cond rfl (fun h13 => ?_) (fun h13 => ?_) | refine V.condB rfl (fun h13 => ?_) (fun h13 => ?_)
  ·
    first | cases h13 | simp at h13
  ·
    refine V.skip ?_
    refine X.sq ?_
    refine V.seq ?_
    refine V.region ?_
    refine L.rd (rd_fieldAddr tok rfl rfl rfl rfl rfl rfl) rfl ?_
    refine L.rd (rd_load1 tok rfl rfl rfl (hp.cell rfl)) rfl ?_
    refine L.rd (rd_assign rfl) rfl ?_
    refine L.nil ?_
    refine X.sq ?_
    refine V.seq ?_
    refine V.region ?_
    refine L.ef (e_make0 (e := 5) tok rfl rfl rfl rfl rfl rfl rfl (by first | (simp only [size_addB, size_setB, size_drew]; rfl) | rfl) rfl ?_)
    refine L.rd (rd_assign rfl) rfl ?_
    refine L.nil ?_
    refine X.sq ?_
    refine V.seq ?_
    refine V.region ?_
    refine L.ef (e_make0 (e := 159) tok rfl rfl rfl rfl rfl rfl rfl (by first | (simp only [size_addB, size_setB, size_drew]; rfl) | rfl) rfl ?_)
    refine L.rd (rd_assign rfl) rfl ?_
    refine L.nil ?_
    refine X.sq ?_
    refine V.seq ?_
    have hB2 : Bf 5 w1 (addB (addB w1 5 []) 159 []) (.slice (some ⟨w1.heap.size, 0, none⟩) 0 0) [] := ⟨own_ext (own_empty (Bl.new w1 5 []) (Nat.le_refl _)) ((Ext.refl _ _).addNew _ _), ((Ext.refl _ _).addNew _ _).addNew _ _⟩
    have hst2 : (addB (addB w1 5 []) 159 []).ownsRow w1.heap.size 159 3 (.slice (some ⟨w1.heap.size + 1, 0, none⟩) 0 0) ([] : List AI).length (([] : List AI).flatMap aiE) := own_empty (Bl.new' (by rw [size_addB]) _ _) (by omega)
    have hp2 := (hp.add 5 []).add 159 []
    generalize addB (addB w1 5 []) 159 [] = w2 at *
    have hs2 := hB2.ext.size
    refine V.region ?_
    refine L.rd (rd_move rfl) rfl ?_
    refine L.rd (rd_fieldAddr tok rfl rfl rfl rfl rfl rfl) rfl ?_
    refine L.rd (rd_load1 tok rfl rfl rfl (hp2.cell (i := 1) rfl)) rfl ?_
    refine L.rd (rd_build (out := [_, _, _]) tok rfl rfl rfl rfl rfl) rfl ?_
    refine L.ef (e_buildSlice1 (e := 159) (cs := [_, _, _]) tok rfl rfl rfl rfl rfl rfl rfl rfl rfl (by first | (simp only [size_addB, size_setB, size_drew]; rfl) | rfl) rfl ?_)
    refine L.ef (e_append (m := 1) tok rfl rfl rfl rfl rfl rfl rfl rfl rfl rfl (hst2.alloc _) (Bl.new _ _ _).cells rfl (by simp [Value.oneCell']) (by unfold maxLen; simp only [List.length_nil]; omega) (by simp only [List.length_nil]; omega) (by rw [size_addB]; omega) ?_)
    rintro v3 w3 ho3 hg3
    obtain ⟨ho3', hp3⟩ := st_app (a := .sub t 0 (tsz t - 1)) (L := []) (u8 := 5) rfl hst2 hs2 hg3 ho3
    rw [List.nil_append] at ho3'
    refine L.rd (rd_assign rfl) rfl ?_
    refine L.nil ?_
    refine X.sq ?_
    refine V.seq ?_
    refine V.region ?_
    refine L.rd (rd_assign rfl) rfl ?_
    refine L.nil ?_
    refine X.sq ?_
    refine V.seq ?_
    refine V.block ?_
    refine V.loop (fun m l wr => ∃ (Lk : List AI) (acc : List Nat) (bv sv : Value), l = [(4, .slice (some ⟨b1, o1, none⟩) ns.length nc), (5, bv), (6, sv), (7, .bool true)] ∧ m = wsum Lk ∧ IPIq w1 ns S (txt t 0) wr Lk acc bv sv ∧ acc.length + 24 * wsum Lk ≤ 24 * (6 * tsz t)) ?_ ?_
    ·
      refine ⟨_, _, (by repeat' (first | exact trivial | refine ⟨rfl, ?_⟩)), [.sub t 0 (tsz t - 1)], [], _, _, rfl, rfl, ⟨ho3', aok_one ⟨hroot, by omega, by omega⟩, hp3.bf _ _ hB2, ?_⟩, by simp only [wsum, awg_sub, List.length_nil]; omega⟩
      rw [rest_one]
      show txt t 0 = (txt t 0).map fun x => [] ++ x
      cases txt t 0 <;> rfl
    ·
      rintro m l wr ⟨Lk, acc, bv, sv, rfl, rfl, hI, hbd⟩
      obtain ⟨sa, sc, rfl⟩ := own_form hI.own
      obtain ⟨ba, bc, rfl⟩ := hI.bf.form
      have hwl := wsum_ge Lk
      have hE1r := hI.bf.ext
      have hswr := hE1r.size
      have hEr := hE.next hE1r
      refine V.seq ?_
      refine V.seq ?_
      refine V.region ?_
      refine L.rd (rd_move rfl) rfl ?_
      refine L.rd (rd_lenSlice tok rfl rfl rfl) rfl ?_
      refine L.rd (rd_gtr rfl rfl) rfl ?_
      refine L.nil ?_
      refine X.sq ?_
      first | refine V.cond rfl (fun h26 => ?_) (fun h26 => ?_) | refine V.condB rfl (fun h26 => ?_) (fun h26 => ?_)
      ·
        obtain ⟨Lp, a, rfl⟩ : ∃ Lp a, Lk = Lp ++ [a] := by
          rcases List.eq_nil_or_concat Lk with h | ⟨Lp, a, h⟩
          · rw [h] at h26; simp at h26
          · exact ⟨Lp, a, by rw [h, List.concat_eq_append]⟩
        obtain ⟨tg, x, dd, ha3, hch, hex, hsub⟩ := ai3 a
        have hst := hI.own
        have hoka := hI.ok a (by simp)
        have hokp : ∀ b ∈ Lp, aok ns S b := fun b hb => hI.ok b (by simp [hb])
        have hT := hI.tx
        have hws := wsum_app Lp [a]
        simp only [wsum, Nat.add_zero] at hws
        obtain ⟨gs, cs, hvs, hcs, hgs, hcs2⟩ := own_some hst (by simp)
        simp only [Value.slice.injEq] at hvs
        obtain ⟨rfl, -, rfl⟩ := hvs
        have hgl : gs < wr.heap.size := (own_block_lt hst rfl).2
        have hli : (Lp ++ [a]).length = Lp.length + 1 := by simp
        have hst7 := own_shrink hst (m := Lp.length) (ys := Lp.flatMap aiE) (by omega) (fm_cut aiE_len _ _) (fm_length aiE_len _)
        have hcx := hcs2.sub (Lp.length * 3) (aiE a) (fun q u hu => fm_get aiE_len (Lp ++ [a]) Lp.length _ (last_get _ _) q u hu)
        have hcx' : Cells wr gs (0 + (((Lp ++ [a]).length : Int) - 1).toNat * 3) [.int .i64 tg, .int .i64 x, .int .i64 dd] := by
          rw [hli, show (((Lp.length + 1 : Nat) : Int) - 1).toNat = Lp.length by omega, ← ha3]
          exact hcx
        refine V.skip ?_
        refine X.sq ?_
        refine V.block ?_
        refine V.seq ?_
        refine V.region ?_
        refine L.rd (rd_move rfl) rfl ?_
        refine L.rd (rd_move rfl) rfl ?_
        refine L.rd (rd_lenSlice tok rfl rfl rfl) rfl ?_
        (refine L.rd (rd_sub3 rfl rfl ?_) rfl ?_; omega)
        (refine L.rd (rd_indexSlice (sz := 3) tok rfl rfl rfl rfl rfl rfl rfl ?_) rfl ?_; omega)
        refine L.rd (rd_loadN tok rfl rfl rfl hcx' rfl) rfl ?_
        refine L.ef (e_alloc (cs := [_, _, _]) tok rfl rfl (by first | (simp only [size_addB, size_setB, size_drew]; rfl) | rfl) rfl ?_)
        refine L.ef (e_store (vs := [_, _, _]) tok rfl rfl rfl rfl (by (repeat (first | assumption | (refine Bl.new' ?_ _ _; first | with_reducible rfl | (simp only [size_addB, size_setB, size_drew]; done)) | apply Bl.add | apply Bl.drew | (apply Bl.setNe; omega) | (refine Bl.set' ?_ _ _; (try simp only [size_addB, size_setB, size_drew]); omega)))) rfl (by simp [Value.oneCell']) (by simp) ?_)
        refine L.nil ?_
        refine X.sq ?_
        refine V.seq ?_
        generalize hw4 : setB _ _ _ _ = w4
        have hb4 : Bl w4 wr.heap.size 159 [.int .i64 tg, .int .i64 x, .int .i64 dd] := bl_of_new hw4
        have he4 := ext_of_new hw4
        have hst4 := own_ext hst7 he4
        have hB4 := hI.bf.next he4
        have hs4 := he4.size
        have hne4 : (Value.slice (some ⟨gs, 0, none⟩) Lp.length sc).ownBlock ≠ some wr.heap.size := fun h => by simp only [Value.ownBlock, Option.some.injEq] at h; omega
        refine V.region ?_
        refine L.rd (rd_move rfl) rfl ?_
        refine L.rd (rd_move rfl) rfl ?_
        refine L.rd (rd_lenSlice tok rfl rfl rfl) rfl ?_
        refine L.rd (rd_subE (r := (Lp.length : Int)) rfl rfl (by rw [wrap_i64_in (by omega)]; omega)) rfl ?_
        refine L.rd (rd_reslH (sz := 3) tok rfl rfl rfl rfl rfl rfl rfl (by omega)) rfl ?_
        refine L.rd (rd_assign rfl) rfl ?_
        refine L.nil ?_
        refine X.sq ?_
        refine V.seq ?_
        refine V.seq ?_
        refine V.region ?_
        refine L.rd (rd_fieldAddr tok rfl rfl rfl rfl rfl rfl) rfl ?_
        refine L.rd (rd_load1 tok rfl rfl rfl (hb4.cell rfl)) rfl ?_
        refine L.rd (rd_eql rfl rfl) rfl ?_
        refine L.nil ?_
        refine X.sq ?_
        first | refine V.cond rfl (fun h40 => ?_) (fun h40 => ?_) | refine V.condB rfl (fun h40 => ?_) (fun h40 => ?_)
        ·
          refine V.seq ?_
          obtain ⟨c, rfl, rfl⟩ := hch h40
          have hc8 : c < 256 := hoka
          refine V.region ?_
          refine L.rd (rd_move rfl) rfl ?_
          refine L.rd (rd_fieldAddr tok rfl rfl rfl rfl rfl rfl) rfl ?_
          refine L.rd (rd_load1 tok rfl rfl rfl (hb4.cell (i := 1) rfl)) rfl ?_
          refine L.rd (rd_convE (r := (c : Int)) tok rfl rfl rfl rfl rfl (wrap_u8_in (by omega))) rfl ?_
          refine L.ef (e_buildSlice1 (e := 5) (cs := [_]) tok rfl rfl rfl rfl rfl rfl rfl rfl rfl (by first | (simp only [size_addB, size_setB, size_drew]; rfl) | rfl) rfl ?_)
          refine L.ef (e_appB tok rfl rfl rfl rfl rfl rfl rfl rfl rfl (by first | rfl | (simp only [size_addB, size_setB, size_drew])) rfl hB4 (by omega) ?_)
          rintro v5 w5 hB5 hkp5
          refine L.rd (rd_assign rfl) rfl ?_
          refine L.nil ?_
          refine X.sq ?_
          refine V.exit ?_
          refine X.sqExit ?_
          refine X.bkHere ?_
          refine X.lp ⟨_, _, by rw [hws, awg_ch]; omega, (by repeat' (first | exact trivial | refine ⟨rfl, ?_⟩)), Lp, acc ++ [c], _, _, rfl, rfl, ⟨own_kept hst4 hkp5 rfl, hokp, hB5, ?_⟩, by rw [List.length_append]; simp only [List.length_cons, List.length_nil, awg_ch] at hws ⊢; omega⟩
          have := rest_step (X := []) (pre := [c]) hT rfl
          rwa [List.append_nil] at this
        ·
          refine V.skip ?_
          refine X.sq ?_
          refine V.seq ?_
          refine V.seq ?_
          refine V.region ?_
          refine L.rd (rd_fieldAddr tok rfl rfl rfl rfl rfl rfl) rfl ?_
          refine L.rd (rd_load1 tok rfl rfl rfl (hb4.cell rfl)) rfl ?_
          refine L.rd (rd_eql rfl rfl) rfl ?_
          refine L.nil ?_
          refine X.sq ?_
          first | refine V.cond rfl (fun h49 => ?_) (fun h49 => ?_) | refine V.condB rfl (fun h49 => ?_) (fun h49 => ?_)
          ·
            refine V.seq ?_
            obtain ⟨v, j, rfl, rfl⟩ := hex h49
            obtain ⟨⟨k', v', x', l', r'⟩, hnd, hvv⟩ := hoka
            have hvv2 : v' = v := hvv
            subst hvv2
            have hjl := (List.getElem?_eq_some_iff.1 hnd).1
            have hcn := (hc1.le (hE.next hB4.ext).leC).sub (j * 5) (ndE (k', v', x', l', r')) (fun i u hu => fm_get ndE_len ns j _ hnd i u hu)
            refine V.region ?_
            refine L.rd (rd_move rfl) rfl ?_
            refine L.rd (rd_move rfl) rfl ?_
            refine L.rd (rd_fieldAddr tok rfl rfl rfl rfl rfl rfl) rfl ?_
            refine L.rd (rd_load1 tok rfl rfl rfl (hb4.cell (i := 1) rfl)) rfl ?_
            (refine L.rd (rd_indexSlice (sz := 5) tok rfl rfl rfl rfl rfl rfl rfl ?_) rfl ?_; omega)
            refine L.rd (rd_fieldAddr tok rfl rfl rfl rfl rfl rfl) rfl ?_
            refine L.rd (rd_load1 tok rfl rfl rfl (cells_at (i := 1) hcn rfl (by simp))) rfl ?_
            refine L.ef (e_call rfl (udec_ok v' _) rfl ?_)
            rintro _ w5 ⟨rfl, he5⟩
            have hB5 := hB4.next he5
            have hst5 := own_ext hst4 he5
            refine L.ef (e_appS tok rfl rfl rfl rfl rfl rfl rfl rfl rfl rfl rfl rfl hB5 (by rw [mkS_size]; have := udec_len v'; omega) ?_)
            rintro v6 w6 hB6 hkp6
            rw [bl_mkS _ (udec_lt _)] at hB6
            refine L.rd (rd_assign rfl) rfl ?_
            refine L.nil ?_
            refine X.sq ?_
            refine V.exit ?_
            refine X.sqExit ?_
            refine X.bkHere ?_
            refine X.lp ⟨_, _, by rw [hws, awg_ex]; omega, (by repeat' (first | exact trivial | refine ⟨rfl, ?_⟩)), Lp, acc ++ udec v', _, _, rfl, rfl, ⟨own_kept hst5 hkp6 rfl, hokp, hB6, ?_⟩, by rw [List.length_append]; have := udec_len v'; rw [awg_ex] at hws; omega⟩
            have := rest_step (X := []) (pre := udec v') hT (by show some (udec v') = some (udec v' ++ []); rw [List.append_nil])
            rwa [List.append_nil] at this
          ·
            refine V.skip ?_
            refine X.sq ?_
            refine V.seq ?_
            obtain ⟨s, j, rfl, rfl, rfl⟩ := hsub h40 h49
            obtain ⟨hSj, hd0, hd1⟩ := hoka
            obtain ⟨⟨k, v, x, lf_, rt⟩, hnd⟩ := nth_of_lt ns j (by have := (List.getElem?_eq_some_iff.1 hSj).1; omega)
            obtain ⟨hok, hws'⟩ := hSb.ok j _ s hnd hSj
            have hkk := sok_kind hok hws'
            have hjl := (List.getElem?_eq_some_iff.1 hnd).1
            have hcn := (hc1.le (hE.next hB4.ext).leC).sub (j * 5) (ndE (k, v, x, lf_, rt)) (fun i u hu => fm_get ndE_len ns j _ hnd i u hu)
            rw [awg_sub] at hws
            refine V.region ?_
            refine L.rd (rd_move rfl) rfl ?_
            refine L.rd (rd_fieldAddr tok rfl rfl rfl rfl rfl rfl) rfl ?_
            refine L.rd (rd_load1 tok rfl rfl rfl (hb4.cell (i := 1) rfl)) rfl ?_
            (refine L.rd (rd_indexSlice (sz := 5) tok rfl rfl rfl rfl rfl rfl rfl ?_) rfl ?_; omega)
            refine L.rd (rd_loadN tok rfl rfl rfl hcn rfl) rfl ?_
            refine L.ef (e_alloc (cs := [_, _, _, _, _]) tok rfl rfl (by first | (simp only [size_addB, size_setB, size_drew]; rfl) | rfl) rfl ?_)
            refine L.ef (e_store (vs := [_, _, _, _, _]) tok rfl rfl rfl rfl (by (repeat (first | assumption | (refine Bl.new' ?_ _ _; first | with_reducible rfl | (simp only [size_addB, size_setB, size_drew]; done)) | apply Bl.add | apply Bl.drew | (apply Bl.setNe; omega) | (refine Bl.set' ?_ _ _; (try simp only [size_addB, size_setB, size_drew]); omega)))) rfl (by simp [Value.oneCell']) (by simp) ?_)
            refine L.nil ?_
            refine X.sq ?_
            refine V.seq ?_
            refine V.seq ?_
            generalize hw5 : setB _ _ _ _ = w5
            have hn5 : Bl w5 w4.heap.size 80 [.int .i64 k, .int .i64 v, .int .i64 x, .int .i64 lf_, .int .i64 rt] := bl_of_new hw5
            have he5 := ext_of_new hw5
            have hst5 := own_ext hst4 he5
            have hB5 := hB4.next he5
            have hb5 := he5.bl hb4.lt hb4
            have hs5 := hB5.ext.size
            refine V.region ?_
            refine L.rd (rd_fieldAddr tok rfl rfl rfl rfl rfl rfl) rfl ?_
            refine L.rd (rd_load1 tok rfl rfl rfl (hn5.cell rfl)) rfl ?_
            refine L.nil ?_
            refine X.sq ?_
            refine V.cut (fun l w' => ∃ (ok : Bool) (bv' sv' : Value) (acc' : List Nat) (L2 : List AI), l = [(4, .slice (some ⟨b1, o1, none⟩) ns.length nc), (5, bv'), (6, sv'), (7, .bool ok)] ∧ Ext w1.heap.size w1 w' ∧ (ok = false → txt t 0 = none) ∧ (ok = true → IPIq w1 ns S (txt t 0) w' L2 acc' bv' sv' ∧ wsum L2 < wsum (Lp ++ [.sub s dd j]) ∧ acc'.length + 24 * wsum L2 ≤ acc.length + 24 * wsum (Lp ++ [.sub s dd j]))) ?_ ?_
            ·
              refine V.block ?_
              refine V.seq ?_
              refine V.region ?_
              refine L.rd (rd_eql rfl rfl) rfl ?_
              refine L.rd (rd_assign rfl) rfl ?_
              refine L.nil ?_
              refine X.sq ?_
              first | refine V.cond rfl (fun h93 => ?_) (fun h93 => ?_) | refine V.condB rfl (fun h93 => ?_) (fun h93 => ?_)
              ·
                refine V.region ?_
                refine L.rd (rd_move rfl) rfl ?_
                refine L.rd (rd_fieldAddr tok rfl rfl rfl rfl rfl rfl) rfl ?_
                refine L.rd (rd_load1 tok rfl rfl rfl (hn5.cell (i := 1) rfl)) rfl ?_
                refine L.ef (e_call rfl (udec_ok _ _) rfl ?_)
                rintro _ w6 ⟨rfl, he6⟩
                have hB6 := hB5.next he6
                have hst6 := own_ext hst5 he6
                refine L.ef (e_appS tok rfl rfl rfl rfl rfl rfl rfl rfl rfl rfl rfl rfl hB6 (by rw [mkS_size]; have := udec_len v; omega) ?_)
                rintro v7 w7 hB7 hkp7
                rw [bl_mkS _ (udec_lt _)] at hB7
                refine L.rd (rd_assign rfl) rfl ?_
                refine L.nil ?_
                refine X.bk ?_
                obtain ⟨rfl, -⟩ := sok1 hok hws' h93
                refine X.ct ⟨_, (by repeat' (first | exact trivial | refine ⟨rfl, ?_⟩)), true, _, _, acc ++ udec v, Lp, rfl, hB7.ext, fun h => (by cases h), fun _ => ⟨⟨own_kept hst6 hkp7 rfl, hokp, hB7, ?_⟩, by rw [hws, tsz_lf]; omega, by rw [List.length_append, hws, tsz_lf]; have := udec_len v; omega⟩⟩
                have := rest_step (X := []) (pre := udec v) hT (by show some (udec v) = some (udec v ++ []); rw [List.append_nil])
                rwa [List.append_nil] at this
              ·
                refine V.seq ?_
                refine V.region ?_
                refine L.rd (rd_eql rfl rfl) rfl ?_
                refine L.rd (rd_assign rfl) rfl ?_
                refine L.nil ?_
                refine X.sq ?_
                first | refine V.cond rfl (fun h100 => ?_) (fun h100 => ?_) | refine V.condB rfl (fun h100 => ?_) (fun h100 => ?_)
                ·
                  obtain ⟨rfl, rfl, hx0, hx1⟩ := sok2 hok hws' h100
                  refine V.region ?_
                  refine L.rd (rd_move rfl) rfl ?_
                  refine L.rd (rd_fieldAddr tok rfl rfl rfl rfl rfl rfl) rfl ?_
                  refine L.rd (rd_load1 tok rfl rfl rfl (hn5.cell (i := 2) rfl)) rfl ?_
                  (refine L.rd (rd_add3 rfl rfl ?_) rfl ?_; omega)
                  refine L.rd (rd_convE (r := ((97 + x.toNat : Nat) : Int)) tok rfl rfl rfl rfl rfl (by rw [wrap_u8_in (by omega)]; omega)) rfl ?_
                  refine L.ef (e_buildSlice1 (e := 5) (cs := [_]) tok rfl rfl rfl rfl rfl rfl rfl rfl rfl (by first | (simp only [size_addB, size_setB, size_drew]; rfl) | rfl) rfl ?_)
                  refine L.ef (e_appB tok rfl rfl rfl rfl rfl rfl rfl rfl rfl (by first | rfl | (simp only [size_addB, size_setB, size_drew])) rfl hB5 (by omega) ?_)
                  rintro v7 w7 hB7 hkp7
                  refine L.rd (rd_assign rfl) rfl ?_
                  refine L.nil ?_
                  refine X.bk ?_
                  refine X.ct ⟨_, (by repeat' (first | exact trivial | refine ⟨rfl, ?_⟩)), true, _, _, acc ++ [97 + x.toNat], Lp, rfl, hB7.ext, fun h => (by cases h), fun _ => ⟨⟨own_kept hst5 hkp7 rfl, hokp, hB7, ?_⟩, by rw [hws, tsz_lf]; omega, by rw [List.length_append, hws, tsz_lf]; simp only [List.length_cons, List.length_nil]; omega⟩⟩
                  have := rest_step (X := []) (pre := [97 + x.toNat]) hT rfl
                  rwa [List.append_nil] at this
                ·
                  refine V.seq ?_
                  refine V.region ?_
                  refine L.rd (rd_eql rfl rfl) rfl ?_
                  refine L.rd (rd_assign rfl) rfl ?_
                  refine L.nil ?_
                  refine X.sq ?_
                  first | refine V.cond rfl (fun h109 => ?_) (fun h109 => ?_) | refine V.condB rfl (fun h109 => ?_) (fun h109 => ?_)
                  ·
                    refine V.seq ?_
                    obtain ⟨a', j', rfl, rfl, hj', hSj', hwa'⟩ := sok3 hok hws' h109
                    obtain ⟨kv, kx, kl, kr, hkn⟩ := kid_nd hSb hSj'
                    rw [tsz_u1] at hws
                    refine V.region ?_
                    refine L.rd (rd_move rfl) rfl ?_
                    refine L.ef (e_buildSlice1 (e := 5) (cs := [_]) tok rfl rfl rfl rfl rfl rfl rfl rfl rfl (by first | (simp only [size_addB, size_setB, size_drew]; rfl) | rfl) rfl ?_)
                    refine L.ef (e_appB (c := 45) tok rfl rfl rfl rfl rfl rfl rfl rfl rfl (by first | rfl | (simp only [size_addB, size_setB, size_drew])) rfl hB5 (by omega) ?_)
                    rintro v7 w7 hB7 hkp7
                    obtain ⟨a7, c7, rfl⟩ := hB7.form
                    have hst7' := own_kept hst5 hkp7 rfl
                    have hb7 := hkp7 _ _ _ hb5 rfl
                    have hn7 := hkp7 _ _ _ hn5 rfl
                    have hs7 := hB7.ext.size
                    have hck := (hc1.le (hE.next hB7.ext).leC).sub (j' * 5) (ndE (a'.k, kv, kx, kl, kr)) (fun i u hu => fm_get ndE_len ns j' _ hkn i u hu)
                    have hjl' := (List.getElem?_eq_some_iff.1 hkn).1
                    refine L.rd (rd_assign rfl) rfl ?_
                    refine L.nil ?_
                    refine X.sq ?_
                    refine V.draw [13] mixed ?_
                    refine D.takeP 0 [true, false, false, false, false, false, false, false, false, false, false, false, false, false, false, false, false, false, false] (.bk (.ct (.sq (.bk (.lp (.bk (.sq .bd))))))) rfl (fun _ => rd_move rfl) rfl (by kernel_rfl) rfl ?_
                    refine D.takeP 1 [true, true, false, false, false, false, false, false, false, false, false, false, false, false, false, false, false, false, false] (.bk (.ct (.sq (.bk (.lp (.bk (.sq .bd))))))) rfl (fun _ => rd_fieldAddr tok rfl rfl rfl rfl rfl rfl) rfl (by kernel_rfl) rfl ?_
                    refine D.takeW 2 [true, true, true, false, false, false, false, false, false, false, false, false, false, false, false, false, false, false, false] (.bk (.ct (.sq (.bk (.lp (.bk (.sq .bd))))))) rfl (rd_load1 tok rfl rfl rfl (hn7.cell (i := 3) rfl)) rfl (by kernel_rfl) rfl (LeC.drew _) ?_
                    refine D.takeP 3 [true, true, true, true, false, false, false, false, false, false, false, false, false, false, false, false, false, false, false] (.bk (.ct (.sq (.bk (.lp (.bk (.sq .bd))))))) rfl (fun _ => rd_move rfl) rfl (by kernel_rfl) rfl ?_
                    refine D.takeP 4 [true, true, true, true, true, false, false, false, false, false, false, false, false, false, false, false, false, false, false] (.bk (.ct (.sq (.bk (.lp (.bk (.sq .bd))))))) rfl (fun _ => rd_fieldAddr tok rfl rfl rfl rfl rfl rfl) rfl (by kernel_rfl) rfl ?_
                    refine D.takeW 5 [true, true, true, true, true, true, false, false, false, false, false, false, false, false, false, false, false, false, false] (.bk (.ct (.sq (.bk (.lp (.bk (.sq .bd))))))) rfl (rd_load1 tok rfl rfl rfl (hn7.cell (i := 3) rfl)) rfl (by kernel_rfl) rfl (LeC.drew _) ?_
                    (refine D.takeP 6 [true, true, true, true, true, true, true, false, false, false, false, false, false, false, false, false, false, false, false] (.bk (.ct (.sq (.bk (.lp (.bk (.sq .bd))))))) rfl (fun _ => rd_indexSlice (sz := 5) tok rfl rfl rfl rfl rfl rfl rfl ?_) rfl (by kernel_rfl) rfl ?_; omega)
                    refine D.takeP 7 [true, true, true, true, true, true, true, true, false, false, false, false, false, false, false, false, false, false, false] (.bk (.ct (.sq (.bk (.lp (.bk (.sq .bd))))))) rfl (fun _ => rd_fieldAddr tok rfl rfl rfl rfl rfl rfl) rfl (by kernel_rfl) rfl ?_
                    refine D.takeW 8 [true, true, true, true, true, true, true, true, true, false, false, false, false, false, false, false, false, false, false] (.bk (.ct (.sq (.bk (.lp (.bk (.sq .bd))))))) rfl (rd_load1 tok rfl rfl rfl (cells_at (i := 0) hck rfl (by simp))) rfl (by kernel_rfl) rfl (LeC.drew _) ?_
                    refine D.takeP 11 [true, true, true, true, true, true, true, true, true, false, false, true, false, false, false, false, false, false, false] (.bk (.ct (.sq (.bk (.lp (.bk (.sq .bd))))))) rfl (fun _ => rd_fieldAddr tok rfl rfl rfl rfl rfl rfl) rfl (by kernel_rfl) rfl ?_
                    refine D.takeW 12 [true, true, true, true, true, true, true, true, true, false, false, true, true, false, false, false, false, false, false] (.bk (.ct (.sq (.bk (.lp (.bk (.sq .bd))))))) rfl (rd_load1 tok rfl rfl rfl (hb7.cell (i := 2) rfl)) rfl (by kernel_rfl) rfl (LeC.drew _) ?_
                    refine D.one 9 [true, true, true, true, true, true, true, true, true, true, false, true, true, false, false, false, false, false, false] rfl (by kernel_rfl) rfl (e_call rfl (iprec_ok _ _) rfl ?_)
                    rintro _ _ ⟨rfl, rfl⟩
                    refine ⟨fun _ => (LeC.drew _), ?_⟩
                    refine D.takeP 10 [true, true, true, true, true, true, true, true, true, true, true, true, true, false, false, false, false, false, false] (.bk (.ct (.sq (.bk (.lp (.bk (.sq .bd))))))) rfl (fun _ => rd_leq rfl rfl) rfl (by kernel_rfl) rfl ?_
                    refine D.one 13 [true, true, true, true, true, true, true, true, true, true, true, true, true, true, false, false, false, false, false] rfl (by kernel_rfl) rfl (e_call rfl (pushW_ok w1 Lp a' dd j' _ _ _ (own_ext hst7' (Ext.refl _ _).drew) (by rw [size_drew]; omega) (by omega) wr.heap.size _ _ hb7.drew (by omega) hne4 hd0 hd1) rfl ?_)
                    rintro _ w8 ⟨sv8, L8, rfl, ho8, hX8, hl8, hn8, hb8, hk8, hbf8, hs8⟩
                    have hB8 := hbf8 _ _ hB7.drew
                    refine ⟨fun h => (by cases h), ?_⟩
                    refine D.takeP 14 [true, true, true, true, true, true, true, true, true, true, true, true, true, true, true, false, false, false, false] (.bk (.ct (.sq (.bk (.lp (.bk (.sq .bd))))))) rfl (fun _ => rd_move rfl) rfl (by kernel_rfl) rfl ?_
                    refine D.takeP 15 [true, true, true, true, true, true, true, true, true, true, true, true, true, true, true, true, false, false, false] (.bk (.ct (.sq (.bk (.lp (.bk (.sq .bd))))))) rfl (fun _ => rd_ext0 rfl) rfl (by kernel_rfl) rfl ?_
                    refine D.takeP 16 [true, true, true, true, true, true, true, true, true, true, true, true, true, true, true, true, true, false, false] (.bk (.ct (.sq (.bk (.lp (.bk (.sq .bd))))))) rfl (fun _ => rd_ext1 rfl) rfl (by kernel_rfl) rfl ?_
                    refine D.takeP 17 [true, true, true, true, true, true, true, true, true, true, true, true, true, true, true, true, true, true, false] (.bk (.ct (.sq (.bk (.lp (.bk (.sq .bd))))))) rfl (fun _ => rd_assign rfl) rfl (by kernel_rfl) rfl ?_
                    refine D.takeP 18 [true, true, true, true, true, true, true, true, true, true, true, true, true, true, true, true, true, true, true] (.bk (.ct (.sq (.bk (.lp (.bk (.sq .bd))))))) rfl (fun _ => rd_assign rfl) rfl (by kernel_rfl) rfl ?_
                    refine D.done (by kernel_rfl) ?_
                    refine X.bk ?_
                    refine X.ct ⟨_, (by repeat' (first | exact trivial | refine ⟨rfl, ?_⟩)), _, _, _, acc ++ [45], L8, rfl, hB8.ext, fun h => ?_, fun h => ?_⟩
                    · have hno : psh (decide (prc a'.k ≤ 2)) a' dd j' = none := by simpa using h
                      refine rest_fail hT ?_
                      show (wrp (decide (prc a'.k ≤ 2)) (fun e => txt a' e) dd).map _ = none
                      rw [psh_none hno]; rfl
                    · obtain ⟨X8, hX⟩ := Option.isSome_iff_exists.1 h
                      obtain ⟨hr8, hw8, -⟩ := psh_some hX
                      obtain rfl := hX8 _ hX
                      refine ⟨⟨ho8, aok_app hokp (psh_aok hX hSj' hd0 hd1), hB8, ?_⟩, by rw [wsum_app, hws]; omega, by rw [List.length_append, wsum_app, hws]; simp only [List.length_cons, List.length_nil]; omega⟩
                      refine rest_step hT ?_
                      show (wrp (decide (prc a'.k ≤ 2)) (fun e => txt a' e) dd).map _ = _
                      rw [← hr8]; rfl
                  ·
                    refine V.seq ?_
                    refine V.seq ?_
                    refine V.region ?_
                    refine L.rd (rd_eql rfl rfl) rfl ?_
                    refine L.rd (rd_assign rfl) rfl ?_
                    refine L.nil ?_
                    refine X.sq ?_
                    first | refine V.cond rfl (fun h131 => ?_) (fun h131 => ?_) | refine V.condB rfl (fun h131 => ?_) (fun h131 => ?_)
                    ·
                      refine V.skip ?_
                      refine X.sq ?_
                      first | refine V.cond rfl (fun h131_ => ?_) (fun h131_ => ?_) | refine V.condB rfl (fun h131_ => ?_) (fun h131_ => ?_)
                      ·
                        refine V.seq ?_
                        obtain ⟨a', c', j', j2, rfl, rfl, rfl, hj', hj2, hSj', hSj2, hwa', hwc'⟩ := sokb hok hws' (by omega)
                        obtain ⟨kv, kx, kl, kr, hkn⟩ := kid_nd hSb hSj2
                        rw [tsz_b2] at hws
                        have hck := (hc1.le (hE.next hB5.ext).leC).sub (j2 * 5) (ndE (c'.k, kv, kx, kl, kr)) (fun i u hu => fm_get ndE_len ns j2 _ hkn i u hu)
                        have hjl' := (List.getElem?_eq_some_iff.1 hkn).1
                        refine V.draw [13] mixed ?_
                        refine D.takeP 0 [true, false, false, false, false, false, false, false, false, false, false, false, false, false, false, false, false, false, false] (.sq (.bk (.ct (.sq (.bk (.lp (.bk (.sq .bd)))))))) rfl (fun _ => rd_move rfl) rfl (by kernel_rfl) rfl ?_
                        refine D.takeP 1 [true, true, false, false, false, false, false, false, false, false, false, false, false, false, false, false, false, false, false] (.sq (.bk (.ct (.sq (.bk (.lp (.bk (.sq .bd)))))))) rfl (fun _ => rd_fieldAddr tok rfl rfl rfl rfl rfl rfl) rfl (by kernel_rfl) rfl ?_
                        refine D.takeW 2 [true, true, true, false, false, false, false, false, false, false, false, false, false, false, false, false, false, false, false] (.sq (.bk (.ct (.sq (.bk (.lp (.bk (.sq .bd)))))))) rfl (rd_load1 tok rfl rfl rfl (hn5.cell (i := 4) rfl)) rfl (by kernel_rfl) rfl (LeC.drew _) ?_
                        refine D.takeP 3 [true, true, true, true, false, false, false, false, false, false, false, false, false, false, false, false, false, false, false] (.sq (.bk (.ct (.sq (.bk (.lp (.bk (.sq .bd)))))))) rfl (fun _ => rd_move rfl) rfl (by kernel_rfl) rfl ?_
                        refine D.takeP 4 [true, true, true, true, true, false, false, false, false, false, false, false, false, false, false, false, false, false, false] (.sq (.bk (.ct (.sq (.bk (.lp (.bk (.sq .bd)))))))) rfl (fun _ => rd_fieldAddr tok rfl rfl rfl rfl rfl rfl) rfl (by kernel_rfl) rfl ?_
                        refine D.takeW 5 [true, true, true, true, true, true, false, false, false, false, false, false, false, false, false, false, false, false, false] (.sq (.bk (.ct (.sq (.bk (.lp (.bk (.sq .bd)))))))) rfl (rd_load1 tok rfl rfl rfl (hn5.cell (i := 4) rfl)) rfl (by kernel_rfl) rfl (LeC.drew _) ?_
                        (refine D.takeP 6 [true, true, true, true, true, true, true, false, false, false, false, false, false, false, false, false, false, false, false] (.sq (.bk (.ct (.sq (.bk (.lp (.bk (.sq .bd)))))))) rfl (fun _ => rd_indexSlice (sz := 5) tok rfl rfl rfl rfl rfl rfl rfl ?_) rfl (by kernel_rfl) rfl ?_; omega)
                        refine D.takeP 7 [true, true, true, true, true, true, true, true, false, false, false, false, false, false, false, false, false, false, false] (.sq (.bk (.ct (.sq (.bk (.lp (.bk (.sq .bd)))))))) rfl (fun _ => rd_fieldAddr tok rfl rfl rfl rfl rfl rfl) rfl (by kernel_rfl) rfl ?_
                        refine D.takeW 8 [true, true, true, true, true, true, true, true, true, false, false, false, false, false, false, false, false, false, false] (.sq (.bk (.ct (.sq (.bk (.lp (.bk (.sq .bd)))))))) rfl (rd_load1 tok rfl rfl rfl (cells_at (i := 0) hck rfl (by simp))) rfl (by kernel_rfl) rfl (LeC.drew _) ?_
                        refine D.takeP 11 [true, true, true, true, true, true, true, true, true, false, false, true, false, false, false, false, false, false, false] (.sq (.bk (.ct (.sq (.bk (.lp (.bk (.sq .bd)))))))) rfl (fun _ => rd_fieldAddr tok rfl rfl rfl rfl rfl rfl) rfl (by kernel_rfl) rfl ?_
                        refine D.takeW 12 [true, true, true, true, true, true, true, true, true, false, false, true, true, false, false, false, false, false, false] (.sq (.bk (.ct (.sq (.bk (.lp (.bk (.sq .bd)))))))) rfl (rd_load1 tok rfl rfl rfl (hb5.cell (i := 2) rfl)) rfl (by kernel_rfl) rfl (LeC.drew _) ?_
                        refine D.one 9 [true, true, true, true, true, true, true, true, true, true, false, true, true, false, false, false, false, false, false] rfl (by kernel_rfl) rfl (e_call rfl (iprec_ok _ _) rfl ?_)
                        rintro _ _ ⟨rfl, rfl⟩
                        refine ⟨fun _ => (LeC.drew _), ?_⟩
                        refine D.takeP 10 [true, true, true, true, true, true, true, true, true, true, true, true, true, false, false, false, false, false, false] (.sq (.bk (.ct (.sq (.bk (.lp (.bk (.sq .bd)))))))) rfl (fun _ => rd_leq rfl rfl) rfl (by kernel_rfl) rfl ?_
                        refine D.one 13 [true, true, true, true, true, true, true, true, true, true, true, true, true, true, false, false, false, false, false] rfl (by kernel_rfl) rfl (e_call rfl (pushW_ok w1 Lp c' dd j2 _ _ _ (own_ext hst5 (Ext.refl _ _).drew) (by rw [size_drew]; omega) (by omega) wr.heap.size _ _ hb5.drew (by omega) hne4 hd0 hd1) rfl ?_)
                        rintro _ w8 ⟨sv8, L8, rfl, ho8, hX8, hl8, hn8, hb8, hk8, hbf8, hs8⟩
                        have hB8 := hbf8 _ _ hB5.drew
                        have hnd8 := hk8 _ _ _ hn5.drew rfl
                        obtain ⟨s8, c8, rfl⟩ := own_form ho8
                        refine ⟨fun h => (by cases h), ?_⟩
                        refine D.takeP 14 [true, true, true, true, true, true, true, true, true, true, true, true, true, true, true, false, false, false, false] (.sq (.bk (.ct (.sq (.bk (.lp (.bk (.sq .bd)))))))) rfl (fun _ => rd_move rfl) rfl (by kernel_rfl) rfl ?_
                        refine D.takeP 15 [true, true, true, true, true, true, true, true, true, true, true, true, true, true, true, true, false, false, false] (.sq (.bk (.ct (.sq (.bk (.lp (.bk (.sq .bd)))))))) rfl (fun _ => rd_ext0 rfl) rfl (by kernel_rfl) rfl ?_
                        refine D.takeP 16 [true, true, true, true, true, true, true, true, true, true, true, true, true, true, true, true, true, false, false] (.sq (.bk (.ct (.sq (.bk (.lp (.bk (.sq .bd)))))))) rfl (fun _ => rd_ext1 rfl) rfl (by kernel_rfl) rfl ?_
                        refine D.takeP 17 [true, true, true, true, true, true, true, true, true, true, true, true, true, true, true, true, true, true, false] (.sq (.bk (.ct (.sq (.bk (.lp (.bk (.sq .bd)))))))) rfl (fun _ => rd_assign rfl) rfl (by kernel_rfl) rfl ?_
                        refine D.takeP 18 [true, true, true, true, true, true, true, true, true, true, true, true, true, true, true, true, true, true, true] (.sq (.bk (.ct (.sq (.bk (.lp (.bk (.sq .bd)))))))) rfl (fun _ => rd_assign rfl) rfl (by kernel_rfl) rfl ?_
                        refine D.done (by kernel_rfl) ?_
                        refine X.sq ?_
                        refine V.seq ?_
                        refine V.region ?_
                        refine L.rd (rd_assign rfl) rfl ?_
                        refine L.nil ?_
                        refine X.sq ?_
                        refine V.seq ?_
                        refine V.seq ?_
                        refine V.region ?_
                        refine L.rd (rd_fieldAddr tok rfl rfl rfl rfl rfl rfl) rfl ?_
                        refine L.rd (rd_load1 tok rfl rfl rfl (hnd8.cell rfl)) rfl ?_
                        refine L.rd (rd_eql rfl rfl) rfl ?_
                        refine L.nil ?_
                        refine X.sq ?_
                        refine V.cut (fun l w' => ∃ op : Nat, l = [(4, .slice (some ⟨b1, o1, none⟩) ns.length nc), (5, .slice ba acc.length bc), (6, .slice s8 L8.length c8), (7, .bool (psh (decide (prc c'.k ≤ 1)) c' dd j2).isSome), (8, .pointer (some ⟨wr.heap.size, 0, none⟩)), (9, .pointer (some ⟨w4.heap.size, 0, none⟩)), (10, .int .i64 (op : Nat))] ∧ op = (if k = 4 then 43 else 45) ∧ w8 = w') ?_ ?_
                        ·
                          first | refine V.cond rfl (fun h153 => ?_) (fun h153 => ?_) | refine V.condB rfl (fun h153 => ?_) (fun h153 => ?_)
                          ·
                            refine V.region ?_
                            refine L.rd (rd_assign rfl) rfl ?_
                            refine L.nil ?_
                            exact X.ct ⟨_, (by repeat' (first | exact trivial | refine ⟨rfl, ?_⟩)), 45, rfl, by rw [if_neg (by omega)], rfl⟩
                          ·
                            refine V.skip ?_
                            exact X.ct ⟨_, (by repeat' (first | exact trivial | refine ⟨rfl, ?_⟩)), 43, rfl, by rw [if_pos (by omega)], rfl⟩
                        ·
                          rintro l w' ⟨op, rfl, hop, rfl⟩
                          have hop8 : op < 256 := by rw [hop]; split <;> omega
                          refine X.sq ?_
                          refine V.seq ?_
                          refine V.region ?_
                          refine L.rd (rd_move rfl) rfl ?_
                          refine L.rd (rd_move rfl) rfl ?_
                          refine L.rd (rd_build (out := [_, _, _]) tok rfl rfl rfl rfl rfl) rfl ?_
                          refine L.ef (e_buildSlice1 (e := 159) (cs := [_, _, _]) tok rfl rfl rfl rfl rfl rfl rfl rfl rfl (by first | (simp only [size_addB, size_setB, size_drew]; rfl) | rfl) rfl ?_)
                          refine L.ef (e_append (m := 1) tok rfl rfl rfl rfl rfl rfl rfl rfl rfl rfl (ho8.alloc _) (Bl.new _ _ _).cells rfl (by simp [Value.oneCell']) (by unfold maxLen; omega) (by simp only []; omega) (by rw [size_addB]; omega) ?_)
                          rintro v9 w9 ho9 hg9
                          obtain ⟨ho9', hp9⟩ := st_app (a := .ch op) (u8 := 5) rfl ho8 hs8 hg9 ho9
                          have hb9 := hp9.same _ _ hn8 hb8
                          have hnd9 := hp9.kept _ _ _ hnd8 rfl
                          have hB9 := hp9.bf _ _ hB8
                          have hl9 : (L8 ++ [AI.ch op]).length = L8.length + 1 := by simp
                          have hs9 := hp9.size
                          refine L.rd (rd_assign rfl) rfl ?_
                          refine L.nil ?_
                          refine X.sq ?_
                          refine V.region ?_
                          refine L.rd (rd_move rfl) rfl ?_
                          refine L.rd (rd_fieldAddr tok rfl rfl rfl rfl rfl rfl) rfl ?_
                          refine L.rd (rd_load1 tok rfl rfl rfl (hnd9.cell (i := 3) rfl)) rfl ?_
                          refine L.rd (rd_fieldAddr tok rfl rfl rfl rfl rfl rfl) rfl ?_
                          refine L.rd (rd_load1 tok rfl rfl rfl (hb9.cell (i := 2) rfl)) rfl ?_
                          refine L.rd (rd_build (out := [_, _, _]) tok rfl rfl rfl rfl rfl) rfl ?_
                          refine L.ef (e_buildSlice1 (e := 159) (cs := [_, _, _]) tok rfl rfl rfl rfl rfl rfl rfl rfl rfl (by first | (simp only [size_addB, size_setB, size_drew]; rfl) | rfl) rfl ?_)
                          refine L.ef (e_append (m := 1) tok rfl rfl rfl rfl rfl rfl rfl rfl rfl rfl (ho9'.alloc _) (Bl.new _ _ _).cells rfl (by simp [Value.oneCell']) (by unfold maxLen; omega) (by simp only []; omega) (by rw [size_addB]; omega) ?_)
                          rintro v10 w10 ho10 hg10
                          obtain ⟨ho10', hp10⟩ := st_app (a := .sub a' dd j') (u8 := 5) rfl ho9' hs9 hg10 ho10
                          have hB10 := hp10.bf _ _ hB9
                          refine L.rd (rd_assign rfl) rfl ?_
                          refine L.nil ?_
                          refine X.bk ?_
                          have hk6 : ¬ k = 6 := by omega
                          have hatx : atx (.sub (b2 k a' c') dd j) = (txt a' dd).bind fun y => (wrp (decide (prc c'.k ≤ 1)) (fun e => txt c' e) dd).map fun z => y ++ op :: z := by
                            rw [hop]
                            show txt (b2 k a' c') dd = _
                            unfold b2
                            rw [txt, if_neg hk6]
                            rfl
                          refine X.ct ⟨_, (by repeat' (first | exact trivial | refine ⟨rfl, ?_⟩)), _, _, _, acc, L8 ++ [.ch op] ++ [.sub a' dd j'], rfl, hB10.ext, fun h => ?_, fun h => ?_⟩
                          · have hno : psh (decide (prc c'.k ≤ 1)) c' dd j2 = none := by simpa using h
                            refine rest_fail hT ?_
                            rw [hatx, psh_none hno]
                            cases txt a' dd <;> rfl
                          · obtain ⟨X8, hX⟩ := Option.isSome_iff_exists.1 h
                            obtain ⟨hr8, hw8, -⟩ := psh_some hX
                            obtain rfl := hX8 _ hX
                            refine ⟨⟨ho10', aok_app (aok_app (aok_app hokp (psh_aok hX hSj2 hd0 hd1)) (aok_one hop8)) (aok_one ⟨hSj', hd0, hd1⟩), hB10, ?_⟩, by rw [wsum_app, wsum_app, wsum_app, hws]; simp only [wsum, awg_sub, awg_ch, awg_ex]; omega, by rw [wsum_app, wsum_app, wsum_app, hws]; simp only [wsum, awg_sub, awg_ch, awg_ex]; omega⟩
                            have := rest_step (X := X8 ++ [.ch op] ++ [.sub a' dd j']) (pre := []) hT (by
                              rw [hatx, rest_app, rest_one, rest_app, rest_one, hr8]
                              show _ = ((txt a' dd).bind _).map _
                              cases txt a' dd with
                              | none => rfl
                              | some y => cases wrp (decide (prc c'.k ≤ 1)) (fun e => txt c' e) dd <;> simp [atx_ch, atx_sub])
                            rw [List.append_nil] at this
                            simpa only [List.append_assoc] using this
                      ·
                        exact absurd h131 h131_
                    ·
                      refine V.region ?_
                      refine L.rd (rd_eql rfl rfl) rfl ?_
                      refine L.rd (rd_assign rfl) rfl ?_
                      refine L.nil ?_
                      refine X.sq ?_
                      first | refine V.cond rfl (fun h131 => ?_) (fun h131 => ?_) | refine V.condB rfl (fun h131 => ?_) (fun h131 => ?_)
                      ·
                        refine V.seq ?_
                        obtain ⟨a', c', j', j2, rfl, rfl, rfl, hj', hj2, hSj', hSj2, hwa', hwc'⟩ := sokb hok hws' (by omega)
                        obtain ⟨kv, kx, kl, kr, hkn⟩ := kid_nd hSb hSj2
                        rw [tsz_b2] at hws
                        have hck := (hc1.le (hE.next hB5.ext).leC).sub (j2 * 5) (ndE (c'.k, kv, kx, kl, kr)) (fun i u hu => fm_get ndE_len ns j2 _ hkn i u hu)
                        have hjl' := (List.getElem?_eq_some_iff.1 hkn).1
                        refine V.draw [13] mixed ?_
                        refine D.takeP 0 [true, false, false, false, false, false, false, false, false, false, false, false, false, false, false, false, false, false, false] (.sq (.bk (.ct (.sq (.bk (.lp (.bk (.sq .bd)))))))) rfl (fun _ => rd_move rfl) rfl (by kernel_rfl) rfl ?_
                        refine D.takeP 1 [true, true, false, false, false, false, false, false, false, false, false, false, false, false, false, false, false, false, false] (.sq (.bk (.ct (.sq (.bk (.lp (.bk (.sq .bd)))))))) rfl (fun _ => rd_fieldAddr tok rfl rfl rfl rfl rfl rfl) rfl (by kernel_rfl) rfl ?_
                        refine D.takeW 2 [true, true, true, false, false, false, false, false, false, false, false, false, false, false, false, false, false, false, false] (.sq (.bk (.ct (.sq (.bk (.lp (.bk (.sq .bd)))))))) rfl (rd_load1 tok rfl rfl rfl (hn5.cell (i := 4) rfl)) rfl (by kernel_rfl) rfl (LeC.drew _) ?_
                        refine D.takeP 3 [true, true, true, true, false, false, false, false, false, false, false, false, false, false, false, false, false, false, false] (.sq (.bk (.ct (.sq (.bk (.lp (.bk (.sq .bd)))))))) rfl (fun _ => rd_move rfl) rfl (by kernel_rfl) rfl ?_
                        refine D.takeP 4 [true, true, true, true, true, false, false, false, false, false, false, false, false, false, false, false, false, false, false] (.sq (.bk (.ct (.sq (.bk (.lp (.bk (.sq .bd)))))))) rfl (fun _ => rd_fieldAddr tok rfl rfl rfl rfl rfl rfl) rfl (by kernel_rfl) rfl ?_
                        refine D.takeW 5 [true, true, true, true, true, true, false, false, false, false, false, false, false, false, false, false, false, false, false] (.sq (.bk (.ct (.sq (.bk (.lp (.bk (.sq .bd)))))))) rfl (rd_load1 tok rfl rfl rfl (hn5.cell (i := 4) rfl)) rfl (by kernel_rfl) rfl (LeC.drew _) ?_
                        (refine D.takeP 6 [true, true, true, true, true, true, true, false, false, false, false, false, false, false, false, false, false, false, false] (.sq (.bk (.ct (.sq (.bk (.lp (.bk (.sq .bd)))))))) rfl (fun _ => rd_indexSlice (sz := 5) tok rfl rfl rfl rfl rfl rfl rfl ?_) rfl (by kernel_rfl) rfl ?_; omega)
                        refine D.takeP 7 [true, true, true, true, true, true, true, true, false, false, false, false, false, false, false, false, false, false, false] (.sq (.bk (.ct (.sq (.bk (.lp (.bk (.sq .bd)))))))) rfl (fun _ => rd_fieldAddr tok rfl rfl rfl rfl rfl rfl) rfl (by kernel_rfl) rfl ?_
                        refine D.takeW 8 [true, true, true, true, true, true, true, true, true, false, false, false, false, false, false, false, false, false, false] (.sq (.bk (.ct (.sq (.bk (.lp (.bk (.sq .bd)))))))) rfl (rd_load1 tok rfl rfl rfl (cells_at (i := 0) hck rfl (by simp))) rfl (by kernel_rfl) rfl (LeC.drew _) ?_
                        refine D.takeP 11 [true, true, true, true, true, true, true, true, true, false, false, true, false, false, false, false, false, false, false] (.sq (.bk (.ct (.sq (.bk (.lp (.bk (.sq .bd)))))))) rfl (fun _ => rd_fieldAddr tok rfl rfl rfl rfl rfl rfl) rfl (by kernel_rfl) rfl ?_
                        refine D.takeW 12 [true, true, true, true, true, true, true, true, true, false, false, true, true, false, false, false, false, false, false] (.sq (.bk (.ct (.sq (.bk (.lp (.bk (.sq .bd)))))))) rfl (rd_load1 tok rfl rfl rfl (hb5.cell (i := 2) rfl)) rfl (by kernel_rfl) rfl (LeC.drew _) ?_
                        refine D.one 9 [true, true, true, true, true, true, true, true, true, true, false, true, true, false, false, false, false, false, false] rfl (by kernel_rfl) rfl (e_call rfl (iprec_ok _ _) rfl ?_)
                        rintro _ _ ⟨rfl, rfl⟩
                        refine ⟨fun _ => (LeC.drew _), ?_⟩
                        refine D.takeP 10 [true, true, true, true, true, true, true, true, true, true, true, true, true, false, false, false, false, false, false] (.sq (.bk (.ct (.sq (.bk (.lp (.bk (.sq .bd)))))))) rfl (fun _ => rd_leq rfl rfl) rfl (by kernel_rfl) rfl ?_
                        refine D.one 13 [true, true, true, true, true, true, true, true, true, true, true, true, true, true, false, false, false, false, false] rfl (by kernel_rfl) rfl (e_call rfl (pushW_ok w1 Lp c' dd j2 _ _ _ (own_ext hst5 (Ext.refl _ _).drew) (by rw [size_drew]; omega) (by omega) wr.heap.size _ _ hb5.drew (by omega) hne4 hd0 hd1) rfl ?_)
                        rintro _ w8 ⟨sv8, L8, rfl, ho8, hX8, hl8, hn8, hb8, hk8, hbf8, hs8⟩
                        have hB8 := hbf8 _ _ hB5.drew
                        have hnd8 := hk8 _ _ _ hn5.drew rfl
                        obtain ⟨s8, c8, rfl⟩ := own_form ho8
                        refine ⟨fun h => (by cases h), ?_⟩
                        refine D.takeP 14 [true, true, true, true, true, true, true, true, true, true, true, true, true, true, true, false, false, false, false] (.sq (.bk (.ct (.sq (.bk (.lp (.bk (.sq .bd)))))))) rfl (fun _ => rd_move rfl) rfl (by kernel_rfl) rfl ?_
                        refine D.takeP 15 [true, true, true, true, true, true, true, true, true, true, true, true, true, true, true, true, false, false, false] (.sq (.bk (.ct (.sq (.bk (.lp (.bk (.sq .bd)))))))) rfl (fun _ => rd_ext0 rfl) rfl (by kernel_rfl) rfl ?_
                        refine D.takeP 16 [true, true, true, true, true, true, true, true, true, true, true, true, true, true, true, true, true, false, false] (.sq (.bk (.ct (.sq (.bk (.lp (.bk (.sq .bd)))))))) rfl (fun _ => rd_ext1 rfl) rfl (by kernel_rfl) rfl ?_
                        refine D.takeP 17 [true, true, true, true, true, true, true, true, true, true, true, true, true, true, true, true, true, true, false] (.sq (.bk (.ct (.sq (.bk (.lp (.bk (.sq .bd)))))))) rfl (fun _ => rd_assign rfl) rfl (by kernel_rfl) rfl ?_
                        refine D.takeP 18 [true, true, true, true, true, true, true, true, true, true, true, true, true, true, true, true, true, true, true] (.sq (.bk (.ct (.sq (.bk (.lp (.bk (.sq .bd)))))))) rfl (fun _ => rd_assign rfl) rfl (by kernel_rfl) rfl ?_
                        refine D.done (by kernel_rfl) ?_
                        refine X.sq ?_
                        refine V.seq ?_
                        refine V.region ?_
                        refine L.rd (rd_assign rfl) rfl ?_
                        refine L.nil ?_
                        refine X.sq ?_
                        refine V.seq ?_
                        refine V.seq ?_
                        refine V.region ?_
                        refine L.rd (rd_fieldAddr tok rfl rfl rfl rfl rfl rfl) rfl ?_
                        refine L.rd (rd_load1 tok rfl rfl rfl (hnd8.cell rfl)) rfl ?_
                        refine L.rd (rd_eql rfl rfl) rfl ?_
                        refine L.nil ?_
                        refine X.sq ?_
                        refine V.cut (fun l w' => ∃ op : Nat, l = [(4, .slice (some ⟨b1, o1, none⟩) ns.length nc), (5, .slice ba acc.length bc), (6, .slice s8 L8.length c8), (7, .bool (psh (decide (prc c'.k ≤ 1)) c' dd j2).isSome), (8, .pointer (some ⟨wr.heap.size, 0, none⟩)), (9, .pointer (some ⟨w4.heap.size, 0, none⟩)), (10, .int .i64 (op : Nat))] ∧ op = (if k = 4 then 43 else 45) ∧ w8 = w') ?_ ?_
                        ·
                          first | refine V.cond rfl (fun h153 => ?_) (fun h153 => ?_) | refine V.condB rfl (fun h153 => ?_) (fun h153 => ?_)
                          ·
                            refine V.region ?_
                            refine L.rd (rd_assign rfl) rfl ?_
                            refine L.nil ?_
                            exact X.ct ⟨_, (by repeat' (first | exact trivial | refine ⟨rfl, ?_⟩)), 45, rfl, by rw [if_neg (by omega)], rfl⟩
                          ·
                            refine V.skip ?_
                            exact X.ct ⟨_, (by repeat' (first | exact trivial | refine ⟨rfl, ?_⟩)), 43, rfl, by rw [if_pos (by omega)], rfl⟩
                        ·
                          rintro l w' ⟨op, rfl, hop, rfl⟩
                          have hop8 : op < 256 := by rw [hop]; split <;> omega
                          refine X.sq ?_
                          refine V.seq ?_
                          refine V.region ?_
                          refine L.rd (rd_move rfl) rfl ?_
                          refine L.rd (rd_move rfl) rfl ?_
                          refine L.rd (rd_build (out := [_, _, _]) tok rfl rfl rfl rfl rfl) rfl ?_
                          refine L.ef (e_buildSlice1 (e := 159) (cs := [_, _, _]) tok rfl rfl rfl rfl rfl rfl rfl rfl rfl (by first | (simp only [size_addB, size_setB, size_drew]; rfl) | rfl) rfl ?_)
                          refine L.ef (e_append (m := 1) tok rfl rfl rfl rfl rfl rfl rfl rfl rfl rfl (ho8.alloc _) (Bl.new _ _ _).cells rfl (by simp [Value.oneCell']) (by unfold maxLen; omega) (by simp only []; omega) (by rw [size_addB]; omega) ?_)
                          rintro v9 w9 ho9 hg9
                          obtain ⟨ho9', hp9⟩ := st_app (a := .ch op) (u8 := 5) rfl ho8 hs8 hg9 ho9
                          have hb9 := hp9.same _ _ hn8 hb8
                          have hnd9 := hp9.kept _ _ _ hnd8 rfl
                          have hB9 := hp9.bf _ _ hB8
                          have hl9 : (L8 ++ [AI.ch op]).length = L8.length + 1 := by simp
                          have hs9 := hp9.size
                          refine L.rd (rd_assign rfl) rfl ?_
                          refine L.nil ?_
                          refine X.sq ?_
                          refine V.region ?_
                          refine L.rd (rd_move rfl) rfl ?_
                          refine L.rd (rd_fieldAddr tok rfl rfl rfl rfl rfl rfl) rfl ?_
                          refine L.rd (rd_load1 tok rfl rfl rfl (hnd9.cell (i := 3) rfl)) rfl ?_
                          refine L.rd (rd_fieldAddr tok rfl rfl rfl rfl rfl rfl) rfl ?_
                          refine L.rd (rd_load1 tok rfl rfl rfl (hb9.cell (i := 2) rfl)) rfl ?_
                          refine L.rd (rd_build (out := [_, _, _]) tok rfl rfl rfl rfl rfl) rfl ?_
                          refine L.ef (e_buildSlice1 (e := 159) (cs := [_, _, _]) tok rfl rfl rfl rfl rfl rfl rfl rfl rfl (by first | (simp only [size_addB, size_setB, size_drew]; rfl) | rfl) rfl ?_)
                          refine L.ef (e_append (m := 1) tok rfl rfl rfl rfl rfl rfl rfl rfl rfl rfl (ho9'.alloc _) (Bl.new _ _ _).cells rfl (by simp [Value.oneCell']) (by unfold maxLen; omega) (by simp only []; omega) (by rw [size_addB]; omega) ?_)
                          rintro v10 w10 ho10 hg10
                          obtain ⟨ho10', hp10⟩ := st_app (a := .sub a' dd j') (u8 := 5) rfl ho9' hs9 hg10 ho10
                          have hB10 := hp10.bf _ _ hB9
                          refine L.rd (rd_assign rfl) rfl ?_
                          refine L.nil ?_
                          refine X.bk ?_
                          have hk6 : ¬ k = 6 := by omega
                          have hatx : atx (.sub (b2 k a' c') dd j) = (txt a' dd).bind fun y => (wrp (decide (prc c'.k ≤ 1)) (fun e => txt c' e) dd).map fun z => y ++ op :: z := by
                            rw [hop]
                            show txt (b2 k a' c') dd = _
                            unfold b2
                            rw [txt, if_neg hk6]
                            rfl
                          refine X.ct ⟨_, (by repeat' (first | exact trivial | refine ⟨rfl, ?_⟩)), _, _, _, acc, L8 ++ [.ch op] ++ [.sub a' dd j'], rfl, hB10.ext, fun h => ?_, fun h => ?_⟩
                          · have hno : psh (decide (prc c'.k ≤ 1)) c' dd j2 = none := by simpa using h
                            refine rest_fail hT ?_
                            rw [hatx, psh_none hno]
                            cases txt a' dd <;> rfl
                          · obtain ⟨X8, hX⟩ := Option.isSome_iff_exists.1 h
                            obtain ⟨hr8, hw8, -⟩ := psh_some hX
                            obtain rfl := hX8 _ hX
                            refine ⟨⟨ho10', aok_app (aok_app (aok_app hokp (psh_aok hX hSj2 hd0 hd1)) (aok_one hop8)) (aok_one ⟨hSj', hd0, hd1⟩), hB10, ?_⟩, by rw [wsum_app, wsum_app, wsum_app, hws]; simp only [wsum, awg_sub, awg_ch, awg_ex]; omega, by rw [wsum_app, wsum_app, wsum_app, hws]; simp only [wsum, awg_sub, awg_ch, awg_ex]; omega⟩
                            have := rest_step (X := X8 ++ [.ch op] ++ [.sub a' dd j']) (pre := []) hT (by
                              rw [hatx, rest_app, rest_one, rest_app, rest_one, hr8]
                              show _ = ((txt a' dd).bind _).map _
                              cases txt a' dd with
                              | none => rfl
                              | some y => cases wrp (decide (prc c'.k ≤ 1)) (fun e => txt c' e) dd <;> simp [atx_ch, atx_sub])
                            rw [List.append_nil] at this
                            simpa only [List.append_assoc] using this
                      ·
                        refine V.seq ?_
                        refine V.region ?_
                        refine L.rd (rd_eql rfl rfl) rfl ?_
                        refine L.rd (rd_assign rfl) rfl ?_
                        refine L.nil ?_
                        refine X.sq ?_
                        first | refine V.cond rfl (fun h167 => ?_) (fun h167 => ?_) | refine V.condB rfl (fun h167 => ?_) (fun h167 => ?_)
                        ·
                          refine V.seq ?_
                          obtain ⟨a', c', j', j2, rfl, rfl, rfl, hj', hj2, hSj', hSj2, hwa', hwc'⟩ := sokb hok hws' (by omega)
                          obtain ⟨kv, kx, kl, kr, hkn⟩ := kid_nd hSb hSj2
                          obtain ⟨kv2, kx2, kl2, kr2, hkn2⟩ := kid_nd hSb hSj'
                          rw [tsz_b2] at hws
                          have hck := (hc1.le (hE.next hB5.ext).leC).sub (j2 * 5) (ndE (c'.k, kv, kx, kl, kr)) (fun i u hu => fm_get ndE_len ns j2 _ hkn i u hu)
                          have hjl' := (List.getElem?_eq_some_iff.1 hkn).1
                          have hjl2 := (List.getElem?_eq_some_iff.1 hkn2).1
                          have hatx : atx (.sub (b2 k a' c') dd j) = (wrp (decide (prc a'.k ≤ 1)) (fun e => txt a' e) dd).bind fun y => (wrp (decide (prc c'.k ≤ 2)) (fun e => txt c' e) dd).map fun z => y ++ 42 :: z := by
                            show txt (b2 k a' c') dd = _
                            unfold b2
                            rw [txt, if_pos (by omega)]
                            rfl
                          refine V.draw [13] mixed ?_
                          refine D.takeP 0 [true, false, false, false, false, false, false, false, false, false, false, false, false, false, false, false, false, false, false] (.sq (.bk (.ct (.sq (.bk (.lp (.bk (.sq .bd)))))))) rfl (fun _ => rd_move rfl) rfl (by kernel_rfl) rfl ?_
                          refine D.takeP 1 [true, true, false, false, false, false, false, false, false, false, false, false, false, false, false, false, false, false, false] (.sq (.bk (.ct (.sq (.bk (.lp (.bk (.sq .bd)))))))) rfl (fun _ => rd_fieldAddr tok rfl rfl rfl rfl rfl rfl) rfl (by kernel_rfl) rfl ?_
                          refine D.takeW 2 [true, true, true, false, false, false, false, false, false, false, false, false, false, false, false, false, false, false, false] (.sq (.bk (.ct (.sq (.bk (.lp (.bk (.sq .bd)))))))) rfl (rd_load1 tok rfl rfl rfl (hn5.cell (i := 4) rfl)) rfl (by kernel_rfl) rfl (LeC.drew _) ?_
                          refine D.takeP 3 [true, true, true, true, false, false, false, false, false, false, false, false, false, false, false, false, false, false, false] (.sq (.bk (.ct (.sq (.bk (.lp (.bk (.sq .bd)))))))) rfl (fun _ => rd_move rfl) rfl (by kernel_rfl) rfl ?_
                          refine D.takeP 4 [true, true, true, true, true, false, false, false, false, false, false, false, false, false, false, false, false, false, false] (.sq (.bk (.ct (.sq (.bk (.lp (.bk (.sq .bd)))))))) rfl (fun _ => rd_fieldAddr tok rfl rfl rfl rfl rfl rfl) rfl (by kernel_rfl) rfl ?_
                          refine D.takeW 5 [true, true, true, true, true, true, false, false, false, false, false, false, false, false, false, false, false, false, false] (.sq (.bk (.ct (.sq (.bk (.lp (.bk (.sq .bd)))))))) rfl (rd_load1 tok rfl rfl rfl (hn5.cell (i := 4) rfl)) rfl (by kernel_rfl) rfl (LeC.drew _) ?_
                          (refine D.takeP 6 [true, true, true, true, true, true, true, false, false, false, false, false, false, false, false, false, false, false, false] (.sq (.bk (.ct (.sq (.bk (.lp (.bk (.sq .bd)))))))) rfl (fun _ => rd_indexSlice (sz := 5) tok rfl rfl rfl rfl rfl rfl rfl ?_) rfl (by kernel_rfl) rfl ?_; omega)
                          refine D.takeP 7 [true, true, true, true, true, true, true, true, false, false, false, false, false, false, false, false, false, false, false] (.sq (.bk (.ct (.sq (.bk (.lp (.bk (.sq .bd)))))))) rfl (fun _ => rd_fieldAddr tok rfl rfl rfl rfl rfl rfl) rfl (by kernel_rfl) rfl ?_
                          refine D.takeW 8 [true, true, true, true, true, true, true, true, true, false, false, false, false, false, false, false, false, false, false] (.sq (.bk (.ct (.sq (.bk (.lp (.bk (.sq .bd)))))))) rfl (rd_load1 tok rfl rfl rfl (cells_at (i := 0) hck rfl (by simp))) rfl (by kernel_rfl) rfl (LeC.drew _) ?_
                          refine D.takeP 11 [true, true, true, true, true, true, true, true, true, false, false, true, false, false, false, false, false, false, false] (.sq (.bk (.ct (.sq (.bk (.lp (.bk (.sq .bd)))))))) rfl (fun _ => rd_fieldAddr tok rfl rfl rfl rfl rfl rfl) rfl (by kernel_rfl) rfl ?_
                          refine D.takeW 12 [true, true, true, true, true, true, true, true, true, false, false, true, true, false, false, false, false, false, false] (.sq (.bk (.ct (.sq (.bk (.lp (.bk (.sq .bd)))))))) rfl (rd_load1 tok rfl rfl rfl (hb5.cell (i := 2) rfl)) rfl (by kernel_rfl) rfl (LeC.drew _) ?_
                          refine D.one 9 [true, true, true, true, true, true, true, true, true, true, false, true, true, false, false, false, false, false, false] rfl (by kernel_rfl) rfl (e_call rfl (iprec_ok _ _) rfl ?_)
                          rintro _ _ ⟨rfl, rfl⟩
                          refine ⟨fun _ => (LeC.drew _), ?_⟩
                          refine D.takeP 10 [true, true, true, true, true, true, true, true, true, true, true, true, true, false, false, false, false, false, false] (.sq (.bk (.ct (.sq (.bk (.lp (.bk (.sq .bd)))))))) rfl (fun _ => rd_leq rfl rfl) rfl (by kernel_rfl) rfl ?_
                          refine D.one 13 [true, true, true, true, true, true, true, true, true, true, true, true, true, true, false, false, false, false, false] rfl (by kernel_rfl) rfl (e_call rfl (pushW_ok w1 Lp c' dd j2 _ _ _ (own_ext hst5 (Ext.refl _ _).drew) (by rw [size_drew]; omega) (by omega) wr.heap.size _ _ hb5.drew (by omega) hne4 hd0 hd1) rfl ?_)
                          rintro _ w8 ⟨sv8, L8, rfl, ho8, hX8, hl8, hn8, hb8, hk8, hbf8, hs8⟩
                          have hB8 := hbf8 _ _ hB5.drew
                          have hnd8 := hk8 _ _ _ hn5.drew rfl
                          obtain ⟨s8, c8, rfl⟩ := own_form ho8
                          refine ⟨fun h => (by cases h), ?_⟩
                          refine D.takeP 14 [true, true, true, true, true, true, true, true, true, true, true, true, true, true, true, false, false, false, false] (.sq (.bk (.ct (.sq (.bk (.lp (.bk (.sq .bd)))))))) rfl (fun _ => rd_move rfl) rfl (by kernel_rfl) rfl ?_
                          refine D.takeP 15 [true, true, true, true, true, true, true, true, true, true, true, true, true, true, true, true, false, false, false] (.sq (.bk (.ct (.sq (.bk (.lp (.bk (.sq .bd)))))))) rfl (fun _ => rd_ext0 rfl) rfl (by kernel_rfl) rfl ?_
                          refine D.takeP 16 [true, true, true, true, true, true, true, true, true, true, true, true, true, true, true, true, true, false, false] (.sq (.bk (.ct (.sq (.bk (.lp (.bk (.sq .bd)))))))) rfl (fun _ => rd_ext1 rfl) rfl (by kernel_rfl) rfl ?_
                          refine D.takeP 17 [true, true, true, true, true, true, true, true, true, true, true, true, true, true, true, true, true, true, false] (.sq (.bk (.ct (.sq (.bk (.lp (.bk (.sq .bd)))))))) rfl (fun _ => rd_assign rfl) rfl (by kernel_rfl) rfl ?_
                          refine D.takeP 18 [true, true, true, true, true, true, true, true, true, true, true, true, true, true, true, true, true, true, true] (.sq (.bk (.ct (.sq (.bk (.lp (.bk (.sq .bd)))))))) rfl (fun _ => rd_assign rfl) rfl (by kernel_rfl) rfl ?_
                          refine D.done (by kernel_rfl) ?_
                          refine X.sq ?_
                          refine V.seq ?_
                          refine V.region ?_
                          refine L.rd (rd_move rfl) rfl ?_
                          refine L.nil ?_
                          refine X.sq ?_
                          first | refine V.cond rfl (fun h186 => ?_) (fun h186 => ?_) | refine V.condB rfl (fun h186 => ?_) (fun h186 => ?_)
                          ·
                            refine V.seq ?_
                            obtain ⟨X8, hX⟩ := Option.isSome_iff_exists.1 (by simpa using h186)
                            obtain ⟨hr8, hw8, -⟩ := psh_some hX
                            obtain rfl := hX8 _ hX
                            refine V.region ?_
                            refine L.rd (rd_move rfl) rfl ?_
                            refine L.rd (rd_build (out := [_, _, _]) tok rfl rfl rfl rfl rfl) rfl ?_
                            refine L.ef (e_buildSlice1 (e := 159) (cs := [_, _, _]) tok rfl rfl rfl rfl rfl rfl rfl rfl rfl (by first | (simp only [size_addB, size_setB, size_drew]; rfl) | rfl) rfl ?_)
                            refine L.ef (e_append (m := 1) tok rfl rfl rfl rfl rfl rfl rfl rfl rfl rfl (ho8.alloc _) (Bl.new _ _ _).cells rfl (by simp [Value.oneCell']) (by unfold maxLen; omega) (by simp only []; omega) (by rw [size_addB]; omega) ?_)
                            rintro v9 w9 ho9 hg9
                            obtain ⟨ho9', hp9⟩ := st_app (a := .ch 42) (u8 := 5) rfl ho8 hs8 hg9 ho9
                            have hb9 := hp9.same _ _ hn8 hb8
                            have hnd9 := hp9.kept _ _ _ hnd8 rfl
                            have hB9 := hp9.bf _ _ hB8
                            have hl9 : (Lp ++ X8 ++ [AI.ch 42]).length = (Lp ++ X8).length + 1 := by rw [List.length_append]; rfl
                            have hs9 := hp9.size
                            have hn9 := own_ne_ai ho9' hb9 (fun s' e' j' he => absurd he AI.ch_ne)
                            have hck2 := (hc1.le (hE.next hB9.ext).leC).sub (j' * 5) (ndE (a'.k, kv2, kx2, kl2, kr2)) (fun i u hu => fm_get ndE_len ns j' _ hkn2 i u hu)
                            refine L.rd (rd_assign rfl) rfl ?_
                            refine L.nil ?_
                            refine X.sq ?_
                            refine V.draw [13] mixed ?_
                            refine D.takeP 0 [true, false, false, false, false, false, false, false, false, false, false, false, false, false, false, false, false, false, false] (.bk (.ct (.sq (.bk (.lp (.bk (.sq .bd))))))) rfl (fun _ => rd_move rfl) rfl (by kernel_rfl) rfl ?_
                            refine D.takeP 1 [true, true, false, false, false, false, false, false, false, false, false, false, false, false, false, false, false, false, false] (.bk (.ct (.sq (.bk (.lp (.bk (.sq .bd))))))) rfl (fun _ => rd_fieldAddr tok rfl rfl rfl rfl rfl rfl) rfl (by kernel_rfl) rfl ?_
                            refine D.takeW 2 [true, true, true, false, false, false, false, false, false, false, false, false, false, false, false, false, false, false, false] (.bk (.ct (.sq (.bk (.lp (.bk (.sq .bd))))))) rfl (rd_load1 tok rfl rfl rfl (hnd9.cell (i := 3) rfl)) rfl (by kernel_rfl) rfl (LeC.drew _) ?_
                            refine D.takeP 3 [true, true, true, true, false, false, false, false, false, false, false, false, false, false, false, false, false, false, false] (.bk (.ct (.sq (.bk (.lp (.bk (.sq .bd))))))) rfl (fun _ => rd_move rfl) rfl (by kernel_rfl) rfl ?_
                            refine D.takeP 4 [true, true, true, true, true, false, false, false, false, false, false, false, false, false, false, false, false, false, false] (.bk (.ct (.sq (.bk (.lp (.bk (.sq .bd))))))) rfl (fun _ => rd_fieldAddr tok rfl rfl rfl rfl rfl rfl) rfl (by kernel_rfl) rfl ?_
                            refine D.takeW 5 [true, true, true, true, true, true, false, false, false, false, false, false, false, false, false, false, false, false, false] (.bk (.ct (.sq (.bk (.lp (.bk (.sq .bd))))))) rfl (rd_load1 tok rfl rfl rfl (hnd9.cell (i := 3) rfl)) rfl (by kernel_rfl) rfl (LeC.drew _) ?_
                            (refine D.takeP 6 [true, true, true, true, true, true, true, false, false, false, false, false, false, false, false, false, false, false, false] (.bk (.ct (.sq (.bk (.lp (.bk (.sq .bd))))))) rfl (fun _ => rd_indexSlice (sz := 5) tok rfl rfl rfl rfl rfl rfl rfl ?_) rfl (by kernel_rfl) rfl ?_; omega)
                            refine D.takeP 7 [true, true, true, true, true, true, true, true, false, false, false, false, false, false, false, false, false, false, false] (.bk (.ct (.sq (.bk (.lp (.bk (.sq .bd))))))) rfl (fun _ => rd_fieldAddr tok rfl rfl rfl rfl rfl rfl) rfl (by kernel_rfl) rfl ?_
                            refine D.takeW 8 [true, true, true, true, true, true, true, true, true, false, false, false, false, false, false, false, false, false, false] (.bk (.ct (.sq (.bk (.lp (.bk (.sq .bd))))))) rfl (rd_load1 tok rfl rfl rfl (cells_at (i := 0) hck2 rfl (by simp))) rfl (by kernel_rfl) rfl (LeC.drew _) ?_
                            refine D.takeP 11 [true, true, true, true, true, true, true, true, true, false, false, true, false, false, false, false, false, false, false] (.bk (.ct (.sq (.bk (.lp (.bk (.sq .bd))))))) rfl (fun _ => rd_fieldAddr tok rfl rfl rfl rfl rfl rfl) rfl (by kernel_rfl) rfl ?_
                            refine D.takeW 12 [true, true, true, true, true, true, true, true, true, false, false, true, true, false, false, false, false, false, false] (.bk (.ct (.sq (.bk (.lp (.bk (.sq .bd))))))) rfl (rd_load1 tok rfl rfl rfl (hb9.cell (i := 2) rfl)) rfl (by kernel_rfl) rfl (LeC.drew _) ?_
                            refine D.one 9 [true, true, true, true, true, true, true, true, true, true, false, true, true, false, false, false, false, false, false] rfl (by kernel_rfl) rfl (e_call rfl (iprec_ok _ _) rfl ?_)
                            rintro _ _ ⟨rfl, rfl⟩
                            refine ⟨fun _ => (LeC.drew _), ?_⟩
                            refine D.takeP 10 [true, true, true, true, true, true, true, true, true, true, true, true, true, false, false, false, false, false, false] (.bk (.ct (.sq (.bk (.lp (.bk (.sq .bd))))))) rfl (fun _ => rd_leq rfl rfl) rfl (by kernel_rfl) rfl ?_
                            refine D.one 13 [true, true, true, true, true, true, true, true, true, true, true, true, true, true, false, false, false, false, false] rfl (by kernel_rfl) rfl (e_call rfl (pushW_ok w1 (Lp ++ X8 ++ [.ch 42]) a' dd j' _ _ _ (own_ext ho9' (Ext.refl _ _).drew) (by rw [size_drew]; omega) (by omega) wr.heap.size _ _ hb9.drew (by omega) hn9 hd0 hd1) rfl ?_)
                            rintro _ w11 ⟨sv11, L11, rfl, ho11, hX11, hl11, hn11, hb11, hk11, hbf11, hs11⟩
                            have hB11 := hbf11 _ _ hB9.drew
                            refine ⟨fun h => (by cases h), ?_⟩
                            refine D.takeP 14 [true, true, true, true, true, true, true, true, true, true, true, true, true, true, true, false, false, false, false] (.bk (.ct (.sq (.bk (.lp (.bk (.sq .bd))))))) rfl (fun _ => rd_move rfl) rfl (by kernel_rfl) rfl ?_
                            refine D.takeP 15 [true, true, true, true, true, true, true, true, true, true, true, true, true, true, true, true, false, false, false] (.bk (.ct (.sq (.bk (.lp (.bk (.sq .bd))))))) rfl (fun _ => rd_ext0 rfl) rfl (by kernel_rfl) rfl ?_
                            refine D.takeP 16 [true, true, true, true, true, true, true, true, true, true, true, true, true, true, true, true, true, false, false] (.bk (.ct (.sq (.bk (.lp (.bk (.sq .bd))))))) rfl (fun _ => rd_ext1 rfl) rfl (by kernel_rfl) rfl ?_
                            refine D.takeP 17 [true, true, true, true, true, true, true, true, true, true, true, true, true, true, true, true, true, true, false] (.bk (.ct (.sq (.bk (.lp (.bk (.sq .bd))))))) rfl (fun _ => rd_assign rfl) rfl (by kernel_rfl) rfl ?_
                            refine D.takeP 18 [true, true, true, true, true, true, true, true, true, true, true, true, true, true, true, true, true, true, true] (.bk (.ct (.sq (.bk (.lp (.bk (.sq .bd))))))) rfl (fun _ => rd_assign rfl) rfl (by kernel_rfl) rfl ?_
                            refine D.done (by kernel_rfl) ?_
                            refine X.bk ?_
                            refine X.ct ⟨_, (by repeat' (first | exact trivial | refine ⟨rfl, ?_⟩)), _, _, _, acc, L11, rfl, hB11.ext, fun h => ?_, fun h => ?_⟩
                            · have hno : psh (decide (prc a'.k ≤ 1)) a' dd j' = none := by simpa using h
                              refine rest_fail hT ?_
                              rw [hatx, psh_none hno]; rfl
                            · obtain ⟨X11, hXX⟩ := Option.isSome_iff_exists.1 h
                              obtain ⟨hr11, hw11, -⟩ := psh_some hXX
                              obtain rfl := hX11 _ hXX
                              refine ⟨⟨ho11, aok_app (aok_app (aok_app hokp (psh_aok hX hSj2 hd0 hd1)) (aok_one (by decide : 42 < 256))) (psh_aok hXX hSj' hd0 hd1), hB11, ?_⟩, by rw [wsum_app, wsum_app, wsum_app, hws]; simp only [wsum, awg_sub, awg_ch, awg_ex]; omega, by rw [wsum_app, wsum_app, wsum_app, hws]; simp only [wsum, awg_sub, awg_ch, awg_ex]; omega⟩
                              have := rest_step (X := X8 ++ [.ch 42] ++ X11) (pre := []) hT (by
                                rw [hatx, rest_app, hr11, rest_app, rest_one, hr8]
                                cases wrp (decide (prc a'.k ≤ 1)) (fun e => txt a' e) dd with
                                | none => rfl
                                | some y => cases wrp (decide (prc c'.k ≤ 2)) (fun e => txt c' e) dd <;> simp [atx_ch, atx_sub])
                              rw [List.append_nil] at this
                              simpa only [List.append_assoc] using this
                          ·
                            refine V.skip ?_
                            refine X.bk ?_
                            have hno : psh (decide (prc c'.k ≤ 2)) c' dd j2 = none := by simpa using h186
                            refine X.ct ⟨_, (by repeat' (first | exact trivial | refine ⟨rfl, ?_⟩)), _, _, _, acc, L8, rfl, hB8.ext, fun h => ?_, fun h => ?_⟩
                            · refine rest_fail hT ?_
                              rw [hatx, psh_none hno]
                              cases wrp (decide (prc a'.k ≤ 1)) (fun e => txt a' e) dd <;> rfl
                            · rw [hno] at h; cases h
                        ·
                          refine V.seq ?_
                          have hk7 : k = 7 := by omega
                          subst hk7
                          obtain ⟨a', j', rfl, rfl, hj', hSj', hwa', hv0, hv1⟩ := sok7 hok hws' rfl
                          obtain ⟨kv, kx, kl, kr, hkn⟩ := kid_nd hSb hSj'
                          rw [tsz_u1] at hws
                          have hjl' := (List.getElem?_eq_some_iff.1 hkn).1
                          refine V.region ?_
                          refine L.rd (rd_move rfl) rfl ?_
                          refine L.rd (rd_fieldAddr tok rfl rfl rfl rfl rfl rfl) rfl ?_
                          refine L.rd (rd_load1 tok rfl rfl rfl (hb5.cell (i := 1) rfl)) rfl ?_
                          refine L.rd (rd_build (out := [_, _, _]) tok rfl rfl rfl rfl rfl) rfl ?_
                          refine L.ef (e_buildSlice1 (e := 159) (cs := [_, _, _]) tok rfl rfl rfl rfl rfl rfl rfl rfl rfl (by first | (simp only [size_addB, size_setB, size_drew]; rfl) | rfl) rfl ?_)
                          refine L.ef (e_append (m := 1) tok rfl rfl rfl rfl rfl rfl rfl rfl rfl rfl (hst5.alloc _) (Bl.new _ _ _).cells rfl (by simp [Value.oneCell']) (by unfold maxLen; omega) (by simp only []; omega) (by rw [size_addB]; omega) ?_)
                          rintro v8 w8 ho8 hg8
                          obtain ⟨ho8', hp8⟩ := st_app (a := .ex v j) (u8 := 5) rfl hst5 hs5 hg8 ho8
                          have hb8 := hp8.same _ _ hne4 hb5
                          have hnd8 := hp8.kept _ _ _ hn5 rfl
                          have hB8 := hp8.bf _ _ hB5
                          have hl8 : (Lp ++ [AI.ex v j]).length = Lp.length + 1 := by simp
                          have hs8 := hp8.size
                          have hn8 := own_ne_ai ho8' hb8 (fun s' e' j' he => absurd he AI.ex_ne)
                          refine L.rd (rd_assign rfl) rfl ?_
                          refine L.nil ?_
                          refine X.sq ?_
                          refine V.seq ?_
                          refine V.region ?_
                          refine L.rd (rd_move rfl) rfl ?_
                          refine L.rd (rd_build (out := [_, _, _]) tok rfl rfl rfl rfl rfl) rfl ?_
                          refine L.ef (e_buildSlice1 (e := 159) (cs := [_, _, _]) tok rfl rfl rfl rfl rfl rfl rfl rfl rfl (by first | (simp only [size_addB, size_setB, size_drew]; rfl) | rfl) rfl ?_)
                          refine L.ef (e_append (m := 1) tok rfl rfl rfl rfl rfl rfl rfl rfl rfl rfl (ho8'.alloc _) (Bl.new _ _ _).cells rfl (by simp [Value.oneCell']) (by unfold maxLen; omega) (by simp only []; omega) (by rw [size_addB]; omega) ?_)
                          rintro v9 w9 ho9 hg9
                          obtain ⟨ho9', hp9⟩ := st_app (a := .ch 94) (u8 := 5) rfl ho8' hs8 hg9 ho9
                          have hb9 := hp9.same _ _ hn8 hb8
                          have hnd9 := hp9.kept _ _ _ hnd8 rfl
                          have hB9 := hp9.bf _ _ hB8
                          have hl9 : (Lp ++ [AI.ex v j] ++ [AI.ch 94]).length = Lp.length + 2 := by simp
                          have hs9 := hp9.size
                          have hn9 := own_ne_ai ho9' hb9 (fun s' e' j' he => absurd he AI.ch_ne)
                          have hck := (hc1.le (hE.next hB9.ext).leC).sub (j' * 5) (ndE (a'.k, kv, kx, kl, kr)) (fun i u hu => fm_get ndE_len ns j' _ hkn i u hu)
                          refine L.rd (rd_assign rfl) rfl ?_
                          refine L.nil ?_
                          refine X.sq ?_
                          refine V.draw [13] mixed ?_
                          refine D.takeP 0 [true, false, false, false, false, false, false, false, false, false, false, false, false, false, false, false, false, false, false] (.bk (.ct (.sq (.bk (.lp (.bk (.sq .bd))))))) rfl (fun _ => rd_move rfl) rfl (by kernel_rfl) rfl ?_
                          refine D.takeP 1 [true, true, false, false, false, false, false, false, false, false, false, false, false, false, false, false, false, false, false] (.bk (.ct (.sq (.bk (.lp (.bk (.sq .bd))))))) rfl (fun _ => rd_fieldAddr tok rfl rfl rfl rfl rfl rfl) rfl (by kernel_rfl) rfl ?_
                          refine D.takeW 2 [true, true, true, false, false, false, false, false, false, false, false, false, false, false, false, false, false, false, false] (.bk (.ct (.sq (.bk (.lp (.bk (.sq .bd))))))) rfl (rd_load1 tok rfl rfl rfl (hnd9.cell (i := 3) rfl)) rfl (by kernel_rfl) rfl (LeC.drew _) ?_
                          refine D.takeP 3 [true, true, true, true, false, false, false, false, false, false, false, false, false, false, false, false, false, false, false] (.bk (.ct (.sq (.bk (.lp (.bk (.sq .bd))))))) rfl (fun _ => rd_move rfl) rfl (by kernel_rfl) rfl ?_
                          refine D.takeP 4 [true, true, true, true, true, false, false, false, false, false, false, false, false, false, false, false, false, false, false] (.bk (.ct (.sq (.bk (.lp (.bk (.sq .bd))))))) rfl (fun _ => rd_fieldAddr tok rfl rfl rfl rfl rfl rfl) rfl (by kernel_rfl) rfl ?_
                          refine D.takeW 5 [true, true, true, true, true, true, false, false, false, false, false, false, false, false, false, false, false, false, false] (.bk (.ct (.sq (.bk (.lp (.bk (.sq .bd))))))) rfl (rd_load1 tok rfl rfl rfl (hnd9.cell (i := 3) rfl)) rfl (by kernel_rfl) rfl (LeC.drew _) ?_
                          (refine D.takeP 6 [true, true, true, true, true, true, true, false, false, false, false, false, false, false, false, false, false, false, false] (.bk (.ct (.sq (.bk (.lp (.bk (.sq .bd))))))) rfl (fun _ => rd_indexSlice (sz := 5) tok rfl rfl rfl rfl rfl rfl rfl ?_) rfl (by kernel_rfl) rfl ?_; omega)
                          refine D.takeP 7 [true, true, true, true, true, true, true, true, false, false, false, false, false, false, false, false, false, false, false] (.bk (.ct (.sq (.bk (.lp (.bk (.sq .bd))))))) rfl (fun _ => rd_fieldAddr tok rfl rfl rfl rfl rfl rfl) rfl (by kernel_rfl) rfl ?_
                          refine D.takeW 8 [true, true, true, true, true, true, true, true, true, false, false, false, false, false, false, false, false, false, false] (.bk (.ct (.sq (.bk (.lp (.bk (.sq .bd))))))) rfl (rd_load1 tok rfl rfl rfl (cells_at (i := 0) hck rfl (by simp))) rfl (by kernel_rfl) rfl (LeC.drew _) ?_
                          refine D.takeP 11 [true, true, true, true, true, true, true, true, true, false, false, true, false, false, false, false, false, false, false] (.bk (.ct (.sq (.bk (.lp (.bk (.sq .bd))))))) rfl (fun _ => rd_fieldAddr tok rfl rfl rfl rfl rfl rfl) rfl (by kernel_rfl) rfl ?_
                          refine D.takeW 12 [true, true, true, true, true, true, true, true, true, false, false, true, true, false, false, false, false, false, false] (.bk (.ct (.sq (.bk (.lp (.bk (.sq .bd))))))) rfl (rd_load1 tok rfl rfl rfl (hb9.cell (i := 2) rfl)) rfl (by kernel_rfl) rfl (LeC.drew _) ?_
                          refine D.one 9 [true, true, true, true, true, true, true, true, true, true, false, true, true, false, false, false, false, false, false] rfl (by kernel_rfl) rfl (e_call rfl (iprec_ok _ _) rfl ?_)
                          rintro _ _ ⟨rfl, rfl⟩
                          refine ⟨fun _ => (LeC.drew _), ?_⟩
                          refine D.takeP 10 [true, true, true, true, true, true, true, true, true, true, true, true, true, false, false, false, false, false, false] (.bk (.ct (.sq (.bk (.lp (.bk (.sq .bd))))))) rfl (fun _ => rd_leq rfl rfl) rfl (by kernel_rfl) rfl ?_
                          refine D.one 13 [true, true, true, true, true, true, true, true, true, true, true, true, true, true, false, false, false, false, false] rfl (by kernel_rfl) rfl (e_call rfl (pushW_ok w1 (Lp ++ [.ex v j] ++ [.ch 94]) a' dd j' _ _ _ (own_ext ho9' (Ext.refl _ _).drew) (by rw [size_drew]; omega) (by omega) wr.heap.size _ _ hb9.drew (by omega) hn9 hd0 hd1) rfl ?_)
                          rintro _ w11 ⟨sv11, L11, rfl, ho11, hX11, hl11, hn11, hb11, hk11, hbf11, hs11⟩
                          have hB11 := hbf11 _ _ hB9.drew
                          refine ⟨fun h => (by cases h), ?_⟩
                          refine D.takeP 14 [true, true, true, true, true, true, true, true, true, true, true, true, true, true, true, false, false, false, false] (.bk (.ct (.sq (.bk (.lp (.bk (.sq .bd))))))) rfl (fun _ => rd_move rfl) rfl (by kernel_rfl) rfl ?_
                          refine D.takeP 15 [true, true, true, true, true, true, true, true, true, true, true, true, true, true, true, true, false, false, false] (.bk (.ct (.sq (.bk (.lp (.bk (.sq .bd))))))) rfl (fun _ => rd_ext0 rfl) rfl (by kernel_rfl) rfl ?_
                          refine D.takeP 16 [true, true, true, true, true, true, true, true, true, true, true, true, true, true, true, true, true, false, false] (.bk (.ct (.sq (.bk (.lp (.bk (.sq .bd))))))) rfl (fun _ => rd_ext1 rfl) rfl (by kernel_rfl) rfl ?_
                          refine D.takeP 17 [true, true, true, true, true, true, true, true, true, true, true, true, true, true, true, true, true, true, false] (.bk (.ct (.sq (.bk (.lp (.bk (.sq .bd))))))) rfl (fun _ => rd_assign rfl) rfl (by kernel_rfl) rfl ?_
                          refine D.takeP 18 [true, true, true, true, true, true, true, true, true, true, true, true, true, true, true, true, true, true, true] (.bk (.ct (.sq (.bk (.lp (.bk (.sq .bd))))))) rfl (fun _ => rd_assign rfl) rfl (by kernel_rfl) rfl ?_
                          refine D.done (by kernel_rfl) ?_
                          refine X.bk ?_
                          have hatx : atx (.sub (u1 7 v a') dd j) = (wrp (decide (prc a'.k ≤ 4)) (fun e => txt a' e) dd).map fun y => y ++ 94 :: udec v := rfl
                          refine X.ct ⟨_, (by repeat' (first | exact trivial | refine ⟨rfl, ?_⟩)), _, _, _, acc, L11, rfl, hB11.ext, fun h => ?_, fun h => ?_⟩
                          · have hno : psh (decide (prc a'.k ≤ 4)) a' dd j' = none := by simpa using h
                            refine rest_fail hT ?_
                            rw [hatx, psh_none hno]; rfl
                          · obtain ⟨X11, hXX⟩ := Option.isSome_iff_exists.1 h
                            obtain ⟨hr11, hw11, -⟩ := psh_some hXX
                            obtain rfl := hX11 _ hXX
                            refine ⟨⟨ho11, aok_app (aok_app (aok_app hokp (aok_one ⟨_, hnd, rfl⟩)) (aok_one (by decide : 94 < 256))) (psh_aok hXX hSj' hd0 hd1), hB11, ?_⟩, by rw [wsum_app, wsum_app, wsum_app, hws]; simp only [wsum, awg_sub, awg_ch, awg_ex]; omega, by rw [wsum_app, wsum_app, wsum_app, hws]; simp only [wsum, awg_sub, awg_ch, awg_ex]; omega⟩
                            have := rest_step (X := [.ex v j] ++ [.ch 94] ++ X11) (pre := []) hT (by
                              rw [hatx, rest_app, hr11, rest_app, rest_one, rest_one]
                              cases wrp (decide (prc a'.k ≤ 4)) (fun e => txt a' e) dd with
                              | none => rfl
                              | some y => simp [atx_ch, atx_ex])
                            rw [List.append_nil] at this
                            simpa only [List.append_assoc] using this
            ·
              rintro l w12 ⟨ok, bv12, sv12, acc12, L12, rfl, hE12, hno, hyes⟩
              refine X.sq ?_
              refine V.seq ?_
              refine V.region ?_
              refine L.rd (rd_move rfl) rfl ?_
              first | refine L.rd (rd_not rfl) rfl ?_ | refine L.rd (rd_notB rfl) rfl ?_
              refine L.nil ?_
              refine X.sq ?_
              first | refine V.cond rfl (fun h209 => ?_) (fun h209 => ?_) | refine V.condB rfl (fun h209 => ?_) (fun h209 => ?_)
              ·
                refine V.seq ?_
                refine V.region ?_
                refine L.rd (rd_assign rfl) rfl ?_
                refine L.rd (rd_assign rfl) rfl ?_
                refine L.nil ?_
                refine X.sq ?_
                refine V.ret ?_
                refine X.bkRet ?_
                refine X.lpRet ?_
                refine X.bkRet ?_
                refine X.sqRet ?_
                refine ret_2 Yaam.results55 rfl rfl ?_
                have hokf : ok = false := by simpa using h209
                rw [hno hokf]
                exact ⟨rfl, hE.next hE12⟩
              ·
                refine V.skip ?_
                refine X.bk ?_
                obtain rfl : ok = true := by simpa using h209
                obtain ⟨hI2, hw2, hb2⟩ := hyes rfl
                exact X.lp ⟨_, _, hw2, (by repeat' (first | exact trivial | refine ⟨rfl, ?_⟩)), L12, acc12, _, _, rfl, rfl, hI2, by omega⟩
      ·
        refine V.exit ?_
        refine X.sqExit ?_
        refine X.lpExit ?_
        refine X.bkHere ?_
        refine X.sq ?_
        refine V.seq ?_
        have hLk : Lk = [] := by
          cases Lk with
          | nil => rfl
          | cons a L_ => simp at h26
        subst hLk
        refine V.region ?_
        refine L.rd (rd_move rfl) rfl ?_
        refine L.rd (rd_bytesBf tok rfl rfl rfl rfl rfl rfl rfl rfl rfl hI.bf) rfl ?_
        refine L.rd (rd_assign rfl) rfl ?_
        refine L.rd (rd_assign rfl) rfl ?_
        refine L.nil ?_
        refine X.sq ?_
        refine V.ret ?_
        refine ret_2 Yaam.results55 rfl rfl ?_
        have := hI.tx
        rw [rest, Option.map_some, List.append_nil] at this
        rw [this]
        exact ⟨rfl, hEr⟩

theorem iprintE_bad (ns : List Nd) (root : Int) (hnot : ¬ WF ns root) (nv : Value) (w : World) (hN : Rs w 5 nv ns.length (ns.flatMap ndE)) (hlen : ns.length ≤ 1000000000) : Ret Yaam.prog 55 [.agg #[nv, .int .i64 root]] w (PrQ none w) := by
  obtain ⟨na, nc, rfl, hfn⟩ := id hN.form
  refine enter1 Yaam.func55 Yaam.ntmps55 (by kernel_rfl) rfl rfl ?_
  refine V.seq ?_
  refine V.region ?_
  refine L.ef (e_box (cs := [_, _]) rfl rfl (by first | (simp only [size_addB, size_setB, size_drew]; rfl) | rfl) rfl ?_)
  refine L.rd (rd_assign rfl) rfl ?_
  refine L.rd (rd_assign rfl) rfl ?_
  refine L.nil ?_
  refine X.sq ?_
  refine V.seq ?_
  refine V.seq ?_
  have hp := Bl.new w 34 [.slice na ns.length nc, .int .i64 root]
  have hE := (Ext.refl _ w).addNew 34 [.slice na ns.length nc, .int .i64 root]
  refine V.region ?_
  refine L.rd (rd_loadN tok rfl rfl rfl hp.cells rfl) rfl ?_
  refine L.ef (e_call rfl (iwf_bad ns root hnot _ _ (hN.le hE.leC) hlen) rfl ?_)
  rintro _ w1 ⟨rfl, he1⟩
  first | refine L.rd (rd_not rfl) rfl ?_ | refine L.rd (rd_notB rfl) rfl ?_
  refine L.nil ?_
  refine X.sq ?_
  first | refine V.cond rfl (fun h13 => ?_) (fun h13 => ?_) | refine V.condB rfl (fun h13 => ?_) (fun h13 => ?_)
  ·
    refine V.seq ?_
    refine V.region ?_
    refine L.rd (rd_assign rfl) rfl ?_
    refine L.rd (rd_assign rfl) rfl ?_
    refine L.nil ?_
    refine X.sq ?_
    refine V.ret ?_
    refine X.sqRet ?_
    refine ret_2 Yaam.results55 rfl rfl ?_
    exact ⟨rfl, hE.next he1⟩
  ·
    refine V.skip ?_
    refine X.sq ?_
    refine V.seq ?_
    first | cases h13 | simp at h13
end Go.Proofs.YbxaawGreat
