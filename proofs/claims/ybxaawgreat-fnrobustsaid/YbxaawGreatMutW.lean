/-
  The decoder of mutated trees, walked: it returns nodes that can be read.
-/
import Derived.Test.YbxaawGreatGtreeW
set_option linter.unusedVariables false
set_option linter.unusedSimpArgs false
set_option maxRecDepth 10000
set_option maxHeartbeats 4000000
namespace Go.Mw
theorem flat_vw : ∀ (t : Tre), Wt t → Wi t → ∀ (b : Nat) (nd : Nd), nd ∈ flat t b → w64 nd.2.1 = nd.2.1 := by
  refine Tre.ind (fun k v x c hw hi b nd hn => ?_) (fun k v x c ih hw hi b nd hn => ?_) (fun k v x n c ih1 ih2 hw hi b nd hn => ?_)
  · rw [flat] at hn
    simp only [List.mem_cons, List.not_mem_nil, or_false] at hn
    subst hn; exact hi
  · obtain ⟨hx, hk, hw1⟩ := hw
    rw [flat] at hn
    rcases List.mem_append.1 hn with hn | hn
    · exact ih hw1 hi b nd hn
    · simp only [List.mem_cons, List.not_mem_nil, or_false] at hn
      subst hn; exact w64_small (by simp only []; omega)
  · obtain ⟨rfl, hv, hx, hk, hw1, hw2⟩ := hw
    rw [flat] at hn
    rcases List.mem_append.1 hn with hn | hn
    · rcases List.mem_append.1 hn with hn | hn
      · exact ih1 hw1 hi.1 b nd hn
      · exact ih2 hw2 hi.2 _ nd hn
    · simp only [List.mem_cons, List.not_mem_nil, or_false] at hn
      subst hn; exact w64_small (by simp only []; omega)
theorem nds_one (ns : List Nd) : ∀ u ∈ ns.flatMap ndE, u.oneCell' = true := fun u hu => by
  rw [List.mem_flatMap] at hu
  obtain ⟨nd, -, h⟩ := hu
  exact ndE_one nd u h
/-- copied nodes and one in hand -/
structure MS (eN eE : TypeId) (w0 : World) (g bx : Nat) (ns : List Nd) (w : World) (k v x l r : Int) : Prop where
  bl : Bl w bx eN [.int .i64 k, .int .i64 v, .int .i64 x, .int .i64 l, .int .i64 r]
  ns_ : Bl w g eN (ns.flatMap ndE)
  res : Bl w w0.heap.size eE [.slice none 0 0, .int .i64 0]
  ext : Ext w0.heap.size w0 w
  vw : w64 v = v
  lo : w0.heap.size < g
  hi : g < bx
theorem MS.set {eN eE : TypeId} {w0 : World} {g bx : Nat} {ns : List Nd} {w : World} {k v x l r : Int} (h : MS eN eE w0 g bx ns w k v x l r) (k2 v2 x2 l2 r2 : Int) (hv : w64 v2 = v2) : MS eN eE w0 g bx ns (setB w bx eN [.int .i64 k2, .int .i64 v2, .int .i64 x2, .int .i64 l2, .int .i64 r2]) k2 v2 x2 l2 r2 := by
  have h1 := h.lo
  have h2 := h.hi
  have hr : Rg bx (bx + 1) w (setB w bx eN [.int .i64 k2, .int .i64 v2, .int .i64 x2, .int .i64 l2, .int .i64 r2]) := Rg.set (by omega) _ _
  exact ⟨h.bl.set _ _, h.ns_.rg hr (.inl h2), h.res.rg hr (.inl (by omega)), h.ext.set (by omega) _ _, hv, h1, h2⟩
theorem drop5 (ns : List Nd) : (ns.drop 1).flatMap ndE = (ns.flatMap ndE).drop 5 := by
  cases ns with
  | nil => rfl
  | cons a ns => rfl
theorem nds_len (ns : List Nd) : (ns.flatMap ndE).length = ns.length * 5 := by
  induction ns with
  | nil => rfl
  | cons a ns ih => rw [List.flatMap_cons, List.length_append, ndE_len, ih, List.length_cons]; omega
end Go.Mw
namespace Go.Proofs.YbxaawGreat
open Go.Mw
abbrev MSq := MS 80 34

theorem decMut_ok (bv : Value) (bs : List Nat) (w : World) (hB : Rr w 0 w.heap.size 1 bv bs.length (bC bs)) (hl : ∀ c ∈ bs, c < 256) (hs : bs.length ≤ 1048576) : Ret Yaam.prog 17 [bv] w (TrP w) := by
  obtain ⟨ba, bc, rfl, hfb⟩ := id hB.form
  refine enter1 Yaam.func17 Yaam.ntmps17 (by kernel_rfl) rfl rfl ?_
  refine V.seq ?_
  refine V.region ?_
  refine L.ef (e_alloc (cs := [_, _]) tok rfl rfl (by first | (simp only [size_addB, size_setB, size_drew]; rfl) | rfl) rfl ?_)
  refine L.nil ?_
  refine X.sq ?_
  refine V.seq ?_
  have he0 := (Ext.refl _ w).addNew 34 [.slice none 0 0, .int .i64 0]
  have hb0 := Bl.new w 34 [.slice none 0 0, .int .i64 0]
  have hs0 := size_addB w 34 [.slice none 0 0, .int .i64 0]
  generalize addB w 34 [.slice none 0 0, .int .i64 0] = u0 at he0 hb0 hs0 ⊢
  refine V.region ?_
  refine L.rd (rd_move rfl) rfl ?_
  refine L.rd (rd_build (out := [_, _]) tok rfl rfl rfl rfl rfl) rfl ?_
  refine L.ef (e_alloc (cs := [_, _]) tok rfl rfl (by first | (simp only [size_addB, size_setB, size_drew]; rfl) | rfl) rfl ?_)
  refine L.ef (e_store (vs := [_, _]) tok rfl rfl rfl rfl (by (repeat (first | assumption | (refine Bl.new' ?_ _ _; first | with_reducible rfl | (simp only [size_addB, size_setB, size_drew]; done)) | apply Bl.add | apply Bl.drew | (apply Bl.setNe; omega) | (refine Bl.set' ?_ _ _; (try simp only [size_addB, size_setB, size_drew]); omega)))) rfl (by simp [Value.oneCell']) (by simp) ?_)
  refine L.nil ?_
  refine X.sq ?_
  refine V.seq ?_
  rw [hs0]
  generalize hw1 : setB _ _ _ _ = w1
  rw [← hs0] at hw1
  have he1 := ext_of_new hw1
  have hb1 : Bl w1 u0.heap.size 56 [.slice ba bs.length bc, .int .i64 0] := bl_of_new hw1
  have hE := he0.next he1
  rw [hs0] at hb1
  have h1 : RDq (w.heap.size + 1) (.slice ba bs.length bc) bs w1 0 := ⟨hb1, (hB.ext hE).wide (Nat.le_refl _) (by omega), hl, Nat.zero_le _, hs⟩
  have hres := he1.bl hb0.lt hb0
  refine V.region ?_
  refine L.ef (e_call rfl (next_ok _ h1) rfl ?_)
  rintro _ w2 ⟨m, i2, rfl, hm0, hm1, h2, hi2, -, hr2⟩
  replace hres := hres.rg hr2 (.inl (by omega))
  replace hE := hE.nextR hr2 (by omega)
  refine L.rd (rd_assign rfl) rfl ?_
  refine L.nil ?_
  refine X.sq ?_
  refine V.seq ?_
  refine V.region ?_
  refine L.ef (e_call rfl (next_ok _ h2) rfl ?_)
  rintro _ w3 ⟨c3, i3, rfl, hc30, hc31, h3, hi3, -, hr3⟩
  replace hres := hres.rg hr3 (.inl (by omega))
  replace hE := hE.nextR hr3 (by omega)
  refine L.rd (rd_assign rfl) rfl ?_
  refine L.nil ?_
  refine X.sq ?_
  refine V.seq ?_
  refine V.region ?_
  refine L.ef (e_call rfl (next_ok _ h3) rfl ?_)
  rintro _ w4 ⟨c4, i4, rfl, hc40, hc41, h4, hi4, -, hr4⟩
  replace hres := hres.rg hr4 (.inl (by omega))
  replace hE := hE.nextR hr4 (by omega)
  refine L.rd (rd_assign rfl) rfl ?_
  refine L.nil ?_
  refine X.sq ?_
  refine V.seq ?_
  refine V.region ?_
  refine L.rd (rd_move rfl) rfl ?_
  (refine L.rd (rd_mul3 rfl rfl ?_) rfl ?_; omega)
  refine L.rd (rd_move rfl) rfl ?_
  (refine L.rd (rd_add3 rfl rfl ?_) rfl ?_; omega)
  refine L.rd (rd_assign rfl) rfl ?_
  refine L.nil ?_
  refine X.sq ?_
  refine V.seq ?_
  obtain ⟨h, hh⟩ : ∃ h : Int, c3 * 256 + c4 = h := ⟨_, rfl⟩
  have hh0 : 0 ≤ h ∧ h ≤ 65535 := by omega
  rw [hh]
  refine V.region ?_
  refine L.ef (e_call rfl (next_ok _ h4) rfl ?_)
  rintro _ w5 ⟨f, i5, rfl, hf0, hf1, h5, hi5, -, hr5⟩
  replace hres := hres.rg hr5 (.inl (by omega))
  replace hE := hE.nextR hr5 (by omega)
  refine L.rd (rd_assign rfl) rfl ?_
  refine L.nil ?_
  refine X.sq ?_
  refine V.seq ?_
  refine V.region ?_
  refine L.rd (rd_move rfl) rfl ?_
  refine L.rd (rd_remW rfl rfl (by decide)) rfl ?_
  refine L.ef (e_call rfl (gTree_ok _ bs.length i5 _ (by omega) h5) rfl ?_)
  rintro _ w6 ⟨t, a6, i6, rfl, ht6, hwt, hwi, hi6, hsz6, h6, hr6⟩
  replace hres := hres.rg hr6 (.inl (by omega))
  replace hE := hE.nextR hr6 (by omega)
  have hle6 := h6.le
  have hl6 := h6.bl.lt
  have htp := tsz_pos t
  have hfl := flat_len t 0
  refine L.ef (e_call rfl (toExpr_ok t _ _ _ hwt (by omega) ht6) rfl ?_)
  rintro _ w7 ⟨nv7, rfl, ho7, he7⟩
  replace hres := hres.ext he7
  replace hE := hE.next he7
  have hs7 := he7.size
  obtain ⟨g7, cap7, sp7, hgB7, hsl7⟩ := (own_slc ho7).resolve_left (fun hh => by omega)
  obtain ⟨rfl, hbl7, -, hcn7, -, -⟩ := hsl7
  refine L.ef (e_alloc (cs := [_, _]) tok rfl rfl (by first | (simp only [size_addB, size_setB, size_drew]; rfl) | rfl) rfl ?_)
  refine L.ef (e_store (vs := [_, _]) tok rfl rfl rfl rfl (by (repeat (first | assumption | (refine Bl.new' ?_ _ _; first | with_reducible rfl | (simp only [size_addB, size_setB, size_drew]; done)) | apply Bl.add | apply Bl.drew | (apply Bl.setNe; omega) | (refine Bl.set' ?_ _ _; (try simp only [size_addB, size_setB, size_drew]); omega)))) rfl (by simp [Value.oneCell']) (by simp) ?_)
  refine L.nil ?_
  refine X.sq ?_
  refine V.seq ?_
  refine V.seq ?_
  generalize hw8 : setB _ _ _ _ = w8
  have he8 := ext_of_new hw8
  have hb8 : Bl w8 w7.heap.size 34 [.slice (some ⟨g7, 0, none⟩) (flat t 0).length cap7, .int .i64 ((tsz t : Int) - 1)] := bl_of_new hw8
  replace hres := hres.ext he8
  replace hE := hE.next he8
  have hbl8 := hbl7.ext he8
  have hvw := flat_vw t hwt hwi 0
  have hs8 := size_of_new hw8
  generalize flat t 0 = ns at *
  refine V.region ?_
  refine L.rd (rd_move rfl) rfl ?_
  refine L.rd (rd_remW rfl rfl (by decide)) rfl ?_
  refine L.rd (rd_eql rfl rfl) rfl ?_
  refine L.nil ?_
  refine X.sq ?_
  first | refine V.cond rfl (fun h30 => ?_) (fun h30 => ?_) | refine V.condB rfl (fun h30 => ?_) (fun h30 => ?_)
  ·
    refine V.seq ?_
    refine V.region ?_
    refine L.rd (rd_loadN tok rfl rfl rfl hb8.cells rfl) rfl ?_
    refine L.ef (e_store (vs := [_, _]) tok rfl rfl rfl rfl hres rfl (by simp [Value.oneCell']) (by simp) ?_)
    refine L.nil ?_
    refine X.sq ?_
    refine V.ret ?_
    refine X.sqRet ?_
    refine ret_c tok Yaam.results17 rfl rfl rfl (hres.set _ _).cells rfl ?_
    have hrg : Rg w.heap.size (w.heap.size + 1) w8 (setB w8 w.heap.size 34 [.slice (some ⟨g7, 0, none⟩) ns.length cap7, .int .i64 ((tsz t : Int) - 1)]) := Rg.set (by omega) _ _
    have hbl9 := hbl8.rg hrg (.inr (by omega))
    refine ⟨_, ns, _, rfl, ⟨nds_len ns, _, _, rfl, .inr ⟨g7, 0, rfl, ⟨fun i u hu => ?_⟩⟩⟩, by omega, hvw, hE.set (Nat.le_refl _) _ _⟩
    exact hbl9.cells.at_ i u (app_some hu)
  ·
    refine V.skip ?_
    refine X.sq ?_
    refine V.seq ?_
    refine V.region ?_
    refine L.rd (rd_fieldAddr tok rfl rfl rfl rfl rfl rfl) rfl ?_
    refine L.rd (rd_load1 tok rfl rfl rfl (hb8.cell rfl)) rfl ?_
    refine L.rd (rd_lenSlice tok rfl rfl rfl) rfl ?_
    refine L.rd (rd_assign rfl) rfl ?_
    refine L.nil ?_
    refine X.sq ?_
    refine V.seq ?_
    refine V.region ?_
    refine L.rd (rd_move rfl) rfl ?_
    refine L.ef (e_make (e := 80) (zs := [_, _, _, _, _]) (m := ns.length) (c := ns.length) tok rfl rfl rfl rfl rfl rfl rfl rfl (by first | (simp only [size_addB, size_setB, size_drew]; rfl) | rfl) rfl (by omega) (by simp only []; omega) (by omega) ?_)
    refine L.rd (rd_assign rfl) rfl ?_
    refine L.nil ?_
    refine X.sq ?_
    refine V.seq ?_
    have hea := (Ext.refl _ w8).addNew 80 ((List.replicate ns.length [Value.int .i64 0, .int .i64 0, .int .i64 0, .int .i64 0, .int .i64 0]).flatten)
    have hzl : ((List.replicate ns.length [Value.int .i64 0, .int .i64 0, .int .i64 0, .int .i64 0, .int .i64 0]).flatten).length = ns.length * 5 := by rw [List.length_flatten]; simp
    have hbz := Bl.new w8 80 ((List.replicate ns.length [Value.int .i64 0, .int .i64 0, .int .i64 0, .int .i64 0, .int .i64 0]).flatten)
    have hcs : Cells w8 g7 0 (ns.flatMap ndE) := ⟨fun i u hu => hbl8.cells.at_ i u (app_some hu)⟩
    have hcs9 := hcs.le hea.leC
    have hbe := hb8.ext hea
    have hE9 := hE.next hea
    have hres9 := hres.ext hea
    generalize addB w8 80 ((List.replicate ns.length [Value.int .i64 0, .int .i64 0, .int .i64 0, .int .i64 0, .int .i64 0]).flatten) = w9 at *
    refine V.region ?_
    refine L.rd (rd_move rfl) rfl ?_
    refine L.rd (rd_fieldAddr tok rfl rfl rfl rfl rfl rfl) rfl ?_
    refine L.rd (rd_load1 tok rfl rfl rfl (hbe.cell rfl)) rfl ?_
    refine L.ef (e_copy (sz := 5) tok rfl rfl rfl rfl rfl rfl rfl rfl hbz hcs9 (nds_len ns) (nds_one ns) (by rw [nds_len, hzl]; omega) ?_)
    (rw [putAll _ _ (by rw [nds_len, hzl])])
    refine L.nil ?_
    refine X.sq ?_
    refine V.seq ?_
    refine V.region ?_
    refine L.rd (rd_move rfl) rfl ?_
    refine L.rd (rd_move rfl) rfl ?_
    refine L.rd (rd_remW rfl rfl (by omega)) rfl ?_
    refine L.rd (rd_assign rfl) rfl ?_
    refine L.nil ?_
    refine X.sq ?_
    refine V.seq ?_
    generalize hw10 : setB _ _ _ _ = w10
    have hb10 : Bl w10 w8.heap.size 80 (ns.flatMap ndE) := by rw [← hw10]; exact hbz.set _ _
    have hE10 : Ext w.heap.size w w10 := by rw [← hw10]; exact hE9.set (by omega) _ _
    have hres10 : Bl w10 w.heap.size 34 [.slice none 0 0, .int .i64 0] := by rw [← hw10]; exact hres9.setNe (by omega) _ _
    have hmr := tmod_rng (a := h) (b := (ns.length : Int)) hh0.1 (by omega)
    obtain ⟨i, hi⟩ : ∃ i : Nat, h.tmod (ns.length : Int) = i := ⟨(h.tmod (ns.length : Int)).toNat, by omega⟩
    rw [hi]
    obtain ⟨⟨k, v, x, l_, r_⟩, hnd⟩ := nth_of_lt ns i (by omega)
    have hcx := hb10.cells.sub (i * 5) (ndE (k, v, x, l_, r_)) (fun j u hu => fm_get ndE_len ns i _ hnd j u hu)
    have hv0 := hvw _ (List.mem_of_getElem? hnd)
    have hl10 := hb10.lt
    refine V.region ?_
    refine L.rd (rd_move rfl) rfl ?_
    refine L.rd (rd_move rfl) rfl ?_
    (refine L.rd (rd_indexSlice (sz := 5) tok rfl rfl rfl rfl rfl rfl rfl ?_) rfl ?_; omega)
    refine L.rd (rd_loadN tok rfl rfl rfl hcx rfl) rfl ?_
    refine L.ef (e_alloc (cs := [_, _, _, _, _]) tok rfl rfl (by first | (simp only [size_addB, size_setB, size_drew]; rfl) | rfl) rfl ?_)
    refine L.ef (e_store (vs := [_, _, _, _, _]) tok rfl rfl rfl rfl (by (repeat (first | assumption | (refine Bl.new' ?_ _ _; first | with_reducible rfl | (simp only [size_addB, size_setB, size_drew]; done)) | apply Bl.add | apply Bl.drew | (apply Bl.setNe; omega) | (refine Bl.set' ?_ _ _; (try simp only [size_addB, size_setB, size_drew]); omega)))) rfl (by simp [Value.oneCell']) (by simp) ?_)
    refine L.nil ?_
    refine X.sq ?_
    refine V.seq ?_
    refine V.seq ?_
    generalize hw11 : setB _ _ _ _ = w11
    have he11 := ext_of_new hw11
    have hM : MSq w w8.heap.size w10.heap.size ns w11 k v x l_ r_ := ⟨bl_of_new hw11, hb10.ext he11, hres10.ext he11, hE10.next he11, hv0, by omega, hl10⟩
    refine V.region ?_
    refine L.rd (rd_move rfl) rfl ?_
    refine L.rd (rd_remW rfl rfl (by decide)) rfl ?_
    refine L.nil ?_
    refine X.sq ?_
    refine V.cut (fun l w' => ∃ k2 v2 x2 l2 r2 : Int, l = [(2, .pointer (some ⟨w.heap.size, 0, none⟩)), (10, .int .i64 ns.length), (11, .slice (some ⟨w8.heap.size, 0, none⟩) ns.length ns.length), (12, .int .i64 i), (13, .pointer (some ⟨w10.heap.size, 0, none⟩))] ∧ MSq w w8.heap.size w10.heap.size ns w' k2 v2 x2 l2 r2) ?_ ?_
    ·
      refine V.block ?_
      refine V.seq ?_
      refine V.region ?_
      refine L.rd (rd_eql rfl rfl) rfl ?_
      refine L.rd (rd_assign rfl) rfl ?_
      refine L.nil ?_
      refine X.sq ?_
      first | refine V.cond rfl (fun h58 => ?_) (fun h58 => ?_) | refine V.condB rfl (fun h58 => ?_) (fun h58 => ?_)
      ·
        refine V.region ?_
        refine L.rd (rd_fieldAddr tok rfl rfl rfl rfl rfl rfl) rfl ?_
        refine L.rd (rd_load1 tok rfl rfl rfl (hM.bl.cell rfl)) rfl ?_
        refine L.rd (rd_addW rfl rfl) rfl ?_
        refine L.rd (rd_move rfl) rfl ?_
        refine L.rd (rd_quoW rfl rfl (by decide)) rfl ?_
        refine L.rd (rd_remW rfl rfl (by decide)) rfl ?_
        refine L.rd (rd_addW rfl rfl) rfl ?_
        refine L.rd (rd_remW rfl rfl (by decide)) rfl ?_
        refine L.rd (rd_fieldAddr tok rfl rfl rfl rfl rfl rfl) rfl ?_
        refine L.ef (e_store (vs := [_]) tok rfl rfl rfl rfl hM.bl rfl (by simp [Value.oneCell']) (by simp) ?_)
        refine L.nil ?_
        refine X.bk ?_
        exact X.ct ⟨_, (by repeat' (first | exact trivial | refine ⟨rfl, ?_⟩)), _, _, _, _, _, rfl, hM.set _ _ _ _ _ hv0⟩
      ·
        refine V.seq ?_
        refine V.region ?_
        refine L.rd (rd_eql rfl rfl) rfl ?_
        refine L.rd (rd_assign rfl) rfl ?_
        refine L.nil ?_
        refine X.sq ?_
        first | refine V.cond rfl (fun h69 => ?_) (fun h69 => ?_) | refine V.condB rfl (fun h69 => ?_) (fun h69 => ?_)
        ·
          refine V.region ?_
          refine L.rd (rd_fieldAddr tok rfl rfl rfl rfl rfl rfl) rfl ?_
          refine L.rd (rd_load1 tok rfl rfl rfl (hM.bl.cell (i := 1) rfl)) rfl ?_
          refine L.rd (rd_addW rfl rfl) rfl ?_
          refine L.rd (rd_fieldAddr tok rfl rfl rfl rfl rfl rfl) rfl ?_
          refine L.ef (e_store (vs := [_]) tok rfl rfl rfl rfl hM.bl rfl (by simp [Value.oneCell']) (by simp) ?_)
          refine L.nil ?_
          refine X.bk ?_
          exact X.ct ⟨_, (by repeat' (first | exact trivial | refine ⟨rfl, ?_⟩)), _, _, _, _, _, rfl, hM.set _ _ _ _ _ (w64_wr _)⟩
        ·
          refine V.seq ?_
          refine V.region ?_
          refine L.rd (rd_eql rfl rfl) rfl ?_
          refine L.rd (rd_assign rfl) rfl ?_
          refine L.nil ?_
          refine X.sq ?_
          first | refine V.cond rfl (fun h75 => ?_) (fun h75 => ?_) | refine V.condB rfl (fun h75 => ?_) (fun h75 => ?_)
          ·
            refine V.region ?_
            refine L.rd (rd_fieldAddr tok rfl rfl rfl rfl rfl rfl) rfl ?_
            refine L.rd (rd_load1 tok rfl rfl rfl (hM.bl.cell (i := 2) rfl)) rfl ?_
            refine L.rd (rd_addW rfl rfl) rfl ?_
            refine L.rd (rd_fieldAddr tok rfl rfl rfl rfl rfl rfl) rfl ?_
            refine L.ef (e_store (vs := [_]) tok rfl rfl rfl rfl hM.bl rfl (by simp [Value.oneCell']) (by simp) ?_)
            refine L.nil ?_
            refine X.bk ?_
            exact X.ct ⟨_, (by repeat' (first | exact trivial | refine ⟨rfl, ?_⟩)), _, _, _, _, _, rfl, hM.set _ _ _ _ _ hv0⟩
          ·
            refine V.seq ?_
            refine V.region ?_
            refine L.rd (rd_eql rfl rfl) rfl ?_
            refine L.rd (rd_assign rfl) rfl ?_
            refine L.nil ?_
            refine X.sq ?_
            first | refine V.cond rfl (fun h81 => ?_) (fun h81 => ?_) | refine V.condB rfl (fun h81 => ?_) (fun h81 => ?_)
            ·
              refine V.region ?_
              refine L.rd (rd_fieldAddr tok rfl rfl rfl rfl rfl rfl) rfl ?_
              refine L.ef (e_store (vs := [_]) tok rfl rfl rfl rfl hM.bl rfl (by simp [Value.oneCell']) (by simp) ?_)
              refine L.nil ?_
              refine X.bk ?_
              exact X.ct ⟨_, (by repeat' (first | exact trivial | refine ⟨rfl, ?_⟩)), _, _, _, _, _, rfl, hM.set _ _ _ _ _ hv0⟩
            ·
              refine V.seq ?_
              refine V.region ?_
              refine L.rd (rd_eql rfl rfl) rfl ?_
              refine L.rd (rd_assign rfl) rfl ?_
              refine L.nil ?_
              refine X.sq ?_
              first | refine V.cond rfl (fun h84 => ?_) (fun h84 => ?_) | refine V.condB rfl (fun h84 => ?_) (fun h84 => ?_)
              ·
                refine V.region ?_
                refine L.rd (rd_fieldAddr tok rfl rfl rfl rfl rfl rfl) rfl ?_
                refine L.rd (rd_load1 tok rfl rfl rfl (hM.bl.cell (i := 3) rfl)) rfl ?_
                refine L.rd (rd_addW rfl rfl) rfl ?_
                refine L.rd (rd_fieldAddr tok rfl rfl rfl rfl rfl rfl) rfl ?_
                refine L.ef (e_store (vs := [_]) tok rfl rfl rfl rfl hM.bl rfl (by simp [Value.oneCell']) (by simp) ?_)
                refine L.nil ?_
                refine X.bk ?_
                exact X.ct ⟨_, (by repeat' (first | exact trivial | refine ⟨rfl, ?_⟩)), _, _, _, _, _, rfl, hM.set _ _ _ _ _ hv0⟩
              ·
                refine V.seq ?_
                refine V.region ?_
                refine L.rd (rd_eql rfl rfl) rfl ?_
                refine L.rd (rd_assign rfl) rfl ?_
                refine L.nil ?_
                refine X.sq ?_
                first | refine V.cond rfl (fun h90 => ?_) (fun h90 => ?_) | refine V.condB rfl (fun h90 => ?_) (fun h90 => ?_)
                ·
                  refine V.region ?_
                  refine L.rd (rd_fieldAddr tok rfl rfl rfl rfl rfl rfl) rfl ?_
                  refine L.rd (rd_load1 tok rfl rfl rfl (hM.bl.cell (i := 3) rfl)) rfl ?_
                  refine L.rd (rd_subW rfl rfl) rfl ?_
                  refine L.rd (rd_fieldAddr tok rfl rfl rfl rfl rfl rfl) rfl ?_
                  refine L.ef (e_store (vs := [_]) tok rfl rfl rfl rfl hM.bl rfl (by simp [Value.oneCell']) (by simp) ?_)
                  refine L.nil ?_
                  refine X.bk ?_
                  exact X.ct ⟨_, (by repeat' (first | exact trivial | refine ⟨rfl, ?_⟩)), _, _, _, _, _, rfl, hM.set _ _ _ _ _ hv0⟩
                ·
                  refine V.seq ?_
                  refine V.region ?_
                  refine L.rd (rd_eql rfl rfl) rfl ?_
                  refine L.rd (rd_assign rfl) rfl ?_
                  refine L.nil ?_
                  refine X.sq ?_
                  first | refine V.cond rfl (fun h96 => ?_) (fun h96 => ?_) | refine V.condB rfl (fun h96 => ?_) (fun h96 => ?_)
                  ·
                    refine V.region ?_
                    refine L.rd (rd_fieldAddr tok rfl rfl rfl rfl rfl rfl) rfl ?_
                    refine L.rd (rd_load1 tok rfl rfl rfl (hM.bl.cell (i := 4) rfl)) rfl ?_
                    refine L.rd (rd_addW rfl rfl) rfl ?_
                    refine L.rd (rd_fieldAddr tok rfl rfl rfl rfl rfl rfl) rfl ?_
                    refine L.ef (e_store (vs := [_]) tok rfl rfl rfl rfl hM.bl rfl (by simp [Value.oneCell']) (by simp) ?_)
                    refine L.nil ?_
                    refine X.bk ?_
                    exact X.ct ⟨_, (by repeat' (first | exact trivial | refine ⟨rfl, ?_⟩)), _, _, _, _, _, rfl, hM.set _ _ _ _ _ hv0⟩
                  ·
                    refine V.seq ?_
                    refine V.region ?_
                    refine L.rd (rd_eql rfl rfl) rfl ?_
                    refine L.rd (rd_assign rfl) rfl ?_
                    refine L.nil ?_
                    refine X.sq ?_
                    first | refine V.cond rfl (fun h102 => ?_) (fun h102 => ?_) | refine V.condB rfl (fun h102 => ?_) (fun h102 => ?_)
                    ·
                      refine V.region ?_
                      refine L.rd (rd_fieldAddr tok rfl rfl rfl rfl rfl rfl) rfl ?_
                      refine L.rd (rd_load1 tok rfl rfl rfl (hM.bl.cell (i := 4) rfl)) rfl ?_
                      refine L.rd (rd_subW rfl rfl) rfl ?_
                      refine L.rd (rd_fieldAddr tok rfl rfl rfl rfl rfl rfl) rfl ?_
                      refine L.ef (e_store (vs := [_]) tok rfl rfl rfl rfl hM.bl rfl (by simp [Value.oneCell']) (by simp) ?_)
                      refine L.nil ?_
                      refine X.bk ?_
                      exact X.ct ⟨_, (by repeat' (first | exact trivial | refine ⟨rfl, ?_⟩)), _, _, _, _, _, rfl, hM.set _ _ _ _ _ hv0⟩
                    ·
                      refine V.seq ?_
                      refine V.region ?_
                      refine L.rd (rd_eql rfl rfl) rfl ?_
                      refine L.rd (rd_assign rfl) rfl ?_
                      refine L.nil ?_
                      refine X.sq ?_
                      first | refine V.cond rfl (fun h108 => ?_) (fun h108 => ?_) | refine V.condB rfl (fun h108 => ?_) (fun h108 => ?_)
                      ·
                        refine V.region ?_
                        refine L.rd (rd_fieldAddr tok rfl rfl rfl rfl rfl rfl) rfl ?_
                        refine L.ef (e_store (vs := [_]) tok rfl rfl rfl rfl hM.bl rfl (by simp [Value.oneCell']) (by simp) ?_)
                        refine L.nil ?_
                        refine X.bk ?_
                        exact X.ct ⟨_, (by repeat' (first | exact trivial | refine ⟨rfl, ?_⟩)), _, _, _, _, _, rfl, hM.set _ 1000001 _ _ _ (by decide)⟩
                      ·
                        refine V.seq ?_
                        refine V.region ?_
                        refine L.rd (rd_eql rfl rfl) rfl ?_
                        refine L.rd (rd_assign rfl) rfl ?_
                        refine L.nil ?_
                        refine X.sq ?_
                        first | refine V.cond rfl (fun h111 => ?_) (fun h111 => ?_) | refine V.condB rfl (fun h111 => ?_) (fun h111 => ?_)
                        ·
                          refine V.region ?_
                          refine L.rd (rd_fieldAddr tok rfl rfl rfl rfl rfl rfl) rfl ?_
                          refine L.ef (e_store (vs := [_]) tok rfl rfl rfl rfl hM.bl rfl (by simp [Value.oneCell']) (by simp) ?_)
                          refine L.nil ?_
                          refine X.bk ?_
                          exact X.ct ⟨_, (by repeat' (first | exact trivial | refine ⟨rfl, ?_⟩)), _, _, _, _, _, rfl, hM.set _ (-1) _ _ _ (by decide)⟩
                        ·
                          refine V.seq ?_
                          refine V.region ?_
                          refine L.rd (rd_eql rfl rfl) rfl ?_
                          refine L.rd (rd_assign rfl) rfl ?_
                          refine L.nil ?_
                          refine X.sq ?_
                          first | refine V.cond rfl (fun h114 => ?_) (fun h114 => ?_) | refine V.condB rfl (fun h114 => ?_) (fun h114 => ?_)
                          ·
                            refine V.seq ?_
                            have how : w11.ownsRow w8.heap.size 80 5 (.slice (some ⟨w8.heap.size, 0, none⟩) ns.length ns.length) ns.length (ns.flatMap ndE) := Slc.own (sp := []) ⟨rfl, by rw [List.append_nil]; exact hM.ns_, nds_len ns, Nat.le_refl _, by unfold maxLen; omega, by rw [List.append_nil, nds_len]⟩ (Nat.le_refl _)
                            have hlM := hM.ns_.lt
                            refine V.region ?_
                            refine L.rd (rd_move rfl) rfl ?_
                            refine L.rd (rd_build (out := [_, _, _, _, _]) tok rfl rfl rfl rfl rfl) rfl ?_
                            refine L.ef (e_buildSlice1 (e := 80) (cs := ndE (1, 0, 0, -1, -1)) tok rfl rfl rfl rfl rfl rfl rfl rfl rfl (by first | (simp only [size_addB, size_setB, size_drew]; rfl) | rfl) rfl ?_)
                            have heb := (Ext.refl _ w11).addNew 80 (ndE (1, 0, 0, -1, -1))
                            have hob := own_ext how heb
                            refine L.ef (e_append (m := 1) tok rfl rfl rfl rfl rfl rfl rfl rfl rfl rfl hob (Bl.new _ _ _).cells (ndE_len _) (ndE_one _) (by unfold maxLen; omega) (by simp only []; omega) (by rw [size_addB]; omega) ?_)
                            rintro v13 w13 ho13 hg13
                            have he13 : Ext w8.heap.size w11 w13 := (heb.low (by omega)).grown hg13 (by rw [size_addB]; omega) (fun q hq => (own_block_lt hob hq).1)
                            obtain ⟨a13, c13, rfl⟩ := own_form ho13
                            have hres13 : Bl w13 w.heap.size 34 [.slice none 0 0, .int .i64 0] := ⟨(he13.block _ (by omega)).trans hM.res.at_⟩
                            have hE13 := hM.ext.trans (he13.low (by omega))
                            have ho13' : w13.ownsRow w8.heap.size 80 5 (.slice a13 (ns.length + 1) c13) (ns ++ [(1, 0, 0, -1, -1)]).length ((ns ++ [(1, 0, 0, -1, -1)]).flatMap ndE) := by
                              rw [List.length_append, List.flatMap_append]
                              simpa using ho13
                            refine L.rd (rd_assign rfl) rfl ?_
                            refine L.nil ?_
                            refine X.sq ?_
                            refine V.seq ?_
                            refine V.region ?_
                            refine L.rd (rd_move rfl) rfl ?_
                            refine L.rd (rd_move rfl) rfl ?_
                            refine L.rd (rd_subW rfl rfl) rfl ?_
                            refine L.rd (rd_move rfl) rfl ?_
                            refine L.rd (rd_remW rfl rfl (by decide)) rfl ?_
                            refine L.rd (rd_addW rfl rfl) rfl ?_
                            refine L.rd (rd_build (out := [_, _]) tok rfl rfl rfl rfl rfl) rfl ?_
                            refine L.ef (e_store (vs := [_, _]) tok rfl rfl rfl rfl hres13 rfl (by simp [Value.oneCell']) (by simp) ?_)
                            refine L.nil ?_
                            refine X.sq ?_
                            refine V.ret ?_
                            refine X.bkRet ?_
                            refine X.ctRet ?_
                            refine X.sqRet ?_
                            refine ret_c tok Yaam.results17 rfl rfl rfl (hres13.set _ _).cells rfl ?_
                            refine ⟨_, ns ++ [(1, 0, 0, -1, -1)], _, rfl, Rs.of_own (own_offR ho13' (Rg.set (lo := w.heap.size) (hi := w.heap.size + 1) (by omega) _ _) (by omega)), by rw [List.length_append]; simp only [List.length_cons, List.length_nil]; omega, fun nd hn => (List.mem_append.1 hn).elim (hvw nd) (fun hh => by simp only [List.mem_cons, List.not_mem_nil, or_false] at hh; subst hh; decide), hE13.set (Nat.le_refl _) _ _⟩
                          ·
                            refine V.seq ?_
                            refine V.region ?_
                            refine L.rd (rd_eql rfl rfl) rfl ?_
                            refine L.rd (rd_assign rfl) rfl ?_
                            refine L.nil ?_
                            refine X.sq ?_
                            first | refine V.cond rfl (fun h127 => ?_) (fun h127 => ?_) | refine V.condB rfl (fun h127 => ?_) (fun h127 => ?_)
                            ·
                              refine V.seq ?_
                              refine V.region ?_
                              refine L.rd (rd_move rfl) rfl ?_
                              refine L.rd (rd_move rfl) rfl ?_
                              refine L.rd (rd_subW rfl rfl) rfl ?_
                              refine L.rd (rd_move rfl) rfl ?_
                              refine L.rd (rd_remW rfl rfl (by decide)) rfl ?_
                              refine L.rd (rd_mulW rfl rfl) rfl ?_
                              refine L.rd (rd_addW rfl rfl) rfl ?_
                              refine L.rd (rd_build (out := [_, _]) tok rfl rfl rfl rfl rfl) rfl ?_
                              refine L.ef (e_store (vs := [_, _]) tok rfl rfl rfl rfl hM.res rfl (by simp [Value.oneCell']) (by simp) ?_)
                              refine L.nil ?_
                              refine X.sq ?_
                              refine V.ret ?_
                              refine X.bkRet ?_
                              refine X.ctRet ?_
                              refine X.sqRet ?_
                              refine ret_c tok Yaam.results17 rfl rfl rfl (hM.res.set _ _).cells rfl ?_
                              refine ⟨_, ns, _, rfl, ⟨nds_len ns, _, _, rfl, .inr ⟨w8.heap.size, 0, rfl, ?_⟩⟩, by omega, hvw, hM.ext.set (Nat.le_refl _) _ _⟩
                              exact (hM.ns_.setNe (by omega) _ _).cells
                            ·
                              refine V.seq ?_
                              refine V.seq ?_
                              refine V.region ?_
                              refine L.rd (rd_move rfl) rfl ?_
                              refine L.rd (rd_gtr rfl rfl) rfl ?_
                              refine L.nil ?_
                              refine X.sq ?_
                              first | refine V.cond rfl (fun h51 => ?_) (fun h51 => ?_) | refine V.condB rfl (fun h51 => ?_) (fun h51 => ?_)
                              ·
                                refine V.seq ?_
                                refine V.region ?_
                                refine L.rd (rd_move rfl) rfl ?_
                                refine L.rd (rd_reslL (sz := 5) (lo := 1) tok rfl rfl rfl rfl rfl rfl rfl (by omega)) rfl ?_
                                refine L.rd (rd_move rfl) rfl ?_
                                refine L.rd (rd_subW rfl rfl) rfl ?_
                                refine L.rd (rd_build (out := [_, _]) tok rfl rfl rfl rfl rfl) rfl ?_
                                refine L.ef (e_store (vs := [_, _]) tok rfl rfl rfl rfl hM.res rfl (by simp [Value.oneCell']) (by simp) ?_)
                                refine L.nil ?_
                                refine X.sq ?_
                                refine V.ret ?_
                                refine X.sqRet ?_
                                refine X.bkRet ?_
                                refine X.ctRet ?_
                                refine X.sqRet ?_
                                refine ret_c tok Yaam.results17 rfl rfl rfl (hM.res.set _ _).cells rfl ?_
                                refine ⟨_, ns.drop 1, _, rfl, ⟨nds_len _, _, _, by rw [List.length_drop], .inr ⟨w8.heap.size, _, rfl, ?_⟩⟩, by rw [List.length_drop]; omega, fun nd hn => hvw nd (List.mem_of_mem_drop hn), hM.ext.set (Nat.le_refl _) _ _⟩
                                have := rsl_cells (hM.ns_.setNe (b' := w.heap.size) (by omega) 34 [.slice (some ⟨w8.heap.size, rsl ns.length 1 0 (1 * 5), none⟩) (ns.length - 1) (ns.length - 1), .int .i64 (IntKind.i64.wrap ((ns.length : Int) - 2))]).cells (sz := 5) (n := ns.length) (lo := 1) (c := ns.length) (nds_len ns) (Nat.le_refl _) (by omega)
                                rw [drop5]
                                exact this
                              ·
                                refine V.skip ?_
                                refine X.sq ?_
                                refine V.seq ?_
                                refine V.region ?_
                                refine L.rd (rd_build (out := [_, _]) tok rfl rfl rfl rfl rfl) rfl ?_
                                refine L.ef (e_store (vs := [_, _]) tok rfl rfl rfl rfl hM.res rfl (by simp [Value.oneCell']) (by simp) ?_)
                                refine L.nil ?_
                                refine X.sq ?_
                                refine V.ret ?_
                                refine X.bkRet ?_
                                refine X.ctRet ?_
                                refine X.sqRet ?_
                                refine ret_c tok Yaam.results17 rfl rfl rfl (hM.res.set _ _).cells rfl ?_
                                exact ⟨_, [], _, rfl, Rs.nil _ _ _ _, by simp, fun nd hn => (by cases hn), hM.ext.set (Nat.le_refl _) _ _⟩
    ·
      rintro l w12 ⟨k2, v2, x2, l2, r2, rfl, hM⟩
      have hlo := hM.lo
      have hhi := hM.hi
      refine X.sq ?_
      refine V.seq ?_
      refine V.region ?_
      refine L.rd (rd_move rfl) rfl ?_
      refine L.rd (rd_move rfl) rfl ?_
      refine L.rd (rd_loadN tok rfl rfl rfl hM.bl.cells rfl) rfl ?_
      (refine L.rd (rd_indexSlice (sz := 5) tok rfl rfl rfl rfl rfl rfl rfl ?_) rfl ?_; omega)
      refine L.ef (e_store (vs := ndE (k2, v2, x2, l2, r2)) tok rfl rfl rfl rfl hM.ns_ rfl (ndE_one _) (by rw [nds_len, ndE_len]; simp only [Nat.zero_add, Int.toNat_natCast]; omega) ?_)
      (simp only [Nat.zero_add, Int.toNat_natCast])
      refine L.nil ?_
      refine X.sq ?_
      refine V.seq ?_
      have hput := fm_put ndE_len [] ns i (k2, v2, x2, l2, r2) (by omega)
      simp only [List.append_nil] at hput
      rw [hput]
      have hb12 := hM.ns_.set 80 ((ns.set i (k2, v2, x2, l2, r2)).flatMap ndE)
      have hres12 := hM.res.setNe (b' := w8.heap.size) (by omega) 80 ((ns.set i (k2, v2, x2, l2, r2)).flatMap ndE)
      have hE12 := hM.ext.set (b := w8.heap.size) (by omega) 80 ((ns.set i (k2, v2, x2, l2, r2)).flatMap ndE)
      generalize setB w12 w8.heap.size 80 ((ns.set i (k2, v2, x2, l2, r2)).flatMap ndE) = w13 at *
      refine V.region ?_
      refine L.rd (rd_move rfl) rfl ?_
      refine L.rd (rd_move rfl) rfl ?_
      refine L.rd (rd_subW rfl rfl) rfl ?_
      refine L.rd (rd_build (out := [_, _]) tok rfl rfl rfl rfl rfl) rfl ?_
      refine L.ef (e_store (vs := [_, _]) tok rfl rfl rfl rfl hres12 rfl (by simp [Value.oneCell']) (by simp) ?_)
      refine L.nil ?_
      refine X.sq ?_
      refine V.ret ?_
      refine ret_c tok Yaam.results17 rfl rfl rfl (hres12.set _ _).cells rfl ?_
      refine ⟨_, ns.set i (k2, v2, x2, l2, r2), _, rfl, ⟨nds_len _, _, _, by rw [List.length_set], .inr ⟨w8.heap.size, 0, rfl, ?_⟩⟩, by rw [List.length_set]; omega, fun nd hn => (List.mem_or_eq_of_mem_set hn).elim (hvw nd) (fun e => by subst e; exact hM.vw), hE12.set (Nat.le_refl _) _ _⟩
      exact (hb12.setNe (by omega) _ _).cells
end Go.Proofs.YbxaawGreat
