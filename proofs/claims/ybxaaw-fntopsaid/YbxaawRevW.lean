/-
  impl.reverseNodes and impl.layout, walked.
-/
import Derived.Test.YbxaawCanQ
import Derived.Test.YbxaawTermW
set_option linter.unusedVariables false
set_option linter.unusedSimpArgs false
set_option maxRecDepth 10000
namespace Go.Mw
/-- the outer i places on both sides are turned round -/
structure RvN (a c : List Nd) (i : Nat) : Prop where
  len : c.length = a.length
  at_ : ∀ p, p < a.length → c[p]? = if p < i ∨ a.length ≤ p + i then a[a.length - 1 - p]? else a[p]?
theorem RvN.start (a : List Nd) : RvN a a 0 := ⟨rfl, fun p hp => by rw [if_neg (by omega)]⟩
theorem RvN.done {a c : List Nd} {i : Nat} (h : RvN a c i) (hi : a.length ≤ 2 * i + 1) : c = a.reverse := by
  apply List.ext_getElem?
  intro p
  by_cases hp : p < a.length
  · rw [h.at_ p hp, List.getElem?_reverse hp]
    split
    · rfl
    · congr 1; omega
  · rw [List.getElem?_eq_none (by rw [h.len]; omega), List.getElem?_eq_none (by rw [List.length_reverse]; omega)]
theorem RvN.step {a c : List Nd} {i : Nat} {x y : Nd} (h : RvN a c i) (hi : 2 * i + 1 < a.length) (hx : a[i]? = some x) (hy : a[a.length - 1 - i]? = some y) : RvN a ((c.set i y).set (a.length - 1 - i) x) (i + 1) := by
  refine ⟨by simp [h.len], fun p hp => ?_⟩
  have hl := h.len
  by_cases h1 : p = a.length - 1 - i
  · subst h1
    rw [List.getElem?_set_self (by rw [List.length_set]; omega), if_pos (by omega), ← hx]
    congr 1; omega
  · rw [List.getElem?_set_ne (by omega)]
    by_cases h2 : p = i
    · subst h2
      rw [List.getElem?_set_self (by omega), if_pos (by omega), hy]
    · rw [List.getElem?_set_ne (by omega), h.at_ p hp]
      by_cases h3 : p < i ∨ a.length ≤ p + i
      · rw [if_pos h3, if_pos (by omega)]
      · rw [if_neg h3, if_neg (by omega)]
theorem RvN.mid {a c : List Nd} {i p : Nat} (h : RvN a c i) (h1 : i ≤ p) (h2 : p + i < a.length) : c[p]? = a[p]? := by rw [h.at_ p (by omega), if_neg (by omega)]
/-- nodes laid out up to i -/
def lay (ns : List Nd) (i : Nat) : List Nd := ns.take i ++ (ns.map zN).drop i
theorem lay_len (ns : List Nd) (i : Nat) : (lay ns i).length = ns.length := by simp [lay]; omega
theorem lay_get {ns : List Nd} {i : Nat} {nd : Nd} (h : ns[i]? = some nd) : (lay ns i)[i]? = some (zN nd) := by
  have hl := (List.getElem?_eq_some_iff.1 h).1
  unfold lay
  rw [List.getElem?_append_right (by simp; omega), List.getElem?_drop, List.length_take, Nat.min_eq_left (by omega), Nat.sub_self, Nat.add_zero, List.getElem?_map, h]
  rfl
theorem lay_set {ns : List Nd} {i : Nat} {nd : Nd} (h : ns[i]? = some nd) : (lay ns i).set i nd = lay ns (i + 1) := by
  have hl := (List.getElem?_eq_some_iff.1 h).1
  apply List.ext_getElem?
  intro p
  by_cases hp : p = i
  · subst hp
    rw [List.getElem?_set_self (by rw [lay_len]; omega)]
    unfold lay
    rw [List.getElem?_append_left (by simp; omega), List.getElem?_take_of_lt (by omega), h]
  · rw [List.getElem?_set_ne (by omega)]
    unfold lay
    by_cases h2 : p < i
    · rw [List.getElem?_append_left (by simp; omega), List.getElem?_append_left (by simp; omega), List.getElem?_take_of_lt h2, List.getElem?_take_of_lt (by omega)]
    · rw [List.getElem?_append_right (by simp; omega), List.getElem?_append_right (by simp; omega), List.getElem?_drop, List.getElem?_drop, List.length_take, List.length_take]
      congr 1; omega
end Go.Mw
namespace Go.Proofs.Ybxaaw
open Go.Mw

theorem revN_ok (a : List Nd) (g cap : Nat) (sp : List Value) (w : World) (hb0 : Bl w g 107 (a.flatMap ndE ++ sp)) (hn : a.length ≤ 1000000) : Ret Yaam.prog 93 [.slice (some ⟨g, 0, none⟩) a.length cap] w fun r w' => Bl w' g 107 (a.reverse.flatMap ndE ++ sp) ∧ Rg g (g + 1) w w' := by
  refine enter1 Yaam.func93 Yaam.ntmps93 (by kernel_rfl) rfl rfl ?_
  refine V.seq ?_
  refine V.region ?_
  refine L.rd (rd_assign rfl) rfl ?_
  refine L.nil ?_
  refine X.sq ?_
  refine V.seq ?_
  refine V.region ?_
  refine L.rd (rd_move rfl) rfl ?_
  refine L.rd (rd_lenSlice tok rfl rfl rfl) rfl ?_
  (refine L.rd (rd_sub3 rfl rfl ?_) rfl ?_; omega)
  refine L.rd (rd_assign rfl) rfl ?_
  refine L.nil ?_
  refine X.sq ?_
  refine V.block ?_
  refine V.loop (fun m l wr => ∃ (i : Nat) (c : List Nd) (j : Int), l = [(0, .slice (some ⟨g, 0, none⟩) a.length cap), (2, .int .i64 i), (3, .int .i64 j)] ∧ j = (a.length : Int) - 1 - i ∧ m = a.length - i ∧ i ≤ a.length ∧ RvN a c i ∧ Bl wr g 107 (c.flatMap ndE ++ sp) ∧ Rg g (g + 1) w wr) ?_ ?_
  ·
    exact ⟨_, _, (by repeat' (first | exact trivial | refine ⟨rfl, ?_⟩)), 0, a, _, rfl, by omega, rfl, by omega, RvN.start a, hb0, Rg.refl _ _ _⟩
  ·
    rintro m l wr ⟨i, c, j, rfl, hjj, rfl, hi, hR, hb, hG⟩
    have hcl := hR.len
    refine V.seq ?_
    refine V.seq ?_
    refine V.region ?_
    refine L.rd (rd_move rfl) rfl ?_
    refine L.rd (rd_move rfl) rfl ?_
    refine L.rd (rd_lss rfl rfl) rfl ?_
    refine L.nil ?_
    refine X.sq ?_
    first | refine V.cond rfl (fun h11 => ?_) (fun h11 => ?_) | refine V.condB rfl (fun h11 => ?_) (fun h11 => ?_)
    ·
      obtain ⟨x, hx⟩ := nth_of_lt a i (by omega)
      obtain ⟨y, hy⟩ := nth_of_lt a (a.length - 1 - i) (by omega)
      have hx' := (hR.mid (p := i) (by omega) (by omega)).trans hx
      have hy' := (hR.mid (p := a.length - 1 - i) (by omega) (by omega)).trans hy
      have hjx : j.toNat = a.length - 1 - i := by omega
      have hgl := hb.lt
      have hcx := hb.cells.sub (i * 5) (ndE x) (fun j u hu => app_some (fm_get ndE_len c i _ hx' j u hu))
      refine V.skip ?_
      refine X.sq ?_
      refine V.block ?_
      refine V.seq ?_
      refine V.region ?_
      refine L.rd (rd_move rfl) rfl ?_
      refine L.rd (rd_move rfl) rfl ?_
      (refine L.rd (rd_indexSlice (sz := 5) tok rfl rfl rfl rfl rfl rfl rfl ?_) rfl ?_; omega)
      refine L.rd (rd_loadN tok rfl rfl rfl hcx rfl) rfl ?_
      refine L.ef (e_alloc (cs := [_, _, _, _, _]) tok rfl rfl (by first | (simp only [size_addB, size_setB, size_drew]; rfl) | rfl) rfl ?_)
      refine L.ef (e_store (vs := [_, _, _, _, _]) tok rfl rfl rfl rfl (by (repeat (first | assumption | (refine Bl.new' ?_ _ _; first | with_reducible rfl | (simp only [size_addB, size_setB, size_drew]; done)) | apply Bl.add | apply Bl.drew | (apply Bl.setNe; omega) | (refine Bl.set' ?_ _ _; (try simp only [size_addB, size_setB, size_drew]); omega)))) rfl (by simp [Value.oneCell']) (by simp) ?_)
      refine L.nil ?_
      refine X.sq ?_
      refine V.seq ?_
      generalize hw5 : setB _ _ _ _ = w5
      have hba : Bl w5 wr.heap.size 107 (ndE x) := by rw [← hw5]; refine Bl.set' ?_ _ _; rw [size_addB]; omega
      have he5 : Ext wr.heap.size wr w5 := by rw [← hw5]; exact ((Ext.refl _ _).addNew _ _).set (Nat.le_refl _) _ _
      have hb5 := he5.bl hb.lt hb
      have hs5 := hba.lt
      have hcy := hb5.cells.sub ((a.length - 1 - i) * 5) (ndE y) (fun j u hu => app_some (fm_get ndE_len c _ _ hy' j u hu))
      rw [← hjx] at hcy
      refine V.region ?_
      refine L.rd (rd_move rfl) rfl ?_
      refine L.rd (rd_move rfl) rfl ?_
      (refine L.rd (rd_indexSlice (sz := 5) tok rfl rfl rfl rfl rfl rfl rfl ?_) rfl ?_; omega)
      refine L.rd (rd_loadN tok rfl rfl rfl hcy rfl) rfl ?_
      refine L.ef (e_alloc (cs := [_, _, _, _, _]) tok rfl rfl (by first | (simp only [size_addB, size_setB, size_drew]; rfl) | rfl) rfl ?_)
      refine L.ef (e_store (vs := [_, _, _, _, _]) tok rfl rfl rfl rfl (by (repeat (first | assumption | (refine Bl.new' ?_ _ _; first | with_reducible rfl | (simp only [size_addB, size_setB, size_drew]; done)) | apply Bl.add | apply Bl.drew | (apply Bl.setNe; omega) | (refine Bl.set' ?_ _ _; (try simp only [size_addB, size_setB, size_drew]); omega)))) rfl (by simp [Value.oneCell']) (by simp) ?_)
      refine L.nil ?_
      refine X.sq ?_
      refine V.seq ?_
      generalize hw6 : setB _ _ _ _ = w6
      have hbb : Bl w6 w5.heap.size 107 (ndE y) := by rw [← hw6]; refine Bl.set' ?_ _ _; rw [size_addB]; omega
      have he6 : Ext w5.heap.size w5 w6 := by rw [← hw6]; exact ((Ext.refl _ _).addNew _ _).set (Nat.le_refl _) _ _
      have hb6 := he6.bl hb5.lt hb5
      have hba6 := he6.bl hba.lt hba
      have hlc := fm_length ndE_len c
      refine V.region ?_
      refine L.rd (rd_move rfl) rfl ?_
      refine L.rd (rd_move rfl) rfl ?_
      refine L.rd (rd_loadN tok rfl rfl rfl hbb.cells rfl) rfl ?_
      (refine L.rd (rd_indexSlice (sz := 5) tok rfl rfl rfl rfl rfl rfl rfl ?_) rfl ?_; omega)
      refine L.ef (e_store (vs := [_, _, _, _, _]) tok rfl rfl rfl rfl hb6 rfl (by simp [Value.oneCell']) (by rw [List.length_append, hlc, hcl]; simp; omega) ?_)
      refine L.nil ?_
      refine X.sq ?_
      refine V.seq ?_
      have hb7 := Bl.set hb6 107 (putAt (c.flatMap ndE ++ sp) (i * 5) (ndE y))
      have hG7 : Rg g (g + 1) w6 (setB w6 g 107 (putAt (c.flatMap ndE ++ sp) (i * 5) (ndE y))) := Rg.set ⟨Nat.le_refl _, by omega⟩ _ _
      have hba7 := hba6.setNe (b' := g) (by omega) 107 (putAt (c.flatMap ndE ++ sp) (i * 5) (ndE y))
      rw [fm_put ndE_len sp c i y (by omega)] at hb7 hG7 hba7
      have e7 : setB w6 g 107 (putAt (c.flatMap ndE ++ sp) (0 + ((i : Int)).toNat * 5) (ndE y)) = setB w6 g 107 ((c.set i y).flatMap ndE ++ sp) := by rw [Nat.zero_add, Int.toNat_natCast, fm_put ndE_len sp c i y (by omega)]
      simp only [ndE] at e7
      try rw [e7]
      generalize setB w6 g 107 ((c.set i y).flatMap ndE ++ sp) = w7 at hb7 hG7 hba7 ⊢
      have hlc7 := fm_length ndE_len (c.set i y)
      refine V.region ?_
      refine L.rd (rd_move rfl) rfl ?_
      refine L.rd (rd_move rfl) rfl ?_
      refine L.rd (rd_loadN tok rfl rfl rfl hba7.cells rfl) rfl ?_
      (refine L.rd (rd_indexSlice (sz := 5) tok rfl rfl rfl rfl rfl rfl rfl ?_) rfl ?_; omega)
      refine L.ef (e_store (vs := [_, _, _, _, _]) tok rfl rfl rfl rfl hb7 rfl (by simp [Value.oneCell']) (by rw [List.length_append, hlc7, List.length_set, hcl, hjx]; simp; omega) ?_)
      refine L.nil ?_
      refine X.sq ?_
      refine V.seq ?_
      have hb8 := Bl.set hb7 107 (putAt ((c.set i y).flatMap ndE ++ sp) ((a.length - 1 - i) * 5) (ndE x))
      have hG8 : Rg g (g + 1) w7 (setB w7 g 107 (putAt ((c.set i y).flatMap ndE ++ sp) ((a.length - 1 - i) * 5) (ndE x))) := Rg.set ⟨Nat.le_refl _, by omega⟩ _ _
      rw [fm_put ndE_len sp (c.set i y) _ x (by rw [List.length_set]; omega)] at hb8 hG8
      have e8 : setB w7 g 107 (putAt ((c.set i y).flatMap ndE ++ sp) (0 + j.toNat * 5) (ndE x)) = setB w7 g 107 (((c.set i y).set (a.length - 1 - i) x).flatMap ndE ++ sp) := by rw [Nat.zero_add, hjx, fm_put ndE_len sp (c.set i y) _ x (by rw [List.length_set]; omega)]
      simp only [ndE] at e8
      try rw [e8]
      generalize setB w7 g 107 (((c.set i y).set (a.length - 1 - i) x).flatMap ndE ++ sp) = w8 at hb8 hG8 ⊢
      refine V.region ?_
      refine L.rd (rd_move rfl) rfl ?_
      (refine L.rd (rd_add3 rfl rfl ?_) rfl ?_; omega)
      refine L.rd (rd_assign rfl) rfl ?_
      refine L.nil ?_
      refine X.sq ?_
      refine V.region ?_
      refine L.rd (rd_move rfl) rfl ?_
      (refine L.rd (rd_sub3 rfl rfl ?_) rfl ?_; omega)
      refine L.rd (rd_assign rfl) rfl ?_
      refine L.nil ?_
      refine X.bk ?_
      exact X.lp ⟨_, _, by omega, (by repeat' (first | exact trivial | refine ⟨rfl, ?_⟩)), i + 1, _, _, rfl, by omega, rfl, by omega, hR.step (by omega) hx hy, hb8, (((hG.trans (Rg.ext he5 _ _)).trans (Rg.ext he6 _ _)).trans hG7).trans hG8⟩
    ·
      refine V.exit ?_
      refine X.sqExit ?_
      refine X.lpExit ?_
      refine X.bkHere ?_
      refine ret_0 Yaam.results93 ?_
      have := hR.done (by omega)
      subst this
      exact ⟨hb, hG⟩

theorem layout_ok (t : Tre) (hw : Wt t) (hz : tsz t ≤ 500000) (g cap nn : Nat) (hnn : nn = (flat t 0).length) (sp : List Value) (w : World) (hb0 : Bl w g 107 (((flat t 0).map zN).flatMap ndE ++ sp)) : Ret Yaam.prog 94 [.slice (some ⟨g, 0, none⟩) nn cap] w fun r w' => Bl w' g 107 ((flat t 0).flatMap ndE ++ sp) ∧ Rg g (g + 1) w w' := by
  have hfl := flat_len t 0
  have htp := tsz_pos t
  have hgd := gd_tree hw
  have hsl := szs_len t
  have hsm := szs_mem t
  subst hnn
  generalize hns : flat t 0 = ns at *
  generalize hSS : szs t = S at *
  refine enter1 Yaam.func94 Yaam.ntmps94 (by kernel_rfl) rfl rfl ?_
  refine V.seq ?_
  refine V.region ?_
  refine L.rd (rd_move rfl) rfl ?_
  refine L.rd (rd_lenSlice tok rfl rfl rfl) rfl ?_
  refine L.ef (e_make (e := 3) (zs := [_]) (m := ns.length) (c := ns.length) tok rfl rfl rfl rfl rfl rfl rfl rfl (by first | (simp only [size_addB, size_setB, size_drew]; rfl) | rfl) rfl (by omega) (by simp only []; omega) (by omega) ?_)
  refine L.rd (rd_assign rfl) rfl ?_
  refine L.nil ?_
  refine X.sq ?_
  refine V.seq ?_
  refine V.region ?_
  refine L.rd (rd_assign rfl) rfl ?_
  refine L.nil ?_
  refine X.sq ?_
  refine V.block ?_
  refine V.loop (fun m l w2 => ∃ (i : Nat) (G : List Int), l = [(0, .slice (some ⟨g, 0, none⟩) ns.length cap), (2, .slice (some ⟨w.heap.size, 0, none⟩) ns.length ns.length), (3, .int .i64 i)] ∧ m = ns.length - i ∧ i ≤ ns.length ∧ Rg g (g + 1) w w2 ∧ Bl w2 g 107 ((lay ns i).flatMap ndE ++ sp) ∧ Bl w2 w.heap.size 3 (iC .i64 G) ∧ G.length = ns.length ∧ G.take i = S.take i) ?_ ?_
  ·
    exact ⟨_, _, (by repeat' (first | exact trivial | refine ⟨rfl, ?_⟩)), 0, List.replicate ns.length 0, rfl, rfl, by omega, Rg.ext ((Ext.refl _ _).addNew _ _) _ _, by have := hb0.add 3 ((List.replicate ns.length [Value.int .i64 0]).flatten); simpa [lay] using this, by have := Bl.new w 3 ((List.replicate ns.length [Value.int .i64 0]).flatten); rw [flat_rep1] at this; simpa [iC] using this, by simp, by simp⟩
  ·
    rintro m l w2 ⟨i, G, rfl, rfl, hi, hR, hb, hG, hGl, htk⟩
    have hgw := hb0.lt
    have hlc := fm_length ndE_len (lay ns i)
    rw [lay_len] at hlc
    refine V.seq ?_
    refine V.seq ?_
    refine V.region ?_
    refine L.rd (rd_move rfl) rfl ?_
    refine L.rd (rd_move rfl) rfl ?_
    refine L.rd (rd_lenSlice tok rfl rfl rfl) rfl ?_
    refine L.rd (rd_lss rfl rfl) rfl ?_
    refine L.nil ?_
    refine X.sq ?_
    first | refine V.cond rfl (fun h14 => ?_) (fun h14 => ?_) | refine V.condB rfl (fun h14 => ?_) (fun h14 => ?_)
    ·
      obtain ⟨⟨k, v, x, lf_, rt⟩, ht⟩ := nth_of_lt ns i (by omega)
      have hok := hgd.ok i _ ht
      have hcx := hb.cells.sub (i * 5) (ndE (k, v, x, 0, 0)) (fun j u hu => app_some (fm_get ndE_len (lay ns i) i _ (lay_get ht) j u hu))
      have hA : (k = 1 ∧ lf_ = -1 ∧ rt = -1 ∧ S[i]? = some 1) ∨ (k = 2 ∧ lf_ = -1 ∧ rt = -1 ∧ S[i]? = some 1) ∨ (∃ a, 1 ≤ i ∧ S[i - 1]? = some a ∧ S[i]? = some (1 + a) ∧ (k = 3 ∨ k = 7) ∧ lf_ = (i : Int) - 1 ∧ rt = -1) ∨ (∃ a b, ∃ j : Nat, 1 ≤ i ∧ S[i - 1]? = some a ∧ (j : Int) = (i : Int) - 1 - a ∧ S[j]? = some b ∧ j < i ∧ lf_ = (j : Int) ∧ S[i]? = some (1 + a + b) ∧ (k = 4 ∨ k = 5 ∨ k = 6) ∧ rt = (i : Int) - 1) := by
        rcases hok with ⟨h1, h2, h3, h4, h5⟩ | ⟨h1, h2, h3, h4, h5, h6, h7⟩ | ⟨a, h0, h1, h2, h3, h4, h5, h6⟩ | ⟨a, b, j, h0, h1, h2, h3, h4, h5, h6, h7, h8, h9, h10⟩
        · exact .inl ⟨h1, h3, h4, h5⟩
        · exact .inr (.inl ⟨h1, h5, h6, h7⟩)
        · exact .inr (.inr (.inl ⟨a, h0, h1, h6, or_map h3 (fun e => e.1) (fun e => e.1), h4, h5⟩))
        · exact .inr (.inr (.inr ⟨a, b, j, h0, h1, h2, h3, h4, h8, h10, h7, h9⟩))
      refine V.skip ?_
      refine X.sq ?_
      refine V.seq ?_
      refine V.block ?_
      refine V.seq ?_
      refine V.region ?_
      refine L.rd (rd_move rfl) rfl ?_
      refine L.rd (rd_move rfl) rfl ?_
      (refine L.rd (rd_indexSlice (sz := 5) tok rfl rfl rfl rfl rfl rfl rfl ?_) rfl ?_; omega)
      refine L.rd (rd_fieldAddr tok rfl rfl rfl rfl rfl rfl) rfl ?_
      refine L.rd (rd_load1 tok rfl rfl rfl (cells_at (i := 0) hcx rfl (by simp))) rfl ?_
      refine L.rd (rd_assign rfl) rfl ?_
      refine L.nil ?_
      refine X.sq ?_
      refine V.seq ?_
      refine V.region ?_
      refine L.rd (rd_assign rfl) rfl ?_
      refine L.nil ?_
      refine X.sq ?_
      refine V.seq ?_
      refine V.region ?_
      refine L.rd (rd_assign rfl) rfl ?_
      refine L.nil ?_
      refine X.sq ?_
      refine V.seq ?_
      refine V.region ?_
      refine L.rd (rd_assign rfl) rfl ?_
      refine L.nil ?_
      refine X.sq ?_
      refine V.seq ?_
      refine V.seq ?_
      have hbr : ∀ a : Int, S[i - 1]? = some a → 1 ≤ a ∧ a ≤ tsz t := fun a h => hsm a (List.mem_of_getElem? h)
      refine V.region ?_
      refine L.rd (rd_move rfl) rfl ?_
      refine L.rd (rd_eql rfl rfl) rfl ?_
      refine L.rd (rd_move rfl) rfl ?_
      first | refine L.partG rfl rfl (fun g24 => ?_) (fun g24 => ?_) | refine L.partGB rfl rfl (fun g24 => ?_) (fun g24 => ?_)
      ·
        refine L.no rfl rfl rfl rfl ?_
        refine L.no rfl rfl rfl rfl ?_
        refine L.rd (rd_pickT rfl rfl) rfl ?_
        refine L.rd (rd_move rfl) rfl ?_
        refine L.yes rfl rfl ?_
        refine L.rd (rd_move rfl) rfl ?_
        refine L.yes rfl rfl ?_
        refine L.rd (rd_geq rfl rfl) rfl ?_
        refine L.rd (rd_pickT rfl rfl) rfl ?_
        refine L.nil ?_
        refine X.sq ?_
        refine V.cut (fun l w' => ∃ s : Int, l = [(0, .slice (some ⟨g, 0, none⟩) ns.length cap), (2, .slice (some ⟨w.heap.size, 0, none⟩) ns.length ns.length), (3, .int .i64 i), (5, .int .i64 lf_), (6, .int .i64 rt), (7, .int .i64 s)] ∧ S[i]? = some s ∧ w2 = w') ?_ ?_
        ·
          first | refine V.cond rfl (fun h31 => ?_) (fun h31 => ?_) | refine V.condB rfl (fun h31 => ?_) (fun h31 => ?_)
          ·
            refine V.seq ?_
            obtain ⟨a, hi1, ha, hs, hlf, hrt⟩ : ∃ a, 1 ≤ i ∧ S[i - 1]? = some a ∧ S[i]? = some (1 + a) ∧ lf_ = (i : Int) - 1 ∧ rt = -1 := by
              rcases hA with ⟨h1, h2⟩ | ⟨h1, h2⟩ | ⟨a, h0, h1, h2, h3, h4, h5⟩ | ⟨a, b, j, h0, h1, h2, h3, h4, h5, h6, h7, h8⟩
              · omega
              · omega
              · exact ⟨a, h0, h1, h2, h4, h5⟩
              · omega
            subst hlf hrt
            have hga := get_of_take htk (j := i - 1) (by omega)
            rw [ha] at hga
            have hab := hbr a ha
            have hix : ((i : Int) - 1).toNat = i - 1 := by omega
            refine V.region ?_
            refine L.rd (rd_move rfl) rfl ?_
            (refine L.rd (rd_sub3 rfl rfl ?_) rfl ?_; omega)
            refine L.rd (rd_assign rfl) rfl ?_
            refine L.nil ?_
            refine X.sq ?_
            refine V.region ?_
            refine L.rd (rd_move rfl) rfl ?_
            refine L.rd (rd_move rfl) rfl ?_
            (refine L.rd (rd_sub3 rfl rfl ?_) rfl ?_; omega)
            (refine L.rd (rd_indexSlice (sz := 1) tok rfl rfl rfl rfl rfl rfl rfl ?_) rfl ?_; omega)
            refine L.rd (rd_load1 tok rfl rfl rfl (cell_at (i := ((i : Int) - 1).toNat) hG (by rw [hix]; exact iC_get hga) (by simp))) rfl ?_
            (refine L.rd (rd_add3 rfl rfl ?_) rfl ?_; omega)
            refine L.rd (rd_assign rfl) rfl ?_
            refine L.nil ?_
            exact X.ct ⟨_, (by repeat' (first | exact trivial | refine ⟨rfl, ?_⟩)), 1 + a, rfl, hs, rfl⟩
          ·
            refine V.seq ?_
            refine V.region ?_
            refine L.rd (rd_move rfl) rfl ?_
            refine L.rd (rd_eql rfl rfl) rfl ?_
            refine L.rd (rd_move rfl) rfl ?_
            first | refine L.partG rfl rfl (fun g42 => ?_) (fun g42 => ?_) | refine L.partGB rfl rfl (fun g42 => ?_) (fun g42 => ?_)
            ·
              refine L.no rfl rfl rfl rfl ?_
              refine L.no rfl rfl rfl rfl ?_
              refine L.rd (rd_pickT rfl rfl) rfl ?_
              refine L.rd (rd_move rfl) rfl ?_
              refine L.no rfl rfl rfl rfl ?_
              refine L.no rfl rfl rfl rfl ?_
              refine L.rd (rd_pickT rfl rfl) rfl ?_
              refine L.rd (rd_move rfl) rfl ?_
              refine L.yes rfl rfl ?_
              refine L.rd (rd_move rfl) rfl ?_
              refine L.yes rfl rfl ?_
              refine L.rd (rd_geq rfl rfl) rfl ?_
              refine L.rd (rd_pickT rfl rfl) rfl ?_
              refine L.nil ?_
              refine X.sq ?_
              first | refine V.cond rfl (fun h53 => ?_) (fun h53 => ?_) | refine V.condB rfl (fun h53 => ?_) (fun h53 => ?_)
              ·
                refine V.seq ?_
                obtain ⟨a, b, j, hi1, ha, hj, hb_, hji, hlf, hs, hrt⟩ : ∃ a b, ∃ j : Nat, 1 ≤ i ∧ S[i - 1]? = some a ∧ (j : Int) = (i : Int) - 1 - a ∧ S[j]? = some b ∧ j < i ∧ lf_ = (i : Int) - 1 - a ∧ S[i]? = some (1 + a + b) ∧ rt = (i : Int) - 1 := by
                  rcases hA with ⟨h1, h2⟩ | ⟨h1, h2⟩ | ⟨a, h0, h1, h2, h3, h4, h5⟩ | ⟨a, b, j, h0, h1, h2, h3, h4, h5, h6, h7, h8⟩
                  · omega
                  · omega
                  · omega
                  · exact ⟨a, b, j, h0, h1, h2, h3, h4, by omega, h6, h8⟩
                subst hlf hrt
                have hga := get_of_take htk (j := i - 1) (by omega)
                rw [ha] at hga
                have hgb := get_of_take htk (j := j) hji
                rw [hb_] at hgb
                have hab := hbr a ha
                have hbb := hsm b (List.mem_of_getElem? hb_)
                have hix : ((i : Int) - 1).toNat = i - 1 := by omega
                have hjx : ((i : Int) - 1 - a).toNat = j := by omega
                refine V.region ?_
                refine L.rd (rd_move rfl) rfl ?_
                (refine L.rd (rd_sub3 rfl rfl ?_) rfl ?_; omega)
                refine L.rd (rd_assign rfl) rfl ?_
                refine L.nil ?_
                refine X.sq ?_
                refine V.seq ?_
                refine V.region ?_
                refine L.rd (rd_move rfl) rfl ?_
                (refine L.rd (rd_sub3 rfl rfl ?_) rfl ?_; omega)
                refine L.rd (rd_move rfl) rfl ?_
                refine L.rd (rd_move rfl) rfl ?_
                (refine L.rd (rd_sub3 rfl rfl ?_) rfl ?_; omega)
                (refine L.rd (rd_indexSlice (sz := 1) tok rfl rfl rfl rfl rfl rfl rfl ?_) rfl ?_; omega)
                refine L.rd (rd_load1 tok rfl rfl rfl (cell_at (i := ((i : Int) - 1).toNat) hG (by rw [hix]; exact iC_get hga) (by simp))) rfl ?_
                (refine L.rd (rd_sub3 rfl rfl ?_) rfl ?_; omega)
                refine L.rd (rd_assign rfl) rfl ?_
                refine L.nil ?_
                refine X.sq ?_
                refine V.seq ?_
                refine V.region ?_
                refine L.rd (rd_move rfl) rfl ?_
                refine L.rd (rd_move rfl) rfl ?_
                (refine L.rd (rd_sub3 rfl rfl ?_) rfl ?_; omega)
                (refine L.rd (rd_indexSlice (sz := 1) tok rfl rfl rfl rfl rfl rfl rfl ?_) rfl ?_; omega)
                refine L.rd (rd_load1 tok rfl rfl rfl (cell_at (i := ((i : Int) - 1).toNat) hG (by rw [hix]; exact iC_get hga) (by simp))) rfl ?_
                (refine L.rd (rd_add3 rfl rfl ?_) rfl ?_; omega)
                refine L.rd (rd_assign rfl) rfl ?_
                refine L.nil ?_
                refine X.sq ?_
                refine V.seq ?_
                refine V.region ?_
                refine L.rd (rd_move rfl) rfl ?_
                refine L.rd (rd_geq rfl rfl) rfl ?_
                refine L.nil ?_
                refine X.sq ?_
                first | refine V.cond rfl (fun h71 => ?_) (fun h71 => ?_) | refine V.condB rfl (fun h71 => ?_) (fun h71 => ?_)
                ·
                  refine V.region ?_
                  refine L.rd (rd_move rfl) rfl ?_
                  refine L.rd (rd_move rfl) rfl ?_
                  refine L.rd (rd_move rfl) rfl ?_
                  (refine L.rd (rd_indexSlice (sz := 1) tok rfl rfl rfl rfl rfl rfl rfl ?_) rfl ?_; omega)
                  refine L.rd (rd_load1 tok rfl rfl rfl (cell_at (i := ((i : Int) - 1 - a).toNat) hG (by rw [hjx]; exact iC_get hgb) (by simp))) rfl ?_
                  (refine L.rd (rd_add3 rfl rfl ?_) rfl ?_; omega)
                  refine L.rd (rd_assign rfl) rfl ?_
                  refine L.nil ?_
                  exact X.ct ⟨_, (by repeat' (first | exact trivial | refine ⟨rfl, ?_⟩)), 1 + a + b, rfl, hs, rfl⟩
                ·
                  omega
              ·
                refine V.skip ?_
                obtain ⟨hlf, hrt, hs⟩ : lf_ = -1 ∧ rt = -1 ∧ S[i]? = some 1 := by
                  rcases hA with ⟨h1, h2⟩ | ⟨h1, h2⟩ | ⟨a, h0, h1, h2, h3, h4, h5⟩ | ⟨a, b, j, h0, h1, h2, h3, h4, h5, h6, h7, h8⟩
                  · exact h2
                  · exact h2
                  · omega
                  · omega
                subst hlf hrt
                exact X.ct ⟨_, (by repeat' (first | exact trivial | refine ⟨rfl, ?_⟩)), 1, rfl, hs, rfl⟩
            ·
              refine L.yes rfl rfl ?_
              refine L.rd (rd_move rfl) rfl ?_
              refine L.yes rfl rfl ?_
              refine L.rd (rd_eql rfl rfl) rfl ?_
              refine L.rd (rd_pickF rfl rfl) rfl ?_
              refine L.rd (rd_move rfl) rfl ?_
              first | refine L.partG rfl rfl (fun g46 => ?_) (fun g46 => ?_) | refine L.partGB rfl rfl (fun g46 => ?_) (fun g46 => ?_)
              ·
                refine L.no rfl rfl rfl rfl ?_
                refine L.no rfl rfl rfl rfl ?_
                refine L.rd (rd_pickT rfl rfl) rfl ?_
                refine L.rd (rd_move rfl) rfl ?_
                refine L.yes rfl rfl ?_
                refine L.rd (rd_move rfl) rfl ?_
                refine L.yes rfl rfl ?_
                refine L.rd (rd_geq rfl rfl) rfl ?_
                refine L.rd (rd_pickT rfl rfl) rfl ?_
                refine L.nil ?_
                refine X.sq ?_
                first | refine V.cond rfl (fun h53 => ?_) (fun h53 => ?_) | refine V.condB rfl (fun h53 => ?_) (fun h53 => ?_)
                ·
                  refine V.seq ?_
                  obtain ⟨a, b, j, hi1, ha, hj, hb_, hji, hlf, hs, hrt⟩ : ∃ a b, ∃ j : Nat, 1 ≤ i ∧ S[i - 1]? = some a ∧ (j : Int) = (i : Int) - 1 - a ∧ S[j]? = some b ∧ j < i ∧ lf_ = (i : Int) - 1 - a ∧ S[i]? = some (1 + a + b) ∧ rt = (i : Int) - 1 := by
                    rcases hA with ⟨h1, h2⟩ | ⟨h1, h2⟩ | ⟨a, h0, h1, h2, h3, h4, h5⟩ | ⟨a, b, j, h0, h1, h2, h3, h4, h5, h6, h7, h8⟩
                    · omega
                    · omega
                    · omega
                    · exact ⟨a, b, j, h0, h1, h2, h3, h4, by omega, h6, h8⟩
                  subst hlf hrt
                  have hga := get_of_take htk (j := i - 1) (by omega)
                  rw [ha] at hga
                  have hgb := get_of_take htk (j := j) hji
                  rw [hb_] at hgb
                  have hab := hbr a ha
                  have hbb := hsm b (List.mem_of_getElem? hb_)
                  have hix : ((i : Int) - 1).toNat = i - 1 := by omega
                  have hjx : ((i : Int) - 1 - a).toNat = j := by omega
                  refine V.region ?_
                  refine L.rd (rd_move rfl) rfl ?_
                  (refine L.rd (rd_sub3 rfl rfl ?_) rfl ?_; omega)
                  refine L.rd (rd_assign rfl) rfl ?_
                  refine L.nil ?_
                  refine X.sq ?_
                  refine V.seq ?_
                  refine V.region ?_
                  refine L.rd (rd_move rfl) rfl ?_
                  (refine L.rd (rd_sub3 rfl rfl ?_) rfl ?_; omega)
                  refine L.rd (rd_move rfl) rfl ?_
                  refine L.rd (rd_move rfl) rfl ?_
                  (refine L.rd (rd_sub3 rfl rfl ?_) rfl ?_; omega)
                  (refine L.rd (rd_indexSlice (sz := 1) tok rfl rfl rfl rfl rfl rfl rfl ?_) rfl ?_; omega)
                  refine L.rd (rd_load1 tok rfl rfl rfl (cell_at (i := ((i : Int) - 1).toNat) hG (by rw [hix]; exact iC_get hga) (by simp))) rfl ?_
                  (refine L.rd (rd_sub3 rfl rfl ?_) rfl ?_; omega)
                  refine L.rd (rd_assign rfl) rfl ?_
                  refine L.nil ?_
                  refine X.sq ?_
                  refine V.seq ?_
                  refine V.region ?_
                  refine L.rd (rd_move rfl) rfl ?_
                  refine L.rd (rd_move rfl) rfl ?_
                  (refine L.rd (rd_sub3 rfl rfl ?_) rfl ?_; omega)
                  (refine L.rd (rd_indexSlice (sz := 1) tok rfl rfl rfl rfl rfl rfl rfl ?_) rfl ?_; omega)
                  refine L.rd (rd_load1 tok rfl rfl rfl (cell_at (i := ((i : Int) - 1).toNat) hG (by rw [hix]; exact iC_get hga) (by simp))) rfl ?_
                  (refine L.rd (rd_add3 rfl rfl ?_) rfl ?_; omega)
                  refine L.rd (rd_assign rfl) rfl ?_
                  refine L.nil ?_
                  refine X.sq ?_
                  refine V.seq ?_
                  refine V.region ?_
                  refine L.rd (rd_move rfl) rfl ?_
                  refine L.rd (rd_geq rfl rfl) rfl ?_
                  refine L.nil ?_
                  refine X.sq ?_
                  first | refine V.cond rfl (fun h71 => ?_) (fun h71 => ?_) | refine V.condB rfl (fun h71 => ?_) (fun h71 => ?_)
                  ·
                    refine V.region ?_
                    refine L.rd (rd_move rfl) rfl ?_
                    refine L.rd (rd_move rfl) rfl ?_
                    refine L.rd (rd_move rfl) rfl ?_
                    (refine L.rd (rd_indexSlice (sz := 1) tok rfl rfl rfl rfl rfl rfl rfl ?_) rfl ?_; omega)
                    refine L.rd (rd_load1 tok rfl rfl rfl (cell_at (i := ((i : Int) - 1 - a).toNat) hG (by rw [hjx]; exact iC_get hgb) (by simp))) rfl ?_
                    (refine L.rd (rd_add3 rfl rfl ?_) rfl ?_; omega)
                    refine L.rd (rd_assign rfl) rfl ?_
                    refine L.nil ?_
                    exact X.ct ⟨_, (by repeat' (first | exact trivial | refine ⟨rfl, ?_⟩)), 1 + a + b, rfl, hs, rfl⟩
                  ·
                    omega
                ·
                  refine V.skip ?_
                  obtain ⟨hlf, hrt, hs⟩ : lf_ = -1 ∧ rt = -1 ∧ S[i]? = some 1 := by
                    rcases hA with ⟨h1, h2⟩ | ⟨h1, h2⟩ | ⟨a, h0, h1, h2, h3, h4, h5⟩ | ⟨a, b, j, h0, h1, h2, h3, h4, h5, h6, h7, h8⟩
                    · exact h2
                    · exact h2
                    · omega
                    · omega
                  subst hlf hrt
                  exact X.ct ⟨_, (by repeat' (first | exact trivial | refine ⟨rfl, ?_⟩)), 1, rfl, hs, rfl⟩
              ·
                refine L.yes rfl rfl ?_
                refine L.rd (rd_move rfl) rfl ?_
                refine L.yes rfl rfl ?_
                refine L.rd (rd_eql rfl rfl) rfl ?_
                refine L.rd (rd_pickF rfl rfl) rfl ?_
                refine L.rd (rd_move rfl) rfl ?_
                first | refine L.partG rfl rfl (fun g50 => ?_) (fun g50 => ?_) | refine L.partGB rfl rfl (fun g50 => ?_) (fun g50 => ?_)
                ·
                  refine L.yes rfl rfl ?_
                  refine L.rd (rd_move rfl) rfl ?_
                  refine L.yes rfl rfl ?_
                  refine L.rd (rd_geq rfl rfl) rfl ?_
                  refine L.rd (rd_pickT rfl rfl) rfl ?_
                  refine L.nil ?_
                  refine X.sq ?_
                  first | refine V.cond rfl (fun h53 => ?_) (fun h53 => ?_) | refine V.condB rfl (fun h53 => ?_) (fun h53 => ?_)
                  ·
                    refine V.seq ?_
                    obtain ⟨a, b, j, hi1, ha, hj, hb_, hji, hlf, hs, hrt⟩ : ∃ a b, ∃ j : Nat, 1 ≤ i ∧ S[i - 1]? = some a ∧ (j : Int) = (i : Int) - 1 - a ∧ S[j]? = some b ∧ j < i ∧ lf_ = (i : Int) - 1 - a ∧ S[i]? = some (1 + a + b) ∧ rt = (i : Int) - 1 := by
                      rcases hA with ⟨h1, h2⟩ | ⟨h1, h2⟩ | ⟨a, h0, h1, h2, h3, h4, h5⟩ | ⟨a, b, j, h0, h1, h2, h3, h4, h5, h6, h7, h8⟩
                      · omega
                      · omega
                      · omega
                      · exact ⟨a, b, j, h0, h1, h2, h3, h4, by omega, h6, h8⟩
                    subst hlf hrt
                    have hga := get_of_take htk (j := i - 1) (by omega)
                    rw [ha] at hga
                    have hgb := get_of_take htk (j := j) hji
                    rw [hb_] at hgb
                    have hab := hbr a ha
                    have hbb := hsm b (List.mem_of_getElem? hb_)
                    have hix : ((i : Int) - 1).toNat = i - 1 := by omega
                    have hjx : ((i : Int) - 1 - a).toNat = j := by omega
                    refine V.region ?_
                    refine L.rd (rd_move rfl) rfl ?_
                    (refine L.rd (rd_sub3 rfl rfl ?_) rfl ?_; omega)
                    refine L.rd (rd_assign rfl) rfl ?_
                    refine L.nil ?_
                    refine X.sq ?_
                    refine V.seq ?_
                    refine V.region ?_
                    refine L.rd (rd_move rfl) rfl ?_
                    (refine L.rd (rd_sub3 rfl rfl ?_) rfl ?_; omega)
                    refine L.rd (rd_move rfl) rfl ?_
                    refine L.rd (rd_move rfl) rfl ?_
                    (refine L.rd (rd_sub3 rfl rfl ?_) rfl ?_; omega)
                    (refine L.rd (rd_indexSlice (sz := 1) tok rfl rfl rfl rfl rfl rfl rfl ?_) rfl ?_; omega)
                    refine L.rd (rd_load1 tok rfl rfl rfl (cell_at (i := ((i : Int) - 1).toNat) hG (by rw [hix]; exact iC_get hga) (by simp))) rfl ?_
                    (refine L.rd (rd_sub3 rfl rfl ?_) rfl ?_; omega)
                    refine L.rd (rd_assign rfl) rfl ?_
                    refine L.nil ?_
                    refine X.sq ?_
                    refine V.seq ?_
                    refine V.region ?_
                    refine L.rd (rd_move rfl) rfl ?_
                    refine L.rd (rd_move rfl) rfl ?_
                    (refine L.rd (rd_sub3 rfl rfl ?_) rfl ?_; omega)
                    (refine L.rd (rd_indexSlice (sz := 1) tok rfl rfl rfl rfl rfl rfl rfl ?_) rfl ?_; omega)
                    refine L.rd (rd_load1 tok rfl rfl rfl (cell_at (i := ((i : Int) - 1).toNat) hG (by rw [hix]; exact iC_get hga) (by simp))) rfl ?_
                    (refine L.rd (rd_add3 rfl rfl ?_) rfl ?_; omega)
                    refine L.rd (rd_assign rfl) rfl ?_
                    refine L.nil ?_
                    refine X.sq ?_
                    refine V.seq ?_
                    refine V.region ?_
                    refine L.rd (rd_move rfl) rfl ?_
                    refine L.rd (rd_geq rfl rfl) rfl ?_
                    refine L.nil ?_
                    refine X.sq ?_
                    first | refine V.cond rfl (fun h71 => ?_) (fun h71 => ?_) | refine V.condB rfl (fun h71 => ?_) (fun h71 => ?_)
                    ·
                      refine V.region ?_
                      refine L.rd (rd_move rfl) rfl ?_
                      refine L.rd (rd_move rfl) rfl ?_
                      refine L.rd (rd_move rfl) rfl ?_
                      (refine L.rd (rd_indexSlice (sz := 1) tok rfl rfl rfl rfl rfl rfl rfl ?_) rfl ?_; omega)
                      refine L.rd (rd_load1 tok rfl rfl rfl (cell_at (i := ((i : Int) - 1 - a).toNat) hG (by rw [hjx]; exact iC_get hgb) (by simp))) rfl ?_
                      (refine L.rd (rd_add3 rfl rfl ?_) rfl ?_; omega)
                      refine L.rd (rd_assign rfl) rfl ?_
                      refine L.nil ?_
                      exact X.ct ⟨_, (by repeat' (first | exact trivial | refine ⟨rfl, ?_⟩)), 1 + a + b, rfl, hs, rfl⟩
                    ·
                      omega
                  ·
                    refine V.skip ?_
                    obtain ⟨hlf, hrt, hs⟩ : lf_ = -1 ∧ rt = -1 ∧ S[i]? = some 1 := by
                      rcases hA with ⟨h1, h2⟩ | ⟨h1, h2⟩ | ⟨a, h0, h1, h2, h3, h4, h5⟩ | ⟨a, b, j, h0, h1, h2, h3, h4, h5, h6, h7, h8⟩
                      · exact h2
                      · exact h2
                      · omega
                      · omega
                    subst hlf hrt
                    exact X.ct ⟨_, (by repeat' (first | exact trivial | refine ⟨rfl, ?_⟩)), 1, rfl, hs, rfl⟩
                ·
                  refine L.no rfl rfl rfl rfl ?_
                  refine L.no rfl rfl rfl rfl ?_
                  refine L.rd (rd_pickF rfl rfl) rfl ?_
                  refine L.nil ?_
                  refine X.sq ?_
                  refine V.condF rfl ?_
                  refine V.skip ?_
                  obtain ⟨hlf, hrt, hs⟩ : lf_ = -1 ∧ rt = -1 ∧ S[i]? = some 1 := by
                    rcases hA with ⟨h1, h2⟩ | ⟨h1, h2⟩ | ⟨a, h0, h1, h2, h3, h4, h5⟩ | ⟨a, b, j, h0, h1, h2, h3, h4, h5, h6, h7, h8⟩
                    · exact h2
                    · exact h2
                    · omega
                    · omega
                  subst hlf hrt
                  exact X.ct ⟨_, (by repeat' (first | exact trivial | refine ⟨rfl, ?_⟩)), 1, rfl, hs, rfl⟩
        ·
          rintro l w' ⟨s, rfl, hs, rfl⟩
          refine X.sq ?_
          refine V.seq ?_
          refine V.region ?_
          refine L.rd (rd_move rfl) rfl ?_
          refine L.rd (rd_move rfl) rfl ?_
          refine L.rd (rd_move rfl) rfl ?_
          (refine L.rd (rd_indexSlice (sz := 5) tok rfl rfl rfl rfl rfl rfl rfl ?_) rfl ?_; omega)
          refine L.rd (rd_fieldAddr tok rfl rfl rfl rfl rfl rfl) rfl ?_
          refine L.ef (e_store (vs := [_]) tok rfl rfl rfl rfl hb rfl (by simp [Value.oneCell']) (by rw [List.length_append, hlc]; simp; omega) ?_)
          refine L.nil ?_
          refine X.sq ?_
          refine V.seq ?_
          have hp1 := fm_put1 ndE_len sp (lay ns i) i 3 (k, v, x, 0, 0) (k, v, x, lf_, 0) (.int .i64 lf_) (lay_get ht) (by decide) rfl
          simp only [Nat.zero_add, Int.toNat_natCast]
          rw [hp1]
          have hb7 := Bl.set hb 107 (((lay ns i).set i (k, v, x, lf_, 0)).flatMap ndE ++ sp)
          have hG7 := hG.setNe (b' := g) (by omega) 107 (((lay ns i).set i (k, v, x, lf_, 0)).flatMap ndE ++ sp)
          have hR7 : Rg g (g + 1) w2 (setB w2 g 107 (((lay ns i).set i (k, v, x, lf_, 0)).flatMap ndE ++ sp)) := Rg.set ⟨Nat.le_refl _, by omega⟩ _ _
          generalize setB w2 g 107 (((lay ns i).set i (k, v, x, lf_, 0)).flatMap ndE ++ sp) = w7 at hb7 hG7 hR7 ⊢
          have hlc7 := fm_length ndE_len ((lay ns i).set i (k, v, x, lf_, 0))
          rw [List.length_set, lay_len] at hlc7
          refine V.region ?_
          refine L.rd (rd_move rfl) rfl ?_
          refine L.rd (rd_move rfl) rfl ?_
          refine L.rd (rd_move rfl) rfl ?_
          (refine L.rd (rd_indexSlice (sz := 5) tok rfl rfl rfl rfl rfl rfl rfl ?_) rfl ?_; omega)
          refine L.rd (rd_fieldAddr tok rfl rfl rfl rfl rfl rfl) rfl ?_
          refine L.ef (e_store (vs := [_]) tok rfl rfl rfl rfl hb7 rfl (by simp [Value.oneCell']) (by rw [List.length_append, hlc7]; simp; omega) ?_)
          refine L.nil ?_
          refine X.sq ?_
          have hp2 := fm_put1 ndE_len sp ((lay ns i).set i (k, v, x, lf_, 0)) i 4 (k, v, x, lf_, 0) (k, v, x, lf_, rt) (.int .i64 rt) (List.getElem?_set_self (by rw [lay_len]; omega)) (by decide) rfl
          rw [List.set_set, lay_set ht] at hp2
          simp only [Nat.zero_add, Int.toNat_natCast]
          rw [hp2]
          have hb8 := Bl.set hb7 107 ((lay ns (i + 1)).flatMap ndE ++ sp)
          have hG8 := hG7.setNe (b' := g) (by omega) 107 ((lay ns (i + 1)).flatMap ndE ++ sp)
          have hR8 : Rg g (g + 1) w7 (setB w7 g 107 ((lay ns (i + 1)).flatMap ndE ++ sp)) := Rg.set ⟨Nat.le_refl _, by omega⟩ _ _
          generalize setB w7 g 107 ((lay ns (i + 1)).flatMap ndE ++ sp) = w8 at hb8 hG8 hR8 ⊢
          refine V.region ?_
          refine L.rd (rd_move rfl) rfl ?_
          refine L.rd (rd_move rfl) rfl ?_
          refine L.rd (rd_move rfl) rfl ?_
          (refine L.rd (rd_indexSlice (sz := 1) tok rfl rfl rfl rfl rfl rfl rfl ?_) rfl ?_; omega)
          refine L.ef (e_store (vs := [_]) tok rfl rfl rfl rfl hG8 rfl (by simp [Value.oneCell']) (by simp [iC]; omega) ?_)
          (simp only [Nat.zero_add, Nat.mul_one, Int.toNat_natCast])
          rw [iC_putI _ _ _ (by omega)]
          refine L.nil ?_
          refine X.bk ?_
          refine X.sq ?_
          refine V.region ?_
          refine L.rd (rd_move rfl) rfl ?_
          (refine L.rd (rd_add3 rfl rfl ?_) rfl ?_; omega)
          refine L.rd (rd_assign rfl) rfl ?_
          refine L.nil ?_
          refine X.lp ⟨_, _, by omega, (by repeat' (first | exact trivial | refine ⟨rfl, ?_⟩)), i + 1, G.set i s, rfl, rfl, by omega, ?_, hb8.setNe (by omega) _ _, hG8.set _ _, by simp [hGl], take_put_next S G i s (by omega) hs htk⟩
          refine ⟨hR8.os.trans (hR7.os.trans hR.os), hR8.tape.trans (hR7.tape.trans hR.tape), hR8.output.trans (hR7.output.trans hR.output), ?_, fun q hq hn => ?_⟩
          · have h1 := hR.size
            have h2 := hR7.size
            have h3 := hR8.size
            rw [size_setB]; omega
          · have h1 := hR.size
            have h2 := hR7.size
            have := ((hR.trans hR7).trans hR8).block q hq hn
            rw [← this]
            unfold setB
            simp only []
            rw [Array.getElem?_setIfInBounds_ne (by omega)]
      ·
        refine L.yes rfl rfl ?_
        refine L.rd (rd_move rfl) rfl ?_
        refine L.yes rfl rfl ?_
        refine L.rd (rd_eql rfl rfl) rfl ?_
        refine L.rd (rd_pickF rfl rfl) rfl ?_
        refine L.rd (rd_move rfl) rfl ?_
        first | refine L.partG rfl rfl (fun g28 => ?_) (fun g28 => ?_) | refine L.partGB rfl rfl (fun g28 => ?_) (fun g28 => ?_)
        ·
          refine L.yes rfl rfl ?_
          refine L.rd (rd_move rfl) rfl ?_
          refine L.yes rfl rfl ?_
          refine L.rd (rd_geq rfl rfl) rfl ?_
          refine L.rd (rd_pickT rfl rfl) rfl ?_
          refine L.nil ?_
          refine X.sq ?_
          refine V.cut (fun l w' => ∃ s : Int, l = [(0, .slice (some ⟨g, 0, none⟩) ns.length cap), (2, .slice (some ⟨w.heap.size, 0, none⟩) ns.length ns.length), (3, .int .i64 i), (5, .int .i64 lf_), (6, .int .i64 rt), (7, .int .i64 s)] ∧ S[i]? = some s ∧ w2 = w') ?_ ?_
          ·
            first | refine V.cond rfl (fun h31 => ?_) (fun h31 => ?_) | refine V.condB rfl (fun h31 => ?_) (fun h31 => ?_)
            ·
              refine V.seq ?_
              obtain ⟨a, hi1, ha, hs, hlf, hrt⟩ : ∃ a, 1 ≤ i ∧ S[i - 1]? = some a ∧ S[i]? = some (1 + a) ∧ lf_ = (i : Int) - 1 ∧ rt = -1 := by
                rcases hA with ⟨h1, h2⟩ | ⟨h1, h2⟩ | ⟨a, h0, h1, h2, h3, h4, h5⟩ | ⟨a, b, j, h0, h1, h2, h3, h4, h5, h6, h7, h8⟩
                · omega
                · omega
                · exact ⟨a, h0, h1, h2, h4, h5⟩
                · omega
              subst hlf hrt
              have hga := get_of_take htk (j := i - 1) (by omega)
              rw [ha] at hga
              have hab := hbr a ha
              have hix : ((i : Int) - 1).toNat = i - 1 := by omega
              refine V.region ?_
              refine L.rd (rd_move rfl) rfl ?_
              (refine L.rd (rd_sub3 rfl rfl ?_) rfl ?_; omega)
              refine L.rd (rd_assign rfl) rfl ?_
              refine L.nil ?_
              refine X.sq ?_
              refine V.region ?_
              refine L.rd (rd_move rfl) rfl ?_
              refine L.rd (rd_move rfl) rfl ?_
              (refine L.rd (rd_sub3 rfl rfl ?_) rfl ?_; omega)
              (refine L.rd (rd_indexSlice (sz := 1) tok rfl rfl rfl rfl rfl rfl rfl ?_) rfl ?_; omega)
              refine L.rd (rd_load1 tok rfl rfl rfl (cell_at (i := ((i : Int) - 1).toNat) hG (by rw [hix]; exact iC_get hga) (by simp))) rfl ?_
              (refine L.rd (rd_add3 rfl rfl ?_) rfl ?_; omega)
              refine L.rd (rd_assign rfl) rfl ?_
              refine L.nil ?_
              exact X.ct ⟨_, (by repeat' (first | exact trivial | refine ⟨rfl, ?_⟩)), 1 + a, rfl, hs, rfl⟩
            ·
              refine V.seq ?_
              refine V.region ?_
              refine L.rd (rd_move rfl) rfl ?_
              refine L.rd (rd_eql rfl rfl) rfl ?_
              refine L.rd (rd_move rfl) rfl ?_
              first | refine L.partG rfl rfl (fun g42 => ?_) (fun g42 => ?_) | refine L.partGB rfl rfl (fun g42 => ?_) (fun g42 => ?_)
              ·
                refine L.no rfl rfl rfl rfl ?_
                refine L.no rfl rfl rfl rfl ?_
                refine L.rd (rd_pickT rfl rfl) rfl ?_
                refine L.rd (rd_move rfl) rfl ?_
                refine L.no rfl rfl rfl rfl ?_
                refine L.no rfl rfl rfl rfl ?_
                refine L.rd (rd_pickT rfl rfl) rfl ?_
                refine L.rd (rd_move rfl) rfl ?_
                refine L.yes rfl rfl ?_
                refine L.rd (rd_move rfl) rfl ?_
                refine L.yes rfl rfl ?_
                refine L.rd (rd_geq rfl rfl) rfl ?_
                refine L.rd (rd_pickT rfl rfl) rfl ?_
                refine L.nil ?_
                refine X.sq ?_
                first | refine V.cond rfl (fun h53 => ?_) (fun h53 => ?_) | refine V.condB rfl (fun h53 => ?_) (fun h53 => ?_)
                ·
                  refine V.seq ?_
                  obtain ⟨a, b, j, hi1, ha, hj, hb_, hji, hlf, hs, hrt⟩ : ∃ a b, ∃ j : Nat, 1 ≤ i ∧ S[i - 1]? = some a ∧ (j : Int) = (i : Int) - 1 - a ∧ S[j]? = some b ∧ j < i ∧ lf_ = (i : Int) - 1 - a ∧ S[i]? = some (1 + a + b) ∧ rt = (i : Int) - 1 := by
                    rcases hA with ⟨h1, h2⟩ | ⟨h1, h2⟩ | ⟨a, h0, h1, h2, h3, h4, h5⟩ | ⟨a, b, j, h0, h1, h2, h3, h4, h5, h6, h7, h8⟩
                    · omega
                    · omega
                    · omega
                    · exact ⟨a, b, j, h0, h1, h2, h3, h4, by omega, h6, h8⟩
                  subst hlf hrt
                  have hga := get_of_take htk (j := i - 1) (by omega)
                  rw [ha] at hga
                  have hgb := get_of_take htk (j := j) hji
                  rw [hb_] at hgb
                  have hab := hbr a ha
                  have hbb := hsm b (List.mem_of_getElem? hb_)
                  have hix : ((i : Int) - 1).toNat = i - 1 := by omega
                  have hjx : ((i : Int) - 1 - a).toNat = j := by omega
                  refine V.region ?_
                  refine L.rd (rd_move rfl) rfl ?_
                  (refine L.rd (rd_sub3 rfl rfl ?_) rfl ?_; omega)
                  refine L.rd (rd_assign rfl) rfl ?_
                  refine L.nil ?_
                  refine X.sq ?_
                  refine V.seq ?_
                  refine V.region ?_
                  refine L.rd (rd_move rfl) rfl ?_
                  (refine L.rd (rd_sub3 rfl rfl ?_) rfl ?_; omega)
                  refine L.rd (rd_move rfl) rfl ?_
                  refine L.rd (rd_move rfl) rfl ?_
                  (refine L.rd (rd_sub3 rfl rfl ?_) rfl ?_; omega)
                  (refine L.rd (rd_indexSlice (sz := 1) tok rfl rfl rfl rfl rfl rfl rfl ?_) rfl ?_; omega)
                  refine L.rd (rd_load1 tok rfl rfl rfl (cell_at (i := ((i : Int) - 1).toNat) hG (by rw [hix]; exact iC_get hga) (by simp))) rfl ?_
                  (refine L.rd (rd_sub3 rfl rfl ?_) rfl ?_; omega)
                  refine L.rd (rd_assign rfl) rfl ?_
                  refine L.nil ?_
                  refine X.sq ?_
                  refine V.seq ?_
                  refine V.region ?_
                  refine L.rd (rd_move rfl) rfl ?_
                  refine L.rd (rd_move rfl) rfl ?_
                  (refine L.rd (rd_sub3 rfl rfl ?_) rfl ?_; omega)
                  (refine L.rd (rd_indexSlice (sz := 1) tok rfl rfl rfl rfl rfl rfl rfl ?_) rfl ?_; omega)
                  refine L.rd (rd_load1 tok rfl rfl rfl (cell_at (i := ((i : Int) - 1).toNat) hG (by rw [hix]; exact iC_get hga) (by simp))) rfl ?_
                  (refine L.rd (rd_add3 rfl rfl ?_) rfl ?_; omega)
                  refine L.rd (rd_assign rfl) rfl ?_
                  refine L.nil ?_
                  refine X.sq ?_
                  refine V.seq ?_
                  refine V.region ?_
                  refine L.rd (rd_move rfl) rfl ?_
                  refine L.rd (rd_geq rfl rfl) rfl ?_
                  refine L.nil ?_
                  refine X.sq ?_
                  first | refine V.cond rfl (fun h71 => ?_) (fun h71 => ?_) | refine V.condB rfl (fun h71 => ?_) (fun h71 => ?_)
                  ·
                    refine V.region ?_
                    refine L.rd (rd_move rfl) rfl ?_
                    refine L.rd (rd_move rfl) rfl ?_
                    refine L.rd (rd_move rfl) rfl ?_
                    (refine L.rd (rd_indexSlice (sz := 1) tok rfl rfl rfl rfl rfl rfl rfl ?_) rfl ?_; omega)
                    refine L.rd (rd_load1 tok rfl rfl rfl (cell_at (i := ((i : Int) - 1 - a).toNat) hG (by rw [hjx]; exact iC_get hgb) (by simp))) rfl ?_
                    (refine L.rd (rd_add3 rfl rfl ?_) rfl ?_; omega)
                    refine L.rd (rd_assign rfl) rfl ?_
                    refine L.nil ?_
                    exact X.ct ⟨_, (by repeat' (first | exact trivial | refine ⟨rfl, ?_⟩)), 1 + a + b, rfl, hs, rfl⟩
                  ·
                    omega
                ·
                  refine V.skip ?_
                  obtain ⟨hlf, hrt, hs⟩ : lf_ = -1 ∧ rt = -1 ∧ S[i]? = some 1 := by
                    rcases hA with ⟨h1, h2⟩ | ⟨h1, h2⟩ | ⟨a, h0, h1, h2, h3, h4, h5⟩ | ⟨a, b, j, h0, h1, h2, h3, h4, h5, h6, h7, h8⟩
                    · exact h2
                    · exact h2
                    · omega
                    · omega
                  subst hlf hrt
                  exact X.ct ⟨_, (by repeat' (first | exact trivial | refine ⟨rfl, ?_⟩)), 1, rfl, hs, rfl⟩
              ·
                refine L.yes rfl rfl ?_
                refine L.rd (rd_move rfl) rfl ?_
                refine L.yes rfl rfl ?_
                refine L.rd (rd_eql rfl rfl) rfl ?_
                refine L.rd (rd_pickF rfl rfl) rfl ?_
                refine L.rd (rd_move rfl) rfl ?_
                first | refine L.partG rfl rfl (fun g46 => ?_) (fun g46 => ?_) | refine L.partGB rfl rfl (fun g46 => ?_) (fun g46 => ?_)
                ·
                  refine L.no rfl rfl rfl rfl ?_
                  refine L.no rfl rfl rfl rfl ?_
                  refine L.rd (rd_pickT rfl rfl) rfl ?_
                  refine L.rd (rd_move rfl) rfl ?_
                  refine L.yes rfl rfl ?_
                  refine L.rd (rd_move rfl) rfl ?_
                  refine L.yes rfl rfl ?_
                  refine L.rd (rd_geq rfl rfl) rfl ?_
                  refine L.rd (rd_pickT rfl rfl) rfl ?_
                  refine L.nil ?_
                  refine X.sq ?_
                  first | refine V.cond rfl (fun h53 => ?_) (fun h53 => ?_) | refine V.condB rfl (fun h53 => ?_) (fun h53 => ?_)
                  ·
                    refine V.seq ?_
                    obtain ⟨a, b, j, hi1, ha, hj, hb_, hji, hlf, hs, hrt⟩ : ∃ a b, ∃ j : Nat, 1 ≤ i ∧ S[i - 1]? = some a ∧ (j : Int) = (i : Int) - 1 - a ∧ S[j]? = some b ∧ j < i ∧ lf_ = (i : Int) - 1 - a ∧ S[i]? = some (1 + a + b) ∧ rt = (i : Int) - 1 := by
                      rcases hA with ⟨h1, h2⟩ | ⟨h1, h2⟩ | ⟨a, h0, h1, h2, h3, h4, h5⟩ | ⟨a, b, j, h0, h1, h2, h3, h4, h5, h6, h7, h8⟩
                      · omega
                      · omega
                      · omega
                      · exact ⟨a, b, j, h0, h1, h2, h3, h4, by omega, h6, h8⟩
                    subst hlf hrt
                    have hga := get_of_take htk (j := i - 1) (by omega)
                    rw [ha] at hga
                    have hgb := get_of_take htk (j := j) hji
                    rw [hb_] at hgb
                    have hab := hbr a ha
                    have hbb := hsm b (List.mem_of_getElem? hb_)
                    have hix : ((i : Int) - 1).toNat = i - 1 := by omega
                    have hjx : ((i : Int) - 1 - a).toNat = j := by omega
                    refine V.region ?_
                    refine L.rd (rd_move rfl) rfl ?_
                    (refine L.rd (rd_sub3 rfl rfl ?_) rfl ?_; omega)
                    refine L.rd (rd_assign rfl) rfl ?_
                    refine L.nil ?_
                    refine X.sq ?_
                    refine V.seq ?_
                    refine V.region ?_
                    refine L.rd (rd_move rfl) rfl ?_
                    (refine L.rd (rd_sub3 rfl rfl ?_) rfl ?_; omega)
                    refine L.rd (rd_move rfl) rfl ?_
                    refine L.rd (rd_move rfl) rfl ?_
                    (refine L.rd (rd_sub3 rfl rfl ?_) rfl ?_; omega)
                    (refine L.rd (rd_indexSlice (sz := 1) tok rfl rfl rfl rfl rfl rfl rfl ?_) rfl ?_; omega)
                    refine L.rd (rd_load1 tok rfl rfl rfl (cell_at (i := ((i : Int) - 1).toNat) hG (by rw [hix]; exact iC_get hga) (by simp))) rfl ?_
                    (refine L.rd (rd_sub3 rfl rfl ?_) rfl ?_; omega)
                    refine L.rd (rd_assign rfl) rfl ?_
                    refine L.nil ?_
                    refine X.sq ?_
                    refine V.seq ?_
                    refine V.region ?_
                    refine L.rd (rd_move rfl) rfl ?_
                    refine L.rd (rd_move rfl) rfl ?_
                    (refine L.rd (rd_sub3 rfl rfl ?_) rfl ?_; omega)
                    (refine L.rd (rd_indexSlice (sz := 1) tok rfl rfl rfl rfl rfl rfl rfl ?_) rfl ?_; omega)
                    refine L.rd (rd_load1 tok rfl rfl rfl (cell_at (i := ((i : Int) - 1).toNat) hG (by rw [hix]; exact iC_get hga) (by simp))) rfl ?_
                    (refine L.rd (rd_add3 rfl rfl ?_) rfl ?_; omega)
                    refine L.rd (rd_assign rfl) rfl ?_
                    refine L.nil ?_
                    refine X.sq ?_
                    refine V.seq ?_
                    refine V.region ?_
                    refine L.rd (rd_move rfl) rfl ?_
                    refine L.rd (rd_geq rfl rfl) rfl ?_
                    refine L.nil ?_
                    refine X.sq ?_
                    first | refine V.cond rfl (fun h71 => ?_) (fun h71 => ?_) | refine V.condB rfl (fun h71 => ?_) (fun h71 => ?_)
                    ·
                      refine V.region ?_
                      refine L.rd (rd_move rfl) rfl ?_
                      refine L.rd (rd_move rfl) rfl ?_
                      refine L.rd (rd_move rfl) rfl ?_
                      (refine L.rd (rd_indexSlice (sz := 1) tok rfl rfl rfl rfl rfl rfl rfl ?_) rfl ?_; omega)
                      refine L.rd (rd_load1 tok rfl rfl rfl (cell_at (i := ((i : Int) - 1 - a).toNat) hG (by rw [hjx]; exact iC_get hgb) (by simp))) rfl ?_
                      (refine L.rd (rd_add3 rfl rfl ?_) rfl ?_; omega)
                      refine L.rd (rd_assign rfl) rfl ?_
                      refine L.nil ?_
                      exact X.ct ⟨_, (by repeat' (first | exact trivial | refine ⟨rfl, ?_⟩)), 1 + a + b, rfl, hs, rfl⟩
                    ·
                      omega
                  ·
                    refine V.skip ?_
                    obtain ⟨hlf, hrt, hs⟩ : lf_ = -1 ∧ rt = -1 ∧ S[i]? = some 1 := by
                      rcases hA with ⟨h1, h2⟩ | ⟨h1, h2⟩ | ⟨a, h0, h1, h2, h3, h4, h5⟩ | ⟨a, b, j, h0, h1, h2, h3, h4, h5, h6, h7, h8⟩
                      · exact h2
                      · exact h2
                      · omega
                      · omega
                    subst hlf hrt
                    exact X.ct ⟨_, (by repeat' (first | exact trivial | refine ⟨rfl, ?_⟩)), 1, rfl, hs, rfl⟩
                ·
                  refine L.yes rfl rfl ?_
                  refine L.rd (rd_move rfl) rfl ?_
                  refine L.yes rfl rfl ?_
                  refine L.rd (rd_eql rfl rfl) rfl ?_
                  refine L.rd (rd_pickF rfl rfl) rfl ?_
                  refine L.rd (rd_move rfl) rfl ?_
                  first | refine L.partG rfl rfl (fun g50 => ?_) (fun g50 => ?_) | refine L.partGB rfl rfl (fun g50 => ?_) (fun g50 => ?_)
                  ·
                    refine L.yes rfl rfl ?_
                    refine L.rd (rd_move rfl) rfl ?_
                    refine L.yes rfl rfl ?_
                    refine L.rd (rd_geq rfl rfl) rfl ?_
                    refine L.rd (rd_pickT rfl rfl) rfl ?_
                    refine L.nil ?_
                    refine X.sq ?_
                    first | refine V.cond rfl (fun h53 => ?_) (fun h53 => ?_) | refine V.condB rfl (fun h53 => ?_) (fun h53 => ?_)
                    ·
                      refine V.seq ?_
                      obtain ⟨a, b, j, hi1, ha, hj, hb_, hji, hlf, hs, hrt⟩ : ∃ a b, ∃ j : Nat, 1 ≤ i ∧ S[i - 1]? = some a ∧ (j : Int) = (i : Int) - 1 - a ∧ S[j]? = some b ∧ j < i ∧ lf_ = (i : Int) - 1 - a ∧ S[i]? = some (1 + a + b) ∧ rt = (i : Int) - 1 := by
                        rcases hA with ⟨h1, h2⟩ | ⟨h1, h2⟩ | ⟨a, h0, h1, h2, h3, h4, h5⟩ | ⟨a, b, j, h0, h1, h2, h3, h4, h5, h6, h7, h8⟩
                        · omega
                        · omega
                        · omega
                        · exact ⟨a, b, j, h0, h1, h2, h3, h4, by omega, h6, h8⟩
                      subst hlf hrt
                      have hga := get_of_take htk (j := i - 1) (by omega)
                      rw [ha] at hga
                      have hgb := get_of_take htk (j := j) hji
                      rw [hb_] at hgb
                      have hab := hbr a ha
                      have hbb := hsm b (List.mem_of_getElem? hb_)
                      have hix : ((i : Int) - 1).toNat = i - 1 := by omega
                      have hjx : ((i : Int) - 1 - a).toNat = j := by omega
                      refine V.region ?_
                      refine L.rd (rd_move rfl) rfl ?_
                      (refine L.rd (rd_sub3 rfl rfl ?_) rfl ?_; omega)
                      refine L.rd (rd_assign rfl) rfl ?_
                      refine L.nil ?_
                      refine X.sq ?_
                      refine V.seq ?_
                      refine V.region ?_
                      refine L.rd (rd_move rfl) rfl ?_
                      (refine L.rd (rd_sub3 rfl rfl ?_) rfl ?_; omega)
                      refine L.rd (rd_move rfl) rfl ?_
                      refine L.rd (rd_move rfl) rfl ?_
                      (refine L.rd (rd_sub3 rfl rfl ?_) rfl ?_; omega)
                      (refine L.rd (rd_indexSlice (sz := 1) tok rfl rfl rfl rfl rfl rfl rfl ?_) rfl ?_; omega)
                      refine L.rd (rd_load1 tok rfl rfl rfl (cell_at (i := ((i : Int) - 1).toNat) hG (by rw [hix]; exact iC_get hga) (by simp))) rfl ?_
                      (refine L.rd (rd_sub3 rfl rfl ?_) rfl ?_; omega)
                      refine L.rd (rd_assign rfl) rfl ?_
                      refine L.nil ?_
                      refine X.sq ?_
                      refine V.seq ?_
                      refine V.region ?_
                      refine L.rd (rd_move rfl) rfl ?_
                      refine L.rd (rd_move rfl) rfl ?_
                      (refine L.rd (rd_sub3 rfl rfl ?_) rfl ?_; omega)
                      (refine L.rd (rd_indexSlice (sz := 1) tok rfl rfl rfl rfl rfl rfl rfl ?_) rfl ?_; omega)
                      refine L.rd (rd_load1 tok rfl rfl rfl (cell_at (i := ((i : Int) - 1).toNat) hG (by rw [hix]; exact iC_get hga) (by simp))) rfl ?_
                      (refine L.rd (rd_add3 rfl rfl ?_) rfl ?_; omega)
                      refine L.rd (rd_assign rfl) rfl ?_
                      refine L.nil ?_
                      refine X.sq ?_
                      refine V.seq ?_
                      refine V.region ?_
                      refine L.rd (rd_move rfl) rfl ?_
                      refine L.rd (rd_geq rfl rfl) rfl ?_
                      refine L.nil ?_
                      refine X.sq ?_
                      first | refine V.cond rfl (fun h71 => ?_) (fun h71 => ?_) | refine V.condB rfl (fun h71 => ?_) (fun h71 => ?_)
                      ·
                        refine V.region ?_
                        refine L.rd (rd_move rfl) rfl ?_
                        refine L.rd (rd_move rfl) rfl ?_
                        refine L.rd (rd_move rfl) rfl ?_
                        (refine L.rd (rd_indexSlice (sz := 1) tok rfl rfl rfl rfl rfl rfl rfl ?_) rfl ?_; omega)
                        refine L.rd (rd_load1 tok rfl rfl rfl (cell_at (i := ((i : Int) - 1 - a).toNat) hG (by rw [hjx]; exact iC_get hgb) (by simp))) rfl ?_
                        (refine L.rd (rd_add3 rfl rfl ?_) rfl ?_; omega)
                        refine L.rd (rd_assign rfl) rfl ?_
                        refine L.nil ?_
                        exact X.ct ⟨_, (by repeat' (first | exact trivial | refine ⟨rfl, ?_⟩)), 1 + a + b, rfl, hs, rfl⟩
                      ·
                        omega
                    ·
                      refine V.skip ?_
                      obtain ⟨hlf, hrt, hs⟩ : lf_ = -1 ∧ rt = -1 ∧ S[i]? = some 1 := by
                        rcases hA with ⟨h1, h2⟩ | ⟨h1, h2⟩ | ⟨a, h0, h1, h2, h3, h4, h5⟩ | ⟨a, b, j, h0, h1, h2, h3, h4, h5, h6, h7, h8⟩
                        · exact h2
                        · exact h2
                        · omega
                        · omega
                      subst hlf hrt
                      exact X.ct ⟨_, (by repeat' (first | exact trivial | refine ⟨rfl, ?_⟩)), 1, rfl, hs, rfl⟩
                  ·
                    refine L.no rfl rfl rfl rfl ?_
                    refine L.no rfl rfl rfl rfl ?_
                    refine L.rd (rd_pickF rfl rfl) rfl ?_
                    refine L.nil ?_
                    refine X.sq ?_
                    refine V.condF rfl ?_
                    refine V.skip ?_
                    obtain ⟨hlf, hrt, hs⟩ : lf_ = -1 ∧ rt = -1 ∧ S[i]? = some 1 := by
                      rcases hA with ⟨h1, h2⟩ | ⟨h1, h2⟩ | ⟨a, h0, h1, h2, h3, h4, h5⟩ | ⟨a, b, j, h0, h1, h2, h3, h4, h5, h6, h7, h8⟩
                      · exact h2
                      · exact h2
                      · omega
                      · omega
                    subst hlf hrt
                    exact X.ct ⟨_, (by repeat' (first | exact trivial | refine ⟨rfl, ?_⟩)), 1, rfl, hs, rfl⟩
          ·
            rintro l w' ⟨s, rfl, hs, rfl⟩
            refine X.sq ?_
            refine V.seq ?_
            refine V.region ?_
            refine L.rd (rd_move rfl) rfl ?_
            refine L.rd (rd_move rfl) rfl ?_
            refine L.rd (rd_move rfl) rfl ?_
            (refine L.rd (rd_indexSlice (sz := 5) tok rfl rfl rfl rfl rfl rfl rfl ?_) rfl ?_; omega)
            refine L.rd (rd_fieldAddr tok rfl rfl rfl rfl rfl rfl) rfl ?_
            refine L.ef (e_store (vs := [_]) tok rfl rfl rfl rfl hb rfl (by simp [Value.oneCell']) (by rw [List.length_append, hlc]; simp; omega) ?_)
            refine L.nil ?_
            refine X.sq ?_
            refine V.seq ?_
            have hp1 := fm_put1 ndE_len sp (lay ns i) i 3 (k, v, x, 0, 0) (k, v, x, lf_, 0) (.int .i64 lf_) (lay_get ht) (by decide) rfl
            simp only [Nat.zero_add, Int.toNat_natCast]
            rw [hp1]
            have hb7 := Bl.set hb 107 (((lay ns i).set i (k, v, x, lf_, 0)).flatMap ndE ++ sp)
            have hG7 := hG.setNe (b' := g) (by omega) 107 (((lay ns i).set i (k, v, x, lf_, 0)).flatMap ndE ++ sp)
            have hR7 : Rg g (g + 1) w2 (setB w2 g 107 (((lay ns i).set i (k, v, x, lf_, 0)).flatMap ndE ++ sp)) := Rg.set ⟨Nat.le_refl _, by omega⟩ _ _
            generalize setB w2 g 107 (((lay ns i).set i (k, v, x, lf_, 0)).flatMap ndE ++ sp) = w7 at hb7 hG7 hR7 ⊢
            have hlc7 := fm_length ndE_len ((lay ns i).set i (k, v, x, lf_, 0))
            rw [List.length_set, lay_len] at hlc7
            refine V.region ?_
            refine L.rd (rd_move rfl) rfl ?_
            refine L.rd (rd_move rfl) rfl ?_
            refine L.rd (rd_move rfl) rfl ?_
            (refine L.rd (rd_indexSlice (sz := 5) tok rfl rfl rfl rfl rfl rfl rfl ?_) rfl ?_; omega)
            refine L.rd (rd_fieldAddr tok rfl rfl rfl rfl rfl rfl) rfl ?_
            refine L.ef (e_store (vs := [_]) tok rfl rfl rfl rfl hb7 rfl (by simp [Value.oneCell']) (by rw [List.length_append, hlc7]; simp; omega) ?_)
            refine L.nil ?_
            refine X.sq ?_
            have hp2 := fm_put1 ndE_len sp ((lay ns i).set i (k, v, x, lf_, 0)) i 4 (k, v, x, lf_, 0) (k, v, x, lf_, rt) (.int .i64 rt) (List.getElem?_set_self (by rw [lay_len]; omega)) (by decide) rfl
            rw [List.set_set, lay_set ht] at hp2
            simp only [Nat.zero_add, Int.toNat_natCast]
            rw [hp2]
            have hb8 := Bl.set hb7 107 ((lay ns (i + 1)).flatMap ndE ++ sp)
            have hG8 := hG7.setNe (b' := g) (by omega) 107 ((lay ns (i + 1)).flatMap ndE ++ sp)
            have hR8 : Rg g (g + 1) w7 (setB w7 g 107 ((lay ns (i + 1)).flatMap ndE ++ sp)) := Rg.set ⟨Nat.le_refl _, by omega⟩ _ _
            generalize setB w7 g 107 ((lay ns (i + 1)).flatMap ndE ++ sp) = w8 at hb8 hG8 hR8 ⊢
            refine V.region ?_
            refine L.rd (rd_move rfl) rfl ?_
            refine L.rd (rd_move rfl) rfl ?_
            refine L.rd (rd_move rfl) rfl ?_
            (refine L.rd (rd_indexSlice (sz := 1) tok rfl rfl rfl rfl rfl rfl rfl ?_) rfl ?_; omega)
            refine L.ef (e_store (vs := [_]) tok rfl rfl rfl rfl hG8 rfl (by simp [Value.oneCell']) (by simp [iC]; omega) ?_)
            (simp only [Nat.zero_add, Nat.mul_one, Int.toNat_natCast])
            rw [iC_putI _ _ _ (by omega)]
            refine L.nil ?_
            refine X.bk ?_
            refine X.sq ?_
            refine V.region ?_
            refine L.rd (rd_move rfl) rfl ?_
            (refine L.rd (rd_add3 rfl rfl ?_) rfl ?_; omega)
            refine L.rd (rd_assign rfl) rfl ?_
            refine L.nil ?_
            refine X.lp ⟨_, _, by omega, (by repeat' (first | exact trivial | refine ⟨rfl, ?_⟩)), i + 1, G.set i s, rfl, rfl, by omega, ?_, hb8.setNe (by omega) _ _, hG8.set _ _, by simp [hGl], take_put_next S G i s (by omega) hs htk⟩
            refine ⟨hR8.os.trans (hR7.os.trans hR.os), hR8.tape.trans (hR7.tape.trans hR.tape), hR8.output.trans (hR7.output.trans hR.output), ?_, fun q hq hn => ?_⟩
            · have h1 := hR.size
              have h2 := hR7.size
              have h3 := hR8.size
              rw [size_setB]; omega
            · have h1 := hR.size
              have h2 := hR7.size
              have := ((hR.trans hR7).trans hR8).block q hq hn
              rw [← this]
              unfold setB
              simp only []
              rw [Array.getElem?_setIfInBounds_ne (by omega)]
        ·
          refine L.no rfl rfl rfl rfl ?_
          refine L.no rfl rfl rfl rfl ?_
          refine L.rd (rd_pickF rfl rfl) rfl ?_
          refine L.nil ?_
          refine X.sq ?_
          refine V.cut (fun l w' => ∃ s : Int, l = [(0, .slice (some ⟨g, 0, none⟩) ns.length cap), (2, .slice (some ⟨w.heap.size, 0, none⟩) ns.length ns.length), (3, .int .i64 i), (5, .int .i64 lf_), (6, .int .i64 rt), (7, .int .i64 s)] ∧ S[i]? = some s ∧ w2 = w') ?_ ?_
          ·
            refine V.condF rfl ?_
            refine V.seq ?_
            refine V.region ?_
            refine L.rd (rd_move rfl) rfl ?_
            refine L.rd (rd_eql rfl rfl) rfl ?_
            refine L.rd (rd_move rfl) rfl ?_
            first | refine L.partG rfl rfl (fun g42 => ?_) (fun g42 => ?_) | refine L.partGB rfl rfl (fun g42 => ?_) (fun g42 => ?_)
            ·
              refine L.no rfl rfl rfl rfl ?_
              refine L.no rfl rfl rfl rfl ?_
              refine L.rd (rd_pickT rfl rfl) rfl ?_
              refine L.rd (rd_move rfl) rfl ?_
              refine L.no rfl rfl rfl rfl ?_
              refine L.no rfl rfl rfl rfl ?_
              refine L.rd (rd_pickT rfl rfl) rfl ?_
              refine L.rd (rd_move rfl) rfl ?_
              refine L.yes rfl rfl ?_
              refine L.rd (rd_move rfl) rfl ?_
              refine L.yes rfl rfl ?_
              refine L.rd (rd_geq rfl rfl) rfl ?_
              refine L.rd (rd_pickT rfl rfl) rfl ?_
              refine L.nil ?_
              refine X.sq ?_
              first | refine V.cond rfl (fun h53 => ?_) (fun h53 => ?_) | refine V.condB rfl (fun h53 => ?_) (fun h53 => ?_)
              ·
                refine V.seq ?_
                obtain ⟨a, b, j, hi1, ha, hj, hb_, hji, hlf, hs, hrt⟩ : ∃ a b, ∃ j : Nat, 1 ≤ i ∧ S[i - 1]? = some a ∧ (j : Int) = (i : Int) - 1 - a ∧ S[j]? = some b ∧ j < i ∧ lf_ = (i : Int) - 1 - a ∧ S[i]? = some (1 + a + b) ∧ rt = (i : Int) - 1 := by
                  rcases hA with ⟨h1, h2⟩ | ⟨h1, h2⟩ | ⟨a, h0, h1, h2, h3, h4, h5⟩ | ⟨a, b, j, h0, h1, h2, h3, h4, h5, h6, h7, h8⟩
                  · omega
                  · omega
                  · omega
                  · exact ⟨a, b, j, h0, h1, h2, h3, h4, by omega, h6, h8⟩
                subst hlf hrt
                have hga := get_of_take htk (j := i - 1) (by omega)
                rw [ha] at hga
                have hgb := get_of_take htk (j := j) hji
                rw [hb_] at hgb
                have hab := hbr a ha
                have hbb := hsm b (List.mem_of_getElem? hb_)
                have hix : ((i : Int) - 1).toNat = i - 1 := by omega
                have hjx : ((i : Int) - 1 - a).toNat = j := by omega
                refine V.region ?_
                refine L.rd (rd_move rfl) rfl ?_
                (refine L.rd (rd_sub3 rfl rfl ?_) rfl ?_; omega)
                refine L.rd (rd_assign rfl) rfl ?_
                refine L.nil ?_
                refine X.sq ?_
                refine V.seq ?_
                refine V.region ?_
                refine L.rd (rd_move rfl) rfl ?_
                (refine L.rd (rd_sub3 rfl rfl ?_) rfl ?_; omega)
                refine L.rd (rd_move rfl) rfl ?_
                refine L.rd (rd_move rfl) rfl ?_
                (refine L.rd (rd_sub3 rfl rfl ?_) rfl ?_; omega)
                (refine L.rd (rd_indexSlice (sz := 1) tok rfl rfl rfl rfl rfl rfl rfl ?_) rfl ?_; omega)
                refine L.rd (rd_load1 tok rfl rfl rfl (cell_at (i := ((i : Int) - 1).toNat) hG (by rw [hix]; exact iC_get hga) (by simp))) rfl ?_
                (refine L.rd (rd_sub3 rfl rfl ?_) rfl ?_; omega)
                refine L.rd (rd_assign rfl) rfl ?_
                refine L.nil ?_
                refine X.sq ?_
                refine V.seq ?_
                refine V.region ?_
                refine L.rd (rd_move rfl) rfl ?_
                refine L.rd (rd_move rfl) rfl ?_
                (refine L.rd (rd_sub3 rfl rfl ?_) rfl ?_; omega)
                (refine L.rd (rd_indexSlice (sz := 1) tok rfl rfl rfl rfl rfl rfl rfl ?_) rfl ?_; omega)
                refine L.rd (rd_load1 tok rfl rfl rfl (cell_at (i := ((i : Int) - 1).toNat) hG (by rw [hix]; exact iC_get hga) (by simp))) rfl ?_
                (refine L.rd (rd_add3 rfl rfl ?_) rfl ?_; omega)
                refine L.rd (rd_assign rfl) rfl ?_
                refine L.nil ?_
                refine X.sq ?_
                refine V.seq ?_
                refine V.region ?_
                refine L.rd (rd_move rfl) rfl ?_
                refine L.rd (rd_geq rfl rfl) rfl ?_
                refine L.nil ?_
                refine X.sq ?_
                first | refine V.cond rfl (fun h71 => ?_) (fun h71 => ?_) | refine V.condB rfl (fun h71 => ?_) (fun h71 => ?_)
                ·
                  refine V.region ?_
                  refine L.rd (rd_move rfl) rfl ?_
                  refine L.rd (rd_move rfl) rfl ?_
                  refine L.rd (rd_move rfl) rfl ?_
                  (refine L.rd (rd_indexSlice (sz := 1) tok rfl rfl rfl rfl rfl rfl rfl ?_) rfl ?_; omega)
                  refine L.rd (rd_load1 tok rfl rfl rfl (cell_at (i := ((i : Int) - 1 - a).toNat) hG (by rw [hjx]; exact iC_get hgb) (by simp))) rfl ?_
                  (refine L.rd (rd_add3 rfl rfl ?_) rfl ?_; omega)
                  refine L.rd (rd_assign rfl) rfl ?_
                  refine L.nil ?_
                  exact X.ct ⟨_, (by repeat' (first | exact trivial | refine ⟨rfl, ?_⟩)), 1 + a + b, rfl, hs, rfl⟩
                ·
                  omega
              ·
                refine V.skip ?_
                obtain ⟨hlf, hrt, hs⟩ : lf_ = -1 ∧ rt = -1 ∧ S[i]? = some 1 := by
                  rcases hA with ⟨h1, h2⟩ | ⟨h1, h2⟩ | ⟨a, h0, h1, h2, h3, h4, h5⟩ | ⟨a, b, j, h0, h1, h2, h3, h4, h5, h6, h7, h8⟩
                  · exact h2
                  · exact h2
                  · omega
                  · omega
                subst hlf hrt
                exact X.ct ⟨_, (by repeat' (first | exact trivial | refine ⟨rfl, ?_⟩)), 1, rfl, hs, rfl⟩
            ·
              refine L.yes rfl rfl ?_
              refine L.rd (rd_move rfl) rfl ?_
              refine L.yes rfl rfl ?_
              refine L.rd (rd_eql rfl rfl) rfl ?_
              refine L.rd (rd_pickF rfl rfl) rfl ?_
              refine L.rd (rd_move rfl) rfl ?_
              first | refine L.partG rfl rfl (fun g46 => ?_) (fun g46 => ?_) | refine L.partGB rfl rfl (fun g46 => ?_) (fun g46 => ?_)
              ·
                refine L.no rfl rfl rfl rfl ?_
                refine L.no rfl rfl rfl rfl ?_
                refine L.rd (rd_pickT rfl rfl) rfl ?_
                refine L.rd (rd_move rfl) rfl ?_
                refine L.yes rfl rfl ?_
                refine L.rd (rd_move rfl) rfl ?_
                refine L.yes rfl rfl ?_
                refine L.rd (rd_geq rfl rfl) rfl ?_
                refine L.rd (rd_pickT rfl rfl) rfl ?_
                refine L.nil ?_
                refine X.sq ?_
                first | refine V.cond rfl (fun h53 => ?_) (fun h53 => ?_) | refine V.condB rfl (fun h53 => ?_) (fun h53 => ?_)
                ·
                  refine V.seq ?_
                  obtain ⟨a, b, j, hi1, ha, hj, hb_, hji, hlf, hs, hrt⟩ : ∃ a b, ∃ j : Nat, 1 ≤ i ∧ S[i - 1]? = some a ∧ (j : Int) = (i : Int) - 1 - a ∧ S[j]? = some b ∧ j < i ∧ lf_ = (i : Int) - 1 - a ∧ S[i]? = some (1 + a + b) ∧ rt = (i : Int) - 1 := by
                    rcases hA with ⟨h1, h2⟩ | ⟨h1, h2⟩ | ⟨a, h0, h1, h2, h3, h4, h5⟩ | ⟨a, b, j, h0, h1, h2, h3, h4, h5, h6, h7, h8⟩
                    · omega
                    · omega
                    · omega
                    · exact ⟨a, b, j, h0, h1, h2, h3, h4, by omega, h6, h8⟩
                  subst hlf hrt
                  have hga := get_of_take htk (j := i - 1) (by omega)
                  rw [ha] at hga
                  have hgb := get_of_take htk (j := j) hji
                  rw [hb_] at hgb
                  have hab := hbr a ha
                  have hbb := hsm b (List.mem_of_getElem? hb_)
                  have hix : ((i : Int) - 1).toNat = i - 1 := by omega
                  have hjx : ((i : Int) - 1 - a).toNat = j := by omega
                  refine V.region ?_
                  refine L.rd (rd_move rfl) rfl ?_
                  (refine L.rd (rd_sub3 rfl rfl ?_) rfl ?_; omega)
                  refine L.rd (rd_assign rfl) rfl ?_
                  refine L.nil ?_
                  refine X.sq ?_
                  refine V.seq ?_
                  refine V.region ?_
                  refine L.rd (rd_move rfl) rfl ?_
                  (refine L.rd (rd_sub3 rfl rfl ?_) rfl ?_; omega)
                  refine L.rd (rd_move rfl) rfl ?_
                  refine L.rd (rd_move rfl) rfl ?_
                  (refine L.rd (rd_sub3 rfl rfl ?_) rfl ?_; omega)
                  (refine L.rd (rd_indexSlice (sz := 1) tok rfl rfl rfl rfl rfl rfl rfl ?_) rfl ?_; omega)
                  refine L.rd (rd_load1 tok rfl rfl rfl (cell_at (i := ((i : Int) - 1).toNat) hG (by rw [hix]; exact iC_get hga) (by simp))) rfl ?_
                  (refine L.rd (rd_sub3 rfl rfl ?_) rfl ?_; omega)
                  refine L.rd (rd_assign rfl) rfl ?_
                  refine L.nil ?_
                  refine X.sq ?_
                  refine V.seq ?_
                  refine V.region ?_
                  refine L.rd (rd_move rfl) rfl ?_
                  refine L.rd (rd_move rfl) rfl ?_
                  (refine L.rd (rd_sub3 rfl rfl ?_) rfl ?_; omega)
                  (refine L.rd (rd_indexSlice (sz := 1) tok rfl rfl rfl rfl rfl rfl rfl ?_) rfl ?_; omega)
                  refine L.rd (rd_load1 tok rfl rfl rfl (cell_at (i := ((i : Int) - 1).toNat) hG (by rw [hix]; exact iC_get hga) (by simp))) rfl ?_
                  (refine L.rd (rd_add3 rfl rfl ?_) rfl ?_; omega)
                  refine L.rd (rd_assign rfl) rfl ?_
                  refine L.nil ?_
                  refine X.sq ?_
                  refine V.seq ?_
                  refine V.region ?_
                  refine L.rd (rd_move rfl) rfl ?_
                  refine L.rd (rd_geq rfl rfl) rfl ?_
                  refine L.nil ?_
                  refine X.sq ?_
                  first | refine V.cond rfl (fun h71 => ?_) (fun h71 => ?_) | refine V.condB rfl (fun h71 => ?_) (fun h71 => ?_)
                  ·
                    refine V.region ?_
                    refine L.rd (rd_move rfl) rfl ?_
                    refine L.rd (rd_move rfl) rfl ?_
                    refine L.rd (rd_move rfl) rfl ?_
                    (refine L.rd (rd_indexSlice (sz := 1) tok rfl rfl rfl rfl rfl rfl rfl ?_) rfl ?_; omega)
                    refine L.rd (rd_load1 tok rfl rfl rfl (cell_at (i := ((i : Int) - 1 - a).toNat) hG (by rw [hjx]; exact iC_get hgb) (by simp))) rfl ?_
                    (refine L.rd (rd_add3 rfl rfl ?_) rfl ?_; omega)
                    refine L.rd (rd_assign rfl) rfl ?_
                    refine L.nil ?_
                    exact X.ct ⟨_, (by repeat' (first | exact trivial | refine ⟨rfl, ?_⟩)), 1 + a + b, rfl, hs, rfl⟩
                  ·
                    omega
                ·
                  refine V.skip ?_
                  obtain ⟨hlf, hrt, hs⟩ : lf_ = -1 ∧ rt = -1 ∧ S[i]? = some 1 := by
                    rcases hA with ⟨h1, h2⟩ | ⟨h1, h2⟩ | ⟨a, h0, h1, h2, h3, h4, h5⟩ | ⟨a, b, j, h0, h1, h2, h3, h4, h5, h6, h7, h8⟩
                    · exact h2
                    · exact h2
                    · omega
                    · omega
                  subst hlf hrt
                  exact X.ct ⟨_, (by repeat' (first | exact trivial | refine ⟨rfl, ?_⟩)), 1, rfl, hs, rfl⟩
              ·
                refine L.yes rfl rfl ?_
                refine L.rd (rd_move rfl) rfl ?_
                refine L.yes rfl rfl ?_
                refine L.rd (rd_eql rfl rfl) rfl ?_
                refine L.rd (rd_pickF rfl rfl) rfl ?_
                refine L.rd (rd_move rfl) rfl ?_
                first | refine L.partG rfl rfl (fun g50 => ?_) (fun g50 => ?_) | refine L.partGB rfl rfl (fun g50 => ?_) (fun g50 => ?_)
                ·
                  refine L.yes rfl rfl ?_
                  refine L.rd (rd_move rfl) rfl ?_
                  refine L.yes rfl rfl ?_
                  refine L.rd (rd_geq rfl rfl) rfl ?_
                  refine L.rd (rd_pickT rfl rfl) rfl ?_
                  refine L.nil ?_
                  refine X.sq ?_
                  first | refine V.cond rfl (fun h53 => ?_) (fun h53 => ?_) | refine V.condB rfl (fun h53 => ?_) (fun h53 => ?_)
                  ·
                    refine V.seq ?_
                    obtain ⟨a, b, j, hi1, ha, hj, hb_, hji, hlf, hs, hrt⟩ : ∃ a b, ∃ j : Nat, 1 ≤ i ∧ S[i - 1]? = some a ∧ (j : Int) = (i : Int) - 1 - a ∧ S[j]? = some b ∧ j < i ∧ lf_ = (i : Int) - 1 - a ∧ S[i]? = some (1 + a + b) ∧ rt = (i : Int) - 1 := by
                      rcases hA with ⟨h1, h2⟩ | ⟨h1, h2⟩ | ⟨a, h0, h1, h2, h3, h4, h5⟩ | ⟨a, b, j, h0, h1, h2, h3, h4, h5, h6, h7, h8⟩
                      · omega
                      · omega
                      · omega
                      · exact ⟨a, b, j, h0, h1, h2, h3, h4, by omega, h6, h8⟩
                    subst hlf hrt
                    have hga := get_of_take htk (j := i - 1) (by omega)
                    rw [ha] at hga
                    have hgb := get_of_take htk (j := j) hji
                    rw [hb_] at hgb
                    have hab := hbr a ha
                    have hbb := hsm b (List.mem_of_getElem? hb_)
                    have hix : ((i : Int) - 1).toNat = i - 1 := by omega
                    have hjx : ((i : Int) - 1 - a).toNat = j := by omega
                    refine V.region ?_
                    refine L.rd (rd_move rfl) rfl ?_
                    (refine L.rd (rd_sub3 rfl rfl ?_) rfl ?_; omega)
                    refine L.rd (rd_assign rfl) rfl ?_
                    refine L.nil ?_
                    refine X.sq ?_
                    refine V.seq ?_
                    refine V.region ?_
                    refine L.rd (rd_move rfl) rfl ?_
                    (refine L.rd (rd_sub3 rfl rfl ?_) rfl ?_; omega)
                    refine L.rd (rd_move rfl) rfl ?_
                    refine L.rd (rd_move rfl) rfl ?_
                    (refine L.rd (rd_sub3 rfl rfl ?_) rfl ?_; omega)
                    (refine L.rd (rd_indexSlice (sz := 1) tok rfl rfl rfl rfl rfl rfl rfl ?_) rfl ?_; omega)
                    refine L.rd (rd_load1 tok rfl rfl rfl (cell_at (i := ((i : Int) - 1).toNat) hG (by rw [hix]; exact iC_get hga) (by simp))) rfl ?_
                    (refine L.rd (rd_sub3 rfl rfl ?_) rfl ?_; omega)
                    refine L.rd (rd_assign rfl) rfl ?_
                    refine L.nil ?_
                    refine X.sq ?_
                    refine V.seq ?_
                    refine V.region ?_
                    refine L.rd (rd_move rfl) rfl ?_
                    refine L.rd (rd_move rfl) rfl ?_
                    (refine L.rd (rd_sub3 rfl rfl ?_) rfl ?_; omega)
                    (refine L.rd (rd_indexSlice (sz := 1) tok rfl rfl rfl rfl rfl rfl rfl ?_) rfl ?_; omega)
                    refine L.rd (rd_load1 tok rfl rfl rfl (cell_at (i := ((i : Int) - 1).toNat) hG (by rw [hix]; exact iC_get hga) (by simp))) rfl ?_
                    (refine L.rd (rd_add3 rfl rfl ?_) rfl ?_; omega)
                    refine L.rd (rd_assign rfl) rfl ?_
                    refine L.nil ?_
                    refine X.sq ?_
                    refine V.seq ?_
                    refine V.region ?_
                    refine L.rd (rd_move rfl) rfl ?_
                    refine L.rd (rd_geq rfl rfl) rfl ?_
                    refine L.nil ?_
                    refine X.sq ?_
                    first | refine V.cond rfl (fun h71 => ?_) (fun h71 => ?_) | refine V.condB rfl (fun h71 => ?_) (fun h71 => ?_)
                    ·
                      refine V.region ?_
                      refine L.rd (rd_move rfl) rfl ?_
                      refine L.rd (rd_move rfl) rfl ?_
                      refine L.rd (rd_move rfl) rfl ?_
                      (refine L.rd (rd_indexSlice (sz := 1) tok rfl rfl rfl rfl rfl rfl rfl ?_) rfl ?_; omega)
                      refine L.rd (rd_load1 tok rfl rfl rfl (cell_at (i := ((i : Int) - 1 - a).toNat) hG (by rw [hjx]; exact iC_get hgb) (by simp))) rfl ?_
                      (refine L.rd (rd_add3 rfl rfl ?_) rfl ?_; omega)
                      refine L.rd (rd_assign rfl) rfl ?_
                      refine L.nil ?_
                      exact X.ct ⟨_, (by repeat' (first | exact trivial | refine ⟨rfl, ?_⟩)), 1 + a + b, rfl, hs, rfl⟩
                    ·
                      omega
                  ·
                    refine V.skip ?_
                    obtain ⟨hlf, hrt, hs⟩ : lf_ = -1 ∧ rt = -1 ∧ S[i]? = some 1 := by
                      rcases hA with ⟨h1, h2⟩ | ⟨h1, h2⟩ | ⟨a, h0, h1, h2, h3, h4, h5⟩ | ⟨a, b, j, h0, h1, h2, h3, h4, h5, h6, h7, h8⟩
                      · exact h2
                      · exact h2
                      · omega
                      · omega
                    subst hlf hrt
                    exact X.ct ⟨_, (by repeat' (first | exact trivial | refine ⟨rfl, ?_⟩)), 1, rfl, hs, rfl⟩
                ·
                  refine L.no rfl rfl rfl rfl ?_
                  refine L.no rfl rfl rfl rfl ?_
                  refine L.rd (rd_pickF rfl rfl) rfl ?_
                  refine L.nil ?_
                  refine X.sq ?_
                  refine V.condF rfl ?_
                  refine V.skip ?_
                  obtain ⟨hlf, hrt, hs⟩ : lf_ = -1 ∧ rt = -1 ∧ S[i]? = some 1 := by
                    rcases hA with ⟨h1, h2⟩ | ⟨h1, h2⟩ | ⟨a, h0, h1, h2, h3, h4, h5⟩ | ⟨a, b, j, h0, h1, h2, h3, h4, h5, h6, h7, h8⟩
                    · exact h2
                    · exact h2
                    · omega
                    · omega
                  subst hlf hrt
                  exact X.ct ⟨_, (by repeat' (first | exact trivial | refine ⟨rfl, ?_⟩)), 1, rfl, hs, rfl⟩
          ·
            rintro l w' ⟨s, rfl, hs, rfl⟩
            refine X.sq ?_
            refine V.seq ?_
            refine V.region ?_
            refine L.rd (rd_move rfl) rfl ?_
            refine L.rd (rd_move rfl) rfl ?_
            refine L.rd (rd_move rfl) rfl ?_
            (refine L.rd (rd_indexSlice (sz := 5) tok rfl rfl rfl rfl rfl rfl rfl ?_) rfl ?_; omega)
            refine L.rd (rd_fieldAddr tok rfl rfl rfl rfl rfl rfl) rfl ?_
            refine L.ef (e_store (vs := [_]) tok rfl rfl rfl rfl hb rfl (by simp [Value.oneCell']) (by rw [List.length_append, hlc]; simp; omega) ?_)
            refine L.nil ?_
            refine X.sq ?_
            refine V.seq ?_
            have hp1 := fm_put1 ndE_len sp (lay ns i) i 3 (k, v, x, 0, 0) (k, v, x, lf_, 0) (.int .i64 lf_) (lay_get ht) (by decide) rfl
            simp only [Nat.zero_add, Int.toNat_natCast]
            rw [hp1]
            have hb7 := Bl.set hb 107 (((lay ns i).set i (k, v, x, lf_, 0)).flatMap ndE ++ sp)
            have hG7 := hG.setNe (b' := g) (by omega) 107 (((lay ns i).set i (k, v, x, lf_, 0)).flatMap ndE ++ sp)
            have hR7 : Rg g (g + 1) w2 (setB w2 g 107 (((lay ns i).set i (k, v, x, lf_, 0)).flatMap ndE ++ sp)) := Rg.set ⟨Nat.le_refl _, by omega⟩ _ _
            generalize setB w2 g 107 (((lay ns i).set i (k, v, x, lf_, 0)).flatMap ndE ++ sp) = w7 at hb7 hG7 hR7 ⊢
            have hlc7 := fm_length ndE_len ((lay ns i).set i (k, v, x, lf_, 0))
            rw [List.length_set, lay_len] at hlc7
            refine V.region ?_
            refine L.rd (rd_move rfl) rfl ?_
            refine L.rd (rd_move rfl) rfl ?_
            refine L.rd (rd_move rfl) rfl ?_
            (refine L.rd (rd_indexSlice (sz := 5) tok rfl rfl rfl rfl rfl rfl rfl ?_) rfl ?_; omega)
            refine L.rd (rd_fieldAddr tok rfl rfl rfl rfl rfl rfl) rfl ?_
            refine L.ef (e_store (vs := [_]) tok rfl rfl rfl rfl hb7 rfl (by simp [Value.oneCell']) (by rw [List.length_append, hlc7]; simp; omega) ?_)
            refine L.nil ?_
            refine X.sq ?_
            have hp2 := fm_put1 ndE_len sp ((lay ns i).set i (k, v, x, lf_, 0)) i 4 (k, v, x, lf_, 0) (k, v, x, lf_, rt) (.int .i64 rt) (List.getElem?_set_self (by rw [lay_len]; omega)) (by decide) rfl
            rw [List.set_set, lay_set ht] at hp2
            simp only [Nat.zero_add, Int.toNat_natCast]
            rw [hp2]
            have hb8 := Bl.set hb7 107 ((lay ns (i + 1)).flatMap ndE ++ sp)
            have hG8 := hG7.setNe (b' := g) (by omega) 107 ((lay ns (i + 1)).flatMap ndE ++ sp)
            have hR8 : Rg g (g + 1) w7 (setB w7 g 107 ((lay ns (i + 1)).flatMap ndE ++ sp)) := Rg.set ⟨Nat.le_refl _, by omega⟩ _ _
            generalize setB w7 g 107 ((lay ns (i + 1)).flatMap ndE ++ sp) = w8 at hb8 hG8 hR8 ⊢
            refine V.region ?_
            refine L.rd (rd_move rfl) rfl ?_
            refine L.rd (rd_move rfl) rfl ?_
            refine L.rd (rd_move rfl) rfl ?_
            (refine L.rd (rd_indexSlice (sz := 1) tok rfl rfl rfl rfl rfl rfl rfl ?_) rfl ?_; omega)
            refine L.ef (e_store (vs := [_]) tok rfl rfl rfl rfl hG8 rfl (by simp [Value.oneCell']) (by simp [iC]; omega) ?_)
            (simp only [Nat.zero_add, Nat.mul_one, Int.toNat_natCast])
            rw [iC_putI _ _ _ (by omega)]
            refine L.nil ?_
            refine X.bk ?_
            refine X.sq ?_
            refine V.region ?_
            refine L.rd (rd_move rfl) rfl ?_
            (refine L.rd (rd_add3 rfl rfl ?_) rfl ?_; omega)
            refine L.rd (rd_assign rfl) rfl ?_
            refine L.nil ?_
            refine X.lp ⟨_, _, by omega, (by repeat' (first | exact trivial | refine ⟨rfl, ?_⟩)), i + 1, G.set i s, rfl, rfl, by omega, ?_, hb8.setNe (by omega) _ _, hG8.set _ _, by simp [hGl], take_put_next S G i s (by omega) hs htk⟩
            refine ⟨hR8.os.trans (hR7.os.trans hR.os), hR8.tape.trans (hR7.tape.trans hR.tape), hR8.output.trans (hR7.output.trans hR.output), ?_, fun q hq hn => ?_⟩
            · have h1 := hR.size
              have h2 := hR7.size
              have h3 := hR8.size
              rw [size_setB]; omega
            · have h1 := hR.size
              have h2 := hR7.size
              have := ((hR.trans hR7).trans hR8).block q hq hn
              rw [← this]
              unfold setB
              simp only []
              rw [Array.getElem?_setIfInBounds_ne (by omega)]
    ·
      refine V.exit ?_
      refine X.sqExit ?_
      refine X.lpExit ?_
      refine X.bkHere ?_
      refine ret_0 Yaam.results94 ?_
      have hin : i = ns.length := by omega
      subst hin
      unfold lay at hb
      rw [List.take_of_length_le (Nat.le_refl _), List.drop_eq_nil_of_le (by simp), List.append_nil] at hb
      exact ⟨hb, hR⟩
end Go.Proofs.Ybxaaw
