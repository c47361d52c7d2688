/-
  The text of a tree, plain; the model's printer, walked.
-/
import Derived.Test.YbxaawGreatUdecW
import Derived.Test.YbxaawGreatCnW2
import Derived.Test.YbxaawGreatSrcW
import Derived.Test.YbxaawGreatWfW3
set_option linter.unusedVariables false
set_option linter.unusedSimpArgs false
set_option maxRecDepth 10000
set_option maxHeartbeats 4000000
namespace Go.Mw
def prc (k : Int) : Int := if k = 4 ∨ k = 5 then 1 else if k = 6 then 2 else if k = 3 then 3 else if k = 7 then 4 else 5
def wrp (c : Bool) (F : Int → Option (List Nat)) (d : Int) : Option (List Nat) := if c = true then (if d + 1 > 5000 then none else (F (d + 1)).map fun x => 40 :: (x ++ [41])) else F d
def txt : Tre → Int → Option (List Nat)
  | ⟨k, v, x, 0, _⟩, _ => if k = 1 then some (udec v) else some [97 + x.toNat]
  | ⟨k, v, _, 1, c⟩, d => if k = 3 then (wrp (decide (prc (c 0).k ≤ 2)) (fun e => txt (c 0) e) d).map fun a => 45 :: a else (wrp (decide (prc (c 0).k ≤ 4)) (fun e => txt (c 0) e) d).map fun a => a ++ 94 :: udec v
  | ⟨k, _, _, _ + 2, c⟩, d => if k = 6 then (wrp (decide (prc (c 0).k ≤ 1)) (fun e => txt (c 0) e) d).bind fun a => (wrp (decide (prc (c 1).k ≤ 2)) (fun e => txt (c 1) e) d).map fun b => a ++ 42 :: b
      else (txt (c 0) d).bind fun a => (wrp (decide (prc (c 1).k ≤ 1)) (fun e => txt (c 1) e) d).map fun b => a ++ (if k = 4 then 43 else 45) :: b
/-- kept: all but bytes and the printer -/
def KX (u8 eP : TypeId) (w w' : World) : Prop := ∀ b e cs, Bl w b e cs → Nat.beq e u8 = false → Nat.beq e eP = false → Bl w' b e cs
section
variable {u8 eP : TypeId} {w w' w'' : World}
theorem KX.refl (w : World) : KX u8 eP w w := fun b e cs h _ _ => h
theorem KX.trans (h : KX u8 eP w w') (k : KX u8 eP w' w'') : KX u8 eP w w'' := fun b e cs hb h1 h2 => k b e cs (h b e cs hb h1 h2) h1 h2
theorem KX.ext (he : Ext w.heap.size w w') : KX u8 eP w w' := fun b e cs hb _ _ => he.bl hb.lt hb
theorem KX.kept (hk : KeptBut u8 w w') : KX u8 eP w w' := fun b e cs hb h1 _ => hk b e cs hb h1
theorem KX.set {bp : Nat} {cs : List Value} (hb : Bl w bp eP cs) (cs' : List Value) : KX u8 eP w (setB w bp eP cs') := fun b e cs2 h _ h2 => h.setNe (fun e2 => bl_ne h hb h2 e2.symm) _ _
theorem Tm.kx {eM : TypeId} {lo : Nat} (hk : KX u8 eP w w') (h1 : Nat.beq eM u8 = false) (h2 : Nat.beq eM eP = false) : ∀ (t : Tre) (v : Value), Tm eM w lo t v → Tm eM w' lo t v := by
  refine Tre.ind (fun k v x c p h => ?_) (fun k v x c ih p h => ?_) (fun k v x n c ih1 ih2 p h => ?_)
  · obtain ⟨b1, hp, hl, hbb⟩ := h
    exact ⟨b1, hp, hl, hk _ _ _ hbb h1 h2⟩
  · obtain ⟨b1, q, hp, hl, hbb, ht⟩ := h
    exact ⟨b1, q, hp, hl, hk _ _ _ hbb h1 h2, ih _ ht⟩
  · obtain ⟨b1, q, q2, hp, hl, hbb, ht, ht2⟩ := h
    exact ⟨b1, q, q2, hp, hl, hk _ _ _ hbb h1 h2, ih1 _ ht, ih2 _ ht2⟩
end
/-- the printer's state -/
structure PSt (eP u8 : TypeId) (w0 w : World) (ov : Value) (acc : List Nat) (bad : Bool) : Prop where
  bl : Bl w w0.heap.size eP [ov, .bool bad]
  bf : Bf u8 w0 w ov acc
section
variable {eP u8 : TypeId} {w0 w w' : World} {ov ov' : Value} {acc acc' : List Nat} {bad : Bool}
theorem PSt.ext (h : PSt eP u8 w0 w ov acc bad) (he : Ext w.heap.size w w') : PSt eP u8 w0 w' ov acc bad := ⟨he.bl h.bl.lt h.bl, h.bf.next he⟩
/-- a piece of text was put behind and stored -/
theorem PSt.put (h : PSt eP u8 w0 w ov acc bad) (hB : Bf u8 w0 w' ov' acc') (hk : KeptBut u8 w w') (hne : Nat.beq eP u8 = false) : PSt eP u8 w0 (setB w' w0.heap.size eP [ov', .bool bad]) ov' acc' bad ∧ KX u8 eP w (setB w' w0.heap.size eP [ov', .bool bad]) := by
  have hb := hk _ _ _ h.bl hne
  exact ⟨⟨hb.set _ _, hB.set hb hne (Nat.le_refl _) _ _⟩, (KX.kept hk).trans (KX.set hb _)⟩
theorem PSt.fail (h : PSt eP u8 w0 w ov acc bad) (hne : Nat.beq eP u8 = false) : PSt eP u8 w0 (setB w w0.heap.size eP [ov, .bool true]) ov acc true ∧ KX u8 eP w (setB w w0.heap.size eP [ov, .bool true]) :=
  ⟨⟨h.bl.set _ _, h.bf.set h.bl hne (Nat.le_refl _) _ _⟩, KX.set h.bl _⟩
end
/-- what was printed -/
def TxQ (eP u8 : TypeId) (w0 : World) (o : Option (List Nat)) (n : Nat) (acc : List Nat) (bad : Bool) (w w' : World) : Prop :=
  ∃ (ov' : Value) (acc' : List Nat) (bad' : Bool), PSt eP u8 w0 w' ov' acc' bad' ∧ KX u8 eP w w' ∧ acc'.length ≤ acc.length + n ∧ (bad = true → bad' = true) ∧ (bad = false → (o = none ∧ bad' = true) ∨ ∃ x, o = some x ∧ bad' = false ∧ acc' = acc ++ x)
theorem txt_pos (t : Tre) : 1 ≤ tsz t := tsz_pos t
theorem rd_boolCell {w : World} {b : Nat} {e : TypeId} {v : Value} {x : Bool} (h : Bl w b e [v, .bool x]) : w.cell? ⟨b, 1, none⟩ = some (.bool x) := h.cell (i := 1) rfl
end Go.Mw
namespace Go.Proofs.YbxaawGreat
open Go.Mw
abbrev PStq := PSt 164 5
abbrev TxQq := TxQ 164 5

theorem precOf_ok (k : Int) (w : World) : Ret Yaam.prog 132 [.int .i64 k] w fun r w' => r = .int .i64 (prc k) ∧ w = w' := by
  refine enter1 Yaam.func132 Yaam.ntmps132 (by kernel_rfl) rfl rfl ?_
  refine V.seq ?_
  refine V.region ?_
  refine L.rd (rd_assign rfl) rfl ?_
  refine L.nil ?_
  refine X.sq ?_
  refine V.seq ?_
  refine V.seq ?_
  refine V.region ?_
  refine L.rd (rd_move rfl) rfl ?_
  refine L.nil ?_
  refine X.sq ?_
  refine V.block ?_
  refine V.seq ?_
  refine V.seq ?_
  refine V.region ?_
  refine L.rd (rd_eql rfl rfl) rfl ?_
  refine L.rd (rd_assign rfl) rfl ?_
  refine L.nil ?_
  refine X.sq ?_
  first | refine V.cond rfl (fun h4 => ?_) (fun h4 => ?_) | refine V.condB rfl (fun h4 => ?_) (fun h4 => ?_)
  ·
    refine V.skip ?_
    refine X.sq ?_
    first | refine V.cond rfl (fun h4_ => ?_) (fun h4_ => ?_) | refine V.condB rfl (fun h4_ => ?_) (fun h4_ => ?_)
    ·
      refine V.seq ?_
      refine V.region ?_
      refine L.rd (rd_assign rfl) rfl ?_
      refine L.nil ?_
      refine X.sq ?_
      refine V.ret ?_
      refine X.bkRet ?_
      refine X.sqRet ?_
      refine ret_1 Yaam.results132 rfl ?_
      unfold prc
      rw [if_pos (by omega)]
      exact ⟨rfl, rfl⟩
    ·
      exact absurd h4 h4_
  ·
    refine V.region ?_
    refine L.rd (rd_eql rfl rfl) rfl ?_
    refine L.rd (rd_assign rfl) rfl ?_
    refine L.nil ?_
    refine X.sq ?_
    first | refine V.cond rfl (fun h4 => ?_) (fun h4 => ?_) | refine V.condB rfl (fun h4 => ?_) (fun h4 => ?_)
    ·
      refine V.seq ?_
      refine V.region ?_
      refine L.rd (rd_assign rfl) rfl ?_
      refine L.nil ?_
      refine X.sq ?_
      refine V.ret ?_
      refine X.bkRet ?_
      refine X.sqRet ?_
      refine ret_1 Yaam.results132 rfl ?_
      unfold prc
      rw [if_pos (by omega)]
      exact ⟨rfl, rfl⟩
    ·
      refine V.seq ?_
      refine V.region ?_
      refine L.rd (rd_eql rfl rfl) rfl ?_
      refine L.rd (rd_assign rfl) rfl ?_
      refine L.nil ?_
      refine X.sq ?_
      first | refine V.cond rfl (fun h7 => ?_) (fun h7 => ?_) | refine V.condB rfl (fun h7 => ?_) (fun h7 => ?_)
      ·
        refine V.seq ?_
        refine V.region ?_
        refine L.rd (rd_assign rfl) rfl ?_
        refine L.nil ?_
        refine X.sq ?_
        refine V.ret ?_
        refine X.bkRet ?_
        refine X.sqRet ?_
        refine ret_1 Yaam.results132 rfl ?_
        unfold prc
        rw [if_neg (by omega), if_pos (by omega)]
        exact ⟨rfl, rfl⟩
      ·
        refine V.seq ?_
        refine V.region ?_
        refine L.rd (rd_eql rfl rfl) rfl ?_
        refine L.rd (rd_assign rfl) rfl ?_
        refine L.nil ?_
        refine X.sq ?_
        first | refine V.cond rfl (fun h9 => ?_) (fun h9 => ?_) | refine V.condB rfl (fun h9 => ?_) (fun h9 => ?_)
        ·
          refine V.seq ?_
          refine V.region ?_
          refine L.rd (rd_assign rfl) rfl ?_
          refine L.nil ?_
          refine X.sq ?_
          refine V.ret ?_
          refine X.bkRet ?_
          refine X.sqRet ?_
          refine ret_1 Yaam.results132 rfl ?_
          unfold prc
          rw [if_neg (by omega), if_neg (by omega), if_pos (by omega)]
          exact ⟨rfl, rfl⟩
        ·
          refine V.seq ?_
          refine V.region ?_
          refine L.rd (rd_eql rfl rfl) rfl ?_
          refine L.rd (rd_assign rfl) rfl ?_
          refine L.nil ?_
          refine X.sq ?_
          first | refine V.cond rfl (fun h11 => ?_) (fun h11 => ?_) | refine V.condB rfl (fun h11 => ?_) (fun h11 => ?_)
          ·
            refine V.seq ?_
            refine V.region ?_
            refine L.rd (rd_assign rfl) rfl ?_
            refine L.nil ?_
            refine X.sq ?_
            refine V.ret ?_
            refine X.bkRet ?_
            refine X.sqRet ?_
            refine ret_1 Yaam.results132 rfl ?_
            unfold prc
            rw [if_neg (by omega), if_neg (by omega), if_neg (by omega), if_pos (by omega)]
            exact ⟨rfl, rfl⟩
          ·
            refine V.skip ?_
            refine X.bk ?_
            refine X.sq ?_
            refine V.seq ?_
            refine V.region ?_
            refine L.rd (rd_assign rfl) rfl ?_
            refine L.nil ?_
            refine X.sq ?_
            refine V.ret ?_
            refine ret_1 Yaam.results132 rfl ?_
            unfold prc
            rw [if_neg (by omega), if_neg (by omega), if_neg (by omega), if_neg (by omega)]
            exact ⟨rfl, rfl⟩

def TxC (w0 : World) (t : Tre) : Prop := ∀ (v : Value) (d : Int) (w : World) (ov : Value) (acc : List Nat) (bad : Bool), Wt t → Tm 119 w 0 t v → PStq w0 w ov acc bad → 0 ≤ d → d ≤ 5000 → acc.length + 30 * tsz t ≤ 1000000000 → Ret Yaam.prog 106 [.pointer (some ⟨w0.heap.size, 0, none⟩), v, .int .i64 d] w fun _ w' => TxQq w0 (txt t d) (30 * tsz t - 6) acc bad w w'

theorem wrap_ok {w0 : World} {t : Tre} (ih : TxC w0 t) (c : Bool) (v : Value) (d : Int) (w : World) (ov : Value) (acc : List Nat) (bad : Bool) (hw : Wt t) (ht : Tm 119 w 0 t v) (hS : PStq w0 w ov acc bad) (hd0 : 0 ≤ d) (hd1 : d ≤ 5000) (hl : acc.length + 30 * tsz t + 10 ≤ 1000000000) : Ret Yaam.prog 131 [.pointer (some ⟨w0.heap.size, 0, none⟩), v, .bool c, .int .i64 d] w fun _ w' => TxQq w0 (wrp c (fun e => txt t e) d) (30 * tsz t - 4) acc bad w w' := by
  have hp := tsz_pos t
  refine enter4 Yaam.func131 Yaam.ntmps131 (by kernel_rfl) rfl rfl ?_
  refine V.seq ?_
  refine V.seq ?_
  refine V.region ?_
  refine L.rd (rd_move rfl) rfl ?_
  first | refine L.rd (rd_not rfl) rfl ?_ | refine L.rd (rd_notB rfl) rfl ?_
  refine L.nil ?_
  refine X.sq ?_
  first | refine V.cond rfl (fun h9 => ?_) (fun h9 => ?_) | refine V.condB rfl (fun h9 => ?_) (fun h9 => ?_)
  ·
    refine V.seq ?_
    refine V.region ?_
    refine L.rd (rd_move rfl) rfl ?_
    refine L.rd (rd_move rfl) rfl ?_
    refine L.rd (rd_move rfl) rfl ?_
    refine L.ef (e_call rfl (ih v d _ ov acc bad hw ht hS hd0 hd1 (by omega)) rfl ?_)
    rintro _ w1 ⟨ov1, acc1, bad1, hS1, hk1, hl1, hb1, hg1⟩
    refine L.nil ?_
    refine X.sq ?_
    refine V.ret ?_
    refine X.sqRet ?_
    refine ret_0' Yaam.results131 ?_
    have hc : c = false := by simpa using h9
    unfold wrp
    rw [hc, if_neg (by simp)]
    exact ⟨ov1, acc1, bad1, hS1, hk1, by omega, hb1, hg1⟩
  ·
    refine V.skip ?_
    refine X.sq ?_
    refine V.seq ?_
    refine V.seq ?_
    have hc : c = true := by simpa using h9
    unfold wrp
    rw [hc, if_pos rfl]
    refine V.region ?_
    refine L.rd (rd_move rfl) rfl ?_
    (refine L.rd (rd_add3 rfl rfl ?_) rfl ?_; omega)
    refine L.rd (rd_gtr rfl rfl) rfl ?_
    refine L.nil ?_
    refine X.sq ?_
    first | refine V.cond rfl (fun h16 => ?_) (fun h16 => ?_) | refine V.condB rfl (fun h16 => ?_) (fun h16 => ?_)
    ·
      refine V.seq ?_
      refine V.region ?_
      refine L.rd (rd_move rfl) rfl ?_
      refine L.rd (rd_nilCheck rfl) rfl ?_
      refine L.rd (rd_fieldAddr tok rfl rfl rfl rfl rfl rfl) rfl ?_
      refine L.ef (e_store (vs := [_]) tok rfl rfl rfl rfl hS.bl rfl (by simp [Value.oneCell']) (by simp) ?_)
      refine L.nil ?_
      refine X.sq ?_
      refine V.ret ?_
      refine X.sqRet ?_
      refine ret_0' Yaam.results131 ?_
      obtain ⟨h1, h2⟩ := hS.fail rfl
      rw [if_pos (by omega)]
      exact ⟨ov, acc, true, h1, h2, by omega, fun _ => rfl, fun _ => .inl ⟨rfl, rfl⟩⟩
    ·
      refine V.skip ?_
      refine X.sq ?_
      refine V.seq ?_
      refine V.region ?_
      refine L.rd (rd_move rfl) rfl ?_
      refine L.rd (rd_move rfl) rfl ?_
      refine L.rd (rd_nilCheck rfl) rfl ?_
      refine L.rd (rd_fieldAddr tok rfl rfl rfl rfl rfl rfl) rfl ?_
      refine L.rd (rd_load1 tok rfl rfl rfl (hS.bl.cell rfl)) rfl ?_
      refine L.ef (e_buildSlice1 (e := 5) (cs := [_]) tok rfl rfl rfl rfl rfl rfl rfl rfl rfl (by first | (simp only [size_addB, size_setB, size_drew]; rfl) | rfl) rfl ?_)
      refine L.ef (e_appB (c := 40) tok rfl rfl rfl rfl rfl rfl rfl rfl rfl (by first | rfl | (simp only [size_addB, size_setB, size_drew])) rfl hS.bf (by omega) ?_)
      rintro v2 w2 hB2 hkp2
      obtain ⟨a2, c2, rfl⟩ := hB2.form
      have hb2 := hkp2 _ _ _ hS.bl rfl
      obtain ⟨hS3, hk3⟩ := hS.put hB2 hkp2 rfl
      refine L.rd (rd_nilCheck rfl) rfl ?_
      refine L.rd (rd_fieldAddr tok rfl rfl rfl rfl rfl rfl) rfl ?_
      refine L.ef (e_store (vs := [_]) tok rfl rfl rfl rfl hb2 rfl (by simp [Value.oneCell']) (by simp) ?_)
      refine L.nil ?_
      refine X.sq ?_
      refine V.seq ?_
      generalize hw3 : setB _ _ _ _ = w3
      replace hS3 : PStq w0 w3 (.slice a2 (acc ++ [40]).length c2) (acc ++ [40]) bad := by rw [← hw3]; exact hS3
      replace hk3 : KX 5 164 w w3 := by rw [← hw3]; exact hk3
      have ht3 := Tm.kx hk3 rfl rfl _ _ ht
      refine V.region ?_
      refine L.rd (rd_move rfl) rfl ?_
      refine L.rd (rd_move rfl) rfl ?_
      refine L.rd (rd_move rfl) rfl ?_
      (refine L.rd (rd_add3 rfl rfl ?_) rfl ?_; omega)
      refine L.ef (e_call rfl (ih v (d + 1) _ _ _ bad hw ht3 hS3 (by omega) (by omega) (by simp only [List.length_append, List.length_cons, List.length_nil]; omega)) rfl ?_)
      rintro _ w4 ⟨ov4, acc4, bad4, hS4, hk4, hl4, hb4, hg4⟩
      simp only [List.length_append, List.length_cons, List.length_nil] at hl4
      refine L.nil ?_
      refine X.sq ?_
      refine V.region ?_
      refine L.rd (rd_move rfl) rfl ?_
      refine L.rd (rd_move rfl) rfl ?_
      refine L.rd (rd_nilCheck rfl) rfl ?_
      refine L.rd (rd_fieldAddr tok rfl rfl rfl rfl rfl rfl) rfl ?_
      refine L.rd (rd_load1 tok rfl rfl rfl (hS4.bl.cell rfl)) rfl ?_
      refine L.ef (e_buildSlice1 (e := 5) (cs := [_]) tok rfl rfl rfl rfl rfl rfl rfl rfl rfl (by first | (simp only [size_addB, size_setB, size_drew]; rfl) | rfl) rfl ?_)
      refine L.ef (e_appB (c := 41) tok rfl rfl rfl rfl rfl rfl rfl rfl rfl (by first | rfl | (simp only [size_addB, size_setB, size_drew])) rfl hS4.bf (by omega) ?_)
      rintro v5 w5 hB5 hkp5
      obtain ⟨a5, c5, rfl⟩ := hB5.form
      have hb5 := hkp5 _ _ _ hS4.bl rfl
      obtain ⟨hS6, hk6⟩ := hS4.put hB5 hkp5 rfl
      refine L.rd (rd_nilCheck rfl) rfl ?_
      refine L.rd (rd_fieldAddr tok rfl rfl rfl rfl rfl rfl) rfl ?_
      refine L.ef (e_store (vs := [_]) tok rfl rfl rfl rfl hb5 rfl (by simp [Value.oneCell']) (by simp) ?_)
      refine L.nil ?_
      refine ret_0 Yaam.results131 ?_
      rw [if_neg (by omega)]
      refine ⟨_, _, bad4, hS6, (hk3.trans hk4).trans hk6, by simp only [List.length_append, List.length_cons, List.length_nil]; omega, hb4, fun hb => ?_⟩
      rcases hg4 hb with ⟨h1, h2⟩ | ⟨x, h1, h2, h3⟩
      · exact .inl ⟨by simp only [h1]; rfl, h2⟩
      · exact .inr ⟨40 :: (x ++ [41]), by simp only [h1]; rfl, h2, by rw [h3]; simp⟩

theorem text_ok (w0 : World) : ∀ t : Tre, TxC w0 t := by
  refine Tre.ind (fun k vv x c v d w ov acc bad hw ht hS hd0 hd1 hl => ?_) (fun k vv x c ih v d w ov acc bad hw ht hS hd0 hd1 hl => ?_) (fun k vv x n c ih1 ih2 v d w ov acc bad hw ht hS hd0 hd1 hl => ?_)
  · obtain ⟨b, rfl, -, hb⟩ := ht
    have hA : (k = 1 ∧ x = 0) ∨ (k = 2 ∧ vv = 0 ∧ 0 ≤ x ∧ x ≤ 25) := hw
    rw [txt, tsz]
    rw [tsz] at hl
    refine enter3 Yaam.func106 Yaam.ntmps106 (by kernel_rfl) rfl rfl ?_
    refine V.seq ?_
    refine V.seq ?_
    refine V.region ?_
    refine L.rd (rd_move rfl) rfl ?_
    refine L.rd (rd_nilCheck rfl) rfl ?_
    refine L.rd (rd_fieldAddr tok rfl rfl rfl rfl rfl rfl) rfl ?_
    refine L.rd (rd_load1 tok rfl rfl rfl (rd_boolCell hS.bl)) rfl ?_
    refine L.nil ?_
    refine X.sq ?_
    first | refine V.cond rfl (fun h9 => ?_) (fun h9 => ?_) | refine V.condB rfl (fun h9 => ?_) (fun h9 => ?_)
    ·
      refine V.ret ?_
      refine X.sqRet ?_
      refine ret_0' Yaam.results106 ?_
      exact ⟨ov, acc, bad, hS, KX.refl _, by omega, fun h => h, fun h => by rw [h] at h9; cases h9⟩
    ·
      have hbad : bad = false := by simpa using h9
      subst hbad
      refine V.skip ?_
      refine X.sq ?_
      refine V.seq ?_
      refine V.region ?_
      refine L.rd (rd_move rfl) rfl ?_
      refine L.rd (rd_nilCheck rfl) rfl ?_
      refine L.rd (rd_fieldAddr tok rfl rfl rfl rfl rfl rfl) rfl ?_
      refine L.rd (rd_load1 tok rfl rfl rfl (hb.cell rfl)) rfl ?_
      refine L.nil ?_
      refine X.sq ?_
      refine V.block ?_
      refine V.seq ?_
      refine V.region ?_
      refine L.rd (rd_eql rfl rfl) rfl ?_
      refine L.rd (rd_assign rfl) rfl ?_
      refine L.nil ?_
      refine X.sq ?_
      first | refine V.cond rfl (fun h14 => ?_) (fun h14 => ?_) | refine V.condB rfl (fun h14 => ?_) (fun h14 => ?_)
      ·
        refine V.draw [10, 13] mixed ?_
        refine D.takeP 0 [true, false, false, false, false, false, false, false, false, false, false, false, false, false] (.bk .bd) rfl (fun _ => rd_move rfl) rfl (by kernel_rfl) rfl ?_
        refine D.takeP 1 [true, true, false, false, false, false, false, false, false, false, false, false, false, false] (.bk .bd) rfl (fun _ => rd_move rfl) rfl (by kernel_rfl) rfl ?_
        refine D.takeP 2 [true, true, true, false, false, false, false, false, false, false, false, false, false, false] (.bk .bd) rfl (fun _ => rd_nilCheck rfl) rfl (by kernel_rfl) rfl ?_
        refine D.takeP 3 [true, true, true, true, false, false, false, false, false, false, false, false, false, false] (.bk .bd) rfl (fun _ => rd_fieldAddr tok rfl rfl rfl rfl rfl rfl) rfl (by kernel_rfl) rfl ?_
        refine D.takeW 4 [true, true, true, true, true, false, false, false, false, false, false, false, false, false] (.bk .bd) rfl (rd_load1 tok rfl rfl rfl (hS.bl.cell rfl)) rfl (by kernel_rfl) rfl (LeC.drew _) ?_
        refine D.takeP 5 [true, true, true, true, true, true, false, false, false, false, false, false, false, false] (.bk .bd) rfl (fun _ => rd_move rfl) rfl (by kernel_rfl) rfl ?_
        refine D.takeP 6 [true, true, true, true, true, true, true, false, false, false, false, false, false, false] (.bk .bd) rfl (fun _ => rd_nilCheck rfl) rfl (by kernel_rfl) rfl ?_
        refine D.takeP 7 [true, true, true, true, true, true, true, true, false, false, false, false, false, false] (.bk .bd) rfl (fun _ => rd_fieldAddr tok rfl rfl rfl rfl rfl rfl) rfl (by kernel_rfl) rfl ?_
        refine D.takeW 8 [true, true, true, true, true, true, true, true, true, false, false, false, false, false] (.bk .bd) rfl (rd_load1 tok rfl rfl rfl (hb.cell (i := 1) rfl)) rfl (by kernel_rfl) rfl (LeC.drew _) ?_
        refine D.one 9 [true, true, true, true, true, true, true, true, true, true, false, false, false, false] rfl (by kernel_rfl) rfl (e_call rfl (UDec_ok vv _) rfl ?_)
        rintro _ w1 ⟨rfl, he1'⟩
        have he1 : Ext w.heap.size w w1 := (Ext.refl _ w).drew.trans he1'
        have hS1 := hS.ext he1
        refine ⟨fun _ => he1.leC, ?_⟩
        refine D.one 10 [true, true, true, true, true, true, true, true, true, true, true, false, false, false] rfl (by kernel_rfl) rfl (e_appS tok rfl rfl rfl rfl rfl rfl rfl rfl rfl rfl rfl rfl hS1.bf (by rw [mkS_size]; have := udec_len vv; omega) ?_)
        rintro v2 w2 hB2 hkp2
        rw [bl_mkS _ (udec_lt _)] at hB2
        obtain ⟨a2, c2, rfl⟩ := hB2.form
        have hb2 := hkp2 _ _ _ hS1.bl rfl
        obtain ⟨hS3, hk3⟩ := hS1.put hB2 hkp2 rfl
        refine ⟨fun h => (by cases h), ?_⟩
        refine D.takeP 11 [true, true, true, true, true, true, true, true, true, true, true, true, false, false] (.bk .bd) rfl (fun _ => rd_nilCheck rfl) rfl (by kernel_rfl) rfl ?_
        refine D.takeP 12 [true, true, true, true, true, true, true, true, true, true, true, true, true, false] (.bk .bd) rfl (fun _ => rd_fieldAddr tok rfl rfl rfl rfl rfl rfl) rfl (by kernel_rfl) rfl ?_
        refine D.one 13 [true, true, true, true, true, true, true, true, true, true, true, true, true, true] rfl (by kernel_rfl) rfl (e_store (vs := [_]) tok rfl rfl rfl rfl hb2 rfl (by simp [Value.oneCell']) (by simp) ⟨fun h => (by cases h), ?_⟩)
        refine D.done (by kernel_rfl) ?_
        refine X.bk ?_
        refine ret_0 Yaam.results106 ?_
        rw [if_pos (by omega)]
        exact ⟨_, _, false, hS3, (KX.ext he1).trans hk3, by rw [List.length_append]; have := udec_len vv; omega, fun h => h, fun _ => .inr ⟨_, rfl, rfl, rfl⟩⟩
      ·
        refine V.seq ?_
        refine V.region ?_
        refine L.rd (rd_eql rfl rfl) rfl ?_
        refine L.rd (rd_assign rfl) rfl ?_
        refine L.nil ?_
        refine X.sq ?_
        first | refine V.cond rfl (fun h29 => ?_) (fun h29 => ?_) | refine V.condB rfl (fun h29 => ?_) (fun h29 => ?_)
        ·
          have hSd := hS.ext ((Ext.refl _ w).drew)
          refine V.draw [12, 15] mixed ?_
          refine D.takeP 0 [true, false, false, false, false, false, false, false, false, false, false, false, false, false, false, false] (.bk .bd) rfl (fun _ => rd_move rfl) rfl (by kernel_rfl) rfl ?_
          refine D.takeP 1 [true, true, false, false, false, false, false, false, false, false, false, false, false, false, false, false] (.bk .bd) rfl (fun _ => rd_move rfl) rfl (by kernel_rfl) rfl ?_
          refine D.takeP 2 [true, true, true, false, false, false, false, false, false, false, false, false, false, false, false, false] (.bk .bd) rfl (fun _ => rd_nilCheck rfl) rfl (by kernel_rfl) rfl ?_
          refine D.takeP 3 [true, true, true, true, false, false, false, false, false, false, false, false, false, false, false, false] (.bk .bd) rfl (fun _ => rd_fieldAddr tok rfl rfl rfl rfl rfl rfl) rfl (by kernel_rfl) rfl ?_
          refine D.takeW 4 [true, true, true, true, true, false, false, false, false, false, false, false, false, false, false, false] (.bk .bd) rfl (rd_load1 tok rfl rfl rfl (hS.bl.cell rfl)) rfl (by kernel_rfl) rfl (LeC.drew _) ?_
          refine D.takeP 5 [true, true, true, true, true, true, false, false, false, false, false, false, false, false, false, false] (.bk .bd) rfl (fun _ => rd_move rfl) rfl (by kernel_rfl) rfl ?_
          refine D.takeP 6 [true, true, true, true, true, true, true, false, false, false, false, false, false, false, false, false] (.bk .bd) rfl (fun _ => rd_nilCheck rfl) rfl (by kernel_rfl) rfl ?_
          refine D.takeP 7 [true, true, true, true, true, true, true, true, false, false, false, false, false, false, false, false] (.bk .bd) rfl (fun _ => rd_fieldAddr tok rfl rfl rfl rfl rfl rfl) rfl (by kernel_rfl) rfl ?_
          refine D.takeW 8 [true, true, true, true, true, true, true, true, true, false, false, false, false, false, false, false] (.bk .bd) rfl (rd_load1 tok rfl rfl rfl (hb.cell (i := 2) rfl)) rfl (by kernel_rfl) rfl (LeC.drew _) ?_
          (refine D.takeP 9 [true, true, true, true, true, true, true, true, true, true, false, false, false, false, false, false] (.bk .bd) rfl (fun _ => rd_add3 rfl rfl ?_) rfl (by kernel_rfl) rfl ?_; omega)
          refine D.takeP 10 [true, true, true, true, true, true, true, true, true, true, true, false, false, false, false, false] (.bk .bd) rfl (fun _ => rd_convE (r := ((97 + x.toNat : Nat) : Int)) tok rfl rfl rfl rfl rfl (by rw [wrap_u8_in (by omega)]; omega)) rfl (by kernel_rfl) rfl ?_
          refine D.one 11 [true, true, true, true, true, true, true, true, true, true, true, true, false, false, false, false] rfl (by kernel_rfl) rfl (e_buildSlice1 (e := 5) (cs := [_]) tok rfl rfl rfl rfl rfl rfl rfl rfl rfl (by first | (simp only [size_addB, size_setB, size_drew]; rfl) | rfl) rfl ⟨fun _ => (Ext.leC ((Ext.refl _ w).drew.addNew _ _)), ?_⟩)
          refine D.one 12 [true, true, true, true, true, true, true, true, true, true, true, true, true, false, false, false] rfl (by kernel_rfl) rfl (e_appB tok rfl rfl rfl rfl rfl rfl rfl rfl rfl (by first | rfl | (simp only [size_addB, size_setB, size_drew])) rfl hSd.bf (by omega) ?_)
          rintro v2 w2 hB2 hkp2
          obtain ⟨a2, c2, rfl⟩ := hB2.form
          have hb2 := hkp2 _ _ _ hSd.bl rfl
          obtain ⟨hS3, hk3⟩ := hSd.put hB2 hkp2 rfl
          refine ⟨fun h => (by cases h), ?_⟩
          refine D.takeP 13 [true, true, true, true, true, true, true, true, true, true, true, true, true, true, false, false] (.bk .bd) rfl (fun _ => rd_nilCheck rfl) rfl (by kernel_rfl) rfl ?_
          refine D.takeP 14 [true, true, true, true, true, true, true, true, true, true, true, true, true, true, true, false] (.bk .bd) rfl (fun _ => rd_fieldAddr tok rfl rfl rfl rfl rfl rfl) rfl (by kernel_rfl) rfl ?_
          refine D.one 15 [true, true, true, true, true, true, true, true, true, true, true, true, true, true, true, true] rfl (by kernel_rfl) rfl (e_store (vs := [_]) tok rfl rfl rfl rfl hb2 rfl (by simp [Value.oneCell']) (by simp) ⟨fun h => (by cases h), ?_⟩)
          refine D.done (by kernel_rfl) ?_
          refine X.bk ?_
          refine ret_0 Yaam.results106 ?_
          rw [if_neg (by omega)]
          exact ⟨_, _, false, hS3, (KX.ext (Ext.refl _ w).drew).trans hk3, by simp only [List.length_append, List.length_cons, List.length_nil]; omega, fun h => h, fun _ => .inr ⟨_, rfl, rfl, rfl⟩⟩
        ·
          refine V.seq ?_
          exfalso
          omega
  · obtain ⟨b, q, rfl, -, hb, ht1⟩ := ht
    obtain ⟨hx0, hA, hw1⟩ := hw
    obtain ⟨b1, q1, q2, rfl, -, hb1, -⟩ := Tm.node ht1
    have hp := tsz_pos (c 0)
    rw [txt, tsz]
    rw [tsz] at hl
    refine enter3 Yaam.func106 Yaam.ntmps106 (by kernel_rfl) rfl rfl ?_
    refine V.seq ?_
    refine V.seq ?_
    refine V.region ?_
    refine L.rd (rd_move rfl) rfl ?_
    refine L.rd (rd_nilCheck rfl) rfl ?_
    refine L.rd (rd_fieldAddr tok rfl rfl rfl rfl rfl rfl) rfl ?_
    refine L.rd (rd_load1 tok rfl rfl rfl (rd_boolCell hS.bl)) rfl ?_
    refine L.nil ?_
    refine X.sq ?_
    first | refine V.cond rfl (fun h9 => ?_) (fun h9 => ?_) | refine V.condB rfl (fun h9 => ?_) (fun h9 => ?_)
    ·
      refine V.ret ?_
      refine X.sqRet ?_
      refine ret_0' Yaam.results106 ?_
      exact ⟨ov, acc, bad, hS, KX.refl _, by omega, fun h => h, fun h => by rw [h] at h9; cases h9⟩
    ·
      have hbad : bad = false := by simpa using h9
      subst hbad
      refine V.skip ?_
      refine X.sq ?_
      refine V.seq ?_
      refine V.region ?_
      refine L.rd (rd_move rfl) rfl ?_
      refine L.rd (rd_nilCheck rfl) rfl ?_
      refine L.rd (rd_fieldAddr tok rfl rfl rfl rfl rfl rfl) rfl ?_
      refine L.rd (rd_load1 tok rfl rfl rfl (hb.cell rfl)) rfl ?_
      refine L.nil ?_
      refine X.sq ?_
      refine V.block ?_
      refine V.seq ?_
      refine V.region ?_
      refine L.rd (rd_eql rfl rfl) rfl ?_
      refine L.rd (rd_assign rfl) rfl ?_
      refine L.nil ?_
      refine X.sq ?_
      first | refine V.cond rfl (fun h14 => ?_) (fun h14 => ?_) | refine V.condB rfl (fun h14 => ?_) (fun h14 => ?_)
      ·
        exfalso
        omega
      ·
        refine V.seq ?_
        refine V.region ?_
        refine L.rd (rd_eql rfl rfl) rfl ?_
        refine L.rd (rd_assign rfl) rfl ?_
        refine L.nil ?_
        refine X.sq ?_
        first | refine V.cond rfl (fun h29 => ?_) (fun h29 => ?_) | refine V.condB rfl (fun h29 => ?_) (fun h29 => ?_)
        ·
          exfalso
          omega
        ·
          refine V.seq ?_
          refine V.region ?_
          refine L.rd (rd_eql rfl rfl) rfl ?_
          refine L.rd (rd_assign rfl) rfl ?_
          refine L.nil ?_
          refine X.sq ?_
          first | refine V.cond rfl (fun h46 => ?_) (fun h46 => ?_) | refine V.condB rfl (fun h46 => ?_) (fun h46 => ?_)
          ·
            refine V.seq ?_
            refine V.region ?_
            refine L.rd (rd_move rfl) rfl ?_
            refine L.rd (rd_move rfl) rfl ?_
            refine L.rd (rd_nilCheck rfl) rfl ?_
            refine L.rd (rd_fieldAddr tok rfl rfl rfl rfl rfl rfl) rfl ?_
            refine L.rd (rd_load1 tok rfl rfl rfl (hS.bl.cell rfl)) rfl ?_
            refine L.ef (e_buildSlice1 (e := 5) (cs := [_]) tok rfl rfl rfl rfl rfl rfl rfl rfl rfl (by first | (simp only [size_addB, size_setB, size_drew]; rfl) | rfl) rfl ?_)
            refine L.ef (e_appB (c := 45) tok rfl rfl rfl rfl rfl rfl rfl rfl rfl (by first | rfl | (simp only [size_addB, size_setB, size_drew])) rfl hS.bf (by omega) ?_)
            rintro v2 w2 hB2 hkp2
            obtain ⟨a2, c2, rfl⟩ := hB2.form
            have hb2 := hkp2 _ _ _ hS.bl rfl
            obtain ⟨hS3, hk3⟩ := hS.put hB2 hkp2 rfl
            refine L.rd (rd_nilCheck rfl) rfl ?_
            refine L.rd (rd_fieldAddr tok rfl rfl rfl rfl rfl rfl) rfl ?_
            refine L.ef (e_store (vs := [_]) tok rfl rfl rfl rfl hb2 rfl (by simp [Value.oneCell']) (by simp) ?_)
            refine L.nil ?_
            refine X.sq ?_
            generalize hw3 : setB _ _ _ _ = w3
            replace hS3 : PStq w0 w3 (.slice a2 (acc ++ [45]).length c2) (acc ++ [45]) false := by rw [← hw3]; exact hS3
            replace hk3 : KX 5 164 w w3 := by rw [← hw3]; exact hk3
            have hb3 := hk3 _ _ _ hb rfl rfl
            have hb13 := hk3 _ _ _ hb1 rfl rfl
            have ht3 := Tm.kx hk3 rfl rfl _ _ ht1
            refine V.draw [15] mixed ?_
            refine D.takeP 0 [true, false, false, false, false, false, false, false, false, false, false, false, false, false, false, false] (.bk .bd) rfl (fun _ => rd_move rfl) rfl (by kernel_rfl) rfl ?_
            refine D.takeP 1 [true, true, false, false, false, false, false, false, false, false, false, false, false, false, false, false] (.bk .bd) rfl (fun _ => rd_move rfl) rfl (by kernel_rfl) rfl ?_
            refine D.takeP 2 [true, true, true, false, false, false, false, false, false, false, false, false, false, false, false, false] (.bk .bd) rfl (fun _ => rd_nilCheck rfl) rfl (by kernel_rfl) rfl ?_
            refine D.takeP 3 [true, true, true, true, false, false, false, false, false, false, false, false, false, false, false, false] (.bk .bd) rfl (fun _ => rd_fieldAddr tok rfl rfl rfl rfl rfl rfl) rfl (by kernel_rfl) rfl ?_
            refine D.takeW 4 [true, true, true, true, true, false, false, false, false, false, false, false, false, false, false, false] (.bk .bd) rfl (rd_load1 tok rfl rfl rfl (hb3.cell (i := 3) rfl)) rfl (by kernel_rfl) rfl (LeC.drew _) ?_
            refine D.takeP 5 [true, true, true, true, true, true, false, false, false, false, false, false, false, false, false, false] (.bk .bd) rfl (fun _ => rd_move rfl) rfl (by kernel_rfl) rfl ?_
            refine D.takeP 6 [true, true, true, true, true, true, true, false, false, false, false, false, false, false, false, false] (.bk .bd) rfl (fun _ => rd_nilCheck rfl) rfl (by kernel_rfl) rfl ?_
            refine D.takeP 7 [true, true, true, true, true, true, true, true, false, false, false, false, false, false, false, false] (.bk .bd) rfl (fun _ => rd_fieldAddr tok rfl rfl rfl rfl rfl rfl) rfl (by kernel_rfl) rfl ?_
            refine D.takeW 8 [true, true, true, true, true, true, true, true, true, false, false, false, false, false, false, false] (.bk .bd) rfl (rd_load1 tok rfl rfl rfl (hb3.cell (i := 3) rfl)) rfl (by kernel_rfl) rfl (LeC.drew _) ?_
            refine D.takeP 9 [true, true, true, true, true, true, true, true, true, true, false, false, false, false, false, false] (.bk .bd) rfl (fun _ => rd_nilCheck rfl) rfl (by kernel_rfl) rfl ?_
            refine D.takeP 10 [true, true, true, true, true, true, true, true, true, true, true, false, false, false, false, false] (.bk .bd) rfl (fun _ => rd_fieldAddr tok rfl rfl rfl rfl rfl rfl) rfl (by kernel_rfl) rfl ?_
            refine D.takeW 11 [true, true, true, true, true, true, true, true, true, true, true, true, false, false, false, false] (.bk .bd) rfl (rd_load1 tok rfl rfl rfl (hb13.cell rfl)) rfl (by kernel_rfl) rfl (LeC.drew _) ?_
            refine D.takeP 14 [true, true, true, true, true, true, true, true, true, true, true, true, false, false, true, false] (.bk .bd) rfl (fun _ => rd_move rfl) rfl (by kernel_rfl) rfl ?_
            refine D.one 12 [true, true, true, true, true, true, true, true, true, true, true, true, true, false, true, false] rfl (by kernel_rfl) rfl (e_call rfl (precOf_ok _ _) rfl ?_)
            rintro _ _ ⟨rfl, rfl⟩
            refine ⟨fun _ => (LeC.drew _), ?_⟩
            refine D.takeP 13 [true, true, true, true, true, true, true, true, true, true, true, true, true, true, true, false] (.bk .bd) rfl (fun _ => rd_leq rfl rfl) rfl (by kernel_rfl) rfl ?_
            refine D.one 15 [true, true, true, true, true, true, true, true, true, true, true, true, true, true, true, true] rfl (by kernel_rfl) rfl (e_call rfl (wrap_ok ih _ _ d _ _ _ _ hw1 (ht3.ext (Ext.refl _ _).drew) (hS3.ext (Ext.refl _ _).drew) hd0 hd1 (by simp only [List.length_append, List.length_cons, List.length_nil]; omega)) rfl ?_)
            rintro _ w5 ⟨ov5, acc5, bad5, hS5, hk5, hl5, hb5, hg5⟩
            simp only [List.length_append, List.length_cons, List.length_nil] at hl5
            refine ⟨fun h => (by cases h), ?_⟩
            refine D.done (by kernel_rfl) ?_
            refine X.bk ?_
            refine ret_0 Yaam.results106 ?_
            rw [if_pos (by omega)]
            refine ⟨ov5, acc5, bad5, hS5, (hk3.trans (KX.ext (Ext.refl _ w3).drew)).trans hk5, by omega, fun h => (by cases h), fun _ => ?_⟩
            rcases hg5 rfl with ⟨h1, h2⟩ | ⟨y, h1, h2, h3⟩
            · exact .inl ⟨by rw [h1]; rfl, h2⟩
            · exact .inr ⟨45 :: y, by rw [h1]; rfl, h2, by rw [h3]; simp⟩
          ·
            refine V.seq ?_
            refine V.seq ?_
            refine V.region ?_
            refine L.rd (rd_eql rfl rfl) rfl ?_
            refine L.rd (rd_assign rfl) rfl ?_
            refine L.nil ?_
            refine X.sq ?_
            first | refine V.cond rfl (fun h73 => ?_) (fun h73 => ?_) | refine V.condB rfl (fun h73 => ?_) (fun h73 => ?_)
            ·
              refine V.skip ?_
              refine X.sq ?_
              first | refine V.cond rfl (fun h73_ => ?_) (fun h73_ => ?_) | refine V.condB rfl (fun h73_ => ?_) (fun h73_ => ?_)
              ·
                refine V.seq ?_
                exfalso
                omega
              ·
                exact absurd h73 h73_
            ·
              refine V.region ?_
              refine L.rd (rd_eql rfl rfl) rfl ?_
              refine L.rd (rd_assign rfl) rfl ?_
              refine L.nil ?_
              refine X.sq ?_
              first | refine V.cond rfl (fun h73 => ?_) (fun h73 => ?_) | refine V.condB rfl (fun h73 => ?_) (fun h73 => ?_)
              ·
                refine V.seq ?_
                exfalso
                omega
              ·
                refine V.seq ?_
                refine V.region ?_
                refine L.rd (rd_eql rfl rfl) rfl ?_
                refine L.rd (rd_assign rfl) rfl ?_
                refine L.nil ?_
                refine X.sq ?_
                first | refine V.cond rfl (fun h122 => ?_) (fun h122 => ?_) | refine V.condB rfl (fun h122 => ?_) (fun h122 => ?_)
                ·
                  refine V.seq ?_
                  exfalso
                  omega
                ·
                  refine V.seq ?_
                  refine V.region ?_
                  refine L.rd (rd_eql rfl rfl) rfl ?_
                  refine L.rd (rd_assign rfl) rfl ?_
                  refine L.nil ?_
                  refine X.sq ?_
                  first | refine V.cond rfl (fun h165 => ?_) (fun h165 => ?_) | refine V.condB rfl (fun h165 => ?_) (fun h165 => ?_)
                  ·
                    refine V.seq ?_
                    refine V.draw [15] mixed ?_
                    refine D.takeP 0 [true, false, false, false, false, false, false, false, false, false, false, false, false, false, false, false] (.sq (.bk .bd)) rfl (fun _ => rd_move rfl) rfl (by kernel_rfl) rfl ?_
                    refine D.takeP 1 [true, true, false, false, false, false, false, false, false, false, false, false, false, false, false, false] (.sq (.bk .bd)) rfl (fun _ => rd_move rfl) rfl (by kernel_rfl) rfl ?_
                    refine D.takeP 2 [true, true, true, false, false, false, false, false, false, false, false, false, false, false, false, false] (.sq (.bk .bd)) rfl (fun _ => rd_nilCheck rfl) rfl (by kernel_rfl) rfl ?_
                    refine D.takeP 3 [true, true, true, true, false, false, false, false, false, false, false, false, false, false, false, false] (.sq (.bk .bd)) rfl (fun _ => rd_fieldAddr tok rfl rfl rfl rfl rfl rfl) rfl (by kernel_rfl) rfl ?_
                    refine D.takeW 4 [true, true, true, true, true, false, false, false, false, false, false, false, false, false, false, false] (.sq (.bk .bd)) rfl (rd_load1 tok rfl rfl rfl (hb.cell (i := 3) rfl)) rfl (by kernel_rfl) rfl (LeC.drew _) ?_
                    refine D.takeP 5 [true, true, true, true, true, true, false, false, false, false, false, false, false, false, false, false] (.sq (.bk .bd)) rfl (fun _ => rd_move rfl) rfl (by kernel_rfl) rfl ?_
                    refine D.takeP 6 [true, true, true, true, true, true, true, false, false, false, false, false, false, false, false, false] (.sq (.bk .bd)) rfl (fun _ => rd_nilCheck rfl) rfl (by kernel_rfl) rfl ?_
                    refine D.takeP 7 [true, true, true, true, true, true, true, true, false, false, false, false, false, false, false, false] (.sq (.bk .bd)) rfl (fun _ => rd_fieldAddr tok rfl rfl rfl rfl rfl rfl) rfl (by kernel_rfl) rfl ?_
                    refine D.takeW 8 [true, true, true, true, true, true, true, true, true, false, false, false, false, false, false, false] (.sq (.bk .bd)) rfl (rd_load1 tok rfl rfl rfl (hb.cell (i := 3) rfl)) rfl (by kernel_rfl) rfl (LeC.drew _) ?_
                    refine D.takeP 9 [true, true, true, true, true, true, true, true, true, true, false, false, false, false, false, false] (.sq (.bk .bd)) rfl (fun _ => rd_nilCheck rfl) rfl (by kernel_rfl) rfl ?_
                    refine D.takeP 10 [true, true, true, true, true, true, true, true, true, true, true, false, false, false, false, false] (.sq (.bk .bd)) rfl (fun _ => rd_fieldAddr tok rfl rfl rfl rfl rfl rfl) rfl (by kernel_rfl) rfl ?_
                    refine D.takeW 11 [true, true, true, true, true, true, true, true, true, true, true, true, false, false, false, false] (.sq (.bk .bd)) rfl (rd_load1 tok rfl rfl rfl (hb1.cell rfl)) rfl (by kernel_rfl) rfl (LeC.drew _) ?_
                    refine D.takeP 14 [true, true, true, true, true, true, true, true, true, true, true, true, false, false, true, false] (.sq (.bk .bd)) rfl (fun _ => rd_move rfl) rfl (by kernel_rfl) rfl ?_
                    refine D.one 12 [true, true, true, true, true, true, true, true, true, true, true, true, true, false, true, false] rfl (by kernel_rfl) rfl (e_call rfl (precOf_ok _ _) rfl ?_)
                    rintro _ _ ⟨rfl, rfl⟩
                    refine ⟨fun _ => (LeC.drew _), ?_⟩
                    refine D.takeP 13 [true, true, true, true, true, true, true, true, true, true, true, true, true, true, true, false] (.sq (.bk .bd)) rfl (fun _ => rd_leq rfl rfl) rfl (by kernel_rfl) rfl ?_
                    refine D.one 15 [true, true, true, true, true, true, true, true, true, true, true, true, true, true, true, true] rfl (by kernel_rfl) rfl (e_call rfl (wrap_ok ih _ _ d _ _ _ _ hw1 (ht1.ext (Ext.refl _ _).drew) (hS.ext (Ext.refl _ _).drew) hd0 hd1 (by omega)) rfl ?_)
                    rintro _ w5 ⟨ov5, acc5, bad5, hS5, hk5, hl5, hb5, hg5⟩
                    have hkw5 := (KX.ext (Ext.refl _ w).drew).trans hk5
                    have hbw5 := hkw5 _ _ _ hb rfl rfl
                    refine ⟨fun h => (by cases h), ?_⟩
                    refine D.done (by kernel_rfl) ?_
                    refine X.sq ?_
                    refine V.seq ?_
                    refine V.region ?_
                    refine L.rd (rd_move rfl) rfl ?_
                    refine L.rd (rd_move rfl) rfl ?_
                    refine L.rd (rd_nilCheck rfl) rfl ?_
                    refine L.rd (rd_fieldAddr tok rfl rfl rfl rfl rfl rfl) rfl ?_
                    refine L.rd (rd_load1 tok rfl rfl rfl (hS5.bl.cell rfl)) rfl ?_
                    refine L.ef (e_buildSlice1 (e := 5) (cs := [_]) tok rfl rfl rfl rfl rfl rfl rfl rfl rfl (by first | (simp only [size_addB, size_setB, size_drew]; rfl) | rfl) rfl ?_)
                    refine L.ef (e_appB (c := 94) tok rfl rfl rfl rfl rfl rfl rfl rfl rfl (by first | rfl | (simp only [size_addB, size_setB, size_drew])) rfl hS5.bf (by omega) ?_)
                    rintro v2 w2 hB2 hkp2
                    obtain ⟨a2, c2, rfl⟩ := hB2.form
                    have hb2 := hkp2 _ _ _ hS5.bl rfl
                    obtain ⟨hS3, hk3⟩ := hS5.put hB2 hkp2 rfl
                    refine L.rd (rd_nilCheck rfl) rfl ?_
                    refine L.rd (rd_fieldAddr tok rfl rfl rfl rfl rfl rfl) rfl ?_
                    refine L.ef (e_store (vs := [_]) tok rfl rfl rfl rfl hb2 rfl (by simp [Value.oneCell']) (by simp) ?_)
                    refine L.nil ?_
                    refine X.sq ?_
                    generalize hw3 : setB _ _ _ _ = w3
                    replace hS3 : PStq w0 w3 (.slice a2 (acc5 ++ [94]).length c2) (acc5 ++ [94]) bad5 := by rw [← hw3]; exact hS3
                    replace hk3 : KX 5 164 w5 w3 := by rw [← hw3]; exact hk3
                    have hb3 := hk3 _ _ _ hbw5 rfl rfl
                    refine V.draw [10, 13] mixed ?_
                    refine D.takeP 0 [true, false, false, false, false, false, false, false, false, false, false, false, false, false] (.bk .bd) rfl (fun _ => rd_move rfl) rfl (by kernel_rfl) rfl ?_
                    refine D.takeP 1 [true, true, false, false, false, false, false, false, false, false, false, false, false, false] (.bk .bd) rfl (fun _ => rd_move rfl) rfl (by kernel_rfl) rfl ?_
                    refine D.takeP 2 [true, true, true, false, false, false, false, false, false, false, false, false, false, false] (.bk .bd) rfl (fun _ => rd_nilCheck rfl) rfl (by kernel_rfl) rfl ?_
                    refine D.takeP 3 [true, true, true, true, false, false, false, false, false, false, false, false, false, false] (.bk .bd) rfl (fun _ => rd_fieldAddr tok rfl rfl rfl rfl rfl rfl) rfl (by kernel_rfl) rfl ?_
                    refine D.takeW 4 [true, true, true, true, true, false, false, false, false, false, false, false, false, false] (.bk .bd) rfl (rd_load1 tok rfl rfl rfl (hS3.bl.cell rfl)) rfl (by kernel_rfl) rfl (LeC.drew _) ?_
                    refine D.takeP 5 [true, true, true, true, true, true, false, false, false, false, false, false, false, false] (.bk .bd) rfl (fun _ => rd_move rfl) rfl (by kernel_rfl) rfl ?_
                    refine D.takeP 6 [true, true, true, true, true, true, true, false, false, false, false, false, false, false] (.bk .bd) rfl (fun _ => rd_nilCheck rfl) rfl (by kernel_rfl) rfl ?_
                    refine D.takeP 7 [true, true, true, true, true, true, true, true, false, false, false, false, false, false] (.bk .bd) rfl (fun _ => rd_fieldAddr tok rfl rfl rfl rfl rfl rfl) rfl (by kernel_rfl) rfl ?_
                    refine D.takeW 8 [true, true, true, true, true, true, true, true, true, false, false, false, false, false] (.bk .bd) rfl (rd_load1 tok rfl rfl rfl (hb3.cell (i := 1) rfl)) rfl (by kernel_rfl) rfl (LeC.drew _) ?_
                    refine D.one 9 [true, true, true, true, true, true, true, true, true, true, false, false, false, false] rfl (by kernel_rfl) rfl (e_call rfl (UDec_ok vv _) rfl ?_)
                    rintro _ w6 ⟨rfl, he6'⟩
                    have he6 : Ext w3.heap.size w3 w6 := (Ext.refl _ w3).drew.trans he6'
                    have hS6 := hS3.ext he6
                    refine ⟨fun _ => he6.leC, ?_⟩
                    refine D.one 10 [true, true, true, true, true, true, true, true, true, true, true, false, false, false] rfl (by kernel_rfl) rfl (e_appS tok rfl rfl rfl rfl rfl rfl rfl rfl rfl rfl rfl rfl hS6.bf (by rw [mkS_size]; have := udec_len vv; simp only [List.length_append, List.length_cons, List.length_nil]; omega) ?_)
                    rintro v7 w7 hB7 hkp7
                    rw [bl_mkS _ (udec_lt _)] at hB7
                    obtain ⟨a7, c7, rfl⟩ := hB7.form
                    have hb7 := hkp7 _ _ _ hS6.bl rfl
                    obtain ⟨hS8, hk8⟩ := hS6.put hB7 hkp7 rfl
                    refine ⟨fun h => (by cases h), ?_⟩
                    refine D.takeP 11 [true, true, true, true, true, true, true, true, true, true, true, true, false, false] (.bk .bd) rfl (fun _ => rd_nilCheck rfl) rfl (by kernel_rfl) rfl ?_
                    refine D.takeP 12 [true, true, true, true, true, true, true, true, true, true, true, true, true, false] (.bk .bd) rfl (fun _ => rd_fieldAddr tok rfl rfl rfl rfl rfl rfl) rfl (by kernel_rfl) rfl ?_
                    refine D.one 13 [true, true, true, true, true, true, true, true, true, true, true, true, true, true] rfl (by kernel_rfl) rfl (e_store (vs := [_]) tok rfl rfl rfl rfl hb7 rfl (by simp [Value.oneCell']) (by simp) ⟨fun h => (by cases h), ?_⟩)
                    refine D.done (by kernel_rfl) ?_
                    refine X.bk ?_
                    refine ret_0 Yaam.results106 ?_
                    rw [if_neg (by omega)]
                    refine ⟨_, _, bad5, hS8, ((hkw5.trans hk3).trans (KX.ext he6)).trans hk8, by simp only [List.length_append, List.length_cons, List.length_nil]; have := udec_len vv; omega, fun h => (by cases h), fun _ => ?_⟩
                    rcases hg5 rfl with ⟨h1, h2⟩ | ⟨y, h1, h2, h3⟩
                    · exact .inl ⟨by rw [h1]; rfl, h2⟩
                    · exact .inr ⟨y ++ 94 :: udec vv, by rw [h1]; rfl, h2, by rw [h3]; simp⟩
                  ·
                    exfalso
                    omega
  · obtain ⟨b, q, q', rfl, -, hb, ht1, ht2⟩ := ht
    obtain ⟨rfl, hv0, hx0, hkk, hw1, hw2⟩ := hw
    obtain ⟨b1, q1, q2, rfl, -, hb1, -⟩ := Tm.node ht1
    obtain ⟨b3, q3, q4, rfl, -, hbb2, -⟩ := Tm.node ht2
    have hp := tsz_pos (c 0)
    have hp2 := tsz_pos (c 1)
    rw [txt, tsz]
    rw [tsz] at hl
    refine enter3 Yaam.func106 Yaam.ntmps106 (by kernel_rfl) rfl rfl ?_
    refine V.seq ?_
    refine V.seq ?_
    refine V.region ?_
    refine L.rd (rd_move rfl) rfl ?_
    refine L.rd (rd_nilCheck rfl) rfl ?_
    refine L.rd (rd_fieldAddr tok rfl rfl rfl rfl rfl rfl) rfl ?_
    refine L.rd (rd_load1 tok rfl rfl rfl (rd_boolCell hS.bl)) rfl ?_
    refine L.nil ?_
    refine X.sq ?_
    first | refine V.cond rfl (fun h9 => ?_) (fun h9 => ?_) | refine V.condB rfl (fun h9 => ?_) (fun h9 => ?_)
    ·
      refine V.ret ?_
      refine X.sqRet ?_
      refine ret_0' Yaam.results106 ?_
      exact ⟨ov, acc, bad, hS, KX.refl _, by omega, fun h => h, fun h => by rw [h] at h9; cases h9⟩
    ·
      have hbad : bad = false := by simpa using h9
      subst hbad
      refine V.skip ?_
      refine X.sq ?_
      refine V.seq ?_
      refine V.region ?_
      refine L.rd (rd_move rfl) rfl ?_
      refine L.rd (rd_nilCheck rfl) rfl ?_
      refine L.rd (rd_fieldAddr tok rfl rfl rfl rfl rfl rfl) rfl ?_
      refine L.rd (rd_load1 tok rfl rfl rfl (hb.cell rfl)) rfl ?_
      refine L.nil ?_
      refine X.sq ?_
      refine V.block ?_
      refine V.seq ?_
      refine V.region ?_
      refine L.rd (rd_eql rfl rfl) rfl ?_
      refine L.rd (rd_assign rfl) rfl ?_
      refine L.nil ?_
      refine X.sq ?_
      first | refine V.cond rfl (fun h14 => ?_) (fun h14 => ?_) | refine V.condB rfl (fun h14 => ?_) (fun h14 => ?_)
      ·
        exfalso
        omega
      ·
        refine V.seq ?_
        refine V.region ?_
        refine L.rd (rd_eql rfl rfl) rfl ?_
        refine L.rd (rd_assign rfl) rfl ?_
        refine L.nil ?_
        refine X.sq ?_
        first | refine V.cond rfl (fun h29 => ?_) (fun h29 => ?_) | refine V.condB rfl (fun h29 => ?_) (fun h29 => ?_)
        ·
          exfalso
          omega
        ·
          refine V.seq ?_
          refine V.region ?_
          refine L.rd (rd_eql rfl rfl) rfl ?_
          refine L.rd (rd_assign rfl) rfl ?_
          refine L.nil ?_
          refine X.sq ?_
          first | refine V.cond rfl (fun h46 => ?_) (fun h46 => ?_) | refine V.condB rfl (fun h46 => ?_) (fun h46 => ?_)
          ·
            refine V.seq ?_
            exfalso
            omega
          ·
            refine V.seq ?_
            refine V.seq ?_
            refine V.region ?_
            refine L.rd (rd_eql rfl rfl) rfl ?_
            refine L.rd (rd_assign rfl) rfl ?_
            refine L.nil ?_
            refine X.sq ?_
            first | refine V.cond rfl (fun h73 => ?_) (fun h73 => ?_) | refine V.condB rfl (fun h73 => ?_) (fun h73 => ?_)
            ·
              refine V.skip ?_
              refine X.sq ?_
              first | refine V.cond rfl (fun h73_ => ?_) (fun h73_ => ?_) | refine V.condB rfl (fun h73_ => ?_) (fun h73_ => ?_)
              ·
                refine V.seq ?_
                refine V.region ?_
                refine L.rd (rd_move rfl) rfl ?_
                refine L.rd (rd_move rfl) rfl ?_
                refine L.rd (rd_nilCheck rfl) rfl ?_
                refine L.rd (rd_fieldAddr tok rfl rfl rfl rfl rfl rfl) rfl ?_
                refine L.rd (rd_load1 tok rfl rfl rfl (hb.cell (i := 3) rfl)) rfl ?_
                refine L.rd (rd_move rfl) rfl ?_
                refine L.ef (e_call rfl (ih1 _ d _ _ _ _ hw1 ht1 hS hd0 hd1 (by omega)) rfl ?_)
                rintro _ w4 ⟨ov4, acc4, bad4, hS4, hk4, hl4, hb4, hg4⟩
                have hbw4 := hk4 _ _ _ hb rfl rfl
                refine L.nil ?_
                refine X.sq ?_
                refine V.seq ?_
                refine V.seq ?_
                refine V.region ?_
                refine L.rd (rd_move rfl) rfl ?_
                refine L.rd (rd_nilCheck rfl) rfl ?_
                refine L.rd (rd_fieldAddr tok rfl rfl rfl rfl rfl rfl) rfl ?_
                refine L.rd (rd_load1 tok rfl rfl rfl (hbw4.cell rfl)) rfl ?_
                refine L.rd (rd_eql rfl rfl) rfl ?_
                refine L.nil ?_
                refine X.sq ?_
                refine V.cut (fun l w' => ∃ (ov' : Value) (acc' : List Nat), l = [(0, .pointer (some ⟨w0.heap.size, 0, none⟩)), (1, .pointer (some ⟨b, 0, none⟩)), (2, .int .i64 d)] ∧ PStq w0 w' ov' acc' bad4 ∧ KX 5 164 w4 w' ∧ acc' = acc4 ++ [if k = 4 then 43 else 45]) ?_ ?_
                ·
                  first | refine V.cond rfl (fun h87 => ?_) (fun h87 => ?_) | refine V.condB rfl (fun h87 => ?_) (fun h87 => ?_)
                  ·
                    refine V.region ?_
                    refine L.rd (rd_move rfl) rfl ?_
                    refine L.rd (rd_move rfl) rfl ?_
                    refine L.rd (rd_nilCheck rfl) rfl ?_
                    refine L.rd (rd_fieldAddr tok rfl rfl rfl rfl rfl rfl) rfl ?_
                    refine L.rd (rd_load1 tok rfl rfl rfl (hS4.bl.cell rfl)) rfl ?_
                    refine L.ef (e_buildSlice1 (e := 5) (cs := [_]) tok rfl rfl rfl rfl rfl rfl rfl rfl rfl (by first | (simp only [size_addB, size_setB, size_drew]; rfl) | rfl) rfl ?_)
                    refine L.ef (e_appB (c := 43) tok rfl rfl rfl rfl rfl rfl rfl rfl rfl (by first | rfl | (simp only [size_addB, size_setB, size_drew])) rfl hS4.bf (by omega) ?_)
                    rintro v2 w2 hB2 hkp2
                    obtain ⟨a2, c2, rfl⟩ := hB2.form
                    have hb2 := hkp2 _ _ _ hS4.bl rfl
                    obtain ⟨hS3, hk3⟩ := hS4.put hB2 hkp2 rfl
                    refine L.rd (rd_nilCheck rfl) rfl ?_
                    refine L.rd (rd_fieldAddr tok rfl rfl rfl rfl rfl rfl) rfl ?_
                    refine L.ef (e_store (vs := [_]) tok rfl rfl rfl rfl hb2 rfl (by simp [Value.oneCell']) (by simp) ?_)
                    refine L.nil ?_
                    exact X.ct ⟨_, (by repeat' (first | exact trivial | refine ⟨rfl, ?_⟩)), _, _, rfl, hS3, hk3, by rw [if_pos h87]⟩
                  ·
                    refine V.region ?_
                    refine L.rd (rd_move rfl) rfl ?_
                    refine L.rd (rd_move rfl) rfl ?_
                    refine L.rd (rd_nilCheck rfl) rfl ?_
                    refine L.rd (rd_fieldAddr tok rfl rfl rfl rfl rfl rfl) rfl ?_
                    refine L.rd (rd_load1 tok rfl rfl rfl (hS4.bl.cell rfl)) rfl ?_
                    refine L.ef (e_buildSlice1 (e := 5) (cs := [_]) tok rfl rfl rfl rfl rfl rfl rfl rfl rfl (by first | (simp only [size_addB, size_setB, size_drew]; rfl) | rfl) rfl ?_)
                    refine L.ef (e_appB (c := 45) tok rfl rfl rfl rfl rfl rfl rfl rfl rfl (by first | rfl | (simp only [size_addB, size_setB, size_drew])) rfl hS4.bf (by omega) ?_)
                    rintro v2 w2 hB2 hkp2
                    obtain ⟨a2, c2, rfl⟩ := hB2.form
                    have hb2 := hkp2 _ _ _ hS4.bl rfl
                    obtain ⟨hS3, hk3⟩ := hS4.put hB2 hkp2 rfl
                    refine L.rd (rd_nilCheck rfl) rfl ?_
                    refine L.rd (rd_fieldAddr tok rfl rfl rfl rfl rfl rfl) rfl ?_
                    refine L.ef (e_store (vs := [_]) tok rfl rfl rfl rfl hb2 rfl (by simp [Value.oneCell']) (by simp) ?_)
                    refine L.nil ?_
                    exact X.ct ⟨_, (by repeat' (first | exact trivial | refine ⟨rfl, ?_⟩)), _, _, rfl, hS3, hk3, by rw [if_neg h87]⟩
                ·
                  rintro l w5 ⟨ov5, acc5, rfl, hS5, hk5, hacc5⟩
                  have hl5 : acc5.length = acc4.length + 1 := by rw [hacc5, List.length_append]; rfl
                  have hk45 := hk4.trans hk5
                  have hb5 := hk45 _ _ _ hb rfl rfl
                  have hbb25 := hk45 _ _ _ hbb2 rfl rfl
                  have ht25 := Tm.kx hk45 rfl rfl _ _ ht2
                  refine X.sq ?_
                  refine V.draw [15] mixed ?_
                  refine D.takeP 0 [true, false, false, false, false, false, false, false, false, false, false, false, false, false, false, false] (.bk .bd) rfl (fun _ => rd_move rfl) rfl (by kernel_rfl) rfl ?_
                  refine D.takeP 1 [true, true, false, false, false, false, false, false, false, false, false, false, false, false, false, false] (.bk .bd) rfl (fun _ => rd_move rfl) rfl (by kernel_rfl) rfl ?_
                  refine D.takeP 2 [true, true, true, false, false, false, false, false, false, false, false, false, false, false, false, false] (.bk .bd) rfl (fun _ => rd_nilCheck rfl) rfl (by kernel_rfl) rfl ?_
                  refine D.takeP 3 [true, true, true, true, false, false, false, false, false, false, false, false, false, false, false, false] (.bk .bd) rfl (fun _ => rd_fieldAddr tok rfl rfl rfl rfl rfl rfl) rfl (by kernel_rfl) rfl ?_
                  refine D.takeW 4 [true, true, true, true, true, false, false, false, false, false, false, false, false, false, false, false] (.bk .bd) rfl (rd_load1 tok rfl rfl rfl (hb5.cell (i := 4) rfl)) rfl (by kernel_rfl) rfl (LeC.drew _) ?_
                  refine D.takeP 5 [true, true, true, true, true, true, false, false, false, false, false, false, false, false, false, false] (.bk .bd) rfl (fun _ => rd_move rfl) rfl (by kernel_rfl) rfl ?_
                  refine D.takeP 6 [true, true, true, true, true, true, true, false, false, false, false, false, false, false, false, false] (.bk .bd) rfl (fun _ => rd_nilCheck rfl) rfl (by kernel_rfl) rfl ?_
                  refine D.takeP 7 [true, true, true, true, true, true, true, true, false, false, false, false, false, false, false, false] (.bk .bd) rfl (fun _ => rd_fieldAddr tok rfl rfl rfl rfl rfl rfl) rfl (by kernel_rfl) rfl ?_
                  refine D.takeW 8 [true, true, true, true, true, true, true, true, true, false, false, false, false, false, false, false] (.bk .bd) rfl (rd_load1 tok rfl rfl rfl (hb5.cell (i := 4) rfl)) rfl (by kernel_rfl) rfl (LeC.drew _) ?_
                  refine D.takeP 9 [true, true, true, true, true, true, true, true, true, true, false, false, false, false, false, false] (.bk .bd) rfl (fun _ => rd_nilCheck rfl) rfl (by kernel_rfl) rfl ?_
                  refine D.takeP 10 [true, true, true, true, true, true, true, true, true, true, true, false, false, false, false, false] (.bk .bd) rfl (fun _ => rd_fieldAddr tok rfl rfl rfl rfl rfl rfl) rfl (by kernel_rfl) rfl ?_
                  refine D.takeW 11 [true, true, true, true, true, true, true, true, true, true, true, true, false, false, false, false] (.bk .bd) rfl (rd_load1 tok rfl rfl rfl (hbb25.cell rfl)) rfl (by kernel_rfl) rfl (LeC.drew _) ?_
                  refine D.takeP 14 [true, true, true, true, true, true, true, true, true, true, true, true, false, false, true, false] (.bk .bd) rfl (fun _ => rd_move rfl) rfl (by kernel_rfl) rfl ?_
                  refine D.one 12 [true, true, true, true, true, true, true, true, true, true, true, true, true, false, true, false] rfl (by kernel_rfl) rfl (e_call rfl (precOf_ok _ _) rfl ?_)
                  rintro _ _ ⟨rfl, rfl⟩
                  refine ⟨fun _ => (LeC.drew _), ?_⟩
                  refine D.takeP 13 [true, true, true, true, true, true, true, true, true, true, true, true, true, true, true, false] (.bk .bd) rfl (fun _ => rd_leq rfl rfl) rfl (by kernel_rfl) rfl ?_
                  refine D.one 15 [true, true, true, true, true, true, true, true, true, true, true, true, true, true, true, true] rfl (by kernel_rfl) rfl (e_call rfl (wrap_ok ih2 _ _ d _ _ _ _ hw2 (ht25.ext (Ext.refl _ _).drew) (hS5.ext (Ext.refl _ _).drew) hd0 hd1 (by omega)) rfl ?_)
                  rintro _ w6 ⟨ov6, acc6, bad6, hS6, hk6, hl6, hb6, hg6⟩
                  refine ⟨fun h => (by cases h), ?_⟩
                  refine D.done (by kernel_rfl) ?_
                  refine X.bk ?_
                  refine ret_0 Yaam.results106 ?_
                  rw [if_neg (by omega)]
                  refine ⟨ov6, acc6, bad6, hS6, (hk45.trans (KX.ext (Ext.refl _ w5).drew)).trans hk6, by omega, fun h => (by cases h), fun _ => ?_⟩
                  rcases hg4 rfl with ⟨h1, h2⟩ | ⟨y, h1, h2, h3⟩
                  · exact .inl ⟨by rw [h1]; rfl, hb6 h2⟩
                  · rcases hg6 h2 with ⟨h4, h5⟩ | ⟨z, h4, h5, h6⟩
                    · exact .inl ⟨by rw [h1, h4]; rfl, h5⟩
                    · exact .inr ⟨_, by rw [h1, h4]; rfl, h5, by rw [h6, hacc5, h3]; simp⟩
              ·
                exact absurd h73 h73_
            ·
              refine V.region ?_
              refine L.rd (rd_eql rfl rfl) rfl ?_
              refine L.rd (rd_assign rfl) rfl ?_
              refine L.nil ?_
              refine X.sq ?_
              first | refine V.cond rfl (fun h73 => ?_) (fun h73 => ?_) | refine V.condB rfl (fun h73 => ?_) (fun h73 => ?_)
              ·
                refine V.seq ?_
                refine V.region ?_
                refine L.rd (rd_move rfl) rfl ?_
                refine L.rd (rd_move rfl) rfl ?_
                refine L.rd (rd_nilCheck rfl) rfl ?_
                refine L.rd (rd_fieldAddr tok rfl rfl rfl rfl rfl rfl) rfl ?_
                refine L.rd (rd_load1 tok rfl rfl rfl (hb.cell (i := 3) rfl)) rfl ?_
                refine L.rd (rd_move rfl) rfl ?_
                refine L.ef (e_call rfl (ih1 _ d _ _ _ _ hw1 ht1 hS hd0 hd1 (by omega)) rfl ?_)
                rintro _ w4 ⟨ov4, acc4, bad4, hS4, hk4, hl4, hb4, hg4⟩
                have hbw4 := hk4 _ _ _ hb rfl rfl
                refine L.nil ?_
                refine X.sq ?_
                refine V.seq ?_
                refine V.seq ?_
                refine V.region ?_
                refine L.rd (rd_move rfl) rfl ?_
                refine L.rd (rd_nilCheck rfl) rfl ?_
                refine L.rd (rd_fieldAddr tok rfl rfl rfl rfl rfl rfl) rfl ?_
                refine L.rd (rd_load1 tok rfl rfl rfl (hbw4.cell rfl)) rfl ?_
                refine L.rd (rd_eql rfl rfl) rfl ?_
                refine L.nil ?_
                refine X.sq ?_
                refine V.cut (fun l w' => ∃ (ov' : Value) (acc' : List Nat), l = [(0, .pointer (some ⟨w0.heap.size, 0, none⟩)), (1, .pointer (some ⟨b, 0, none⟩)), (2, .int .i64 d)] ∧ PStq w0 w' ov' acc' bad4 ∧ KX 5 164 w4 w' ∧ acc' = acc4 ++ [if k = 4 then 43 else 45]) ?_ ?_
                ·
                  first | refine V.cond rfl (fun h87 => ?_) (fun h87 => ?_) | refine V.condB rfl (fun h87 => ?_) (fun h87 => ?_)
                  ·
                    refine V.region ?_
                    refine L.rd (rd_move rfl) rfl ?_
                    refine L.rd (rd_move rfl) rfl ?_
                    refine L.rd (rd_nilCheck rfl) rfl ?_
                    refine L.rd (rd_fieldAddr tok rfl rfl rfl rfl rfl rfl) rfl ?_
                    refine L.rd (rd_load1 tok rfl rfl rfl (hS4.bl.cell rfl)) rfl ?_
                    refine L.ef (e_buildSlice1 (e := 5) (cs := [_]) tok rfl rfl rfl rfl rfl rfl rfl rfl rfl (by first | (simp only [size_addB, size_setB, size_drew]; rfl) | rfl) rfl ?_)
                    refine L.ef (e_appB (c := 43) tok rfl rfl rfl rfl rfl rfl rfl rfl rfl (by first | rfl | (simp only [size_addB, size_setB, size_drew])) rfl hS4.bf (by omega) ?_)
                    rintro v2 w2 hB2 hkp2
                    obtain ⟨a2, c2, rfl⟩ := hB2.form
                    have hb2 := hkp2 _ _ _ hS4.bl rfl
                    obtain ⟨hS3, hk3⟩ := hS4.put hB2 hkp2 rfl
                    refine L.rd (rd_nilCheck rfl) rfl ?_
                    refine L.rd (rd_fieldAddr tok rfl rfl rfl rfl rfl rfl) rfl ?_
                    refine L.ef (e_store (vs := [_]) tok rfl rfl rfl rfl hb2 rfl (by simp [Value.oneCell']) (by simp) ?_)
                    refine L.nil ?_
                    exact X.ct ⟨_, (by repeat' (first | exact trivial | refine ⟨rfl, ?_⟩)), _, _, rfl, hS3, hk3, by rw [if_pos h87]⟩
                  ·
                    refine V.region ?_
                    refine L.rd (rd_move rfl) rfl ?_
                    refine L.rd (rd_move rfl) rfl ?_
                    refine L.rd (rd_nilCheck rfl) rfl ?_
                    refine L.rd (rd_fieldAddr tok rfl rfl rfl rfl rfl rfl) rfl ?_
                    refine L.rd (rd_load1 tok rfl rfl rfl (hS4.bl.cell rfl)) rfl ?_
                    refine L.ef (e_buildSlice1 (e := 5) (cs := [_]) tok rfl rfl rfl rfl rfl rfl rfl rfl rfl (by first | (simp only [size_addB, size_setB, size_drew]; rfl) | rfl) rfl ?_)
                    refine L.ef (e_appB (c := 45) tok rfl rfl rfl rfl rfl rfl rfl rfl rfl (by first | rfl | (simp only [size_addB, size_setB, size_drew])) rfl hS4.bf (by omega) ?_)
                    rintro v2 w2 hB2 hkp2
                    obtain ⟨a2, c2, rfl⟩ := hB2.form
                    have hb2 := hkp2 _ _ _ hS4.bl rfl
                    obtain ⟨hS3, hk3⟩ := hS4.put hB2 hkp2 rfl
                    refine L.rd (rd_nilCheck rfl) rfl ?_
                    refine L.rd (rd_fieldAddr tok rfl rfl rfl rfl rfl rfl) rfl ?_
                    refine L.ef (e_store (vs := [_]) tok rfl rfl rfl rfl hb2 rfl (by simp [Value.oneCell']) (by simp) ?_)
                    refine L.nil ?_
                    exact X.ct ⟨_, (by repeat' (first | exact trivial | refine ⟨rfl, ?_⟩)), _, _, rfl, hS3, hk3, by rw [if_neg h87]⟩
                ·
                  rintro l w5 ⟨ov5, acc5, rfl, hS5, hk5, hacc5⟩
                  have hl5 : acc5.length = acc4.length + 1 := by rw [hacc5, List.length_append]; rfl
                  have hk45 := hk4.trans hk5
                  have hb5 := hk45 _ _ _ hb rfl rfl
                  have hbb25 := hk45 _ _ _ hbb2 rfl rfl
                  have ht25 := Tm.kx hk45 rfl rfl _ _ ht2
                  refine X.sq ?_
                  refine V.draw [15] mixed ?_
                  refine D.takeP 0 [true, false, false, false, false, false, false, false, false, false, false, false, false, false, false, false] (.bk .bd) rfl (fun _ => rd_move rfl) rfl (by kernel_rfl) rfl ?_
                  refine D.takeP 1 [true, true, false, false, false, false, false, false, false, false, false, false, false, false, false, false] (.bk .bd) rfl (fun _ => rd_move rfl) rfl (by kernel_rfl) rfl ?_
                  refine D.takeP 2 [true, true, true, false, false, false, false, false, false, false, false, false, false, false, false, false] (.bk .bd) rfl (fun _ => rd_nilCheck rfl) rfl (by kernel_rfl) rfl ?_
                  refine D.takeP 3 [true, true, true, true, false, false, false, false, false, false, false, false, false, false, false, false] (.bk .bd) rfl (fun _ => rd_fieldAddr tok rfl rfl rfl rfl rfl rfl) rfl (by kernel_rfl) rfl ?_
                  refine D.takeW 4 [true, true, true, true, true, false, false, false, false, false, false, false, false, false, false, false] (.bk .bd) rfl (rd_load1 tok rfl rfl rfl (hb5.cell (i := 4) rfl)) rfl (by kernel_rfl) rfl (LeC.drew _) ?_
                  refine D.takeP 5 [true, true, true, true, true, true, false, false, false, false, false, false, false, false, false, false] (.bk .bd) rfl (fun _ => rd_move rfl) rfl (by kernel_rfl) rfl ?_
                  refine D.takeP 6 [true, true, true, true, true, true, true, false, false, false, false, false, false, false, false, false] (.bk .bd) rfl (fun _ => rd_nilCheck rfl) rfl (by kernel_rfl) rfl ?_
                  refine D.takeP 7 [true, true, true, true, true, true, true, true, false, false, false, false, false, false, false, false] (.bk .bd) rfl (fun _ => rd_fieldAddr tok rfl rfl rfl rfl rfl rfl) rfl (by kernel_rfl) rfl ?_
                  refine D.takeW 8 [true, true, true, true, true, true, true, true, true, false, false, false, false, false, false, false] (.bk .bd) rfl (rd_load1 tok rfl rfl rfl (hb5.cell (i := 4) rfl)) rfl (by kernel_rfl) rfl (LeC.drew _) ?_
                  refine D.takeP 9 [true, true, true, true, true, true, true, true, true, true, false, false, false, false, false, false] (.bk .bd) rfl (fun _ => rd_nilCheck rfl) rfl (by kernel_rfl) rfl ?_
                  refine D.takeP 10 [true, true, true, true, true, true, true, true, true, true, true, false, false, false, false, false] (.bk .bd) rfl (fun _ => rd_fieldAddr tok rfl rfl rfl rfl rfl rfl) rfl (by kernel_rfl) rfl ?_
                  refine D.takeW 11 [true, true, true, true, true, true, true, true, true, true, true, true, false, false, false, false] (.bk .bd) rfl (rd_load1 tok rfl rfl rfl (hbb25.cell rfl)) rfl (by kernel_rfl) rfl (LeC.drew _) ?_
                  refine D.takeP 14 [true, true, true, true, true, true, true, true, true, true, true, true, false, false, true, false] (.bk .bd) rfl (fun _ => rd_move rfl) rfl (by kernel_rfl) rfl ?_
                  refine D.one 12 [true, true, true, true, true, true, true, true, true, true, true, true, true, false, true, false] rfl (by kernel_rfl) rfl (e_call rfl (precOf_ok _ _) rfl ?_)
                  rintro _ _ ⟨rfl, rfl⟩
                  refine ⟨fun _ => (LeC.drew _), ?_⟩
                  refine D.takeP 13 [true, true, true, true, true, true, true, true, true, true, true, true, true, true, true, false] (.bk .bd) rfl (fun _ => rd_leq rfl rfl) rfl (by kernel_rfl) rfl ?_
                  refine D.one 15 [true, true, true, true, true, true, true, true, true, true, true, true, true, true, true, true] rfl (by kernel_rfl) rfl (e_call rfl (wrap_ok ih2 _ _ d _ _ _ _ hw2 (ht25.ext (Ext.refl _ _).drew) (hS5.ext (Ext.refl _ _).drew) hd0 hd1 (by omega)) rfl ?_)
                  rintro _ w6 ⟨ov6, acc6, bad6, hS6, hk6, hl6, hb6, hg6⟩
                  refine ⟨fun h => (by cases h), ?_⟩
                  refine D.done (by kernel_rfl) ?_
                  refine X.bk ?_
                  refine ret_0 Yaam.results106 ?_
                  rw [if_neg (by omega)]
                  refine ⟨ov6, acc6, bad6, hS6, (hk45.trans (KX.ext (Ext.refl _ w5).drew)).trans hk6, by omega, fun h => (by cases h), fun _ => ?_⟩
                  rcases hg4 rfl with ⟨h1, h2⟩ | ⟨y, h1, h2, h3⟩
                  · exact .inl ⟨by rw [h1]; rfl, hb6 h2⟩
                  · rcases hg6 h2 with ⟨h4, h5⟩ | ⟨z, h4, h5, h6⟩
                    · exact .inl ⟨by rw [h1, h4]; rfl, h5⟩
                    · exact .inr ⟨_, by rw [h1, h4]; rfl, h5, by rw [h6, hacc5, h3]; simp⟩
              ·
                refine V.seq ?_
                refine V.region ?_
                refine L.rd (rd_eql rfl rfl) rfl ?_
                refine L.rd (rd_assign rfl) rfl ?_
                refine L.nil ?_
                refine X.sq ?_
                first | refine V.cond rfl (fun h122 => ?_) (fun h122 => ?_) | refine V.condB rfl (fun h122 => ?_) (fun h122 => ?_)
                ·
                  refine V.seq ?_
                  refine V.draw [15] mixed ?_
                  refine D.takeP 0 [true, false, false, false, false, false, false, false, false, false, false, false, false, false, false, false] (.sq (.bk .bd)) rfl (fun _ => rd_move rfl) rfl (by kernel_rfl) rfl ?_
                  refine D.takeP 1 [true, true, false, false, false, false, false, false, false, false, false, false, false, false, false, false] (.sq (.bk .bd)) rfl (fun _ => rd_move rfl) rfl (by kernel_rfl) rfl ?_
                  refine D.takeP 2 [true, true, true, false, false, false, false, false, false, false, false, false, false, false, false, false] (.sq (.bk .bd)) rfl (fun _ => rd_nilCheck rfl) rfl (by kernel_rfl) rfl ?_
                  refine D.takeP 3 [true, true, true, true, false, false, false, false, false, false, false, false, false, false, false, false] (.sq (.bk .bd)) rfl (fun _ => rd_fieldAddr tok rfl rfl rfl rfl rfl rfl) rfl (by kernel_rfl) rfl ?_
                  refine D.takeW 4 [true, true, true, true, true, false, false, false, false, false, false, false, false, false, false, false] (.sq (.bk .bd)) rfl (rd_load1 tok rfl rfl rfl (hb.cell (i := 3) rfl)) rfl (by kernel_rfl) rfl (LeC.drew _) ?_
                  refine D.takeP 5 [true, true, true, true, true, true, false, false, false, false, false, false, false, false, false, false] (.sq (.bk .bd)) rfl (fun _ => rd_move rfl) rfl (by kernel_rfl) rfl ?_
                  refine D.takeP 6 [true, true, true, true, true, true, true, false, false, false, false, false, false, false, false, false] (.sq (.bk .bd)) rfl (fun _ => rd_nilCheck rfl) rfl (by kernel_rfl) rfl ?_
                  refine D.takeP 7 [true, true, true, true, true, true, true, true, false, false, false, false, false, false, false, false] (.sq (.bk .bd)) rfl (fun _ => rd_fieldAddr tok rfl rfl rfl rfl rfl rfl) rfl (by kernel_rfl) rfl ?_
                  refine D.takeW 8 [true, true, true, true, true, true, true, true, true, false, false, false, false, false, false, false] (.sq (.bk .bd)) rfl (rd_load1 tok rfl rfl rfl (hb.cell (i := 3) rfl)) rfl (by kernel_rfl) rfl (LeC.drew _) ?_
                  refine D.takeP 9 [true, true, true, true, true, true, true, true, true, true, false, false, false, false, false, false] (.sq (.bk .bd)) rfl (fun _ => rd_nilCheck rfl) rfl (by kernel_rfl) rfl ?_
                  refine D.takeP 10 [true, true, true, true, true, true, true, true, true, true, true, false, false, false, false, false] (.sq (.bk .bd)) rfl (fun _ => rd_fieldAddr tok rfl rfl rfl rfl rfl rfl) rfl (by kernel_rfl) rfl ?_
                  refine D.takeW 11 [true, true, true, true, true, true, true, true, true, true, true, true, false, false, false, false] (.sq (.bk .bd)) rfl (rd_load1 tok rfl rfl rfl (hb1.cell rfl)) rfl (by kernel_rfl) rfl (LeC.drew _) ?_
                  refine D.takeP 14 [true, true, true, true, true, true, true, true, true, true, true, true, false, false, true, false] (.sq (.bk .bd)) rfl (fun _ => rd_move rfl) rfl (by kernel_rfl) rfl ?_
                  refine D.one 12 [true, true, true, true, true, true, true, true, true, true, true, true, true, false, true, false] rfl (by kernel_rfl) rfl (e_call rfl (precOf_ok _ _) rfl ?_)
                  rintro _ _ ⟨rfl, rfl⟩
                  refine ⟨fun _ => (LeC.drew _), ?_⟩
                  refine D.takeP 13 [true, true, true, true, true, true, true, true, true, true, true, true, true, true, true, false] (.sq (.bk .bd)) rfl (fun _ => rd_leq rfl rfl) rfl (by kernel_rfl) rfl ?_
                  refine D.one 15 [true, true, true, true, true, true, true, true, true, true, true, true, true, true, true, true] rfl (by kernel_rfl) rfl (e_call rfl (wrap_ok ih1 _ _ d _ _ _ _ hw1 (ht1.ext (Ext.refl _ _).drew) (hS.ext (Ext.refl _ _).drew) hd0 hd1 (by omega)) rfl ?_)
                  rintro _ w4 ⟨ov4, acc4, bad4, hS4, hk4', hl4, hb4, hg4⟩
                  have hk4 := (KX.ext (Ext.refl _ w).drew).trans hk4'
                  refine ⟨fun h => (by cases h), ?_⟩
                  refine D.done (by kernel_rfl) ?_
                  refine X.sq ?_
                  refine V.seq ?_
                  refine V.region ?_
                  refine L.rd (rd_move rfl) rfl ?_
                  refine L.rd (rd_move rfl) rfl ?_
                  refine L.rd (rd_nilCheck rfl) rfl ?_
                  refine L.rd (rd_fieldAddr tok rfl rfl rfl rfl rfl rfl) rfl ?_
                  refine L.rd (rd_load1 tok rfl rfl rfl (hS4.bl.cell rfl)) rfl ?_
                  refine L.ef (e_buildSlice1 (e := 5) (cs := [_]) tok rfl rfl rfl rfl rfl rfl rfl rfl rfl (by first | (simp only [size_addB, size_setB, size_drew]; rfl) | rfl) rfl ?_)
                  refine L.ef (e_appB (c := 42) tok rfl rfl rfl rfl rfl rfl rfl rfl rfl (by first | rfl | (simp only [size_addB, size_setB, size_drew])) rfl hS4.bf (by omega) ?_)
                  rintro v2 w2 hB2 hkp2
                  obtain ⟨a2, c2, rfl⟩ := hB2.form
                  have hb2 := hkp2 _ _ _ hS4.bl rfl
                  obtain ⟨hS5, hk5⟩ := hS4.put hB2 hkp2 rfl
                  refine L.rd (rd_nilCheck rfl) rfl ?_
                  refine L.rd (rd_fieldAddr tok rfl rfl rfl rfl rfl rfl) rfl ?_
                  refine L.ef (e_store (vs := [_]) tok rfl rfl rfl rfl hb2 rfl (by simp [Value.oneCell']) (by simp) ?_)
                  refine L.nil ?_
                  refine X.sq ?_
                  generalize hw5 : setB _ _ _ _ = w5
                  replace hS5 : PStq w0 w5 (.slice a2 (acc4 ++ [42]).length c2) (acc4 ++ [42]) bad4 := by rw [← hw5]; exact hS5
                  replace hk5 : KX 5 164 w4 w5 := by rw [← hw5]; exact hk5
                  have hk45 := hk4.trans hk5
                  have hb5 := hk45 _ _ _ hb rfl rfl
                  have hbb25 := hk45 _ _ _ hbb2 rfl rfl
                  have ht25 := Tm.kx hk45 rfl rfl _ _ ht2
                  refine V.draw [15] mixed ?_
                  refine D.takeP 0 [true, false, false, false, false, false, false, false, false, false, false, false, false, false, false, false] (.bk .bd) rfl (fun _ => rd_move rfl) rfl (by kernel_rfl) rfl ?_
                  refine D.takeP 1 [true, true, false, false, false, false, false, false, false, false, false, false, false, false, false, false] (.bk .bd) rfl (fun _ => rd_move rfl) rfl (by kernel_rfl) rfl ?_
                  refine D.takeP 2 [true, true, true, false, false, false, false, false, false, false, false, false, false, false, false, false] (.bk .bd) rfl (fun _ => rd_nilCheck rfl) rfl (by kernel_rfl) rfl ?_
                  refine D.takeP 3 [true, true, true, true, false, false, false, false, false, false, false, false, false, false, false, false] (.bk .bd) rfl (fun _ => rd_fieldAddr tok rfl rfl rfl rfl rfl rfl) rfl (by kernel_rfl) rfl ?_
                  refine D.takeW 4 [true, true, true, true, true, false, false, false, false, false, false, false, false, false, false, false] (.bk .bd) rfl (rd_load1 tok rfl rfl rfl (hb5.cell (i := 4) rfl)) rfl (by kernel_rfl) rfl (LeC.drew _) ?_
                  refine D.takeP 5 [true, true, true, true, true, true, false, false, false, false, false, false, false, false, false, false] (.bk .bd) rfl (fun _ => rd_move rfl) rfl (by kernel_rfl) rfl ?_
                  refine D.takeP 6 [true, true, true, true, true, true, true, false, false, false, false, false, false, false, false, false] (.bk .bd) rfl (fun _ => rd_nilCheck rfl) rfl (by kernel_rfl) rfl ?_
                  refine D.takeP 7 [true, true, true, true, true, true, true, true, false, false, false, false, false, false, false, false] (.bk .bd) rfl (fun _ => rd_fieldAddr tok rfl rfl rfl rfl rfl rfl) rfl (by kernel_rfl) rfl ?_
                  refine D.takeW 8 [true, true, true, true, true, true, true, true, true, false, false, false, false, false, false, false] (.bk .bd) rfl (rd_load1 tok rfl rfl rfl (hb5.cell (i := 4) rfl)) rfl (by kernel_rfl) rfl (LeC.drew _) ?_
                  refine D.takeP 9 [true, true, true, true, true, true, true, true, true, true, false, false, false, false, false, false] (.bk .bd) rfl (fun _ => rd_nilCheck rfl) rfl (by kernel_rfl) rfl ?_
                  refine D.takeP 10 [true, true, true, true, true, true, true, true, true, true, true, false, false, false, false, false] (.bk .bd) rfl (fun _ => rd_fieldAddr tok rfl rfl rfl rfl rfl rfl) rfl (by kernel_rfl) rfl ?_
                  refine D.takeW 11 [true, true, true, true, true, true, true, true, true, true, true, true, false, false, false, false] (.bk .bd) rfl (rd_load1 tok rfl rfl rfl (hbb25.cell rfl)) rfl (by kernel_rfl) rfl (LeC.drew _) ?_
                  refine D.takeP 14 [true, true, true, true, true, true, true, true, true, true, true, true, false, false, true, false] (.bk .bd) rfl (fun _ => rd_move rfl) rfl (by kernel_rfl) rfl ?_
                  refine D.one 12 [true, true, true, true, true, true, true, true, true, true, true, true, true, false, true, false] rfl (by kernel_rfl) rfl (e_call rfl (precOf_ok _ _) rfl ?_)
                  rintro _ _ ⟨rfl, rfl⟩
                  refine ⟨fun _ => (LeC.drew _), ?_⟩
                  refine D.takeP 13 [true, true, true, true, true, true, true, true, true, true, true, true, true, true, true, false] (.bk .bd) rfl (fun _ => rd_leq rfl rfl) rfl (by kernel_rfl) rfl ?_
                  refine D.one 15 [true, true, true, true, true, true, true, true, true, true, true, true, true, true, true, true] rfl (by kernel_rfl) rfl (e_call rfl (wrap_ok ih2 _ _ d _ _ _ _ hw2 (ht25.ext (Ext.refl _ _).drew) (hS5.ext (Ext.refl _ _).drew) hd0 hd1 (by simp only [List.length_append, List.length_cons, List.length_nil]; omega)) rfl ?_)
                  rintro _ w6 ⟨ov6, acc6, bad6, hS6, hk6, hl6, hb6, hg6⟩
                  simp only [List.length_append, List.length_cons, List.length_nil] at hl6
                  refine ⟨fun h => (by cases h), ?_⟩
                  refine D.done (by kernel_rfl) ?_
                  refine X.bk ?_
                  refine ret_0 Yaam.results106 ?_
                  rw [if_pos (by omega)]
                  refine ⟨ov6, acc6, bad6, hS6, (hk45.trans (KX.ext (Ext.refl _ w5).drew)).trans hk6, by omega, fun h => (by cases h), fun _ => ?_⟩
                  rcases hg4 rfl with ⟨h1, h2⟩ | ⟨y, h1, h2, h3⟩
                  · exact .inl ⟨by rw [h1]; rfl, hb6 h2⟩
                  · rcases hg6 h2 with ⟨h4, h5⟩ | ⟨z, h4, h5, h6⟩
                    · exact .inl ⟨by rw [h1, h4]; rfl, h5⟩
                    · exact .inr ⟨_, by rw [h1, h4]; rfl, h5, by rw [h6, h3]; simp⟩
                ·
                  refine V.seq ?_
                  exfalso
                  omega

/-- an answer of Print -/
def PrQ (o : Option (List Nat)) (w : World) (r : Value) (w' : World) : Prop := r = .tuple #[.string (mkS (o.getD [])), .bool o.isSome] ∧ Ext w.heap.size w w'
theorem sprintE_ok (t : Tre) (hw : Wt t) (hz : tsz t ≤ 500000) (nv : Value) (w : World) (hN : Rs w 5 nv (flat t 0).length ((flat t 0).flatMap ndE)) : Ret Yaam.prog 56 [.agg #[nv, .int .i64 ((tsz t : Int) - 1)]] w (PrQ (txt t 0) w) := by
  obtain ⟨na, nc, rfl, hfn⟩ := id hN.form
  have hfl := flat_len t 0
  refine enter1 Yaam.func56 Yaam.ntmps56 (by kernel_rfl) rfl rfl ?_
  refine V.seq ?_
  refine V.region ?_
  refine L.ef (e_box (cs := [_, _]) rfl rfl (by first | (simp only [size_addB, size_setB, size_drew]; rfl) | rfl) rfl ?_)
  refine L.rd (rd_assign rfl) rfl ?_
  refine L.rd (rd_assign rfl) rfl ?_
  refine L.nil ?_
  refine X.sq ?_
  refine V.seq ?_
  refine V.seq ?_
  have hp := Bl.new w 34 [.slice na (flat t 0).length nc, .int .i64 ((tsz t : Int) - 1)]
  have hE := (Ext.refl _ w).addNew 34 [.slice na (flat t 0).length nc, .int .i64 ((tsz t : Int) - 1)]
  refine V.region ?_
  refine L.rd (rd_loadN tok rfl rfl rfl hp.cells rfl) rfl ?_
  refine L.ef (e_call rfl (swf_ok t hw hz _ _ (hN.le hE.leC)) rfl ?_)
  rintro _ w1 ⟨rfl, he1⟩
  replace hp := he1.bl hp.lt hp
  replace hE := hE.next he1
  first | refine L.rd (rd_not rfl) rfl ?_ | refine L.rd (rd_notB rfl) rfl ?_
  refine L.nil ?_
  refine X.sq ?_
  first | refine V.cond rfl (fun h7 => ?_) (fun h7 => ?_) | refine V.condB rfl (fun h7 => ?_) (fun h7 => ?_)
  ·
    first | cases h7 | simp at h7
  ·
    refine V.skip ?_
    refine X.sq ?_
    refine V.seq ?_
    refine V.region ?_
    refine L.rd (rd_build (out := [_, _]) tok rfl rfl rfl rfl rfl) rfl ?_
    refine L.ef (e_alloc (cs := [_, _]) tok rfl rfl (by first | (simp only [size_addB, size_setB, size_drew]; rfl) | rfl) rfl ?_)
    refine L.ef (e_store (vs := [_, _]) tok rfl rfl rfl rfl (by (repeat (first | assumption | (refine Bl.new' ?_ _ _; first | with_reducible rfl | (simp only [size_addB, size_setB, size_drew]; done)) | apply Bl.add | apply Bl.drew | (apply Bl.setNe; omega) | (refine Bl.set' ?_ _ _; (try simp only [size_addB, size_setB, size_drew]); omega)))) rfl (by simp [Value.oneCell']) (by simp) ?_)
    refine L.nil ?_
    refine X.sq ?_
    refine V.seq ?_
    generalize hw2 : setB _ _ _ _ = w2
    have he2 := ext_of_new hw2
    have hb2 : Bl w2 w1.heap.size 164 [.slice none 0 0, .bool false] := bl_of_new hw2
    replace hp := he2.bl hp.lt hp
    have hE2 := hE.next he2
    refine V.region ?_
    refine L.rd (rd_fieldAddr tok rfl rfl rfl rfl rfl rfl) rfl ?_
    refine L.rd (rd_load1 tok rfl rfl rfl (hp.cell rfl)) rfl ?_
    refine L.rd (rd_fieldAddr tok rfl rfl rfl rfl rfl rfl) rfl ?_
    refine L.rd (rd_load1 tok rfl rfl rfl (hp.cell (i := 1) rfl)) rfl ?_
    refine L.ef (e_call rfl (toTree_ok (flat t 0) _ w2 (hN.le hE2.leC) (by omega) t 0 _ _ hw (fun j nd h => by rw [Nat.zero_add]; exact h) (by omega) (Ext.refl _ _)) rfl ?_)
    rintro _ w3 ⟨a3, rfl, ht3, he3⟩
    have hS3 : PStq w1 w3 (.slice none 0 0) [] false := ⟨he3.bl hb2.lt hb2, World.ownsRow_nil _ _ _ _, he2.next he3⟩
    refine L.ef (e_call rfl (text_ok w1 t _ 0 _ _ _ _ hw ht3 hS3 (by omega) (by omega) (by simp only [List.length_nil]; omega)) rfl ?_)
    rintro _ w4 ⟨ov4, acc4, bad4, hS4, hk4, hl4, -, hg4⟩
    have hE4 := hE.next hS4.bf.ext
    refine L.nil ?_
    refine X.sq ?_
    refine V.seq ?_
    refine V.seq ?_
    refine V.region ?_
    refine L.rd (rd_fieldAddr tok rfl rfl rfl rfl rfl rfl) rfl ?_
    refine L.rd (rd_load1 tok rfl rfl rfl (rd_boolCell hS4.bl)) rfl ?_
    refine L.nil ?_
    refine X.sq ?_
    first | refine V.cond rfl (fun h16 => ?_) (fun h16 => ?_) | refine V.condB rfl (fun h16 => ?_) (fun h16 => ?_)
    ·
      refine V.seq ?_
      refine V.region ?_
      refine L.rd (rd_assign rfl) rfl ?_
      refine L.rd (rd_assign rfl) rfl ?_
      refine L.nil ?_
      refine X.sq ?_
      refine V.ret ?_
      refine X.sqRet ?_
      refine ret_2 Yaam.results56 rfl rfl ?_
      rcases hg4 rfl with ⟨h1, h2⟩ | ⟨x, h1, h2, h3⟩
      · rw [h1]; exact ⟨rfl, hE4⟩
      · rw [h2] at h16; cases h16
    ·
      refine V.skip ?_
      refine X.sq ?_
      refine V.seq ?_
      refine V.region ?_
      refine L.rd (rd_fieldAddr tok rfl rfl rfl rfl rfl rfl) rfl ?_
      refine L.rd (rd_load1 tok rfl rfl rfl (hS4.bl.cell rfl)) rfl ?_
      refine L.rd (rd_bytesBf tok rfl rfl rfl rfl rfl rfl rfl rfl rfl hS4.bf) rfl ?_
      refine L.rd (rd_assign rfl) rfl ?_
      refine L.rd (rd_assign rfl) rfl ?_
      refine L.nil ?_
      refine X.sq ?_
      refine V.ret ?_
      refine ret_2 Yaam.results56 rfl rfl ?_
      rcases hg4 rfl with ⟨h1, h2⟩ | ⟨x, h1, h2, h3⟩
      · rw [h2] at h16; cases h16
      · rw [h1, h3]; exact ⟨rfl, hE4⟩
theorem sprintE_bad (ns : List Nd) (root : Int) (hnot : ¬ WF ns root) (nv : Value) (w : World) (hN : Rs w 5 nv ns.length (ns.flatMap ndE)) (hlen : ns.length ≤ 1000000000) : Ret Yaam.prog 56 [.agg #[nv, .int .i64 root]] w (PrQ none w) := by
  obtain ⟨na, nc, rfl, hfn⟩ := id hN.form
  refine enter1 Yaam.func56 Yaam.ntmps56 (by kernel_rfl) rfl rfl ?_
  refine V.seq ?_
  refine V.region ?_
  refine L.ef (e_box (cs := [_, _]) rfl rfl (by first | (simp only [size_addB, size_setB, size_drew]; rfl) | rfl) rfl ?_)
  refine L.rd (rd_assign rfl) rfl ?_
  refine L.rd (rd_assign rfl) rfl ?_
  refine L.nil ?_
  refine X.sq ?_
  refine V.seq ?_
  refine V.seq ?_
  have hp := Bl.new w 34 [.slice na ns.length nc, .int .i64 root]
  have hE := (Ext.refl _ w).addNew 34 [.slice na ns.length nc, .int .i64 root]
  refine V.region ?_
  refine L.rd (rd_loadN tok rfl rfl rfl hp.cells rfl) rfl ?_
  refine L.ef (e_call rfl (swf_bad ns root hnot _ _ (hN.le hE.leC) hlen) rfl ?_)
  rintro _ w1 ⟨rfl, he1⟩
  first | refine L.rd (rd_not rfl) rfl ?_ | refine L.rd (rd_notB rfl) rfl ?_
  refine L.nil ?_
  refine X.sq ?_
  first | refine V.cond rfl (fun h7 => ?_) (fun h7 => ?_) | refine V.condB rfl (fun h7 => ?_) (fun h7 => ?_)
  ·
    refine V.seq ?_
    refine V.region ?_
    refine L.rd (rd_assign rfl) rfl ?_
    refine L.rd (rd_assign rfl) rfl ?_
    refine L.nil ?_
    refine X.sq ?_
    refine V.ret ?_
    refine X.sqRet ?_
    refine ret_2 Yaam.results56 rfl rfl ?_
    exact ⟨rfl, hE.next he1⟩
  ·
    refine V.skip ?_
    refine X.sq ?_
    refine V.seq ?_
    first | exact absurd rfl h7 | simp at h7
end Go.Proofs.YbxaawGreat
