/-
  The model's expander, walked: charge, keep, leaves.
-/
import Derived.Test.YbxaawGreatXpW2
import Derived.Test.YbxaawGreatBdW
import Derived.Test.YbxaawGreatFlatW
set_option linter.unusedVariables false
set_option linter.unusedSimpArgs false
set_option maxRecDepth 10000
set_option maxHeartbeats 4000000
namespace Go.Mw
theorem bl_ne {w : World} {b b' : Nat} {e e' : TypeId} {cs cs' : List Value} (h : Bl w b e cs) (h' : Bl w b' e' cs') (hne : Nat.beq e e' = false) : b ≠ b' := by
  rintro rfl
  have h1 := h.at_
  rw [h'.at_] at h1
  simp only [Option.some.injEq, Obj.cells.injEq] at h1
  have := h1.2.1
  subst this
  rw [Nat.beq_refl] at hne
  cases hne
section
variable {w w' : World} {bs : Nat} {eX : TypeId} {xs : List Value}
theorem Bl.rgT {b : Nat} {e : TypeId} {cs : List Value} (h : Bl w b e cs) (hb : Bl w bs eX xs) (hr : Rg bs (bs + 1) w w') (hne : Nat.beq e eX = false) : Bl w' b e cs := h.rg' hr (by have := bl_ne h hb hne; omega)
theorem Tm.rgT {eM : TypeId} {lo : Nat} (hb : Bl w bs eX xs) (hr : Rg bs (bs + 1) w w') (hne : Nat.beq eM eX = false) : ∀ (t : Tre) (v : Value), Tm eM w lo t v → Tm eM w' lo t v := by
  refine Tre.ind (fun k v x c p h => ?_) (fun k v x c ih p h => ?_) (fun k v x n c ih1 ih2 p h => ?_)
  · obtain ⟨b1, hp, hl, hbb⟩ := h
    exact ⟨b1, hp, hl, hbb.rgT hb hr hne⟩
  · obtain ⟨b1, q, hp, hl, hbb, ht⟩ := h
    exact ⟨b1, q, hp, hl, hbb.rgT hb hr hne, ih _ ht⟩
  · obtain ⟨b1, q, q2, hp, hl, hbb, ht, ht2⟩ := h
    exact ⟨b1, q, q2, hp, hl, hbb.rgT hb hr hne, ih1 _ ht, ih2 _ ht2⟩
theorem own_rgT {B e sz n : Nat} {v : Value} {ys : List Value} (h : w.ownsRow B e sz v n ys) (hb : Bl w bs eX xs) (hr : Rg bs (bs + 1) w w') (hne : Nat.beq e eX = false) : w'.ownsRow B e sz v n ys := by
  refine own_same h fun k hk => hr.block k (own_block_lt h hk).2 fun e2 => ?_
  rcases own_slc h with ⟨rfl, _⟩ | ⟨g, cap, sp, _, hs⟩
  · cases hk
  · rw [hs.val] at hk
    simp only [Value.ownBlock, Option.some.injEq] at hk
    subst hk
    exact bl_ne hs.bl hb hne (by omega)
end
/-- what the expander gives back -/
def XPo (eX eM : TypeId) (bs : Nat) (o : Option (List MT × Nat)) (w : World) (r : Value) (w' : World) : Prop :=
  Rg bs (bs + 1) w w' ∧ ∃ (u : Nat) (b : Bool), Bl w' bs eX [.int .i64 u, .bool b] ∧ (b = true → o = none) ∧ (b = false → ∃ R, o = some (R, u) ∧ w'.ownsRow 0 eM 27 r R.length (R.flatMap mtE) ∧ CM R ∧ u ≤ 100000)
section
variable {eX eM : TypeId} {bs : Nat} {o : Option (List MT × Nat)} {w w' : World} {r : Value} {u : Nat} {b : Bool}
theorem XPo.bad (hr : Rg bs (bs + 1) w w') (hx : Bl w' bs eX [.int .i64 u, .bool b]) (hb : b = true) (ho : o = none) : XPo eX eM bs o w r w' := ⟨hr, u, b, hx, fun _ => ho, fun h => by rw [hb] at h; cases h⟩
theorem XPo.good {R : List MT} (hr : Rg bs (bs + 1) w w') (hx : Bl w' bs eX [.int .i64 u, .bool b]) (hb : b = false) (ho : o = some (R, u)) (hO : w'.ownsRow 0 eM 27 r R.length (R.flatMap mtE)) (hc : CM R) (hu : u ≤ 100000) : XPo eX eM bs o w r w' := ⟨hr, u, b, hx, fun h => by (rw [hb] at h; cases h), fun _ => ⟨R, ho, hO, hc, hu⟩⟩
end
theorem mtE_z (c : Int) : mtE (c, z26) = .int .i64 c :: iC .i32 z26 := mtE_eq z26_len
end Go.Mw
namespace Go.Proofs.YbxaawGreat
open Go.Mw
abbrev XPq := XPo 141 103

theorem charge_ok (c u : Nat) (w : World) (bs : Nat) (hx : Bl w bs 141 [.int .i64 u, .bool false]) (hu : u ≤ 100000) (hc : c ≤ 1000000000) : Ret Yaam.prog 129 [.pointer (some ⟨bs, 0, none⟩), .int .i64 c] w fun r w' => ∃ b, Bl w' bs 141 [.int .i64 ((u + max c 1 : Nat) : Int), .bool b] ∧ (b = true → ¬ u + max c 1 ≤ 100000) ∧ (b = false → u + max c 1 ≤ 100000) ∧ Rg bs (bs + 1) w w' := by
  refine enter2 Yaam.func129 Yaam.ntmps129 (by kernel_rfl) rfl rfl ?_
  refine V.seq ?_
  refine V.seq ?_
  refine V.region ?_
  refine L.rd (rd_move rfl) rfl ?_
  refine L.rd (rd_lss rfl rfl) rfl ?_
  refine L.nil ?_
  refine X.sq ?_
  refine V.cut (fun l w' => l = [(0, .pointer (some ⟨bs, 0, none⟩)), (1, .int .i64 ((max c 1 : Nat) : Int))] ∧ w = w') ?_ ?_
  ·
    first | refine V.cond rfl (fun h5 => ?_) (fun h5 => ?_) | refine V.condB rfl (fun h5 => ?_) (fun h5 => ?_)
    ·
      refine V.region ?_
      refine L.rd (rd_assign rfl) rfl ?_
      refine L.nil ?_
      refine X.ct ⟨_, ?_, rfl, rfl⟩
      have e : max c 1 = 1 := by omega
      rw [e]
      exact (by repeat' (first | exact trivial | refine ⟨rfl, ?_⟩))
    ·
      refine V.skip ?_
      refine X.ct ⟨_, ?_, rfl, rfl⟩
      have e : max c 1 = c := by omega
      rw [e]
      exact (by repeat' (first | exact trivial | refine ⟨rfl, ?_⟩))
  ·
    rintro l w' ⟨rfl, rfl⟩
    refine X.sq ?_
    refine V.seq ?_
    refine V.region ?_
    refine L.rd (rd_move rfl) rfl ?_
    refine L.rd (rd_nilCheck rfl) rfl ?_
    refine L.rd (rd_fieldAddr tok rfl rfl rfl rfl rfl rfl) rfl ?_
    refine L.rd (rd_load1 tok rfl rfl rfl (hx.cell rfl)) rfl ?_
    refine L.rd (rd_move rfl) rfl ?_
    refine L.rd (rd_addE (r := ((u + max c 1 : Nat) : Int)) rfl rfl (by rw [wrap_i64_in (by omega)]; omega)) rfl ?_
    refine L.rd (rd_nilCheck rfl) rfl ?_
    refine L.rd (rd_fieldAddr tok rfl rfl rfl rfl rfl rfl) rfl ?_
    refine L.ef (e_store (vs := [_]) tok rfl rfl rfl rfl hx rfl (by simp [Value.oneCell']) (by simp) ?_)
    refine L.nil ?_
    refine X.sq ?_
    refine V.seq ?_
    have hx1 := hx.set 141 [.int .i64 ((u + max c 1 : Nat) : Int), .bool false]
    have hr1 : Rg bs (bs + 1) w (setB w bs 141 [.int .i64 ((u + max c 1 : Nat) : Int), .bool false]) := Rg.set ⟨Nat.le_refl _, by omega⟩ _ _
    refine V.region ?_
    refine L.rd (rd_move rfl) rfl ?_
    refine L.rd (rd_nilCheck rfl) rfl ?_
    refine L.rd (rd_fieldAddr tok rfl rfl rfl rfl rfl rfl) rfl ?_
    refine L.rd (rd_load1 tok rfl rfl rfl (hx1.cell rfl)) rfl ?_
    refine L.rd (rd_gtr rfl rfl) rfl ?_
    refine L.nil ?_
    refine X.sq ?_
    first | refine V.cond rfl (fun h18 => ?_) (fun h18 => ?_) | refine V.condB rfl (fun h18 => ?_) (fun h18 => ?_)
    ·
      refine V.region ?_
      refine L.rd (rd_move rfl) rfl ?_
      refine L.rd (rd_nilCheck rfl) rfl ?_
      refine L.rd (rd_fieldAddr tok rfl rfl rfl rfl rfl rfl) rfl ?_
      refine L.ef (e_store (vs := [_]) tok rfl rfl rfl rfl hx1 rfl (by simp [Value.oneCell']) (by simp) ?_)
      refine L.nil ?_
      refine ret_0 Yaam.results129 ?_
      exact ⟨true, hx1.set _ _, fun _ => by omega, fun h => (by cases h), hr1.trans (Rg.set ⟨Nat.le_refl _, by omega⟩ _ _)⟩
    ·
      refine V.skip ?_
      refine ret_0 Yaam.results129 ?_
      exact ⟨false, hx1, fun h => (by cases h), fun _ => by omega, hr1⟩

theorem keep_ok (R : List MT) (hV : Vl R) (v : Value) (u : Nat) (w : World) (bs : Nat) (hx : Bl w bs 141 [.int .i64 u, .bool false]) (hO : w.ownsRow 0 103 27 v R.length (R.flatMap mtE)) : Ret Yaam.prog 130 [.pointer (some ⟨bs, 0, none⟩), v] w fun r w' => ∃ b, Bl w' bs 141 [.int .i64 u, .bool b] ∧ (b = true → nfOk R = false) ∧ (b = false → nfOk R = true ∧ w'.ownsRow 0 103 27 r R.length (R.flatMap mtE)) ∧ Rg bs (bs + 1) w w' := by
  have hSl := Sl.of_own hO
  refine enter2 Yaam.func130 Yaam.ntmps130 (by kernel_rfl) rfl rfl ?_
  refine V.seq ?_
  refine V.region ?_
  refine L.rd (rd_assign rfl) rfl ?_
  refine L.nil ?_
  refine X.sq ?_
  refine V.seq ?_
  refine V.seq ?_
  refine V.region ?_
  refine L.rd (rd_move rfl) rfl ?_
  refine L.ef (e_call rfl (boundsOK_ok R hV _ _ hSl) rfl ?_)
  rintro _ w1 ⟨rfl, he1⟩
  have hx1 := he1.bl hx.lt hx
  have hO1 := own_ext hO he1
  first | refine L.rd (rd_not rfl) rfl ?_ | refine L.rd (rd_notB rfl) rfl ?_
  refine L.nil ?_
  refine X.sq ?_
  first | refine V.cond rfl (fun h7 => ?_) (fun h7 => ?_) | refine V.condB rfl (fun h7 => ?_) (fun h7 => ?_)
  ·
    refine V.seq ?_
    refine V.region ?_
    refine L.rd (rd_move rfl) rfl ?_
    refine L.rd (rd_nilCheck rfl) rfl ?_
    refine L.rd (rd_fieldAddr tok rfl rfl rfl rfl rfl rfl) rfl ?_
    refine L.ef (e_store (vs := [_]) tok rfl rfl rfl rfl hx1 rfl (by simp [Value.oneCell']) (by simp) ?_)
    refine L.nil ?_
    refine X.sq ?_
    refine V.seq ?_
    refine V.region ?_
    refine L.rd (rd_assign rfl) rfl ?_
    refine L.nil ?_
    refine X.sq ?_
    refine V.ret ?_
    refine X.sqRet ?_
    refine ret_1 Yaam.results130 rfl ?_
    exact ⟨true, hx1.set _ _, fun _ => by simpa using h7, fun h => (by cases h), (Rg.ext he1 _ _).trans (Rg.set ⟨Nat.le_refl _, by omega⟩ _ _)⟩
  ·
    refine V.skip ?_
    refine X.sq ?_
    refine V.seq ?_
    refine V.region ?_
    refine L.rd (rd_move rfl) rfl ?_
    refine L.rd (rd_assign rfl) rfl ?_
    refine L.nil ?_
    refine X.sq ?_
    refine V.ret ?_
    refine ret_1 Yaam.results130 rfl ?_
    exact ⟨false, hx1, fun h => (by cases h), fun _ => ⟨by simpa using h7, hO1⟩, Rg.ext he1 _ _⟩

theorem sx_leaf (bs : Nat) (k v x : Int) (hA : (k = 1 ∧ x = 0) ∨ (k = 2 ∧ v = 0 ∧ 0 ≤ x ∧ x ≤ 25)) (hwi : w64 v = v) (u : Nat) (hu : u ≤ 100000) (b : Nat) (w : World) (hn : Bl w b 119 [.int .i64 k, .int .i64 v, .int .i64 x, .pointer none, .pointer none]) (hx : Bl w bs 141 [.int .i64 u, .bool false]) : Ret Yaam.prog 97 [.pointer (some ⟨bs, 0, none⟩), .pointer (some ⟨b, 0, none⟩)] w (XPq bs (stA k v x [] [] u) w) := by
  refine enter2 Yaam.func97 Yaam.ntmps97 (by kernel_rfl) rfl rfl ?_
  refine V.seq ?_
  refine V.region ?_
  refine L.rd (rd_assign rfl) rfl ?_
  refine L.nil ?_
  refine X.sq ?_
  refine V.seq ?_
  refine V.seq ?_
  refine V.region ?_
  refine L.rd (rd_move rfl) rfl ?_
  refine L.rd (rd_nilCheck rfl) rfl ?_
  refine L.rd (rd_fieldAddr tok rfl rfl rfl rfl rfl rfl) rfl ?_
  refine L.rd (rd_load1 tok rfl rfl rfl (hx.cell (i := 1) rfl)) rfl ?_
  refine L.nil ?_
  refine X.sq ?_
  first | refine V.cond rfl (fun h24 => ?_) (fun h24 => ?_) | refine V.condB rfl (fun h24 => ?_) (fun h24 => ?_)
  ·
    cases h24
  ·
    refine V.skip ?_
    refine X.sq ?_
    refine V.seq ?_
    refine V.seq ?_
    refine V.region ?_
    refine L.rd (rd_move rfl) rfl ?_
    refine L.rd (rd_nilCheck rfl) rfl ?_
    refine L.rd (rd_fieldAddr tok rfl rfl rfl rfl rfl rfl) rfl ?_
    refine L.rd (rd_load1 tok rfl rfl rfl (hn.cell rfl)) rfl ?_
    refine L.nil ?_
    refine X.sq ?_
    refine V.block ?_
    refine V.seq ?_
    refine V.region ?_
    refine L.rd (rd_eql rfl rfl) rfl ?_
    refine L.rd (rd_assign rfl) rfl ?_
    refine L.nil ?_
    refine X.sq ?_
    first | refine V.cond rfl (fun h29 => ?_) (fun h29 => ?_) | refine V.condB rfl (fun h29 => ?_) (fun h29 => ?_)
    ·
      refine V.seq ?_
      refine V.region ?_
      refine L.rd (rd_move rfl) rfl ?_
      refine L.ef (e_call rfl (charge_ok 1 u _ bs hx hu (by omega)) rfl ?_)
      rintro _ w1 ⟨b1, hx1, hb1, hb1', hr1⟩
      have hn1 := hn.rgT hx hr1 rfl
      refine L.nil ?_
      refine X.sq ?_
      refine V.seq ?_
      refine V.seq ?_
      refine V.region ?_
      refine L.rd (rd_move rfl) rfl ?_
      refine L.rd (rd_nilCheck rfl) rfl ?_
      refine L.rd (rd_fieldAddr tok rfl rfl rfl rfl rfl rfl) rfl ?_
      refine L.rd (rd_load1 tok rfl rfl rfl (hx1.cell (i := 1) rfl)) rfl ?_
      refine L.rd (rd_move rfl) rfl ?_
      first | refine L.partG rfl rfl (fun g37 => ?_) (fun g37 => ?_) | refine L.partGB rfl rfl (fun g37 => ?_) (fun g37 => ?_)
      ·
        refine L.no rfl rfl rfl rfl ?_
        refine L.no rfl rfl rfl rfl ?_
        refine L.no rfl rfl rfl rfl ?_
        refine L.no rfl rfl rfl rfl ?_
        refine L.no rfl rfl rfl rfl ?_
        refine L.rd (rd_pickT rfl rfl) rfl ?_
        refine L.nil ?_
        refine X.sq ?_
        refine V.condT rfl ?_
        refine V.seq ?_
        refine V.region ?_
        refine L.rd (rd_assign rfl) rfl ?_
        refine L.nil ?_
        refine X.sq ?_
        refine V.ret ?_
        refine X.sqRet ?_
        refine X.bkRet ?_
        refine X.sqRet ?_
        refine ret_1 Yaam.results97 rfl ?_
        first
          | exact XPo.bad hr1 hx1 g37 (by rw [st1 h29, chg_no (hb1 g37)]; rfl)
          | (have hnm : numM v = [] := by unfold numM; rw [if_pos h43]
             refine XPo.good (R := numM v) hr1 hx1 g37 (by rw [st1 h29, chg_yes (hb1' g37)]; rfl) ?_ (CM.num hwi) (hb1' g37)
             rw [hnm]; exact World.ownsRow_nil _ _ _ _)
      ·
        refine L.yes rfl rfl ?_
        refine L.rd (rd_move rfl) rfl ?_
        refine L.yes rfl rfl ?_
        refine L.rd (rd_nilCheck rfl) rfl ?_
        refine L.yes rfl rfl ?_
        refine L.rd (rd_fieldAddr tok rfl rfl rfl rfl rfl rfl) rfl ?_
        refine L.yes rfl rfl ?_
        refine L.rd (rd_load1 tok rfl rfl rfl (hn1.cell (i := 1) rfl)) rfl ?_
        refine L.yes rfl rfl ?_
        refine L.rd (rd_eql rfl rfl) rfl ?_
        refine L.rd (rd_pickF rfl rfl) rfl ?_
        refine L.nil ?_
        refine X.sq ?_
        first | refine V.cond rfl (fun h43 => ?_) (fun h43 => ?_) | refine V.condB rfl (fun h43 => ?_) (fun h43 => ?_)
        ·
          refine V.seq ?_
          refine V.region ?_
          refine L.rd (rd_assign rfl) rfl ?_
          refine L.nil ?_
          refine X.sq ?_
          refine V.ret ?_
          refine X.sqRet ?_
          refine X.bkRet ?_
          refine X.sqRet ?_
          refine ret_1 Yaam.results97 rfl ?_
          first
            | exact XPo.bad hr1 hx1 g37 (by rw [st1 h29, chg_no (hb1 g37)]; rfl)
            | (have hnm : numM v = [] := by unfold numM; rw [if_pos h43]
               refine XPo.good (R := numM v) hr1 hx1 g37 (by rw [st1 h29, chg_yes (hb1' g37)]; rfl) ?_ (CM.num hwi) (hb1' g37)
               rw [hnm]; exact World.ownsRow_nil _ _ _ _)
        ·
          refine V.skip ?_
          refine X.sq ?_
          refine V.seq ?_
          refine V.region ?_
          refine L.rd (rd_move rfl) rfl ?_
          refine L.rd (rd_nilCheck rfl) rfl ?_
          refine L.rd (rd_fieldAddr tok rfl rfl rfl rfl rfl rfl) rfl ?_
          refine L.rd (rd_load1 tok rfl rfl rfl (hn1.cell (i := 1) rfl)) rfl ?_
          refine L.rd (rd_build (out := [_, _, _, _, _, _, _, _, _, _, _, _, _, _, _, _, _, _, _, _, _, _, _, _, _, _, _]) tok rfl rfl rfl rfl rfl) rfl ?_
          refine L.ef (e_buildSlice1 (e := 103) (cs := .int .i64 v :: iC .i32 z26) tok rfl rfl rfl rfl rfl rfl rfl rfl rfl (by first | (simp only [size_addB, size_setB, size_drew]; rfl) | rfl) rfl ?_)
          refine L.rd (rd_assign rfl) rfl ?_
          refine L.nil ?_
          refine X.sq ?_
          refine V.ret ?_
          refine X.bkRet ?_
          refine X.sqRet ?_
          refine ret_1 Yaam.results97 rfl ?_
          have hnm : numM v = [(v, z26)] := by unfold numM; rw [if_neg h43]
          refine XPo.good (R := numM v) (hr1.trans (Rg.ext ((Ext.refl _ _).addNew _ _) _ _)) (hx1.add _ _) g37 (by rw [st1 h29, chg_yes (hb1' g37)]; rfl) ?_ (CM.num hwi) (hb1' g37)
          rw [hnm, List.flatMap_cons, List.flatMap_nil, List.append_nil, mtE_z]
          exact own_of_bl (Bl.new _ _ _) (by simp [iC, z26]) (Nat.zero_le _) (by unfold maxLen; simp)
    ·
      refine V.seq ?_
      refine V.region ?_
      refine L.rd (rd_eql rfl rfl) rfl ?_
      refine L.rd (rd_assign rfl) rfl ?_
      refine L.nil ?_
      refine X.sq ?_
      first | refine V.cond rfl (fun h50 => ?_) (fun h50 => ?_) | refine V.condB rfl (fun h50 => ?_) (fun h50 => ?_)
      ·
        refine V.seq ?_
        refine V.region ?_
        refine L.rd (rd_move rfl) rfl ?_
        refine L.ef (e_call rfl (charge_ok 1 u _ bs hx hu (by omega)) rfl ?_)
        rintro _ w1 ⟨b1, hx1, hb1, hb1', hr1⟩
        have hn1 := hn.rgT hx hr1 rfl
        refine L.nil ?_
        refine X.sq ?_
        refine V.seq ?_
        refine V.seq ?_
        refine V.region ?_
        refine L.rd (rd_move rfl) rfl ?_
        refine L.rd (rd_nilCheck rfl) rfl ?_
        refine L.rd (rd_fieldAddr tok rfl rfl rfl rfl rfl rfl) rfl ?_
        refine L.rd (rd_load1 tok rfl rfl rfl (hx1.cell (i := 1) rfl)) rfl ?_
        refine L.nil ?_
        refine X.sq ?_
        first | refine V.cond rfl (fun h57 => ?_) (fun h57 => ?_) | refine V.condB rfl (fun h57 => ?_) (fun h57 => ?_)
        ·
          refine V.seq ?_
          refine V.region ?_
          refine L.rd (rd_assign rfl) rfl ?_
          refine L.nil ?_
          refine X.sq ?_
          refine V.ret ?_
          refine X.sqRet ?_
          refine X.bkRet ?_
          refine X.sqRet ?_
          refine ret_1 Yaam.results97 rfl ?_
          exact XPo.bad hr1 hx1 h57 (by rw [st2 h50, chg_no (hb1 h57)]; rfl)
        ·
          refine V.skip ?_
          refine X.sq ?_
          refine V.seq ?_
          refine V.region ?_
          refine L.ef (e_alloc (cs := .int .i64 0 :: iC .i32 z26) tok rfl rfl (by first | (simp only [size_addB, size_setB, size_drew]; rfl) | rfl) rfl ?_)
          refine L.nil ?_
          refine X.sq ?_
          refine V.seq ?_
          refine V.region ?_
          refine L.rd (rd_fieldAddr tok rfl rfl rfl rfl rfl rfl) rfl ?_
          refine L.ef (e_store (vs := [_]) tok rfl rfl rfl rfl (by (repeat (first | assumption | (refine Bl.new' ?_ _ _; first | with_reducible rfl | (simp only [size_addB, size_setB, size_drew]; done)) | apply Bl.add | apply Bl.drew | (apply Bl.setNe; omega) | (refine Bl.set' ?_ _ _; (try simp only [size_addB, size_setB, size_drew]); omega)))) rfl (by simp [Value.oneCell']) (by simp) ?_)
          rw [show putAt (.int .i64 0 :: iC .i32 z26) (0 + 0) [.int .i64 1] = .int .i64 1 :: iC .i32 z26 from rfl]
          refine L.nil ?_
          refine X.sq ?_
          refine V.seq ?_
          generalize hw3 : setB _ _ _ _ = w3
          have hb3 : Bl w3 w1.heap.size 103 (.int .i64 1 :: iC .i32 z26) := by rw [← hw3]; refine Bl.set' ?_ _ _; rw [size_addB]; omega
          have he3 : Ext w1.heap.size w1 w3 := by rw [← hw3]; exact ((Ext.refl _ _).addNew _ _).set (Nat.le_refl _) _ _
          have hn3 := he3.bl hn1.lt hn1
          have hx3 := he3.bl hx1.lt hx1
          have hz := z26_len
          refine V.region ?_
          refine L.rd (rd_move rfl) rfl ?_
          refine L.rd (rd_nilCheck rfl) rfl ?_
          refine L.rd (rd_fieldAddr tok rfl rfl rfl rfl rfl rfl) rfl ?_
          refine L.rd (rd_load1 tok rfl rfl rfl (hn3.cell (i := 2) rfl)) rfl ?_
          refine L.rd (rd_fieldAddr tok rfl rfl rfl rfl rfl rfl) rfl ?_
          (refine L.rd (rd_indexArr (n := 26) (sz := 1) tok rfl rfl rfl rfl rfl rfl rfl rfl ?_) rfl ?_; omega)
          refine L.ef (e_store (vs := [_]) tok rfl rfl rfl rfl hb3 rfl (by simp [Value.oneCell']) (by simp only [List.length_cons, iC_len, List.length_nil]; omega) ?_)
          (simp only [Nat.zero_add, Nat.mul_one])
          rw [cI_putE 1 z26 x.toNat 1 (by omega)]
          refine L.nil ?_
          refine X.sq ?_
          refine V.seq ?_
          generalize hw4 : setB _ _ _ _ = w4
          have hvl : (eV x).length = 26 := by unfold eV; rw [List.length_set, z26_len]
          have hb4 : Bl w4 w1.heap.size 103 (mtE (1, eV x)) := by rw [← hw4, mtE_eq hvl]; exact hb3.set _ _
          have he4 : Ext w1.heap.size w1 w4 := by rw [← hw4]; exact he3.set (Nat.le_refl _) _ _
          have hx4 := he4.bl hx1.lt hx1
          refine V.region ?_
          refine L.rd (rd_loadN tok rfl rfl rfl hb4.cells (mtE_len _).symm) rfl ?_
          refine L.ef (e_buildSlice1 (e := 103) (cs := mtE (1, eV x)) tok rfl rfl rfl rfl rfl rfl rfl rfl (by rw [mtE_len]; rfl) (by first | (simp only [size_addB, size_setB, size_drew]; rfl) | rfl) rfl ?_)
          refine L.rd (rd_assign rfl) rfl ?_
          refine L.nil ?_
          refine X.sq ?_
          refine V.ret ?_
          refine X.bkRet ?_
          refine X.sqRet ?_
          refine ret_1 Yaam.results97 rfl ?_
          refine XPo.good (R := varM x) ((hr1.trans (Rg.ext he4 _ _)).trans (Rg.ext ((Ext.refl _ _).addNew _ _) _ _)) (hx4.add _ _) h57 (by rw [st2 h50, chg_yes (hb1' h57)]; rfl) ?_ (CM.var (by omega)) (hb1' h57)
          rw [varM, List.flatMap_cons, List.flatMap_nil, List.append_nil]
          exact own_of_bl (Bl.new _ _ _) (mtE_len _) (Nat.zero_le _) (by unfold maxLen; simp)
      ·
        refine V.seq ?_
        exfalso
        omega
end Go.Proofs.YbxaawGreat
