/-
  impl.monosOf, impl.addRaw, AddPoly, walked.
-/
import Derived.Test.YbxaawGreatAmP
import Derived.Test.YbxaawGreatBdW
import Derived.Test.YbxaawGreatTermW
import Derived.Test.YbxaawGreatFromW
import Derived.Test.YbxaawGreatCanW2
import Derived.Test.YbxaawGreatCanW3
import Derived.Maps.AppendAt
import Derived.Laws.OwnMore
set_option linter.unusedVariables false
set_option linter.unusedSimpArgs false
set_option maxRecDepth 10000
namespace Go.Mw
section
variable {P : Program} {n : Nat} {T : List (Nat × TI)} {l : List (Nat × Value)} {w : World} {d : Nat} {ty : TypeId} {pos : String} {af : Array Edge} {g : Option (Nat × Bool)} {K : List (Nat × Value) → World → Prop}
/-- append of one owned row to another -/
theorem e_appendOwn (hT : TOk P T) {t e : Nat} {x y : Operand} {i j : TI} {v v2 : Value} {sz q m base base2 : Nat} {xs news : List Value} (ht : T.lookup t = some i) (h3 : i.tag = 3) (he : i.a = e) (hj : T.lookup e = some j) (hjs : Nat.beq (vcells j.zero).length j.size = true) (hpos : Nat.blt 0 j.size = true) (hsz : j.size = sz)
    (hx : ev l x = some v) (hy : ev l y = some v2) (hd : Nat.blt d n = true) (hown : w.ownsRow base e sz v q xs)
    (hown2 : w.ownsRow base2 e sz v2 m news) (h1 : ∀ u ∈ news, u.oneCell' = true) (hle : q + m ≤ maxLen) (hby : (q + m) * j.bytes ≤ 140737488355328) (hB : base ≤ w.heap.size)
    (k : ∀ v' w', w'.ownsRow base e sz v' (q + m) (xs ++ news) → w.grownBy w' v.ownBlock → K ((d, v') :: l) w') :
    E P n ⟨some d, .call { callee := .builtin .append, args := #[x, y], argTypes := #[t, t] }, ty, pos, af, g⟩ l w K := by
  rcases own_slc hown2 with ⟨rfl, h0, hnil⟩ | ⟨g2, cap, sp, _, hs⟩
  · have hn : news = [] := by have := hown2.1; rw [h0] at this; exact List.eq_nil_of_length_eq_zero (by omega)
    subst h0 hn
    obtain ⟨f, hf, -, -, -⟩ := (hT.get hj).info
    have hr := run_append_owned_none (P := P) (w := w) base t ty e f sz ((hT.get ht).slice h3 he) hf v q xs hown
    exact E.val rfl hd (fun ρ hρ => by simp [execOp, resolve, invoke, builtin, hρ x _ hx, hρ y _ hy, hr]) (k v w (by simpa using hown) ⟨rfl, rfl, rfl, Nat.le_refl _, fun _ _ _ => rfl⟩)
  · refine e_append (v := v) (base := base) (q := q) (xs := xs) (m := m) (news := news) (b := g2) (o := 0) (c := cap) hT ht h3 he hj hjs hpos hsz hx (by rw [hy, hs.val]) hd hown ⟨fun i u hu => ?_⟩ hown2.1 h1 hle hby hB k
    exact hs.bl.cells.at_ i u (by rw [List.getElem?_append_left (List.getElem?_eq_some_iff.1 hu).1]; exact hu)
theorem e_appendAt (hT : TOk P T) {t e : Nat} {x y : Operand} {i j : TI} {v : Value} {sz q m c base b o : Nat} {xs news : List Value} (ht : T.lookup t = some i) (h3 : i.tag = 3) (he : i.a = e) (hj : T.lookup e = some j) (hjs : Nat.beq (vcells j.zero).length j.size = true) (hpos : Nat.blt 0 j.size = true) (hsz : j.size = sz)
    (hx : ev l x = some v) (hy : ev l y = some (.slice (some ⟨b, o, none⟩) m c)) (hd : Nat.blt d n = true) (hown : w.ownsRow base e sz v q xs)
    (hc : Cells w b o news) (hl : news.length = m * sz) (h1 : ∀ u ∈ news, u.oneCell' = true) (hle : q + m ≤ maxLen) (hby : (q + m) * j.bytes ≤ 140737488355328) (hB : base ≤ w.heap.size)
    (k : ∀ v' w', w'.ownsRow base e sz v' (q + m) (xs ++ news) → w.grownBy w' v.ownBlock → (v'.ownBlock = v.ownBlock ∨ v'.ownBlock = some w.heap.size) → K ((d, v') :: l) w') :
    E P n ⟨some d, .call { callee := .builtin .append, args := #[x, y], argTypes := #[t, t] }, ty, pos, af, g⟩ l w K := by
  subst hsz
  obtain ⟨f, hf, hs, hb, hz⟩ := (hT.get hj).info
  obtain ⟨v', w', hr, h5, h6, _, h7⟩ := run_append_own_at (P := P) w base t ty e f j.zero j.size j.bytes ((hT.get ht).slice h3 he) hf hz hs hb (by rw [size_cells]; exact Nat.eq_of_beq_eq_true hjs) (by simpa [Nat.blt_eq] using hpos) v q xs hown ⟨b, o, none⟩ m c news hl
    (fun i u hu => by rw [addr_add]; exact hc.at_ i u hu) h1 hle hby hB
  exact E.val rfl hd (fun ρ hρ => by simp [execOp, resolve, invoke, builtin, hρ x _ hx, hρ y _ hy, hr]) (k v' w' h5 h6 h7)
end
end Go.Mw
namespace Go.Proofs.YbxaawGreat
open Go.Mw

theorem monosOf_ok (va : Value) (Ls : List Lt) (w : World) {lo hi : Nat} (hT : Tl w lo hi va Ls) (hC : canon (pol Ls) = true) : Ret Yaam.prog 128 [.agg #[va]] w fun r w' => w'.ownsRow w.heap.size 97 28 r (ms (pol Ls)).length ((ms (pol Ls)).flatMap mnE) ∧ Ext w.heap.size w w' := by
  obtain ⟨aa, ca, rfl, hfa⟩ := hT.form
  have hL : Ls.length ≤ 4096 := by have := canon_len hC; rwa [pol_length] at this
  refine enter1 Yaam.func128 Yaam.ntmps128 (by kernel_rfl) rfl rfl ?_
  refine V.seq ?_
  refine V.region ?_
  refine L.ef (e_box (cs := [_]) rfl rfl (by first | (simp only [size_addB, size_setB, size_drew]; rfl) | rfl) rfl ?_)
  refine L.rd (rd_assign rfl) rfl ?_
  refine L.nil ?_
  refine X.sq ?_
  refine V.seq ?_
  have hp := Bl.new w 44 [.slice aa Ls.length ca]
  have hE := (Ext.refl _ w).addNew 44 [.slice aa Ls.length ca]
  refine V.region ?_
  refine L.rd (rd_fieldAddr tok rfl rfl rfl rfl rfl rfl) rfl ?_
  refine L.rd (rd_load1 tok rfl rfl rfl (hp.cell rfl)) rfl ?_
  refine L.rd (rd_lenSlice tok rfl rfl rfl) rfl ?_
  refine L.ef (e_make (e := 97) (zs := mC 0 z26 0) (m := 0) (c := Ls.length) tok rfl rfl rfl rfl rfl rfl rfl rfl (by first | (simp only [size_addB, size_setB, size_drew]; rfl) | rfl) rfl (by omega) (by simp only []; omega) (by omega) ?_)
  refine L.rd (rd_assign rfl) rfl ?_
  refine L.nil ?_
  refine X.sq ?_
  refine V.seq ?_
  refine V.seq ?_
  refine V.region ?_
  refine L.rd (rd_assign rfl) rfl ?_
  refine L.nil ?_
  refine X.sq ?_
  refine V.block ?_
  refine V.loop (fun m l w3 => ∃ (i : Nat) (mv : Value), l = [(1, .pointer (some ⟨w.heap.size, 0, none⟩)), (3, mv), (4, .int .i64 i)] ∧ m = Ls.length - i ∧ i ≤ Ls.length ∧ Ext w.heap.size w w3 ∧ Bl w3 w.heap.size 44 [.slice aa Ls.length ca] ∧ w3.ownsRow (w.heap.size + 1) 97 28 mv i (((ms (pol Ls)).take i).flatMap mnE)) ?_ ?_
  ·
    exact ⟨_, _, (by repeat' (first | exact trivial | refine ⟨rfl, ?_⟩)), 0, _, rfl, rfl, by omega, hE.addNew _ _, hp.add _ _, own_made (sz := 28) (c := Ls.length) (Bl.new' (by rw [size_addB]) _ _) (by rw [List.length_flatten]; simp [mC_len, z26_len]) (Nat.le_refl _) (by unfold maxLen; omega)⟩
  ·
    clear hp hE
    rintro m l w3 ⟨i, mv, rfl, rfl, hi, hE, hp, hO⟩
    have hpl := hp.lt
    refine V.seq ?_
    refine V.seq ?_
    refine V.region ?_
    refine L.rd (rd_move rfl) rfl ?_
    refine L.rd (rd_fieldAddr tok rfl rfl rfl rfl rfl rfl) rfl ?_
    refine L.rd (rd_load1 tok rfl rfl rfl (hp.cell rfl)) rfl ?_
    refine L.rd (rd_lenSlice tok rfl rfl rfl) rfl ?_
    refine L.rd (rd_lss rfl rfl) rfl ?_
    refine L.nil ?_
    refine X.sq ?_
    first | refine V.cond rfl (fun h13 => ?_) (fun h13 => ?_) | refine V.condB rfl (fun h13 => ?_) (fun h13 => ?_)
    ·
      obtain ⟨b1, o1, rfl, -, -, hc1⟩ := hfa.resolve_left (by omega)
      obtain ⟨⟨c, fv, fs⟩, ht⟩ := nth_of_lt Ls i (by omega)
      have hcx := Tl.cells (hc1.le hE.leC) ht
      have hsub := ((hT.ext hE).sub _ (List.mem_of_getElem? ht)).rs
      have hmt := ms_get (pol_get ht)
      have hFg := Fg.of_ct (canon_nth hC (pol_get ht))
      simp only at hcx hsub hFg hmt
      refine V.skip ?_
      refine X.sq ?_
      refine V.seq ?_
      refine V.block ?_
      refine V.region ?_
      refine L.rd (rd_move rfl) rfl ?_
      refine L.rd (rd_fieldAddr tok rfl rfl rfl rfl rfl rfl) rfl ?_
      refine L.rd (rd_load1 tok rfl rfl rfl (hp.cell rfl)) rfl ?_
      refine L.rd (rd_move rfl) rfl ?_
      (refine L.rd (rd_indexSlice (sz := 2) tok rfl rfl rfl rfl rfl rfl rfl ?_) rfl ?_; omega)
      refine L.rd (rd_loadN tok rfl rfl rfl hcx rfl) rfl ?_
      refine L.ef (e_call rfl (monoOf_ok c fv fs _ hsub hFg) rfl ?_)
      rintro _ w5 ⟨rfl, hrv, he5⟩
      have hE5 := hE.next he5
      have hO5 := own_ext hO he5
      have hp5 := he5.bl hp.lt hp
      have hs5 := he5.size
      refine L.ef (e_buildSlice1 (e := 97) (cs := mnE (c, vec fs)) tok rfl rfl rfl rfl rfl rfl rfl rfl (by rw [mnE_len]; rfl) (by first | (simp only [size_addB, size_setB, size_drew]; rfl) | rfl) rfl ?_)
      refine L.ef (e_append (m := 1) tok rfl rfl rfl rfl rfl rfl rfl rfl rfl rfl (hO5.alloc _) (Bl.new _ _ _).cells (mnE_len _) (mnE_one _) (by unfold maxLen; omega) (by simp only []; omega) (by rw [size_addB]; omega) ?_)
      rintro v6 w6 ho6 hg6
      have hE6 := (hE5.addNew 97 (mnE (c, vec fs))).grown hg6 (by rw [size_addB]; omega) (fun q hq => by have := (own_block_lt hO5 hq).1; omega)
      have hp6 := (hp5.add 97 (mnE (c, vec fs))).off_own (hO5.alloc _) rfl hg6
      refine L.rd (rd_assign rfl) rfl ?_
      refine L.nil ?_
      refine X.bk ?_
      refine X.sq ?_
      refine V.region ?_
      refine L.rd (rd_move rfl) rfl ?_
      (refine L.rd (rd_add3 rfl rfl ?_) rfl ?_; omega)
      refine L.rd (rd_assign rfl) rfl ?_
      refine L.nil ?_
      refine X.lp ⟨_, _, by omega, (by repeat' (first | exact trivial | refine ⟨rfl, ?_⟩)), i + 1, v6, rfl, rfl, by omega, hE6, hp6, ?_⟩
      rw [take_snoc hmt, List.flatMap_append]
      simpa using ho6
    ·
      refine V.exit ?_
      refine X.sqExit ?_
      refine X.lpExit ?_
      refine X.bkHere ?_
      refine X.sq ?_
      refine V.seq ?_
      refine V.region ?_
      refine L.rd (rd_move rfl) rfl ?_
      refine L.rd (rd_assign rfl) rfl ?_
      refine L.nil ?_
      refine X.sq ?_
      refine V.ret ?_
      refine ret_1 Yaam.results128 rfl ?_
      have hml : (ms (pol Ls)).length = Ls.length := by rw [ms_len, pol_length]
      obtain rfl : i = Ls.length := by omega
      rw [List.take_of_length_le (by omega)] at hO
      rw [hml]
      exact ⟨own_low hO (by omega), hE⟩

theorem addRaw_ok (va vb : Value) (As Bs : List Lt) (w : World) {lo hi lo' hi' : Nat} (hA : Tl w lo hi va As) (hB : Tl w lo' hi' vb Bs) (hCA : canon (pol As) = true) (hCB : canon (pol Bs) = true) (hqa : Cq (pol As)) (hqb : Cq (pol Bs)) : Ret Yaam.prog 95 [.agg #[va], .agg #[vb]] w (RPost 91 93 (rawP (ms (pol As) ++ ms (pol Bs))) w) := by
  obtain ⟨aa, ca, rfl, hfa⟩ := hA.form
  obtain ⟨ab, cb, rfl, hfb⟩ := hB.form
  have hla : (ms (pol As)).length ≤ 4096 := by have := canon_len hCA; rwa [ms_len]
  have hlb : (ms (pol Bs)).length ≤ 4096 := by have := canon_len hCB; rwa [ms_len]
  refine enter2 Yaam.func95 Yaam.ntmps95 (by kernel_rfl) rfl rfl ?_
  refine V.seq ?_
  refine V.region ?_
  refine L.ef (e_box (cs := [_]) rfl rfl (by first | (simp only [size_addB, size_setB, size_drew]; rfl) | rfl) rfl ?_)
  refine L.ef (e_box (cs := [_]) rfl rfl (by first | (simp only [size_addB, size_setB, size_drew]; rfl) | rfl) rfl ?_)
  refine L.ef (e_alloc (cs := [_]) tok rfl rfl (by first | (simp only [size_addB, size_setB, size_drew]; rfl) | rfl) rfl ?_)
  refine L.rd (rd_assign rfl) rfl ?_
  refine L.nil ?_
  refine X.sq ?_
  refine V.seq ?_
  have hp := ((Bl.new w 44 [.slice aa As.length ca]).add 44 [.slice ab Bs.length cb]).add 44 [.slice none 0 0]
  have hq := (Bl.new' (w := addB w 44 [.slice aa As.length ca]) (b := w.heap.size + 1) (by rw [size_addB]) 44 [.slice ab Bs.length cb]).add 44 [.slice none 0 0]
  have hr := Bl.new' (w := addB (addB w 44 [.slice aa As.length ca]) 44 [.slice ab Bs.length cb]) (b := w.heap.size + 2) (by simp only [size_addB]) 44 [.slice none 0 0]
  have hE := (((Ext.refl _ w).addNew 44 [.slice aa As.length ca]).addNew 44 [.slice ab Bs.length cb]).addNew 44 [.slice none 0 0]
  generalize addB (addB (addB w 44 [.slice aa As.length ca]) 44 [.slice ab Bs.length cb]) 44 [.slice none 0 0] = w0 at hp hq hr hE ⊢
  have hrl := hr.lt
  have hs0 := hE.size
  refine V.region ?_
  refine L.rd (rd_loadN tok rfl rfl rfl hp.cells rfl) rfl ?_
  refine L.ef (e_call rfl (monosOf_ok _ As _ (hA.ext hE) hCA) rfl ?_)
  rintro v1 w1 ⟨hO1, he1⟩
  have hq1 := he1.bl hq.lt hq
  have hr1 := he1.bl hr.lt hr
  have hE1 := hE.next he1
  have hs1 := he1.size
  have hrl1 := hr1.lt
  refine L.rd (rd_assign rfl) rfl ?_
  refine L.nil ?_
  refine X.sq ?_
  refine V.seq ?_
  refine V.region ?_
  refine L.rd (rd_loadN tok rfl rfl rfl hq1.cells rfl) rfl ?_
  refine L.ef (e_call rfl (monosOf_ok _ Bs _ (hB.ext hE1) hCB) rfl ?_)
  rintro v2 w2 ⟨hO2, he2⟩
  have hr2 := he2.bl hr1.lt hr1
  have hE2 := hE1.next he2
  have hs2 := he2.size
  have hb1 : ∀ k, v1.ownBlock = some k → k < w1.heap.size := fun k hk => (own_block_lt hO1 hk).2
  have hO1b := own_ext hO1 he2
  obtain ⟨a2, c2, rfl⟩ := own_form hO2
  generalize hMB : ms (pol Bs) = MB at hO2 hlb ⊢
  generalize hMA : ms (pol As) = MA at hO1b hla ⊢
  refine L.rd (rd_assign rfl) rfl ?_
  refine L.nil ?_
  refine X.sq ?_
  refine V.seq ?_
  refine V.seq ?_
  refine V.region ?_
  refine L.rd (rd_assign rfl) rfl ?_
  refine L.nil ?_
  refine X.sq ?_
  refine V.block ?_
  refine V.loop (fun m l w3 => ∃ (i : Nat) (mv : Value), l = [(4, .pointer (some ⟨w.heap.size + 2, 0, none⟩)), (6, mv), (7, .slice a2 MB.length c2), (8, .int .i64 i)] ∧ m = MB.length - i ∧ i ≤ MB.length ∧ Ext w.heap.size w w3 ∧ Bl w3 (w.heap.size + 2) 44 [.slice none 0 0] ∧ w3.ownsRow w1.heap.size 97 28 (.slice a2 MB.length c2) MB.length (MB.flatMap mnE) ∧ w3.ownsRow w0.heap.size 97 28 mv (MA ++ MB.take i).length ((MA ++ MB.take i).flatMap mnE) ∧ (∀ k, mv.ownBlock = some k → (Value.slice a2 MB.length c2).ownBlock ≠ some k) ∧ w2.heap.size ≤ w3.heap.size) ?_ ?_
  ·
    exact ⟨_, _, (by repeat' (first | exact trivial | refine ⟨rfl, ?_⟩)), 0, _, rfl, rfl, by omega, hE2, hr2, hO2, by simpa using hO1b, fun k hk e => by have := hb1 k hk; have := (own_block_lt hO2 e).1; omega, Nat.le_refl _⟩
  ·
    clear hr hr1 hr2 hE hE1 hE2 hO1 hO1b hO2
    rintro m l w3 ⟨i, mv, rfl, rfl, hi, hE3, hr, hO2, hO1, hne, hw3⟩
    have hrl3 := hr.lt
    have hmx : (MA ++ MB.take i).length = MA.length + i := by rw [List.length_append, List.length_take]; omega
    refine V.seq ?_
    refine V.seq ?_
    refine V.region ?_
    refine L.rd (rd_move rfl) rfl ?_
    refine L.rd (rd_move rfl) rfl ?_
    refine L.rd (rd_lenSlice tok rfl rfl rfl) rfl ?_
    refine L.rd (rd_lss rfl rfl) rfl ?_
    refine L.nil ?_
    refine X.sq ?_
    first | refine V.cond rfl (fun h16 => ?_) (fun h16 => ?_) | refine V.condB rfl (fun h16 => ?_) (fun h16 => ?_)
    ·
      obtain ⟨g2, c2', hv2, -, hg2, hc2⟩ := own_some hO2 (by omega)
      simp only [Value.slice.injEq] at hv2
      obtain ⟨rfl, -, rfl⟩ := hv2
      obtain ⟨x, hx⟩ := nth_of_lt MB i (by omega)
      have hcx := mn_at hc2 hx
      refine V.skip ?_
      refine X.sq ?_
      refine V.seq ?_
      refine V.block ?_
      refine V.region ?_
      refine L.rd (rd_move rfl) rfl ?_
      refine L.rd (rd_move rfl) rfl ?_
      refine L.rd (rd_move rfl) rfl ?_
      (refine L.rd (rd_indexSlice (sz := 28) tok rfl rfl rfl rfl rfl rfl rfl ?_) rfl ?_; omega)
      refine L.rd (rd_loadN tok rfl rfl rfl hcx (mnE_len _).symm) rfl ?_
      refine L.ef (e_buildSlice1 (e := 97) (cs := mnE x) tok rfl rfl rfl rfl rfl rfl rfl rfl (by rw [mnE_len]; rfl) (by first | (simp only [size_addB, size_setB, size_drew]; rfl) | rfl) rfl ?_)
      refine L.ef (e_appendAt (m := 1) tok rfl rfl rfl rfl rfl rfl rfl rfl rfl rfl (hO1.alloc _) (Bl.new _ _ _).cells (mnE_len _) (mnE_one _) (by unfold maxLen; omega) (by simp only []; omega) (by rw [size_addB]; omega) ?_)
      rintro v6 w6 ho6 hg6 hat6
      have hE6 := (hE3.addNew 97 (mnE x)).grown hg6 (by rw [size_addB]; omega) (fun q hq => by have := (own_block_lt hO1 hq).1; omega)
      have hp6 := (hr.add 97 (mnE x)).off_own (hO1.alloc _) rfl hg6
      have hs6 := hg6.size
      rw [size_addB] at hs6
      have hO26 : w6.ownsRow w1.heap.size 97 28 (.slice (some ⟨g2, 0, none⟩) MB.length c2) MB.length (MB.flatMap mnE) := (hO2.alloc _).kept hg6 (.inr (fun e => hne g2 e.symm rfl))
      refine L.rd (rd_assign rfl) rfl ?_
      refine L.nil ?_
      refine X.bk ?_
      refine X.sq ?_
      refine V.region ?_
      refine L.rd (rd_move rfl) rfl ?_
      (refine L.rd (rd_add3 rfl rfl ?_) rfl ?_; omega)
      refine L.rd (rd_assign rfl) rfl ?_
      refine L.nil ?_
      refine X.lp ⟨_, _, by omega, (by repeat' (first | exact trivial | refine ⟨rfl, ?_⟩)), i + 1, v6, rfl, rfl, by omega, hE6, hp6, hO26, ?_, fun k hk e => ?_, by omega⟩
      · rw [take_snoc hx, ← List.append_assoc, List.flatMap_append, List.length_append]
        simpa using ho6
      · rw [hk] at hat6
        rcases hat6 with h | h
        · exact hne k h.symm e
        · rw [size_addB] at h
          simp only [Option.some.injEq] at h
          have := (own_block_lt hO2 e).2
          omega
    ·
      refine V.exit ?_
      refine X.sqExit ?_
      refine X.lpExit ?_
      refine X.bkHere ?_
      refine X.sq ?_
      refine V.seq ?_
      obtain rfl : i = MB.length := by omega
      rw [List.take_of_length_le (Nat.le_refl _)] at hO1
      subst hMA hMB
      have hVm := app_vl (canon_hv hCA).vl (canon_hv hCB).vl
      have hCm := app_cr (ms_cr hqa) (ms_cr hqb)
      refine V.region ?_
      refine L.rd (rd_move rfl) rfl ?_
      refine L.ef (e_call rfl (finish_ok _ hVm hCm (by rw [List.length_append]; omega) _ _ _ hO1 (by omega)) rfl ?_)
      rintro _ w5 ⟨v5, L5, rfl, hO5, hq5, hg5⟩
      obtain ⟨a5, c5, rfl⟩ := own_form hO5.top
      have hE5 : Ext w.heap.size w w5 := hE3.grown hg5 hE3.size (fun q hq => by have := (own_block_lt hO1 hq).1; omega)
      have hr5 := hr.off_own hO1 rfl hg5
      refine L.rd (rd_ext0 rfl) rfl ?_
      refine L.rd (rd_ext1 rfl) rfl ?_
      refine L.ef (e_store (vs := [_]) tok rfl rfl rfl rfl hr5 rfl (by simp [Value.oneCell']) (by simp) ?_)
      refine L.rd (rd_assign rfl) rfl ?_
      refine L.nil ?_
      refine X.sq ?_
      refine V.ret ?_
      refine ret_c1 tok Yaam.results95 rfl rfl rfl rfl (Bl.cells (hr5.set _ _)) rfl ?_
      refine ⟨_, L5, by unfold rawP; cases nfOk (nf (ms (pol As) ++ ms (pol Bs))) <;> rfl, ?_, by rw [hq5]; unfold rawP; cases nfOk (nf (ms (pol As) ++ ms (pol Bs))) <;> rfl, hE5.set (by omega) _ _⟩
      rw [size_setB]
      exact (hO5.rg (Rg.set (lo := w.heap.size + 2) (hi := w.heap.size + 3) (by omega) _ _) (by omega)).low (by omega)
end Go.Proofs.YbxaawGreat
