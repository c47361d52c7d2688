/-
  The decoder of tokens, walked: it returns tokens that can be read.
-/
import Derived.Test.YbxaawGreatWtreeW
import Derived.Test.YbxaawGreatLexW3
import Derived.Test.YbxaawGreatSimpP
set_option linter.unusedVariables false
set_option linter.unusedSimpArgs false
set_option maxRecDepth 10000
namespace Go.Mw
/-- a slice from lo on -/
def SlcF (sz : Nat) (bv : Value) (lo : Nat) (sv : Value) : Prop := (∃ a, bv = .slice a 0 0 ∧ lo = 0 ∧ sv = .slice a 0 0) ∨ ∃ b o m c, bv = .slice (some ⟨b, o, none⟩) m c ∧ lo ≤ m ∧ sv = .slice (some ⟨b, rsl c lo o (lo * sz), none⟩) (m - lo) (c - lo)
section
variable {P : Program} {n : Nat} {l : List (Nat × Value)} {w : World} {d : Option Nat} {ty : TypeId} {pos : String} {af : Array Edge} {g : Option (Nat × Bool)} {T : List (Nat × TI)}
theorem rd_reslS (hT : TOk P T) {x y : Operand} {s : TypeId} {i j : TI} {e lo sz : Nat} {k : IntKind} {bv sv : Value} (hs : T.lookup s = some i) (h3 : i.tag = 3) (he : i.a = e) (hj : T.lookup e = some j) (hsz : j.size = sz)
    (hx : ev l x = some bv) (hy : ev l y = some (.int k lo)) (h : SlcF sz bv lo sv) : Rd P ⟨d, .slice s x (some y) none none, ty, pos, af, g⟩ l w sv := by
  rcases h with ⟨a, rfl, rfl, rfl⟩ | ⟨b, o, m, c, rfl, hlo, rfl⟩
  · cases a <;> exact ⟨fun ρ hρ w' _ => by
      subst hsz
      have hz := (hT.get hj).sizeOf w'
      simp [execOp, hρ x _ hx, hρ y _ hy, Instr.sliceAt, Instr.slice, Instr.sliceBounds, Instr.sliceBound, asIntOf, run_underlying ((hT.get hs).slice h3 he), hz]⟩
  · exact rd_reslL hT hs h3 he hj hsz hx hy hlo
end
/-- the bytes of an argument -/
def Dat (bv : Value) (bs : List Nat) : Prop := (∃ a, bv = .slice a 0 0 ∧ bs = []) ∨ ∃ b o c, bv = .slice (some ⟨b, o, none⟩) bs.length c ∧ bs.length ≤ c
theorem dat_slc {bv : Value} {bs : List Nat} {w : World} {hi : Nat} (hD : Dat bv bs) (hB : Rr w 0 hi 1 bv bs.length (bC bs)) {lo : Nat} (hlo : lo ≤ bs.length) : ∃ sv, SlcF 1 bv lo sv ∧ Rr w 0 hi 1 sv (bs.drop lo).length (bC (bs.drop lo)) := by
  rcases hD with ⟨a, rfl, rfl⟩ | ⟨b, o, c, rfl, hcap⟩
  · obtain rfl : lo = 0 := by simpa using hlo
    exact ⟨_, .inl ⟨a, rfl, rfl, rfl⟩, hB⟩
  · refine ⟨_, .inr ⟨b, o, _, c, rfl, hlo, rfl⟩, ⟨by simp [bC], _, _, by rw [List.length_drop], ?_⟩⟩
    obtain ⟨a2, c2, hv, hf⟩ := hB.form
    simp only [Value.slice.injEq, Option.some.injEq] at hv
    obtain ⟨rfl, -, rfl⟩ := hv
    rcases hf with hf | ⟨b3, o3, ha, h1, h2, hc⟩
    · left; rw [List.length_drop]; omega
    · simp only [Option.some.injEq, Addr.mk.injEq] at ha
      obtain ⟨rfl, rfl, -⟩ := ha
      right
      refine ⟨b, _, rfl, h1, h2, ?_⟩
      have := rsl_cells hc (sz := 1) (n := bs.length) (lo := lo) (by simp [bC]) hcap hlo
      rw [Nat.mul_one] at this ⊢
      unfold bC at this ⊢
      rw [List.map_drop]; exact this
theorem tok_app {w w6 : World} {base e : Nat} {v v6 : Value} {xs : List TK} {a b : Int} (ho : w.ownsRow base e 2 v xs.length (prC xs)) (hB : base ≤ w.heap.size) (hg : (addB w e [.int .i64 a, .int .i64 b]).grownBy w6 v.ownBlock) (h6 : w6.ownsRow base e 2 v6 (xs.length + 1) (prC xs ++ [.int .i64 a, .int .i64 b])) : w6.ownsRow base e 2 v6 (xs ++ [(a, b)]).length (prC (xs ++ [(a, b)])) ∧ Ext base w w6 := by
  refine ⟨?_, ?_⟩
  · rw [List.length_append, show prC (xs ++ [(a, b)]) = prC xs ++ [.int .i64 a, .int .i64 b] by simp [prC, prE]]
    exact h6
  · have hea := (Ext.refl _ w).addNew e [.int .i64 a, .int .i64 b]
    exact (hea.low hB).grown hg (by rw [size_addB]; omega) (fun x hx => (own_block_lt ho hx).1)
theorem lexF_len : ∀ (f : Nat) (l : List Nat) (acc ts : List TK), acc.length ≤ 2000000 → Lexp.lexF f l acc = some ts → ts.length ≤ 2000000
  | 0, _, _, _, _, h => by cases h
  | f + 1, [], acc, ts, ha, h => by
    simp only [Lexp.lexF, Option.some.injEq] at h
    subst h; exact ha
  | f + 1, c :: cs, acc, ts, ha, h => by
    have snoc : ∀ x : TK, ¬ 2000000 ≤ acc.length → (acc ++ [x]).length ≤ 2000000 := fun x hx => by rw [List.length_append]; simp only [List.length_cons, List.length_nil]; omega
    rw [Lexp.lexF] at h
    split at h
    · exact lexF_len f _ _ _ ha h
    · split at h
      · cases h
      · rename_i hn
        split at h
        · split at h
          · exact lexF_len f _ _ _ (snoc _ hn) h
          · cases h
        · split at h
          · exact lexF_len f _ _ _ (snoc _ hn) h
          · split at h
            · cases h
            · exact lexF_len f _ _ _ (snoc _ hn) h
theorem lexR_len2 (l : List Nat) : ((Lexp.lex l).getD []).length ≤ 2000000 := by
  cases h : Lexp.lex l with
  | none => simp
  | some ts =>
    unfold Lexp.lex at h
    split at h
    · cases h
    · exact lexF_len _ _ _ _ (by simp) h
/-- tokens that can be read -/
def TkP (w : World) (r : Value) (w' : World) : Prop := ∃ ts : List TK, Rr w' w.heap.size w'.heap.size 2 r ts.length (prC ts) ∧ Ext w.heap.size w w'
theorem TkP.own {w w' : World} {r : Value} {B e : Nat} {ts : List TK} (h : w'.ownsRow B e 2 r ts.length (prC ts)) (hB : w.heap.size ≤ B) (he : Ext w.heap.size w w') : TkP w r w' := ⟨ts, Rr.of_own (own_low h hB) (fun k hk => (own_block_lt h hk).2), he⟩
/-- a reader, tokens so far, one token in hand -/
structure TK2 (eR eK : TypeId) (w0 : World) (bv : Value) (bs : List Nat) (ov : Value) (xs : List TK) (bt : Nat) (w : World) (j : Nat) (a b : Int) : Prop where
  rd : RD eR w0.heap.size bv bs w j
  own : w.ownsRow (w0.heap.size + 1) eK 2 ov xs.length (prC xs)
  hlt : ∀ q, ov.ownBlock = some q → q < bt
  bl : Bl w bt eK [.int .i64 a, .int .i64 b]
  bt_ : w0.heap.size < bt
  ext : Ext w0.heap.size w0 w
section
variable {eR eK : TypeId} {w0 : World} {bv ov : Value} {bs : List Nat} {xs : List TK} {bt : Nat} {w w' : World} {j : Nat} {a b : Int}
theorem TK2.set (h : TK2 eR eK w0 bv bs ov xs bt w j a b) (a2 b2 : Int) : TK2 eR eK w0 bv bs ov xs bt (setB w bt eK [.int .i64 a2, .int .i64 b2]) j a2 b2 := by
  have hx := h.bt_
  have hr : Rg bt (bt + 1) w (setB w bt eK [.int .i64 a2, .int .i64 b2]) := Rg.set (by omega) _ _
  exact ⟨h.rd.rg hr (by omega), own_same h.own fun q hq => hr.block q (own_block_lt h.own hq).2 (by have := h.hlt q hq; omega), h.hlt, h.bl.set _ _, hx, h.ext.set (by omega) _ _⟩
theorem TK2.step (h : TK2 eR eK w0 bv bs ov xs bt w j a b) {j2 : Nat} (hr : RD eR w0.heap.size bv bs w' j2) (hg : Rg w0.heap.size (w0.heap.size + 1) w w') : TK2 eR eK w0 bv bs ov xs bt w' j2 a b := by
  have hx := h.bt_
  exact ⟨hr, own_offR h.own hg (Nat.le_refl _), h.hlt, h.bl.rg hg (.inr (by omega)), hx, h.ext.nextR hg (Nat.le_refl _)⟩
theorem TK2.low (h : TK2 eR eK w0 bv bs ov xs bt w j a b) (he : Ext w.heap.size w w') : TK2 eR eK w0 bv bs ov xs bt w' j a b := ⟨h.rd.ext he, own_ext h.own he, h.hlt, he.bl h.bl.lt h.bl, h.bt_, h.ext.next he⟩
end
end Go.Mw
namespace Go.Proofs.YbxaawGreat
open Go.Mw Lexp
abbrev TK2q := TK2 56 63

theorem decTok_ok (bv : Value) (bs : List Nat) (w : World) (hD : Dat bv bs) (hB : Rr w 0 w.heap.size 1 bv bs.length (bC bs)) (hl : ∀ c ∈ bs, c < 256) (hs : bs.length ≤ 1048576) : Ret Yaam.prog 10 [bv] w (TkP w) := by
  obtain ⟨ba, bc, rfl, hfb⟩ := id hB.form
  refine enter1 Yaam.func10 Yaam.ntmps10 (by kernel_rfl) rfl rfl ?_
  refine V.seq ?_
  refine V.region ?_
  refine L.rd (rd_assign rfl) rfl ?_
  refine L.nil ?_
  refine X.sq ?_
  refine V.seq ?_
  refine V.region ?_
  refine L.rd (rd_move rfl) rfl ?_
  refine L.rd (rd_build (out := [_, _]) tok rfl rfl rfl rfl rfl) rfl ?_
  refine L.ef (e_alloc (cs := [_, _]) tok rfl rfl (by first | (simp only [size_addB, size_setB, size_drew]; rfl) | rfl) rfl ?_)
  refine L.ef (e_store (vs := [_, _]) tok rfl rfl rfl rfl (by (repeat (first | assumption | (refine Bl.new' ?_ _ _; first | with_reducible rfl | (simp only [size_addB, size_setB, size_drew]; done)) | apply Bl.add | apply Bl.drew | (apply Bl.setNe; omega) | (refine Bl.set' ?_ _ _; (try simp only [size_addB, size_setB, size_drew]); omega)))) rfl (by simp [Value.oneCell']) (by simp) ?_)
  refine L.nil ?_
  refine X.sq ?_
  refine V.seq ?_
  generalize hw1 : setB _ _ _ _ = w1
  have he1 := ext_of_new hw1
  have hb1 : Bl w1 w.heap.size 56 [.slice ba bs.length bc, .int .i64 0] := bl_of_new hw1
  have h1 : RDq w.heap.size (.slice ba bs.length bc) bs w1 0 := ⟨hb1, hB.ext he1, hl, Nat.zero_le _, hs⟩
  refine V.region ?_
  refine L.ef (e_call rfl (next_ok _ h1) rfl ?_)
  rintro _ w2 ⟨c, i2, rfl, hc0, hc1, h2, hi2, -, hr2⟩
  have hE := he1.nextR hr2 (Nat.le_refl _)
  have hmd := tmod_rng (b := 8) hc0 (by omega)
  refine L.rd (rd_remW rfl rfl (by decide)) rfl ?_
  refine L.rd (rd_assign rfl) rfl ?_
  refine L.nil ?_
  refine X.sq ?_
  refine V.seq ?_
  refine V.seq ?_
  refine V.cut (fun l w' => ∃ b : Bool, l = [(0, .slice ba bs.length bc), (3, .pointer (some ⟨w.heap.size, 0, none⟩)), (4, .int .i64 (c.tmod 8)), (30, .bool b)] ∧ w2 = w') ?_ ?_
  ·
    generalize c.tmod 8 = md at *
    refine V.region ?_
    refine L.rd (rd_move rfl) rfl ?_
    refine L.rd (rd_lss rfl rfl) rfl ?_
    refine L.rd (rd_move rfl) rfl ?_
    first | refine L.partG rfl rfl (fun g27 => ?_) (fun g27 => ?_) | refine L.partGB rfl rfl (fun g27 => ?_) (fun g27 => ?_)
    ·
      refine L.no rfl rfl rfl rfl ?_
      refine L.no rfl rfl rfl rfl ?_
      refine L.rd (rd_pickT rfl rfl) rfl ?_
      refine L.nil ?_
      exact X.ct ⟨_, (by repeat' (first | exact trivial | refine ⟨rfl, ?_⟩)), _, rfl, rfl⟩
    ·
      refine L.yes rfl rfl ?_
      refine L.rd (rd_move rfl) rfl ?_
      refine L.yes rfl rfl ?_
      refine L.rd (rd_eql rfl rfl) rfl ?_
      refine L.rd (rd_pickF rfl rfl) rfl ?_
      refine L.nil ?_
      exact X.ct ⟨_, (by repeat' (first | exact trivial | refine ⟨rfl, ?_⟩)), _, rfl, rfl⟩
  ·
    rintro l w' ⟨b30, rfl, rfl⟩
    generalize c.tmod 8 = md at *
    refine X.sq ?_
    first | refine V.cond rfl (fun h30 => ?_) (fun h30 => ?_) | refine V.condB rfl (fun h30 => ?_) (fun h30 => ?_)
    ·
      refine V.seq ?_
      refine V.region ?_
      refine L.ef (e_call rfl (next_ok _ h2) rfl ?_)
      rintro _ w3 ⟨c3, i3, rfl, hc30, hc31, h3, hi3, -, hr3⟩
      replace hE := hE.nextR hr3 (Nat.le_refl _)
      refine L.rd (rd_assign rfl) rfl ?_
      refine L.nil ?_
      refine X.sq ?_
      refine V.seq ?_
      refine V.region ?_
      refine L.ef (e_call rfl (next_ok _ h3) rfl ?_)
      rintro _ w4 ⟨c4, i4, rfl, hc40, hc41, h4, hi4, -, hr4⟩
      replace hE := hE.nextR hr4 (Nat.le_refl _)
      refine L.rd (rd_assign rfl) rfl ?_
      refine L.nil ?_
      refine X.sq ?_
      refine V.seq ?_
      refine V.region ?_
      refine L.rd (rd_move rfl) rfl ?_
      (refine L.rd (rd_mul3 rfl rfl ?_) rfl ?_; omega)
      refine L.rd (rd_move rfl) rfl ?_
      (refine L.rd (rd_add3 rfl rfl ?_) rfl ?_; omega)
      refine L.rd (rd_assign rfl) rfl ?_
      refine L.nil ?_
      refine X.sq ?_
      refine V.seq ?_
      obtain ⟨h, hh⟩ : ∃ h : Int, c3 * 256 + c4 = h := ⟨_, rfl⟩
      have hh0 : 0 ≤ h ∧ h ≤ 65535 := by omega
      rw [hh]
      obtain ⟨sv, hsv, hRs⟩ := dat_slc hD (hB.ext hE) h4.le
      refine V.region ?_
      refine L.rd (rd_move rfl) rfl ?_
      refine L.rd (rd_fieldAddr tok rfl rfl rfl rfl rfl rfl) rfl ?_
      refine L.rd (rd_load1 tok rfl rfl rfl (h4.bl.cell (i := 1) rfl)) rfl ?_
      refine L.rd (rd_reslS (sz := 1) tok rfl rfl rfl rfl rfl rfl rfl hsv) rfl ?_
      refine L.ef (e_call rfl (decSrc_ok sv (bs.drop i4) _ (hRs.wide (Nat.le_refl _) hE.size) (fun c hc => hl c (List.mem_of_mem_drop hc)) (by rw [List.length_drop]; omega)) rfl ?_)
      rintro _ w5 ⟨s5, rfl, hs5, he5⟩
      replace hE := hE.next he5
      have hw5 := hE.size
      refine L.ef (e_call rfl (slex_ok s5 _ (by omega)) rfl ?_)
      rintro _ w6 ⟨tv, rfl, ho6, he6⟩
      obtain ⟨ta, tn, rfl⟩ := slice_form ho6
      have hll := lexR_len2 (bl s5)
      generalize (lex (bl s5)).getD [] = ts at ho6 hll ⊢
      have ho6' : w6.ownsRow w5.heap.size 63 2 (.slice ta ts.length tn) ts.length (prC ts) := ho6
      replace hE := hE.next he6
      have hs56 := he6.size
      have hs0 := hE.size
      have hs5' := he5.size
      refine L.rd (rd_move rfl) rfl ?_
      refine L.rd (rd_ext0 rfl) rfl ?_
      refine L.rd (rd_ext1 rfl) rfl ?_
      refine L.rd (rd_assign rfl) rfl ?_
      refine L.rd (rd_assign rfl) rfl ?_
      refine L.nil ?_
      refine X.sq ?_
      refine V.seq ?_
      refine V.seq ?_
      refine V.region ?_
      refine L.rd (rd_move rfl) rfl ?_
      refine L.rd (rd_lenSlice tok rfl rfl rfl) rfl ?_
      refine L.rd (rd_eql rfl rfl) rfl ?_
      refine L.rd (rd_move rfl) rfl ?_
      first | refine L.partG rfl rfl (fun g49 => ?_) (fun g49 => ?_) | refine L.partGB rfl rfl (fun g49 => ?_) (fun g49 => ?_)
      ·
        refine L.no rfl rfl rfl rfl ?_
        refine L.no rfl rfl rfl rfl ?_
        refine L.rd (rd_pickT rfl rfl) rfl ?_
        refine L.nil ?_
        refine X.sq ?_
        refine V.condT rfl ?_
        refine V.seq ?_
        refine V.region ?_
        refine L.rd (rd_move rfl) rfl ?_
        refine L.rd (rd_assign rfl) rfl ?_
        refine L.nil ?_
        refine X.sq ?_
        refine V.ret ?_
        refine X.sqRet ?_
        refine X.sqRet ?_
        refine ret_1 Yaam.results10 rfl ?_
        exact TkP.own ho6' (by omega) hE
      ·
        refine L.yes rfl rfl ?_
        refine L.rd (rd_move rfl) rfl ?_
        refine L.yes rfl rfl ?_
        refine L.rd (rd_lss rfl rfl) rfl ?_
        refine L.rd (rd_pickF rfl rfl) rfl ?_
        refine L.nil ?_
        refine X.sq ?_
        first | refine V.cond rfl (fun h52 => ?_) (fun h52 => ?_) | refine V.condB rfl (fun h52 => ?_) (fun h52 => ?_)
        ·
          refine V.seq ?_
          refine V.region ?_
          refine L.rd (rd_move rfl) rfl ?_
          refine L.rd (rd_assign rfl) rfl ?_
          refine L.nil ?_
          refine X.sq ?_
          refine V.ret ?_
          refine X.sqRet ?_
          refine X.sqRet ?_
          refine ret_1 Yaam.results10 rfl ?_
          exact TkP.own ho6' (by omega) hE
        ·
          refine V.skip ?_
          refine X.sq ?_
          refine V.seq ?_
          refine V.region ?_
          refine L.rd (rd_move rfl) rfl ?_
          refine L.rd (rd_move rfl) rfl ?_
          refine L.rd (rd_lenSlice tok rfl rfl rfl) rfl ?_
          refine L.rd (rd_remW rfl rfl (by omega)) rfl ?_
          refine L.rd (rd_assign rfl) rfl ?_
          refine L.nil ?_
          refine X.sq ?_
          refine V.seq ?_
          refine V.region ?_
          refine L.rd (rd_move rfl) rfl ?_
          refine L.rd (rd_lenSlice tok rfl rfl rfl) rfl ?_
          refine L.ef (e_make (e := 63) (zs := [_, _]) (m := 0) (c := ts.length) tok rfl rfl rfl rfl rfl rfl rfl rfl (by first | (simp only [size_addB, size_setB, size_drew]; rfl) | rfl) rfl (by omega) (by simp only []; omega) (by omega) ?_)
          refine L.rd (rd_assign rfl) rfl ?_
          refine L.nil ?_
          refine X.sq ?_
          refine V.seq ?_
          refine V.seq ?_
          refine V.region ?_
          refine L.rd (rd_assign rfl) rfl ?_
          refine L.nil ?_
          refine X.sq ?_
          refine V.block ?_
          refine V.loop (fun m l w' => ∃ (j : Nat) (ov : Value) (xs : List TK), l = [(4, .int .i64 md), (7, .int .i64 h), (8, .slice ta ts.length tn), (10, .int .i64 (h.tmod ts.length)), (11, ov), (12, .int .i64 j)] ∧ m = ts.length - j ∧ j ≤ ts.length ∧ w'.ownsRow w6.heap.size 63 2 ov xs.length (prC xs) ∧ xs.length ≤ j ∧ Ext w6.heap.size w6 w') ?_ ?_
          ·
            exact ⟨_, _, (by repeat' (first | exact trivial | refine ⟨rfl, ?_⟩)), 0, _, [], rfl, rfl, by omega, own_made (sz := 2) (c := ts.length) (Bl.new w6 63 _) (by rw [List.length_flatten]; simp) (Nat.le_refl _) (by unfold maxLen; omega), Nat.le_refl _, (Ext.refl _ _).addNew _ _⟩
          ·
            rintro m l w7 ⟨j, ov, xs, rfl, rfl, hj, ho, hxl, hE7⟩
            have hs7 := hE7.size
            obtain ⟨oa, oc, rfl⟩ := own_form ho
            refine V.seq ?_
            refine V.seq ?_
            refine V.region ?_
            refine L.rd (rd_move rfl) rfl ?_
            refine L.rd (rd_move rfl) rfl ?_
            refine L.rd (rd_lenSlice tok rfl rfl rfl) rfl ?_
            refine L.rd (rd_lss rfl rfl) rfl ?_
            refine L.nil ?_
            refine X.sq ?_
            first | refine V.cond rfl (fun h64 => ?_) (fun h64 => ?_) | refine V.condB rfl (fun h64 => ?_) (fun h64 => ?_)
            ·
              refine V.skip ?_
              refine X.sq ?_
              refine V.seq ?_
              refine V.cut (fun l w' => ∃ (ov' : Value) (xs' : List TK), l = [(4, .int .i64 md), (7, .int .i64 h), (8, .slice ta ts.length tn), (10, .int .i64 (h.tmod ts.length)), (11, ov'), (12, .int .i64 j)] ∧ w'.ownsRow w6.heap.size 63 2 ov' xs'.length (prC xs') ∧ xs'.length ≤ j + 1 ∧ Ext w6.heap.size w6 w') ?_ ?_
              ·
                refine V.block ?_
                refine V.seq ?_
                refine V.region ?_
                refine L.rd (rd_move rfl) rfl ?_
                refine L.rd (rd_move rfl) rfl ?_
                refine L.rd (rd_neq rfl rfl) rfl ?_
                refine L.nil ?_
                refine X.sq ?_
                first | refine V.cond rfl (fun h69 => ?_) (fun h69 => ?_) | refine V.condB rfl (fun h69 => ?_) (fun h69 => ?_)
                ·
                  obtain ⟨⟨ka, va⟩, htj⟩ := nth_of_lt ts j (by omega)
                  obtain ⟨gb, gcap, gsp, hgB, hgs⟩ := (own_slc (own_ext ho6' hE7)).resolve_left (fun hh => by omega)
                  obtain ⟨hgv, hgbl, -, -, -, -⟩ := hgs
                  simp only [Value.slice.injEq] at hgv
                  obtain ⟨rfl, -, rfl⟩ := hgv
                  have hcx : Cells w7 gb (0 + j * 2) [.int .i64 ka, .int .i64 va] := (hgbl.cells).sub (j * 2) _ (fun i u hu => by have := pr_get ts j _ htj i u hu; rw [List.getElem?_append_left (List.getElem?_eq_some_iff.1 this).1]; exact this)
                  refine V.region ?_
                  refine L.rd (rd_move rfl) rfl ?_
                  refine L.rd (rd_move rfl) rfl ?_
                  refine L.rd (rd_move rfl) rfl ?_
                  (refine L.rd (rd_indexSlice (sz := 2) tok rfl rfl rfl rfl rfl rfl rfl ?_) rfl ?_; omega)
                  refine L.rd (rd_loadN tok rfl rfl rfl hcx rfl) rfl ?_
                  refine L.ef (e_buildSlice1 (e := 63) (cs := [_, _]) tok rfl rfl rfl rfl rfl rfl rfl rfl rfl (by first | (simp only [size_addB, size_setB, size_drew]; rfl) | rfl) rfl ?_)
                  refine L.ef (e_append (m := 1) tok rfl rfl rfl rfl rfl rfl rfl rfl rfl rfl (ho.alloc _) (Bl.new _ _ _).cells rfl (by simp [Value.oneCell']) (by unfold maxLen; omega) (by simp only []; omega) (by rw [size_addB]; omega) ?_)
                  rintro v8 w8 ho8 hg8
                  obtain ⟨ho8', he8⟩ := tok_app ho hs7 hg8 ho8
                  refine L.rd (rd_assign rfl) rfl ?_
                  refine L.nil ?_
                  refine X.bk ?_
                  exact X.ct ⟨_, (by repeat' (first | exact trivial | refine ⟨rfl, ?_⟩)), _, _, rfl, ho8', by rw [List.length_append]; simp only [List.length_cons, List.length_nil]; omega, hE7.trans he8⟩
                ·
                  refine V.seq ?_
                  refine V.region ?_
                  refine L.rd (rd_move rfl) rfl ?_
                  refine L.rd (rd_eql rfl rfl) rfl ?_
                  refine L.nil ?_
                  refine X.sq ?_
                  first | refine V.cond rfl (fun h78 => ?_) (fun h78 => ?_) | refine V.condB rfl (fun h78 => ?_) (fun h78 => ?_)
                  ·
                    refine V.region ?_
                    refine L.rd (rd_move rfl) rfl ?_
                    refine L.rd (rd_move rfl) rfl ?_
                    refine L.rd (rd_remW rfl rfl (by decide)) rfl ?_
                    refine L.rd (rd_addW rfl rfl) rfl ?_
                    refine L.rd (rd_build (out := [_, _]) tok rfl rfl rfl rfl rfl) rfl ?_
                    refine L.ef (e_buildSlice1 (e := 63) (cs := [_, _]) tok rfl rfl rfl rfl rfl rfl rfl rfl rfl (by first | (simp only [size_addB, size_setB, size_drew]; rfl) | rfl) rfl ?_)
                    refine L.ef (e_append (m := 1) tok rfl rfl rfl rfl rfl rfl rfl rfl rfl rfl (ho.alloc _) (Bl.new _ _ _).cells rfl (by simp [Value.oneCell']) (by unfold maxLen; omega) (by simp only []; omega) (by rw [size_addB]; omega) ?_)
                    rintro v8 w8 ho8 hg8
                    obtain ⟨ho8', he8⟩ := tok_app ho hs7 hg8 ho8
                    refine L.rd (rd_assign rfl) rfl ?_
                    refine L.nil ?_
                    refine X.bk ?_
                    exact X.ct ⟨_, (by repeat' (first | exact trivial | refine ⟨rfl, ?_⟩)), _, _, rfl, ho8', by rw [List.length_append]; simp only [List.length_cons, List.length_nil]; omega, hE7.trans he8⟩
                  ·
                    refine V.skip ?_
                    refine X.bk ?_
                    exact X.ct ⟨_, (by repeat' (first | exact trivial | refine ⟨rfl, ?_⟩)), _, _, rfl, ho, by omega, hE7⟩
              ·
                rintro l w9 ⟨ov9, xs9, rfl, ho9, hx9, hE9⟩
                refine X.sq ?_
                refine V.region ?_
                refine L.rd (rd_move rfl) rfl ?_
                (refine L.rd (rd_add3 rfl rfl ?_) rfl ?_; omega)
                refine L.rd (rd_assign rfl) rfl ?_
                refine L.nil ?_
                exact X.lp ⟨_, _, by omega, (by repeat' (first | exact trivial | refine ⟨rfl, ?_⟩)), j + 1, _, _, rfl, rfl, by omega, ho9, hx9, hE9⟩
            ·
              refine V.exit ?_
              refine X.sqExit ?_
              refine X.lpExit ?_
              refine X.bkHere ?_
              refine X.sq ?_
              refine V.seq ?_
              refine V.region ?_
              refine L.rd (rd_move rfl) rfl ?_
              refine L.rd (rd_assign rfl) rfl ?_
              refine L.nil ?_
              refine X.sq ?_
              refine V.ret ?_
              refine X.sqRet ?_
              refine ret_1 Yaam.results10 rfl ?_
              exact TkP.own ho (by omega) (hE.next hE7)
    ·
      refine V.skip ?_
      refine X.sq ?_
      refine V.seq ?_
      refine V.seq ?_
      refine V.region ?_
      refine L.rd (rd_move rfl) rfl ?_
      refine L.rd (rd_eql rfl rfl) rfl ?_
      refine L.nil ?_
      refine X.sq ?_
      first | refine V.cond rfl (fun h88 => ?_) (fun h88 => ?_) | refine V.condB rfl (fun h88 => ?_) (fun h88 => ?_)
      ·
        refine V.seq ?_
        refine V.region ?_
        refine L.ef (e_call rfl (next_ok _ h2) rfl ?_)
        rintro _ w3 ⟨c3, i3, rfl, hc30, hc31, h3, hi3, -, hr3⟩
        replace hE := hE.nextR hr3 (Nat.le_refl _)
        have hm7 := tmod_rng (b := 7) hc30 (by omega)
        refine L.rd (rd_remW rfl rfl (by decide)) rfl ?_
        (refine L.rd (rd_add3 rfl rfl ?_) rfl ?_; omega)
        refine L.rd (rd_assign rfl) rfl ?_
        refine L.nil ?_
        refine X.sq ?_
        refine V.seq ?_
        obtain ⟨dp, hdp⟩ : ∃ dp : Nat, (4997 + c3.tmod 7 : Int) = dp := ⟨(4997 + c3.tmod 7).toNat, by omega⟩
        have hdl : dp ≤ 5003 := by omega
        rw [hdp]
        refine V.region ?_
        refine L.rd (rd_move rfl) rfl ?_
        (refine L.rd (rd_mul3 rfl rfl ?_) rfl ?_; omega)
        refine L.rd (rd_addE (r := ((2 * dp + 1 : Nat) : Int)) rfl rfl (by rw [wrap_i64_in (by omega)]; omega)) rfl ?_
        refine L.ef (e_make (e := 63) (zs := [_, _]) (m := 0) (c := 2 * dp + 1) tok rfl rfl rfl rfl rfl rfl rfl rfl (by first | (simp only [size_addB, size_setB, size_drew]; rfl) | rfl) rfl (by omega) (by simp only []; omega) (by omega) ?_)
        refine L.rd (rd_assign rfl) rfl ?_
        refine L.nil ?_
        refine X.sq ?_
        refine V.seq ?_
        refine V.seq ?_
        refine V.region ?_
        refine L.rd (rd_assign rfl) rfl ?_
        refine L.nil ?_
        refine X.sq ?_
        refine V.block ?_
        refine V.loop (fun m l w' => ∃ (j : Nat) (ov : Value) (xs : List TK), l = [(13, .int .i64 dp), (14, ov), (15, .int .i64 j)] ∧ m = dp - j ∧ j ≤ dp ∧ w'.ownsRow w3.heap.size 63 2 ov xs.length (prC xs) ∧ xs.length ≤ j ∧ Ext w3.heap.size w3 w') ?_ ?_
        ·
          exact ⟨_, _, (by repeat' (first | exact trivial | refine ⟨rfl, ?_⟩)), 0, _, [], rfl, rfl, by omega, own_made (sz := 2) (c := 2 * dp + 1) (Bl.new w3 63 _) (by rw [List.length_flatten]; simp) (Nat.le_refl _) (by unfold maxLen; omega), Nat.le_refl _, (Ext.refl _ _).addNew _ _⟩
        ·
          rintro m l w7 ⟨j, ov, xs, rfl, rfl, hj, ho, hxl, hE7⟩
          have hs7 := hE7.size
          obtain ⟨oa, oc, rfl⟩ := own_form ho
          refine V.seq ?_
          refine V.seq ?_
          refine V.region ?_
          refine L.rd (rd_move rfl) rfl ?_
          refine L.rd (rd_move rfl) rfl ?_
          refine L.rd (rd_lss rfl rfl) rfl ?_
          refine L.nil ?_
          refine X.sq ?_
          first | refine V.cond rfl (fun h98 => ?_) (fun h98 => ?_) | refine V.condB rfl (fun h98 => ?_) (fun h98 => ?_)
          ·
            refine V.skip ?_
            refine X.sq ?_
            refine V.seq ?_
            refine V.block ?_
            refine V.region ?_
            refine L.rd (rd_move rfl) rfl ?_
            refine L.rd (rd_build (out := [_, _]) tok rfl rfl rfl rfl rfl) rfl ?_
            refine L.ef (e_buildSlice1 (e := 63) (cs := [_, _]) tok rfl rfl rfl rfl rfl rfl rfl rfl rfl (by first | (simp only [size_addB, size_setB, size_drew]; rfl) | rfl) rfl ?_)
            refine L.ef (e_append (m := 1) tok rfl rfl rfl rfl rfl rfl rfl rfl rfl rfl (ho.alloc _) (Bl.new _ _ _).cells rfl (by simp [Value.oneCell']) (by unfold maxLen; omega) (by simp only []; omega) (by rw [size_addB]; omega) ?_)
            rintro v8 w8 ho8 hg8
            obtain ⟨ho8', he8⟩ := tok_app ho hs7 hg8 ho8
            refine L.rd (rd_assign rfl) rfl ?_
            refine L.nil ?_
            refine X.bk ?_
            refine X.sq ?_
            refine V.region ?_
            refine L.rd (rd_move rfl) rfl ?_
            (refine L.rd (rd_add3 rfl rfl ?_) rfl ?_; omega)
            refine L.rd (rd_assign rfl) rfl ?_
            refine L.nil ?_
            exact X.lp ⟨_, _, by omega, (by repeat' (first | exact trivial | refine ⟨rfl, ?_⟩)), j + 1, _, _, rfl, rfl, by omega, ho8', by rw [List.length_append]; simp only [List.length_cons, List.length_nil]; omega, hE7.trans he8⟩
          ·
            refine V.exit ?_
            refine X.sqExit ?_
            refine X.lpExit ?_
            refine X.bkHere ?_
            refine X.sq ?_
            refine V.seq ?_
            refine V.region ?_
            refine L.rd (rd_move rfl) rfl ?_
            refine L.rd (rd_build (out := [_, _]) tok rfl rfl rfl rfl rfl) rfl ?_
            refine L.ef (e_buildSlice1 (e := 63) (cs := [_, _]) tok rfl rfl rfl rfl rfl rfl rfl rfl rfl (by first | (simp only [size_addB, size_setB, size_drew]; rfl) | rfl) rfl ?_)
            refine L.ef (e_append (m := 1) tok rfl rfl rfl rfl rfl rfl rfl rfl rfl rfl (ho.alloc _) (Bl.new _ _ _).cells rfl (by simp [Value.oneCell']) (by unfold maxLen; omega) (by simp only []; omega) (by rw [size_addB]; omega) ?_)
            rintro v8 w8 ho8 hg8
            obtain ⟨ho8', he8⟩ := tok_app ho hs7 hg8 ho8
            have hl8 : (xs ++ [((2 : Int), (23 : Int))]).length ≤ 5004 := by rw [List.length_append]; simp only [List.length_cons, List.length_nil]; omega
            generalize xs ++ [((2 : Int), (23 : Int))] = ys at ho8' hl8
            have hE8 := hE7.trans he8
            refine L.rd (rd_assign rfl) rfl ?_
            refine L.nil ?_
            refine X.sq ?_
            refine V.seq ?_
            refine V.seq ?_
            refine V.region ?_
            refine L.rd (rd_assign rfl) rfl ?_
            refine L.nil ?_
            refine X.sq ?_
            refine V.block ?_
            refine V.loop (fun m l w' => ∃ (j : Nat) (ov : Value) (xs : List TK), l = [(13, .int .i64 dp), (14, ov), (16, .int .i64 j)] ∧ m = dp - j ∧ j ≤ dp ∧ w'.ownsRow w3.heap.size 63 2 ov xs.length (prC xs) ∧ xs.length ≤ 5004 + j ∧ Ext w3.heap.size w3 w') ?_ ?_
            ·
              exact ⟨_, _, (by repeat' (first | exact trivial | refine ⟨rfl, ?_⟩)), 0, _, ys, rfl, rfl, by omega, ho8', by omega, hE8⟩
            ·
              rintro m l w9 ⟨j, ov, xs, rfl, rfl, hj, ho, hxl, hE9⟩
              have hs9 := hE9.size
              obtain ⟨oa, oc, rfl⟩ := own_form ho
              refine V.seq ?_
              refine V.seq ?_
              refine V.region ?_
              refine L.rd (rd_move rfl) rfl ?_
              refine L.rd (rd_move rfl) rfl ?_
              refine L.rd (rd_lss rfl rfl) rfl ?_
              refine L.nil ?_
              refine X.sq ?_
              first | refine V.cond rfl (fun h111 => ?_) (fun h111 => ?_) | refine V.condB rfl (fun h111 => ?_) (fun h111 => ?_)
              ·
                refine V.skip ?_
                refine X.sq ?_
                refine V.seq ?_
                refine V.block ?_
                refine V.region ?_
                refine L.rd (rd_move rfl) rfl ?_
                refine L.rd (rd_build (out := [_, _]) tok rfl rfl rfl rfl rfl) rfl ?_
                refine L.ef (e_buildSlice1 (e := 63) (cs := [_, _]) tok rfl rfl rfl rfl rfl rfl rfl rfl rfl (by first | (simp only [size_addB, size_setB, size_drew]; rfl) | rfl) rfl ?_)
                refine L.ef (e_append (m := 1) tok rfl rfl rfl rfl rfl rfl rfl rfl rfl rfl (ho.alloc _) (Bl.new _ _ _).cells rfl (by simp [Value.oneCell']) (by unfold maxLen; omega) (by simp only []; omega) (by rw [size_addB]; omega) ?_)
                rintro v10 w10 ho10 hg10
                obtain ⟨ho10', he10⟩ := tok_app ho hs9 hg10 ho10
                refine L.rd (rd_assign rfl) rfl ?_
                refine L.nil ?_
                refine X.bk ?_
                refine X.sq ?_
                refine V.region ?_
                refine L.rd (rd_move rfl) rfl ?_
                (refine L.rd (rd_add3 rfl rfl ?_) rfl ?_; omega)
                refine L.rd (rd_assign rfl) rfl ?_
                refine L.nil ?_
                exact X.lp ⟨_, _, by omega, (by repeat' (first | exact trivial | refine ⟨rfl, ?_⟩)), j + 1, _, _, rfl, rfl, by omega, ho10', by rw [List.length_append]; simp only [List.length_cons, List.length_nil]; omega, hE9.trans he10⟩
              ·
                refine V.exit ?_
                refine X.sqExit ?_
                refine X.lpExit ?_
                refine X.bkHere ?_
                refine X.sq ?_
                refine V.seq ?_
                refine V.region ?_
                refine L.rd (rd_move rfl) rfl ?_
                refine L.rd (rd_assign rfl) rfl ?_
                refine L.nil ?_
                refine X.sq ?_
                refine V.ret ?_
                refine X.sqRet ?_
                refine ret_1 Yaam.results10 rfl ?_
                exact TkP.own ho (by have := hE.size; omega) (hE.next hE9)
      ·
        refine V.skip ?_
        refine X.sq ?_
        refine V.seq ?_
        refine V.region ?_
        refine L.rd (rd_assign rfl) rfl ?_
        refine L.nil ?_
        refine X.sq ?_
        refine V.seq ?_
        refine V.block ?_
        refine V.loop (fun m l w' => ∃ (j : Nat) (ov : Value) (xs : List TK), l = [(3, .pointer (some ⟨w.heap.size, 0, none⟩)), (17, ov)] ∧ m = bs.length - j ∧ RDq w.heap.size (.slice ba bs.length bc) bs w' j ∧ w'.ownsRow (w.heap.size + 1) 63 2 ov xs.length (prC xs) ∧ xs.length ≤ j ∧ Ext w.heap.size w w') ?_ ?_
        ·
          exact ⟨_, _, (by repeat' (first | exact trivial | refine ⟨rfl, ?_⟩)), i2, _, [], rfl, rfl, h2, World.ownsRow_nil _ _ _ _, Nat.zero_le _, hE⟩
        ·
          rintro m l w3 ⟨j, ov, xs, rfl, rfl, g, ho, hxl, hE3⟩
          have hjn := g.le
          obtain ⟨oa, oc, rfl⟩ := own_form ho
          refine V.seq ?_
          refine V.seq ?_
          refine V.region ?_
          refine L.ef (e_call rfl (left_ok _ g) rfl ?_)
          rintro _ w4 ⟨rfl, he4⟩
          replace g := g.ext he4
          replace ho := own_ext ho he4
          replace hE3 := hE3.next he4
          refine L.rd (rd_gtr rfl rfl) rfl ?_
          refine L.nil ?_
          refine X.sq ?_
          first | refine V.cond rfl (fun h120 => ?_) (fun h120 => ?_) | refine V.condB rfl (fun h120 => ?_) (fun h120 => ?_)
          ·
            refine V.skip ?_
            refine X.sq ?_
            refine V.block ?_
            refine V.seq ?_
            refine V.region ?_
            refine L.ef (e_call rfl (next_ok _ g) rfl ?_)
            rintro _ w5 ⟨c5, j5, rfl, hc50, hc51, g5, hj5, hlt5, hr5⟩
            have hj5e := hlt5 (by omega)
            replace ho := own_offR ho hr5 (Nat.le_refl _)
            replace hE3 := hE3.nextR hr5 (Nat.le_refl _)
            refine L.rd (rd_assign rfl) rfl ?_
            refine L.nil ?_
            refine X.sq ?_
            refine V.seq ?_
            refine V.region ?_
            refine L.rd (rd_move rfl) rfl ?_
            refine L.rd (rd_remW rfl rfl (by decide)) rfl ?_
            refine L.rd (rd_addW rfl rfl) rfl ?_
            refine L.rd (rd_build (out := [_, _]) tok rfl rfl rfl rfl rfl) rfl ?_
            refine L.ef (e_alloc (cs := [_, _]) tok rfl rfl (by first | (simp only [size_addB, size_setB, size_drew]; rfl) | rfl) rfl ?_)
            refine L.ef (e_store (vs := [_, _]) tok rfl rfl rfl rfl (by (repeat (first | assumption | (refine Bl.new' ?_ _ _; first | with_reducible rfl | (simp only [size_addB, size_setB, size_drew]; done)) | apply Bl.add | apply Bl.drew | (apply Bl.setNe; omega) | (refine Bl.set' ?_ _ _; (try simp only [size_addB, size_setB, size_drew]); omega)))) rfl (by simp [Value.oneCell']) (by simp) ?_)
            generalize hw6 : setB _ _ _ _ = w6
            have he6 := ext_of_new hw6
            have hK : ∃ a b, TK2q w (.slice ba bs.length bc) bs (.slice oa xs.length oc) xs w5.heap.size w6 j5 a b := ⟨_, _, g5.ext he6, own_ext ho he6, fun q hq => (own_block_lt ho hq).2, bl_of_new hw6, g5.bl.lt, hE3.next he6⟩
            obtain ⟨a6, b6, hK⟩ := hK
            refine L.nil ?_
            refine X.sq ?_
            refine V.seq ?_
            refine V.seq ?_
            refine V.cut (fun l w' => ∃ (b : Bool) (j7 : Nat), l = [(3, .pointer (some ⟨w.heap.size, 0, none⟩)), (17, .slice oa xs.length oc), (19, .pointer (some ⟨w5.heap.size, 0, none⟩)), (132, .bool b)] ∧ j5 ≤ j7 ∧ TK2q w (.slice ba bs.length bc) bs (.slice oa xs.length oc) xs w5.heap.size w' j7 a6 b6) ?_ ?_
            ·
              refine V.region ?_
              refine L.rd (rd_move rfl) rfl ?_
              refine L.rd (rd_eql rfl rfl) rfl ?_
              refine L.rd (rd_move rfl) rfl ?_
              first | refine L.partG rfl rfl (fun g128 => ?_) (fun g128 => ?_) | refine L.partGB rfl rfl (fun g128 => ?_) (fun g128 => ?_)
              ·
                refine L.yes rfl rfl ?_
                refine L.ef (e_call rfl (next_ok _ hK.rd) rfl ?_)
                rintro _ w7 ⟨c7, j7, rfl, hc70, hc71, g7, hj7, -, hr7⟩
                replace hK := hK.step g7 hr7
                refine L.yes rfl rfl ?_
                refine L.rd (rd_remW rfl rfl (by decide)) rfl ?_
                refine L.yes rfl rfl ?_
                refine L.rd (rd_eql rfl rfl) rfl ?_
                refine L.rd (rd_pickT rfl rfl) rfl ?_
                refine L.nil ?_
                exact X.ct ⟨_, (by repeat' (first | exact trivial | refine ⟨rfl, ?_⟩)), _, _, rfl, hj7, hK⟩
              ·
                have hj7 : j5 ≤ j5 := Nat.le_refl _
                refine L.no rfl rfl rfl rfl ?_
                refine L.no rfl rfl rfl rfl ?_
                refine L.no rfl rfl rfl rfl ?_
                refine L.rd (rd_pickF rfl rfl) rfl ?_
                refine L.nil ?_
                exact X.ct ⟨_, (by repeat' (first | exact trivial | refine ⟨rfl, ?_⟩)), _, _, rfl, hj7, hK⟩
            ·
              rintro l w7 ⟨b132, j7, rfl, hj7, hK⟩
              refine X.sq ?_
              refine V.cut (fun l w' => ∃ (a b : Int) (j8 : Nat), l = [(3, .pointer (some ⟨w.heap.size, 0, none⟩)), (17, .slice oa xs.length oc), (19, .pointer (some ⟨w5.heap.size, 0, none⟩))] ∧ j5 ≤ j8 ∧ TK2q w (.slice ba bs.length bc) bs (.slice oa xs.length oc) xs w5.heap.size w' j8 a b) ?_ ?_
              ·
                first | refine V.cond rfl (fun h132 => ?_) (fun h132 => ?_) | refine V.condB rfl (fun h132 => ?_) (fun h132 => ?_)
                ·
                  refine V.region ?_
                  refine L.ef (e_call rfl (next_ok _ hK.rd) rfl ?_)
                  rintro _ w8 ⟨c8, j8, rfl, hc80, hc81, g8, hj8, -, hr8⟩
                  replace hK := hK.step g8 hr8
                  refine L.rd (rd_remW rfl rfl (by decide)) rfl ?_
                  refine L.rd (rd_mulW rfl rfl) rfl ?_
                  refine L.rd (rd_subW rfl rfl) rfl ?_
                  refine L.rd (rd_fieldAddr tok rfl rfl rfl rfl rfl rfl) rfl ?_
                  refine L.ef (e_store (vs := [_]) tok rfl rfl rfl rfl hK.bl rfl (by simp [Value.oneCell']) (by simp) ?_)
                  refine L.nil ?_
                  exact X.ct ⟨_, (by repeat' (first | exact trivial | refine ⟨rfl, ?_⟩)), _, _, _, rfl, by omega, hK.set _ _⟩
                ·
                  refine V.skip ?_
                  exact X.ct ⟨_, (by repeat' (first | exact trivial | refine ⟨rfl, ?_⟩)), _, _, _, rfl, hj7, hK⟩
              ·
                rintro l w8 ⟨a8, b8, j8, rfl, hj8, hK⟩
                refine X.sq ?_
                refine V.seq ?_
                refine V.region ?_
                refine L.ef (e_call rfl (peek_ok _ hK.rd) rfl ?_)
                rintro _ w9 ⟨c9, rfl, hc90, hc91, he9⟩
                replace hK := hK.low he9
                refine L.rd (rd_assign rfl) rfl ?_
                refine L.nil ?_
                refine X.sq ?_
                refine V.seq ?_
                refine V.seq ?_
                refine V.region ?_
                refine L.rd (rd_fieldAddr tok rfl rfl rfl rfl rfl rfl) rfl ?_
                refine L.rd (rd_load1 tok rfl rfl rfl (hK.bl.cell rfl)) rfl ?_
                refine L.nil ?_
                refine X.sq ?_
                refine V.cut (fun l w' => ∃ (a b : Int) (j10 : Nat), l = [(3, .pointer (some ⟨w.heap.size, 0, none⟩)), (17, .slice oa xs.length oc), (19, .pointer (some ⟨w5.heap.size, 0, none⟩))] ∧ j5 ≤ j10 ∧ TK2q w (.slice ba bs.length bc) bs (.slice oa xs.length oc) xs w5.heap.size w' j10 a b) ?_ ?_
                ·
                  refine V.block ?_
                  refine V.seq ?_
                  refine V.region ?_
                  refine L.rd (rd_eql rfl rfl) rfl ?_
                  refine L.rd (rd_assign rfl) rfl ?_
                  refine L.nil ?_
                  refine X.sq ?_
                  first | refine V.cond rfl (fun h145 => ?_) (fun h145 => ?_) | refine V.condB rfl (fun h145 => ?_) (fun h145 => ?_)
                  ·
                    refine V.seq ?_
                    refine V.region ?_
                    refine L.ef (e_call rfl (next_ok _ hK.rd) rfl ?_)
                    rintro _ w10 ⟨c10, j10, rfl, -, -, g10, hj10, -, hr10⟩
                    replace hK := hK.step g10 hr10
                    refine L.nil ?_
                    refine X.sq ?_
                    refine V.seq ?_
                    refine V.region ?_
                    refine L.rd (rd_move rfl) rfl ?_
                    refine L.rd (rd_lss rfl rfl) rfl ?_
                    refine L.nil ?_
                    refine X.sq ?_
                    first | refine V.cond rfl (fun h149 => ?_) (fun h149 => ?_) | refine V.condB rfl (fun h149 => ?_) (fun h149 => ?_)
                    ·
                      refine V.region ?_
                      refine L.rd (rd_move rfl) rfl ?_
                      refine L.rd (rd_remW rfl rfl (by decide)) rfl ?_
                      refine L.rd (rd_fieldAddr tok rfl rfl rfl rfl rfl rfl) rfl ?_
                      refine L.ef (e_store (vs := [_]) tok rfl rfl rfl rfl hK.bl rfl (by simp [Value.oneCell']) (by simp) ?_)
                      refine L.nil ?_
                      refine X.bk ?_
                      exact X.ct ⟨_, (by repeat' (first | exact trivial | refine ⟨rfl, ?_⟩)), _, _, _, rfl, by omega, hK.set _ _⟩
                    ·
                      refine V.seq ?_
                      refine V.region ?_
                      refine L.rd (rd_move rfl) rfl ?_
                      refine L.rd (rd_lss rfl rfl) rfl ?_
                      refine L.nil ?_
                      refine X.sq ?_
                      first | refine V.cond rfl (fun h154 => ?_) (fun h154 => ?_) | refine V.condB rfl (fun h154 => ?_) (fun h154 => ?_)
                      ·
                        refine V.region ?_
                        refine L.ef (e_call rfl (word_ok _ hK.rd) rfl ?_)
                        rintro _ w11 ⟨c11, j11, rfl, -, g11, hj11, hr11⟩
                        replace hK := hK.step g11 hr11
                        refine L.rd (rd_fieldAddr tok rfl rfl rfl rfl rfl rfl) rfl ?_
                        refine L.ef (e_store (vs := [_]) tok rfl rfl rfl rfl hK.bl rfl (by simp [Value.oneCell']) (by simp) ?_)
                        refine L.nil ?_
                        refine X.bk ?_
                        exact X.ct ⟨_, (by repeat' (first | exact trivial | refine ⟨rfl, ?_⟩)), _, _, _, rfl, by omega, hK.set _ _⟩
                      ·
                        refine V.region ?_
                        refine L.rd (rd_move rfl) rfl ?_
                        refine L.rd (rd_remW rfl rfl (by decide)) rfl ?_
                        refine L.rd (rd_addW rfl rfl) rfl ?_
                        refine L.rd (rd_fieldAddr tok rfl rfl rfl rfl rfl rfl) rfl ?_
                        refine L.ef (e_store (vs := [_]) tok rfl rfl rfl rfl hK.bl rfl (by simp [Value.oneCell']) (by simp) ?_)
                        refine L.nil ?_
                        refine X.bk ?_
                        exact X.ct ⟨_, (by repeat' (first | exact trivial | refine ⟨rfl, ?_⟩)), _, _, _, rfl, by omega, hK.set _ _⟩
                  ·
                    refine V.seq ?_
                    refine V.region ?_
                    refine L.rd (rd_eql rfl rfl) rfl ?_
                    refine L.rd (rd_assign rfl) rfl ?_
                    refine L.nil ?_
                    refine X.sq ?_
                    first | refine V.cond rfl (fun h161 => ?_) (fun h161 => ?_) | refine V.condB rfl (fun h161 => ?_) (fun h161 => ?_)
                    ·
                      refine V.seq ?_
                      refine V.region ?_
                      refine L.ef (e_call rfl (next_ok _ hK.rd) rfl ?_)
                      rintro _ w10 ⟨c10, j10, rfl, -, -, g10, hj10, -, hr10⟩
                      replace hK := hK.step g10 hr10
                      refine L.nil ?_
                      refine X.sq ?_
                      refine V.seq ?_
                      refine V.region ?_
                      refine L.rd (rd_move rfl) rfl ?_
                      refine L.rd (rd_lss rfl rfl) rfl ?_
                      refine L.nil ?_
                      refine X.sq ?_
                      first | refine V.cond rfl (fun h165 => ?_) (fun h165 => ?_) | refine V.condB rfl (fun h165 => ?_) (fun h165 => ?_)
                      ·
                        refine V.region ?_
                        refine L.rd (rd_move rfl) rfl ?_
                        refine L.rd (rd_remW rfl rfl (by decide)) rfl ?_
                        refine L.rd (rd_fieldAddr tok rfl rfl rfl rfl rfl rfl) rfl ?_
                        refine L.ef (e_store (vs := [_]) tok rfl rfl rfl rfl hK.bl rfl (by simp [Value.oneCell']) (by simp) ?_)
                        refine L.nil ?_
                        refine X.bk ?_
                        exact X.ct ⟨_, (by repeat' (first | exact trivial | refine ⟨rfl, ?_⟩)), _, _, _, rfl, by omega, hK.set _ _⟩
                      ·
                        refine V.seq ?_
                        refine V.region ?_
                        refine L.rd (rd_move rfl) rfl ?_
                        refine L.rd (rd_lss rfl rfl) rfl ?_
                        refine L.nil ?_
                        refine X.sq ?_
                        first | refine V.cond rfl (fun h170 => ?_) (fun h170 => ?_) | refine V.condB rfl (fun h170 => ?_) (fun h170 => ?_)
                        ·
                          refine V.region ?_
                          refine L.rd (rd_move rfl) rfl ?_
                          refine L.rd (rd_remW rfl rfl (by decide)) rfl ?_
                          refine L.rd (rd_addW rfl rfl) rfl ?_
                          refine L.rd (rd_fieldAddr tok rfl rfl rfl rfl rfl rfl) rfl ?_
                          refine L.ef (e_store (vs := [_]) tok rfl rfl rfl rfl hK.bl rfl (by simp [Value.oneCell']) (by simp) ?_)
                          refine L.nil ?_
                          refine X.bk ?_
                          exact X.ct ⟨_, (by repeat' (first | exact trivial | refine ⟨rfl, ?_⟩)), _, _, _, rfl, by omega, hK.set _ _⟩
                        ·
                          refine V.region ?_
                          refine L.rd (rd_fieldAddr tok rfl rfl rfl rfl rfl rfl) rfl ?_
                          refine L.ef (e_store (vs := [_]) tok rfl rfl rfl rfl hK.bl rfl (by simp [Value.oneCell']) (by simp) ?_)
                          refine L.nil ?_
                          refine X.bk ?_
                          exact X.ct ⟨_, (by repeat' (first | exact trivial | refine ⟨rfl, ?_⟩)), _, _, _, rfl, by omega, hK.set _ _⟩
                    ·
                      refine V.seq ?_
                      refine V.region ?_
                      refine L.rd (rd_move rfl) rfl ?_
                      refine L.rd (rd_eql rfl rfl) rfl ?_
                      refine L.nil ?_
                      refine X.sq ?_
                      first | refine V.cond rfl (fun h142 => ?_) (fun h142 => ?_) | refine V.condB rfl (fun h142 => ?_) (fun h142 => ?_)
                      ·
                        refine V.seq ?_
                        refine V.region ?_
                        refine L.ef (e_call rfl (next_ok _ hK.rd) rfl ?_)
                        rintro _ w10 ⟨c10, j10, rfl, -, -, g10, hj10, -, hr10⟩
                        replace hK := hK.step g10 hr10
                        refine L.nil ?_
                        refine X.sq ?_
                        refine V.region ?_
                        refine L.rd (rd_fieldAddr tok rfl rfl rfl rfl rfl rfl) rfl ?_
                        refine L.ef (e_store (vs := [_]) tok rfl rfl rfl rfl hK.bl rfl (by simp [Value.oneCell']) (by simp) ?_)
                        refine L.nil ?_
                        refine X.bk ?_
                        exact X.ct ⟨_, (by repeat' (first | exact trivial | refine ⟨rfl, ?_⟩)), _, _, _, rfl, by omega, hK.set _ _⟩
                      ·
                        refine V.skip ?_
                        refine X.bk ?_
                        exact X.ct ⟨_, (by repeat' (first | exact trivial | refine ⟨rfl, ?_⟩)), _, _, _, rfl, by omega, hK⟩
                ·
                  rintro l w10 ⟨a10, b10, j10, rfl, hj10, hK⟩
                  have hle10 := hK.rd.le
                  have hs10 : w.heap.size + 1 ≤ w10.heap.size := by have := hK.rd.bl.lt; omega
                  refine X.sq ?_
                  refine V.region ?_
                  refine L.rd (rd_move rfl) rfl ?_
                  refine L.rd (rd_loadN tok rfl rfl rfl hK.bl.cells rfl) rfl ?_
                  refine L.ef (e_buildSlice1 (e := 63) (cs := [_, _]) tok rfl rfl rfl rfl rfl rfl rfl rfl rfl (by first | (simp only [size_addB, size_setB, size_drew]; rfl) | rfl) rfl ?_)
                  refine L.ef (e_append (m := 1) tok rfl rfl rfl rfl rfl rfl rfl rfl rfl rfl (hK.own.alloc _) (Bl.new _ _ _).cells rfl (by simp [Value.oneCell']) (by unfold maxLen; omega) (by simp only []; omega) (by rw [size_addB]; omega) ?_)
                  rintro v11 w11 ho11 hg11
                  obtain ⟨ho11', he11⟩ := tok_app hK.own hs10 hg11 ho11
                  refine L.rd (rd_assign rfl) rfl ?_
                  refine L.nil ?_
                  refine X.bk ?_
                  exact X.lp ⟨_, _, by omega, (by repeat' (first | exact trivial | refine ⟨rfl, ?_⟩)), j10, _, _, rfl, rfl, hK.rd.low he11, ho11', by rw [List.length_append]; simp only [List.length_cons, List.length_nil]; omega, hK.ext.trans (he11.low (by omega))⟩
          ·
            refine V.exit ?_
            refine X.sqExit ?_
            refine X.lpExit ?_
            refine X.bkHere ?_
            refine X.sq ?_
            refine V.seq ?_
            refine V.region ?_
            refine L.rd (rd_move rfl) rfl ?_
            refine L.rd (rd_assign rfl) rfl ?_
            refine L.nil ?_
            refine X.sq ?_
            refine V.ret ?_
            refine ret_1 Yaam.results10 rfl ?_
            exact TkP.own ho (by omega) hE3
end Go.Proofs.YbxaawGreat
