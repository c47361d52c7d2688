/-
  The decoder of terms, walked: it returns terms that can be read.
-/
import Derived.Test.YbxaawGreatWtreeW
import Derived.Test.YbxaawGreatNmP
set_option linter.unusedVariables false
set_option linter.unusedSimpArgs false
set_option maxRecDepth 10000
namespace Go.Mw
/-- terms that can be read -/
def TmP (w : World) (r : Value) (w' : World) : Prop := ∃ Ls : List Lt, Tl w' w.heap.size w'.heap.size r Ls ∧ Cq (pol Ls) ∧ Ls.length ≤ 1048576 ∧ (∀ t ∈ Ls, t.2.2.length ≤ 257) ∧ Ext w.heap.size w w'
/-- a reader and the terms so far; all below B -/
structure TD (eR eT eF : TypeId) (w0 : World) (bv : Value) (bs : List Nat) (B : Nat) (tsv : Value) (Ls : List Lt) (w : World) (j : Nat) : Prop where
  rd : RD eR w0.heap.size bv bs w j
  top : w.ownsRow (w0.heap.size + 1) eT 2 tsv Ls.length (Ls.flatMap ltE)
  sub : ∀ t ∈ Ls, w.ownsRow (w0.heap.size + 1) eF 2 t.2.1 t.2.2.length (prC t.2.2)
  tlt : ∀ q, tsv.ownBlock = some q → q < B
  slt : ∀ t ∈ Ls, ∀ q, t.2.1.ownBlock = some q → q < B
  lo : w0.heap.size < B
  ext : Ext w0.heap.size w0 w
section
variable {eR eT eF : TypeId} {w0 : World} {bv tsv : Value} {bs : List Nat} {B : Nat} {Ls : List Lt} {w w' : World} {j : Nat}
theorem TD.low (h : TD eR eT eF w0 bv bs B tsv Ls w j) (he : Ext B w w') : TD eR eT eF w0 bv bs B tsv Ls w' j :=
  ⟨h.rd.low (he.low h.lo), own_same h.top fun k hk => he.block k (h.tlt k hk), fun t ht => own_same (h.sub t ht) fun k hk => he.block k (h.slt t ht k hk), h.tlt, h.slt, h.lo, h.ext.trans (he.low (by have := h.lo; omega))⟩
theorem TD.step (h : TD eR eT eF w0 bv bs B tsv Ls w j) {j2 : Nat} (hr : RD eR w0.heap.size bv bs w' j2) (hg : Rg w0.heap.size (w0.heap.size + 1) w w') : TD eR eT eF w0 bv bs B tsv Ls w' j2 :=
  ⟨hr, own_offR h.top hg (Nat.le_refl _), fun t ht => own_offR (h.sub t ht) hg (Nat.le_refl _), h.tlt, h.slt, h.lo, h.ext.nextR hg (Nat.le_refl _)⟩
/-- a term in hand -/
structure TR (eR eT eF : TypeId) (w0 : World) (bv : Value) (bs : List Nat) (B : Nat) (tsv : Value) (Ls : List Lt) (w : World) (j : Nat) (c : Int) (fv : Value) (fs : List (Int × Int)) : Prop where
  td : TD eR eT eF w0 bv bs B tsv Ls w j
  bl : Bl w B eT [.int .i64 c, fv]
  own : w.ownsRow (B + 1) eF 2 fv fs.length (prC fs)
  cw : w64 c = c
variable {c : Int} {fv : Value} {fs : List (Int × Int)}
theorem TR.low (h : TR eR eT eF w0 bv bs B tsv Ls w j c fv fs) (he : Ext w.heap.size w w') : TR eR eT eF w0 bv bs B tsv Ls w' j c fv fs :=
  ⟨h.td.low (he.low (by have := h.bl.lt; omega)), he.bl h.bl.lt h.bl, own_ext h.own he, h.cw⟩
theorem TR.step (h : TR eR eT eF w0 bv bs B tsv Ls w j c fv fs) {j2 : Nat} (hr : RD eR w0.heap.size bv bs w' j2) (hg : Rg w0.heap.size (w0.heap.size + 1) w w') : TR eR eT eF w0 bv bs B tsv Ls w' j2 c fv fs := by
  have hl := h.td.lo
  exact ⟨h.td.step hr hg, h.bl.rg hg (.inr (by omega)), own_offR h.own hg (by omega), h.cw⟩
theorem TR.set (h : TR eR eT eF w0 bv bs B tsv Ls w j c fv fs) (c2 : Int) {fv2 : Value} {fs2 : List (Int × Int)} (hc : w64 c2 = c2) (ho : w.ownsRow (B + 1) eF 2 fv2 fs2.length (prC fs2)) : TR eR eT eF w0 bv bs B tsv Ls (setB w B eT [.int .i64 c2, fv2]) j c2 fv2 fs2 := by
  have hr : Rg B (B + 1) w (setB w B eT [.int .i64 c2, fv2]) := Rg.set (by omega) _ _
  have he : Ext B w (setB w B eT [.int .i64 c2, fv2]) := ext_of_rg hr (Nat.le_refl _) (by have := h.bl.lt; omega)
  exact ⟨h.td.low he, h.bl.set _ _, own_offR ho hr (Nat.le_refl _), hc⟩
/-- and a factor -/
structure TF (eR eT eF : TypeId) (w0 : World) (bv : Value) (bs : List Nat) (B : Nat) (tsv : Value) (Ls : List Lt) (bf : Nat) (w : World) (j : Nat) (c : Int) (fv : Value) (fs : List (Int × Int)) (a b : Int) : Prop where
  tr : TR eR eT eF w0 bv bs B tsv Ls w j c fv fs
  hlt : ∀ q, fv.ownBlock = some q → q < bf
  bl : Bl w bf eF [.int .i64 a, .int .i64 b]
  bf_ : B < bf
variable {bf : Nat} {a b : Int}
theorem TF.set (h : TF eR eT eF w0 bv bs B tsv Ls bf w j c fv fs a b) (a2 b2 : Int) : TF eR eT eF w0 bv bs B tsv Ls bf (setB w bf eF [.int .i64 a2, .int .i64 b2]) j c fv fs a2 b2 := by
  have hx := h.bf_
  have hr : Rg bf (bf + 1) w (setB w bf eF [.int .i64 a2, .int .i64 b2]) := Rg.set (by omega) _ _
  have he : Ext (B + 1) w (setB w bf eF [.int .i64 a2, .int .i64 b2]) := ext_of_rg hr (by omega) (by have := h.tr.bl.lt; omega)
  exact ⟨⟨h.tr.td.low (he.low (by omega)), h.tr.bl.rg hr (.inl hx), own_same h.tr.own fun k hk => hr.block k (own_block_lt h.tr.own hk).2 (by have := h.hlt k hk; omega), h.tr.cw⟩, h.hlt, h.bl.set _ _, hx⟩
theorem TF.step (h : TF eR eT eF w0 bv bs B tsv Ls bf w j c fv fs a b) {j2 : Nat} (hr : RD eR w0.heap.size bv bs w' j2) (hg : Rg w0.heap.size (w0.heap.size + 1) w w') : TF eR eT eF w0 bv bs B tsv Ls bf w' j2 c fv fs a b := by
  have h1 := h.tr.td.lo
  have h2 := h.bf_
  exact ⟨h.tr.step hr hg, h.hlt, h.bl.rg hg (.inr (by omega)), h.bf_⟩
end
end Go.Mw
namespace Go.Proofs.YbxaawGreat
open Go.Mw
abbrev TDq := TD 56 91 93
abbrev TRq := TR 56 91 93
abbrev TFq := TF 56 91 93

theorem decTerms_ok (bv : Value) (bs : List Nat) (w : World) (hB : Rr w 0 w.heap.size 1 bv bs.length (bC bs)) (hl : ∀ c ∈ bs, c < 256) (hs : bs.length ≤ 1048576) : Ret Yaam.prog 18 [bv] w (TmP w) := by
  obtain ⟨ba, bc, rfl, hfb⟩ := id hB.form
  refine enter1 Yaam.func18 Yaam.ntmps18 (by kernel_rfl) rfl rfl ?_
  refine V.seq ?_
  refine V.region ?_
  refine L.rd (rd_assign rfl) rfl ?_
  refine L.nil ?_
  refine X.sq ?_
  refine V.seq ?_
  refine V.region ?_
  refine L.rd (rd_move rfl) rfl ?_
  refine L.rd (rd_build (out := [_, _]) tok rfl rfl rfl rfl rfl) rfl ?_
  refine L.ef (e_alloc (cs := [_, _]) tok rfl rfl (by first | (simp only [size_addB, size_setB, size_drew]; rfl) | rfl) rfl ?_)
  refine L.ef (e_store (vs := [_, _]) tok rfl rfl rfl rfl (by (repeat (first | assumption | (refine Bl.new' ?_ _ _; first | with_reducible rfl | (simp only [size_addB, size_setB, size_drew]; done)) | apply Bl.add | apply Bl.drew | (apply Bl.setNe; omega) | (refine Bl.set' ?_ _ _; (try simp only [size_addB, size_setB, size_drew]); omega)))) rfl (by simp [Value.oneCell']) (by simp) ?_)
  refine L.nil ?_
  refine X.sq ?_
  refine V.seq ?_
  generalize hw1 : setB _ _ _ _ = w1
  have he1 := ext_of_new hw1
  have hb1 : Bl w1 w.heap.size 56 [.slice ba bs.length bc, .int .i64 0] := bl_of_new hw1
  have h1 : RDq w.heap.size (.slice ba bs.length bc) bs w1 0 := ⟨hb1, hB.ext he1, hl, Nat.zero_le _, hs⟩
  refine V.region ?_
  refine L.ef (e_call rfl (next_ok _ h1) rfl ?_)
  rintro _ w2 ⟨c0, i2, rfl, hc00, hc01, h2, hi2, -, hr2⟩
  have hE := he1.nextR hr2 (Nat.le_refl _)
  have hsp := tmod_rng (b := 8) hc00 (by omega)
  refine L.rd (rd_remW rfl rfl (by decide)) rfl ?_
  (refine L.rd (rd_add3 rfl rfl ?_) rfl ?_; omega)
  refine L.rd (rd_assign rfl) rfl ?_
  refine L.nil ?_
  refine X.sq ?_
  refine V.seq ?_
  generalize c0.tmod 8 = sp at *
  refine V.region ?_
  refine L.rd (rd_assign rfl) rfl ?_
  refine L.nil ?_
  refine X.sq ?_
  refine V.seq ?_
  refine V.block ?_
  refine V.loop (fun m l w' => ∃ (j : Nat) (tsv : Value) (Ls : List Lt), l = [(3, .pointer (some ⟨w.heap.size, 0, none⟩)), (4, .int .i64 (2 + sp)), (5, tsv)] ∧ m = bs.length - j ∧ TDq w (.slice ba bs.length bc) bs w'.heap.size tsv Ls w' j ∧ Ls.length ≤ j ∧ Cq (pol Ls) ∧ (∀ t ∈ Ls, t.2.2.length ≤ 257)) ?_ ?_
  ·
    exact ⟨_, _, (by repeat' (first | exact trivial | refine ⟨rfl, ?_⟩)), i2, _, [], rfl, rfl, ⟨h2, World.ownsRow_nil _ _ _ _, fun t ht => (by cases ht), fun q hq => (by cases hq), fun t ht => (by cases ht), h2.bl.lt, hE⟩, Nat.zero_le _, fun t ht => (by cases ht), fun t ht => (by cases ht)⟩
  ·
    rintro m l w3 ⟨j, tsv, Ls, rfl, rfl, g, hLl, hCq, hfl⟩
    have hjn := g.rd.le
    obtain ⟨ta, tc, rfl⟩ := own_form g.top
    refine V.seq ?_
    refine V.seq ?_
    refine V.region ?_
    refine L.ef (e_call rfl (left_ok _ g.rd) rfl ?_)
    rintro _ w4 ⟨rfl, he4⟩
    replace g := g.low he4
    refine L.rd (rd_gtr rfl rfl) rfl ?_
    refine L.nil ?_
    refine X.sq ?_
    first | refine V.cond rfl (fun h19 => ?_) (fun h19 => ?_) | refine V.condB rfl (fun h19 => ?_) (fun h19 => ?_)
    ·
      refine V.skip ?_
      refine X.sq ?_
      refine V.block ?_
      refine V.seq ?_
      refine V.region ?_
      refine L.ef (e_call rfl (next_ok _ g.rd) rfl ?_)
      rintro _ w5 ⟨c, j5, rfl, hc0, hc1, g5, hj5, hlt5, hr5⟩
      have hj5e := hlt5 (by omega)
      replace g := g.step g5 hr5
      refine L.rd (rd_assign rfl) rfl ?_
      refine L.nil ?_
      refine X.sq ?_
      refine V.seq ?_
      refine V.region ?_
      refine L.ef (e_alloc (cs := [_, _]) tok rfl rfl (by first | (simp only [size_addB, size_setB, size_drew]; rfl) | rfl) rfl ?_)
      refine L.nil ?_
      refine X.sq ?_
      refine V.seq ?_
      refine V.seq ?_
      have hT0 : TRq w (.slice ba bs.length bc) bs w5.heap.size (.slice ta Ls.length tc) Ls (addB w5 91 [.int .i64 0, .slice none 0 0]) j5 0 (.slice none 0 0) [] := ⟨⟨g.rd.ext ((Ext.refl _ _).addNew _ _), own_ext g.top ((Ext.refl _ _).addNew _ _), fun t ht => own_ext (g.sub t ht) ((Ext.refl _ _).addNew _ _), fun q hq => (own_block_lt g.top hq).2, fun t ht q hq => (own_block_lt (g.sub t ht) hq).2, g.rd.bl.lt, g.ext.addNew _ _⟩, Bl.new _ _ _, World.ownsRow_nil _ _ _ _, by decide⟩
      generalize addB w5 91 [.int .i64 0, .slice none 0 0] = w6 at hT0 ⊢
      refine V.region ?_
      refine L.rd (rd_move rfl) rfl ?_
      refine L.rd (rd_lss rfl rfl) rfl ?_
      refine L.nil ?_
      refine X.sq ?_
      refine V.cut (fun l w' => ∃ (cc : Int) (j7 : Nat), l = [(3, .pointer (some ⟨w.heap.size, 0, none⟩)), (4, .int .i64 (2 + sp)), (5, .slice ta Ls.length tc), (6, .int .i64 c), (7, .pointer (some ⟨w5.heap.size, 0, none⟩))] ∧ j5 ≤ j7 ∧ TRq w (.slice ba bs.length bc) bs w5.heap.size (.slice ta Ls.length tc) Ls w' j7 cc (.slice none 0 0) []) ?_ ?_
      ·
        first | refine V.cond rfl (fun h22 => ?_) (fun h22 => ?_) | refine V.condB rfl (fun h22 => ?_) (fun h22 => ?_)
        ·
          refine V.region ?_
          refine L.rd (rd_fieldAddr tok rfl rfl rfl rfl rfl rfl) rfl ?_
          refine L.ef (e_store (vs := [_]) tok rfl rfl rfl rfl hT0.bl rfl (by simp [Value.oneCell']) (by simp) ?_)
          refine L.nil ?_
          exact X.ct ⟨_, (by repeat' (first | exact trivial | refine ⟨rfl, ?_⟩)), 0, j5, rfl, Nat.le_refl _, hT0.set 0 (by decide) (World.ownsRow_nil _ _ _ _)⟩
        ·
          refine V.seq ?_
          refine V.region ?_
          refine L.rd (rd_move rfl) rfl ?_
          refine L.rd (rd_lss rfl rfl) rfl ?_
          refine L.nil ?_
          refine X.sq ?_
          first | refine V.cond rfl (fun h25 => ?_) (fun h25 => ?_) | refine V.condB rfl (fun h25 => ?_) (fun h25 => ?_)
          ·
            refine V.region ?_
            refine L.rd (rd_move rfl) rfl ?_
            refine L.rd (rd_remW rfl rfl (by decide)) rfl ?_
            refine L.rd (rd_subW rfl rfl) rfl ?_
            refine L.rd (rd_fieldAddr tok rfl rfl rfl rfl rfl rfl) rfl ?_
            refine L.ef (e_store (vs := [_]) tok rfl rfl rfl rfl hT0.bl rfl (by simp [Value.oneCell']) (by simp) ?_)
            refine L.nil ?_
            exact X.ct ⟨_, (by repeat' (first | exact trivial | refine ⟨rfl, ?_⟩)), _, j5, rfl, Nat.le_refl _, hT0.set _ (w64_wr _) (World.ownsRow_nil _ _ _ _)⟩
          ·
            refine V.region ?_
            refine L.ef (e_call rfl (word_ok _ hT0.td.rd) rfl ?_)
            rintro _ w7 ⟨c7, j7, rfl, hc7, g7, hj7, hr7⟩
            replace hT0 := hT0.step g7 hr7
            refine L.rd (rd_fieldAddr tok rfl rfl rfl rfl rfl rfl) rfl ?_
            refine L.ef (e_store (vs := [_]) tok rfl rfl rfl rfl hT0.bl rfl (by simp [Value.oneCell']) (by simp) ?_)
            refine L.nil ?_
            exact X.ct ⟨_, (by repeat' (first | exact trivial | refine ⟨rfl, ?_⟩)), _, j7, rfl, hj7, hT0.set _ hc7 (World.ownsRow_nil _ _ _ _)⟩
      ·
        rintro l w7 ⟨cc, j7, rfl, hj7, hT⟩
        refine X.sq ?_
        refine V.seq ?_
        refine V.region ?_
        refine L.ef (e_call rfl (next_ok _ hT.td.rd) rfl ?_)
        rintro _ w8 ⟨c8, j8, rfl, hc80, hc81, g8, hj8, -, hr8⟩
        replace hT := hT.step g8 hr8
        have hnf := tmod_rng (b := 4) hc80 (by omega)
        refine L.rd (rd_remW rfl rfl (by decide)) rfl ?_
        refine L.rd (rd_assign rfl) rfl ?_
        refine L.nil ?_
        refine X.sq ?_
        refine V.seq ?_
        refine V.seq ?_
        refine V.cut (fun l w' => ∃ b : Bool, l = [(3, .pointer (some ⟨w.heap.size, 0, none⟩)), (4, .int .i64 (2 + sp)), (5, .slice ta Ls.length tc), (7, .pointer (some ⟨w5.heap.size, 0, none⟩)), (8, .int .i64 (c8.tmod 4)), (40, .bool b)] ∧ TRq w (.slice ba bs.length bc) bs w5.heap.size (.slice ta Ls.length tc) Ls w' j8 cc (.slice none 0 0) []) ?_ ?_
        ·
          refine V.region ?_
          refine L.rd (rd_move rfl) rfl ?_
          refine L.rd (rd_eql rfl rfl) rfl ?_
          refine L.rd (rd_move rfl) rfl ?_
          first | refine L.partG rfl rfl (fun g36 => ?_) (fun g36 => ?_) | refine L.partGB rfl rfl (fun g36 => ?_) (fun g36 => ?_)
          ·
            refine L.yes rfl rfl ?_
            refine L.ef (e_call rfl (peek_ok _ hT.td.rd) rfl ?_)
            rintro _ w9 ⟨c9, rfl, hc90, hc91, he9⟩
            replace hT := hT.low he9
            refine L.yes rfl rfl ?_
            refine L.rd (rd_remW rfl rfl (by decide)) rfl ?_
            refine L.yes rfl rfl ?_
            refine L.rd (rd_eql rfl rfl) rfl ?_
            refine L.rd (rd_pickT rfl rfl) rfl ?_
            refine L.nil ?_
            exact X.ct ⟨_, (by repeat' (first | exact trivial | refine ⟨rfl, ?_⟩)), _, rfl, hT⟩
          ·
            refine L.no rfl rfl rfl rfl ?_
            refine L.no rfl rfl rfl rfl ?_
            refine L.no rfl rfl rfl rfl ?_
            refine L.rd (rd_pickF rfl rfl) rfl ?_
            refine L.nil ?_
            exact X.ct ⟨_, (by repeat' (first | exact trivial | refine ⟨rfl, ?_⟩)), _, rfl, hT⟩
        ·
          rintro l w9 ⟨b40, rfl, hT⟩
          refine X.sq ?_
          refine V.cut (fun l w' => ∃ nf : Int, l = [(3, .pointer (some ⟨w.heap.size, 0, none⟩)), (4, .int .i64 (2 + sp)), (5, .slice ta Ls.length tc), (7, .pointer (some ⟨w5.heap.size, 0, none⟩)), (8, .int .i64 nf)] ∧ 0 ≤ nf ∧ nf ≤ 257 ∧ w9 = w') ?_ ?_
          ·
            first | refine V.cond rfl (fun h40 => ?_) (fun h40 => ?_) | refine V.condB rfl (fun h40 => ?_) (fun h40 => ?_)
            ·
              refine V.region ?_
              refine L.rd (rd_assign rfl) rfl ?_
              refine L.nil ?_
              exact X.ct ⟨_, (by repeat' (first | exact trivial | refine ⟨rfl, ?_⟩)), 257, rfl, by omega, by omega, rfl⟩
            ·
              refine V.skip ?_
              exact X.ct ⟨_, (by repeat' (first | exact trivial | refine ⟨rfl, ?_⟩)), c8.tmod 4, rfl, by omega, by omega, rfl⟩
          ·
            rintro l w' ⟨nf, rfl, hnf0, hnf1, rfl⟩
            refine X.sq ?_
            refine V.seq ?_
            refine V.seq ?_
            refine V.region ?_
            refine L.rd (rd_assign rfl) rfl ?_
            refine L.nil ?_
            refine X.sq ?_
            refine V.block ?_
            refine V.loop (fun m l w' => ∃ (q : Nat) (j10 : Nat) (fv : Value) (fs : List (Int × Int)), l = [(3, .pointer (some ⟨w.heap.size, 0, none⟩)), (4, .int .i64 (2 + sp)), (5, .slice ta Ls.length tc), (7, .pointer (some ⟨w5.heap.size, 0, none⟩)), (8, .int .i64 nf), (9, .int .i64 q)] ∧ m = nf.toNat - q ∧ (q : Int) ≤ nf ∧ j8 ≤ j10 ∧ fs.length = q ∧ TRq w (.slice ba bs.length bc) bs w5.heap.size (.slice ta Ls.length tc) Ls w' j10 cc fv fs) ?_ ?_
            ·
              exact ⟨_, _, (by repeat' (first | exact trivial | refine ⟨rfl, ?_⟩)), 0, j8, _, [], rfl, rfl, by omega, Nat.le_refl _, rfl, hT⟩
            ·
              rintro m l w10 ⟨q, j10, fv, fs, rfl, rfl, hq, hj10, hfq, hT⟩
              refine V.seq ?_
              refine V.seq ?_
              refine V.region ?_
              refine L.rd (rd_move rfl) rfl ?_
              refine L.rd (rd_move rfl) rfl ?_
              refine L.rd (rd_lss rfl rfl) rfl ?_
              refine L.nil ?_
              refine X.sq ?_
              first | refine V.cond rfl (fun h43 => ?_) (fun h43 => ?_) | refine V.condB rfl (fun h43 => ?_) (fun h43 => ?_)
              ·
                refine V.skip ?_
                refine X.sq ?_
                refine V.seq ?_
                refine V.block ?_
                refine V.seq ?_
                refine V.region ?_
                refine L.ef (e_call rfl (next_ok _ hT.td.rd) rfl ?_)
                rintro _ w11 ⟨d, j11, rfl, hd0, hd1, g11, hj11, -, hr11⟩
                replace hT := hT.step g11 hr11
                refine L.rd (rd_assign rfl) rfl ?_
                refine L.nil ?_
                refine X.sq ?_
                refine V.seq ?_
                refine V.region ?_
                refine L.rd (rd_move rfl) rfl ?_
                refine L.rd (rd_move rfl) rfl ?_
                refine L.rd (rd_remW rfl rfl (by omega)) rfl ?_
                refine L.rd (rd_move rfl) rfl ?_
                refine L.rd (rd_quoW rfl rfl (by decide)) rfl ?_
                refine L.rd (rd_remW rfl rfl (by decide)) rfl ?_
                refine L.rd (rd_build (out := [_, _]) tok rfl rfl rfl rfl rfl) rfl ?_
                refine L.ef (e_alloc (cs := [_, _]) tok rfl rfl (by first | (simp only [size_addB, size_setB, size_drew]; rfl) | rfl) rfl ?_)
                refine L.ef (e_store (vs := [_, _]) tok rfl rfl rfl rfl (by (repeat (first | assumption | (refine Bl.new' ?_ _ _; first | with_reducible rfl | (simp only [size_addB, size_setB, size_drew]; done)) | apply Bl.add | apply Bl.drew | (apply Bl.setNe; omega) | (refine Bl.set' ?_ _ _; (try simp only [size_addB, size_setB, size_drew]); omega)))) rfl (by simp [Value.oneCell']) (by simp) ?_)
                refine L.nil ?_
                refine X.sq ?_
                refine V.seq ?_
                refine V.seq ?_
                generalize hw12 : setB _ _ _ _ = w12
                have he12 := ext_of_new hw12
                have hbl12 := hT.bl.lt
                have hF : ∃ a b, TFq w (.slice ba bs.length bc) bs w5.heap.size (.slice ta Ls.length tc) Ls w11.heap.size w12 j11 cc fv fs a b := ⟨_, _, hT.low he12, fun x hx => (own_block_lt hT.own hx).2, bl_of_new hw12, by omega⟩
                refine V.region ?_
                refine L.rd (rd_move rfl) rfl ?_
                refine L.rd (rd_eql rfl rfl) rfl ?_
                refine L.nil ?_
                refine X.sq ?_
                refine V.cut (fun l w' => ∃ (a b : Int) (j13 : Nat), l = [(3, .pointer (some ⟨w.heap.size, 0, none⟩)), (4, .int .i64 (2 + sp)), (5, .slice ta Ls.length tc), (7, .pointer (some ⟨w5.heap.size, 0, none⟩)), (8, .int .i64 nf), (9, .int .i64 q), (11, .pointer (some ⟨w11.heap.size, 0, none⟩))] ∧ j11 ≤ j13 ∧ TFq w (.slice ba bs.length bc) bs w5.heap.size (.slice ta Ls.length tc) Ls w11.heap.size w' j13 cc fv fs a b) ?_ ?_
                ·
                  first | refine V.cond rfl (fun h55 => ?_) (fun h55 => ?_) | refine V.condB rfl (fun h55 => ?_) (fun h55 => ?_)
                  ·
                    obtain ⟨a, b, hF⟩ := hF
                    refine V.seq ?_
                    refine V.region ?_
                    refine L.ef (e_call rfl (next_ok _ hF.tr.td.rd) rfl ?_)
                    rintro _ w13 ⟨e, j13, rfl, he0, he1', g13, hj13, -, hr13⟩
                    replace hF := hF.step g13 hr13
                    refine L.rd (rd_assign rfl) rfl ?_
                    refine L.nil ?_
                    refine X.sq ?_
                    refine V.seq ?_
                    refine V.region ?_
                    refine L.rd (rd_move rfl) rfl ?_
                    refine L.rd (rd_remW rfl rfl (by decide)) rfl ?_
                    refine L.nil ?_
                    refine X.sq ?_
                    refine V.block ?_
                    refine V.seq ?_
                    refine V.region ?_
                    refine L.rd (rd_eql rfl rfl) rfl ?_
                    refine L.rd (rd_assign rfl) rfl ?_
                    refine L.nil ?_
                    refine X.sq ?_
                    first | refine V.cond rfl (fun h63 => ?_) (fun h63 => ?_) | refine V.condB rfl (fun h63 => ?_) (fun h63 => ?_)
                    ·
                      refine V.region ?_
                      refine L.rd (rd_fieldAddr tok rfl rfl rfl rfl rfl rfl) rfl ?_
                      refine L.ef (e_store (vs := [_]) tok rfl rfl rfl rfl hF.bl rfl (by simp [Value.oneCell']) (by simp) ?_)
                      refine L.nil ?_
                      refine X.bk ?_
                      exact X.ct ⟨_, (by repeat' (first | exact trivial | refine ⟨rfl, ?_⟩)), _, _, _, rfl, hj13, hF.set _ _⟩
                    ·
                      refine V.seq ?_
                      refine V.region ?_
                      refine L.rd (rd_eql rfl rfl) rfl ?_
                      refine L.rd (rd_assign rfl) rfl ?_
                      refine L.nil ?_
                      refine X.sq ?_
                      first | refine V.cond rfl (fun h66 => ?_) (fun h66 => ?_) | refine V.condB rfl (fun h66 => ?_) (fun h66 => ?_)
                      ·
                        refine V.region ?_
                        refine L.rd (rd_fieldAddr tok rfl rfl rfl rfl rfl rfl) rfl ?_
                        refine L.ef (e_store (vs := [_]) tok rfl rfl rfl rfl hF.bl rfl (by simp [Value.oneCell']) (by simp) ?_)
                        refine L.nil ?_
                        refine X.bk ?_
                        exact X.ct ⟨_, (by repeat' (first | exact trivial | refine ⟨rfl, ?_⟩)), _, _, _, rfl, hj13, hF.set _ _⟩
                      ·
                        refine V.seq ?_
                        refine V.region ?_
                        refine L.rd (rd_eql rfl rfl) rfl ?_
                        refine L.rd (rd_assign rfl) rfl ?_
                        refine L.nil ?_
                        refine X.sq ?_
                        first | refine V.cond rfl (fun h69 => ?_) (fun h69 => ?_) | refine V.condB rfl (fun h69 => ?_) (fun h69 => ?_)
                        ·
                          refine V.region ?_
                          refine L.rd (rd_fieldAddr tok rfl rfl rfl rfl rfl rfl) rfl ?_
                          refine L.ef (e_store (vs := [_]) tok rfl rfl rfl rfl hF.bl rfl (by simp [Value.oneCell']) (by simp) ?_)
                          refine L.nil ?_
                          refine X.bk ?_
                          exact X.ct ⟨_, (by repeat' (first | exact trivial | refine ⟨rfl, ?_⟩)), _, _, _, rfl, hj13, hF.set _ _⟩
                        ·
                          refine V.seq ?_
                          refine V.region ?_
                          refine L.rd (rd_eql rfl rfl) rfl ?_
                          refine L.rd (rd_assign rfl) rfl ?_
                          refine L.nil ?_
                          refine X.sq ?_
                          first | refine V.cond rfl (fun h72 => ?_) (fun h72 => ?_) | refine V.condB rfl (fun h72 => ?_) (fun h72 => ?_)
                          ·
                            refine V.region ?_
                            refine L.rd (rd_fieldAddr tok rfl rfl rfl rfl rfl rfl) rfl ?_
                            refine L.ef (e_store (vs := [_]) tok rfl rfl rfl rfl hF.bl rfl (by simp [Value.oneCell']) (by simp) ?_)
                            refine L.nil ?_
                            refine X.bk ?_
                            exact X.ct ⟨_, (by repeat' (first | exact trivial | refine ⟨rfl, ?_⟩)), _, _, _, rfl, hj13, hF.set _ _⟩
                          ·
                            refine V.region ?_
                            refine L.rd (rd_move rfl) rfl ?_
                            refine L.rd (rd_remW rfl rfl (by decide)) rfl ?_
                            refine L.rd (rd_subW rfl rfl) rfl ?_
                            refine L.rd (rd_fieldAddr tok rfl rfl rfl rfl rfl rfl) rfl ?_
                            refine L.ef (e_store (vs := [_]) tok rfl rfl rfl rfl hF.bl rfl (by simp [Value.oneCell']) (by simp) ?_)
                            refine L.nil ?_
                            refine X.bk ?_
                            exact X.ct ⟨_, (by repeat' (first | exact trivial | refine ⟨rfl, ?_⟩)), _, _, _, rfl, hj13, hF.set _ _⟩
                  ·
                    refine V.skip ?_
                    obtain ⟨a, b, hF⟩ := hF
                    exact X.ct ⟨_, (by repeat' (first | exact trivial | refine ⟨rfl, ?_⟩)), _, _, _, rfl, Nat.le_refl _, hF⟩
                ·
                  rintro l w14 ⟨a, b, j14, rfl, hj14, hF⟩
                  obtain ⟨fa, fc, rfl⟩ := own_form hF.tr.own
                  refine X.sq ?_
                  refine V.region ?_
                  refine L.rd (rd_fieldAddr tok rfl rfl rfl rfl rfl rfl) rfl ?_
                  refine L.rd (rd_load1 tok rfl rfl rfl (hF.tr.bl.cell (i := 1) rfl)) rfl ?_
                  refine L.rd (rd_loadN tok rfl rfl rfl hF.bl.cells rfl) rfl ?_
                  refine L.ef (e_buildSlice1 (e := 93) (cs := [_, _]) tok rfl rfl rfl rfl rfl rfl rfl rfl rfl (by first | (simp only [size_addB, size_setB, size_drew]; rfl) | rfl) rfl ?_)
                  refine L.ef (e_append (m := 1) tok rfl rfl rfl rfl rfl rfl rfl rfl rfl rfl (own_ext hF.tr.own ((Ext.refl _ w14).addNew _ _)) (Bl.new _ _ _).cells rfl (by simp [Value.oneCell']) (by unfold maxLen; omega) (by simp only []; omega) (by rw [size_addB]; have := hF.tr.bl.lt; omega) ?_)
                  rintro v15 w15 ho15 hg15
                  have hblt := hF.tr.bl.lt
                  have hob := own_ext hF.tr.own ((Ext.refl _ w14).addNew 93 [.int .i64 a, .int .i64 b])
                  have he15 : Ext (w5.heap.size + 1) w14 w15 := (((Ext.refl _ w14).addNew 93 [.int .i64 a, .int .i64 b]).low (by omega)).grown hg15 (by rw [size_addB]; omega) (fun x hx => (own_block_lt hob hx).1)
                  have hbl15 : Bl w15 w5.heap.size 91 [.int .i64 cc, .slice fa fs.length fc] := ⟨(he15.block _ (by omega)).trans hF.tr.bl.at_⟩
                  obtain ⟨a15, c15, rfl⟩ := own_form ho15
                  have ho15' : w15.ownsRow (w5.heap.size + 1) 93 2 (.slice a15 (fs.length + 1) c15) (fs ++ [(a, b)]).length (prC (fs ++ [(a, b)])) := by
                    rw [List.length_append, show prC (fs ++ [(a, b)]) = prC fs ++ [.int .i64 a, .int .i64 b] by simp [prC, prE]]
                    exact ho15
                  refine L.rd (rd_fieldAddr tok rfl rfl rfl rfl rfl rfl) rfl ?_
                  refine L.ef (e_store (vs := [_]) tok rfl rfl rfl rfl hbl15 rfl (by simp [Value.oneCell']) (by simp) ?_)
                  refine L.nil ?_
                  refine X.bk ?_
                  refine X.sq ?_
                  refine V.region ?_
                  refine L.rd (rd_move rfl) rfl ?_
                  (refine L.rd (rd_add3 rfl rfl ?_) rfl ?_; omega)
                  refine L.rd (rd_assign rfl) rfl ?_
                  refine L.nil ?_
                  refine X.lp ⟨_, _, by omega, (by repeat' (first | exact trivial | refine ⟨rfl, ?_⟩)), q + 1, j14, .slice a15 (fs.length + 1) c15, fs ++ [(a, b)], rfl, rfl, by omega, by omega, by rw [List.length_append, hfq]; rfl, ?_⟩
                  have hr : Rg w5.heap.size (w5.heap.size + 1) w15 (setB w15 w5.heap.size 91 [.int .i64 cc, .slice a15 (fs.length + 1) c15]) := Rg.set (by omega) _ _
                  exact ⟨(hF.tr.td.low (he15.low (by omega))).low (ext_of_rg hr (Nat.le_refl _) (by have := hbl15.lt; omega)), hbl15.set _ _, own_offR ho15' hr (Nat.le_refl _), hF.tr.cw⟩
              ·
                refine V.exit ?_
                refine X.sqExit ?_
                refine X.lpExit ?_
                refine X.bkHere ?_
                refine X.sq ?_
                obtain ⟨fa, fc, rfl⟩ := own_form hT.own
                have hblt := hT.bl.lt
                have hlo := hT.td.lo
                have hjn10 := hT.td.rd.le
                refine V.region ?_
                refine L.rd (rd_move rfl) rfl ?_
                refine L.rd (rd_loadN tok rfl rfl rfl hT.bl.cells rfl) rfl ?_
                refine L.ef (e_buildSlice1 (e := 91) (cs := [_, _]) tok rfl rfl rfl rfl rfl rfl rfl rfl rfl (by first | (simp only [size_addB, size_setB, size_drew]; rfl) | rfl) rfl ?_)
                refine L.ef (e_append (m := 1) tok rfl rfl rfl rfl rfl rfl rfl rfl rfl rfl (own_ext hT.td.top ((Ext.refl _ w10).addNew _ _)) (Bl.new _ _ _).cells rfl (by simp [Value.oneCell']) (by unfold maxLen; omega) (by simp only []; omega) (by rw [size_addB]; omega) ?_)
                rintro v16 w16 ho16 hg16
                have hea := (Ext.refl _ w10).addNew 91 [.int .i64 cc, .slice fa fs.length fc]
                have hob := own_ext hT.td.top hea
                have he16 : Ext (w.heap.size + 1) w10 w16 := (hea.low (by omega)).grown hg16 (by rw [size_addB]; omega) (fun x hx => (own_block_lt hob hx).1)
                have hsub : ∀ t ∈ Ls, w16.ownsRow (w.heap.size + 1) 93 2 t.2.1 t.2.2.length (prC t.2.2) := fun t ht => own_apart (own_ext (hT.td.sub t ht) hea) hob rfl hg16
                have hnew : w16.ownsRow (w.heap.size + 1) 93 2 (.slice fa fs.length fc) fs.length (prC fs) := own_apart (own_low (own_ext hT.own hea) (by omega)) hob rfl hg16
                have ho16' : w16.ownsRow (w.heap.size + 1) 91 2 v16 (Ls ++ [(cc, Value.slice fa fs.length fc, fs)]).length ((Ls ++ [(cc, Value.slice fa fs.length fc, fs)]).flatMap ltE) := by
                  rw [List.length_append, List.flatMap_append]
                  simpa [ltE] using ho16
                have hsub2 : ∀ t ∈ Ls ++ [(cc, Value.slice fa fs.length fc, fs)], w16.ownsRow (w.heap.size + 1) 93 2 t.2.1 t.2.2.length (prC t.2.2) := fun t ht => (List.mem_append.1 ht).elim (hsub t) (fun h => by simp only [List.mem_cons, List.not_mem_nil, or_false] at h; subst h; exact hnew)
                refine L.rd (rd_assign rfl) rfl ?_
                refine L.nil ?_
                refine X.bk ?_
                refine X.lp ⟨_, _, by omega, (by repeat' (first | exact trivial | refine ⟨rfl, ?_⟩)), j10, v16, Ls ++ [(cc, .slice fa fs.length fc, fs)], rfl, rfl, ⟨hT.td.rd.low he16, ho16', hsub2, fun x hx => (own_block_lt ho16' hx).2, fun t ht x hx => (own_block_lt (hsub2 t ht) hx).2, by have := he16.size; omega, hT.td.ext.trans (he16.low (by omega))⟩, by rw [List.length_append]; simp only [List.length_cons, List.length_nil]; omega, fun t ht => ?_, fun t ht => (List.mem_append.1 ht).elim (hfl t) (fun h => by simp only [List.mem_cons, List.not_mem_nil, or_false] at h; subst h; simp only []; omega)⟩
                simp only [pol, List.map_append, List.mem_append] at ht
                rcases ht with ht | ht
                · exact hCq t ht
                · simp only [List.map_cons, List.map_nil, List.mem_cons, List.not_mem_nil, or_false] at ht
                  subst ht; exact hT.cw
    ·
      refine V.exit ?_
      refine X.sqExit ?_
      refine X.lpExit ?_
      refine X.bkHere ?_
      refine X.sq ?_
      refine V.seq ?_
      refine V.region ?_
      refine L.rd (rd_move rfl) rfl ?_
      refine L.rd (rd_assign rfl) rfl ?_
      refine L.nil ?_
      refine X.sq ?_
      refine V.ret ?_
      refine ret_1 Yaam.results18 rfl ?_
      exact ⟨Ls, ⟨Rr.of_own (own_low g.top (by omega)) (fun x hx => (own_block_lt g.top hx).2), fun t ht => Rr.of_own (own_low (g.sub t ht) (by omega)) (fun x hx => (own_block_lt (g.sub t ht) hx).2)⟩, hCq, by omega, hfl, g.ext⟩
end Go.Proofs.YbxaawGreat
