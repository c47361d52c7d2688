/-
  The decoder of wild trees, walked: it returns nodes that can be read.
-/
import Derived.Test.YbxaawGreatLsrcW
import Derived.Test.YbxaawGreatPrsM2
set_option linter.unusedVariables false
set_option linter.unusedSimpArgs false
set_option maxRecDepth 10000
namespace Go.Mw
/-- nodes that can be read -/
def TrP (w : World) (r : Value) (w' : World) : Prop := ∃ (nv : Value) (ns : List Nd) (root : Int), r = .agg #[nv, .int .i64 root] ∧ Rs w' 5 nv ns.length (ns.flatMap ndE) ∧ ns.length ≤ 10000000 ∧ (∀ nd ∈ ns, w64 nd.2.1 = nd.2.1) ∧ Ext w.heap.size w w'
/-- within a round: a reader, nodes so far, one node in hand -/
structure WT (eR eN eE : TypeId) (w0 : World) (bv : Value) (bs : List Nat) (nsv : Value) (ns : List Nd) (bx : Nat) (w : World) (j : Nat) (k v x l r : Int) : Prop where
  rd : RD eR (w0.heap.size + 1) bv bs w j
  own : w.ownsRow (w0.heap.size + 2) eN 5 nsv ns.length (ns.flatMap ndE)
  hlt : ∀ q, nsv.ownBlock = some q → q < bx
  bl : Bl w bx eN [.int .i64 k, .int .i64 v, .int .i64 x, .int .i64 l, .int .i64 r]
  bx_ : w0.heap.size + 1 < bx
  res : Bl w w0.heap.size eE [.slice none 0 0, .int .i64 0]
  ext : Ext w0.heap.size w0 w
  vw : w64 v = v
section
variable {eR eN eE : TypeId} {w0 : World} {bv nsv : Value} {bs : List Nat} {ns : List Nd} {bx : Nat} {w w' : World} {j : Nat} {k v x l r : Int}
theorem WT.set (h : WT eR eN eE w0 bv bs nsv ns bx w j k v x l r) (k2 v2 x2 l2 r2 : Int) (hv : w64 v2 = v2) : WT eR eN eE w0 bv bs nsv ns bx (setB w bx eN [.int .i64 k2, .int .i64 v2, .int .i64 x2, .int .i64 l2, .int .i64 r2]) j k2 v2 x2 l2 r2 := by
  have hx := h.bx_
  have hr : Rg bx (bx + 1) w (setB w bx eN [.int .i64 k2, .int .i64 v2, .int .i64 x2, .int .i64 l2, .int .i64 r2]) := Rg.set (by omega) _ _
  exact ⟨h.rd.rg hr (by omega), own_same h.own fun q hq => hr.block q (own_block_lt h.own hq).2 (by have := h.hlt q hq; omega), h.hlt, h.bl.set _ _, hx, h.res.rg hr (.inl (by omega)), h.ext.set (by omega) _ _, hv⟩
theorem WT.step (h : WT eR eN eE w0 bv bs nsv ns bx w j k v x l r) {j2 : Nat} (hr : RD eR (w0.heap.size + 1) bv bs w' j2) (hg : Rg (w0.heap.size + 1) (w0.heap.size + 1 + 1) w w') : WT eR eN eE w0 bv bs nsv ns bx w' j2 k v x l r := by
  have hx := h.bx_
  exact ⟨hr, own_offR h.own hg (by omega), h.hlt, h.bl.rg hg (.inr (by omega)), hx, h.res.rg hg (.inl (by omega)), h.ext.nextR hg (by omega), h.vw⟩
end
theorem w64_small {a : Int} (h : -1000000000 ≤ a ∧ a ≤ 1000000000) : w64 a = a := wrap_i64_in (by omega)
theorem tmod_rng {a b : Int} (h : 0 ≤ a) (hb : 0 < b) : 0 ≤ a.tmod b ∧ a.tmod b < b := by
  rw [Int.tmod_eq_emod_of_nonneg h]
  exact ⟨Int.emod_nonneg a (by omega), Int.emod_lt_of_pos a hb⟩
end Go.Mw
namespace Go.Proofs.YbxaawGreat
open Go.Mw
abbrev WTq := WT 56 80 34

theorem decWild_ok (bv : Value) (bs : List Nat) (w : World) (hB : Rr w 0 w.heap.size 1 bv bs.length (bC bs)) (hl : ∀ c ∈ bs, c < 256) (hs : bs.length ≤ 1048576) : Ret Yaam.prog 16 [bv] w (TrP w) := by
  obtain ⟨ba, bc, rfl, hfb⟩ := id hB.form
  refine enter1 Yaam.func16 Yaam.ntmps16 (by kernel_rfl) rfl rfl ?_
  refine V.seq ?_
  refine V.region ?_
  refine L.ef (e_alloc (cs := [_, _]) tok rfl rfl (by first | (simp only [size_addB, size_setB, size_drew]; rfl) | rfl) rfl ?_)
  refine L.nil ?_
  refine X.sq ?_
  refine V.seq ?_
  have he0 := (Ext.refl _ w).addNew 34 [.slice none 0 0, .int .i64 0]
  have hb0 := Bl.new w 34 [.slice none 0 0, .int .i64 0]
  have hs0 := size_addB w 34 [.slice none 0 0, .int .i64 0]
  generalize addB w 34 [.slice none 0 0, .int .i64 0] = u0 at he0 hb0 hs0 ⊢
  refine V.region ?_
  refine L.rd (rd_move rfl) rfl ?_
  refine L.rd (rd_build (out := [_, _]) tok rfl rfl rfl rfl rfl) rfl ?_
  refine L.ef (e_alloc (cs := [_, _]) tok rfl rfl (by first | (simp only [size_addB, size_setB, size_drew]; rfl) | rfl) rfl ?_)
  refine L.ef (e_store (vs := [_, _]) tok rfl rfl rfl rfl (by (repeat (first | assumption | (refine Bl.new' ?_ _ _; first | with_reducible rfl | (simp only [size_addB, size_setB, size_drew]; done)) | apply Bl.add | apply Bl.drew | (apply Bl.setNe; omega) | (refine Bl.set' ?_ _ _; (try simp only [size_addB, size_setB, size_drew]); omega)))) rfl (by simp [Value.oneCell']) (by simp) ?_)
  refine L.nil ?_
  refine X.sq ?_
  refine V.seq ?_
  rw [hs0]
  generalize hw1 : setB _ _ _ _ = w1
  rw [← hs0] at hw1
  have he1 := ext_of_new hw1
  have hb1 : Bl w1 u0.heap.size 56 [.slice ba bs.length bc, .int .i64 0] := bl_of_new hw1
  have hE1 := he0.next he1
  rw [hs0] at hb1
  have h1 : RDq (w.heap.size + 1) (.slice ba bs.length bc) bs w1 0 := ⟨hb1, (hB.ext hE1).wide (Nat.le_refl _) (by omega), hl, Nat.zero_le _, hs⟩
  have hr1 := he1.bl hb0.lt hb0
  refine V.region ?_
  refine L.rd (rd_assign rfl) rfl ?_
  refine L.nil ?_
  refine X.sq ?_
  refine V.seq ?_
  refine V.block ?_
  refine V.loop (fun m l w' => ∃ (j : Nat) (nsv : Value) (ns : List Nd), l = [(0, .slice ba bs.length bc), (2, .pointer (some ⟨w.heap.size, 0, none⟩)), (3, .pointer (some ⟨w.heap.size + 1, 0, none⟩)), (4, nsv)] ∧ m = bs.length - j ∧ RDq (w.heap.size + 1) (.slice ba bs.length bc) bs w' j ∧ w'.ownsRow (w.heap.size + 2) 80 5 nsv ns.length (ns.flatMap ndE) ∧ ns.length ≤ j ∧ (∀ nd ∈ ns, w64 nd.2.1 = nd.2.1) ∧ Bl w' w.heap.size 34 [.slice none 0 0, .int .i64 0] ∧ Ext w.heap.size w w') ?_ ?_
  ·
    exact ⟨_, _, (by repeat' (first | exact trivial | refine ⟨rfl, ?_⟩)), 0, _, [], rfl, rfl, h1, World.ownsRow_nil _ _ _ _, Nat.le_refl _, fun nd hn => (by cases hn), hr1, hE1⟩
  ·
    rintro m l w2 ⟨j, nsv, ns, rfl, rfl, g, ho, hnl, hnw, hres, hE⟩
    have hjn := g.le
    have hgl := g.bl.lt
    obtain ⟨na, nc, rfl⟩ := own_form ho
    refine V.seq ?_
    refine V.seq ?_
    refine V.region ?_
    refine L.ef (e_call rfl (left_ok _ g) rfl ?_)
    rintro _ w3 ⟨rfl, he3⟩
    replace g := g.ext he3
    replace ho := own_ext ho he3
    replace hres := hres.ext he3
    replace hE := hE.next he3
    refine L.rd (rd_gtr rfl rfl) rfl ?_
    refine L.nil ?_
    refine X.sq ?_
    first | refine V.cond rfl (fun h14 => ?_) (fun h14 => ?_) | refine V.condB rfl (fun h14 => ?_) (fun h14 => ?_)
    ·
      refine V.skip ?_
      refine X.sq ?_
      refine V.block ?_
      refine V.seq ?_
      refine V.region ?_
      refine L.rd (rd_move rfl) rfl ?_
      refine L.rd (rd_lenSlice tok rfl rfl rfl) rfl ?_
      refine L.rd (rd_assign rfl) rfl ?_
      refine L.nil ?_
      refine X.sq ?_
      refine V.seq ?_
      refine V.region ?_
      refine L.ef (e_call rfl (next_ok _ g) rfl ?_)
      rintro _ w4 ⟨c, j4, rfl, hc0, hc1, g4, hj4, hlt4, hr4⟩
      have hj4e := hlt4 (by omega)
      replace ho := own_offR ho hr4 (by omega)
      replace hres := hres.rg hr4 (.inl (by omega))
      replace hE := hE.nextR hr4 (by omega)
      refine L.rd (rd_assign rfl) rfl ?_
      refine L.nil ?_
      refine X.sq ?_
      refine V.seq ?_
      refine V.region ?_
      refine L.ef (e_call rfl (next_ok _ g4) rfl ?_)
      rintro _ w5 ⟨d, j5, rfl, hd0, hd1, g5, hj5, -, hr5⟩
      replace ho := own_offR ho hr5 (by omega)
      replace hres := hres.rg hr5 (.inl (by omega))
      replace hE := hE.nextR hr5 (by omega)
      have hk9 := tmod_rng (b := 9) hc0 (by omega)
      refine L.rd (rd_assign rfl) rfl ?_
      refine L.nil ?_
      refine X.sq ?_
      refine V.seq ?_
      refine V.region ?_
      refine L.rd (rd_move rfl) rfl ?_
      refine L.rd (rd_remW rfl rfl (by decide)) rfl ?_
      refine L.rd (rd_assign rfl) rfl ?_
      refine L.nil ?_
      refine X.sq ?_
      refine V.seq ?_
      refine V.region ?_
      refine L.rd (rd_move rfl) rfl ?_
      refine L.rd (rd_build (out := [_, _, _, _, _]) tok rfl rfl rfl rfl rfl) rfl ?_
      refine L.ef (e_alloc (cs := [_, _, _, _, _]) tok rfl rfl (by first | (simp only [size_addB, size_setB, size_drew]; rfl) | rfl) rfl ?_)
      refine L.ef (e_store (vs := [_, _, _, _, _]) tok rfl rfl rfl rfl (by (repeat (first | assumption | (refine Bl.new' ?_ _ _; first | with_reducible rfl | (simp only [size_addB, size_setB, size_drew]; done)) | apply Bl.add | apply Bl.drew | (apply Bl.setNe; omega) | (refine Bl.set' ?_ _ _; (try simp only [size_addB, size_setB, size_drew]); omega)))) rfl (by simp [Value.oneCell']) (by simp) ?_)
      generalize hw6 : setB _ _ _ _ = w6
      generalize c.tmod 9 = k at *
      have he6 := ext_of_new hw6
      have hgl5 := g5.bl.lt
      have hW : WTq w (.slice ba bs.length bc) bs (.slice na ns.length nc) ns w5.heap.size w6 j5 k 0 0 (-1) (-1) := ⟨g5.ext he6, own_ext ho he6, fun q hq => (own_block_lt ho hq).2, bl_of_new hw6, by omega, hres.ext he6, hE.next he6, by decide⟩
      refine L.nil ?_
      refine X.sq ?_
      refine V.seq ?_
      refine V.seq ?_
      refine V.cut (fun l w' => ∃ b : Bool, l = [(0, .slice ba bs.length bc), (2, .pointer (some ⟨w.heap.size, 0, none⟩)), (3, .pointer (some ⟨w.heap.size + 1, 0, none⟩)), (4, .slice na ns.length nc), (5, .int .i64 ns.length), (7, .int .i64 d), (8, .int .i64 k), (9, .pointer (some ⟨w5.heap.size, 0, none⟩)), (28, .bool b)] ∧ w6 = w') ?_ ?_
      ·
        refine V.region ?_
        refine L.rd (rd_move rfl) rfl ?_
        refine L.rd (rd_eql rfl rfl) rfl ?_
        refine L.rd (rd_move rfl) rfl ?_
        first | refine L.partG rfl rfl (fun g25 => ?_) (fun g25 => ?_) | refine L.partGB rfl rfl (fun g25 => ?_) (fun g25 => ?_)
        ·
          refine L.yes rfl rfl ?_
          refine L.rd (rd_move rfl) rfl ?_
          refine L.yes rfl rfl ?_
          refine L.rd (rd_geq rfl rfl) rfl ?_
          refine L.rd (rd_pickT rfl rfl) rfl ?_
          refine L.nil ?_
          exact X.ct ⟨_, (by repeat' (first | exact trivial | refine ⟨rfl, ?_⟩)), _, rfl, rfl⟩
        ·
          refine L.no rfl rfl rfl rfl ?_
          refine L.no rfl rfl rfl rfl ?_
          refine L.rd (rd_pickF rfl rfl) rfl ?_
          refine L.nil ?_
          exact X.ct ⟨_, (by repeat' (first | exact trivial | refine ⟨rfl, ?_⟩)), _, rfl, rfl⟩
      ·
        rintro l w' ⟨b28, rfl, rfl⟩
        refine X.sq ?_
        refine V.cut (fun l w' => ∃ (v : Int) (j6 : Nat), l = [(0, .slice ba bs.length bc), (2, .pointer (some ⟨w.heap.size, 0, none⟩)), (3, .pointer (some ⟨w.heap.size + 1, 0, none⟩)), (4, .slice na ns.length nc), (5, .int .i64 ns.length), (7, .int .i64 d), (8, .int .i64 k), (9, .pointer (some ⟨w5.heap.size, 0, none⟩))] ∧ j5 ≤ j6 ∧ WTq w (.slice ba bs.length bc) bs (.slice na ns.length nc) ns w5.heap.size w' j6 k v 0 (-1) (-1)) ?_ ?_
        ·
          first | refine V.cond rfl (fun h28 => ?_) (fun h28 => ?_) | refine V.condB rfl (fun h28 => ?_) (fun h28 => ?_)
          ·
            refine V.region ?_
            refine L.ef (e_call rfl (word_ok _ hW.rd) rfl ?_)
            rintro _ w7 ⟨c7, j7, rfl, hc7, g7, hj7, hr7⟩
            replace hW := hW.step g7 hr7
            refine L.rd (rd_fieldAddr tok rfl rfl rfl rfl rfl rfl) rfl ?_
            refine L.ef (e_store (vs := [_]) tok rfl rfl rfl rfl hW.bl rfl (by simp [Value.oneCell']) (by simp) ?_)
            refine L.nil ?_
            exact X.ct ⟨_, (by repeat' (first | exact trivial | refine ⟨rfl, ?_⟩)), c7, j7, rfl, hj7, hW.set _ _ _ _ _ hc7⟩
          ·
            refine V.skip ?_
            exact X.ct ⟨_, (by repeat' (first | exact trivial | refine ⟨rfl, ?_⟩)), 0, j5, rfl, Nat.le_refl _, hW⟩
        ·
          rintro l w7 ⟨v, j6, rfl, hj6, hW⟩
          refine X.sq ?_
          refine V.seq ?_
          refine V.seq ?_
          refine V.region ?_
          refine L.rd (rd_move rfl) rfl ?_
          refine L.rd (rd_eql rfl rfl) rfl ?_
          refine L.nil ?_
          refine X.sq ?_
          refine V.cut (fun l w' => ∃ (v : Int), l = [(0, .slice ba bs.length bc), (2, .pointer (some ⟨w.heap.size, 0, none⟩)), (3, .pointer (some ⟨w.heap.size + 1, 0, none⟩)), (4, .slice na ns.length nc), (5, .int .i64 ns.length), (7, .int .i64 d), (8, .int .i64 k), (9, .pointer (some ⟨w5.heap.size, 0, none⟩))] ∧ WTq w (.slice ba bs.length bc) bs (.slice na ns.length nc) ns w5.heap.size w' j6 k v 0 (-1) (-1)) ?_ ?_
          ·
            first | refine V.cond rfl (fun h32 => ?_) (fun h32 => ?_) | refine V.condB rfl (fun h32 => ?_) (fun h32 => ?_)
            ·
              refine V.seq ?_
              refine V.region ?_
              refine L.rd (rd_move rfl) rfl ?_
              refine L.rd (rd_remW rfl rfl (by decide)) rfl ?_
              refine L.rd (rd_fieldAddr tok rfl rfl rfl rfl rfl rfl) rfl ?_
              refine L.ef (e_store (vs := [_]) tok rfl rfl rfl rfl hW.bl rfl (by simp [Value.oneCell']) (by simp) ?_)
              have hd5 := tmod_rng (b := 5) hd0 (by omega)
              replace hW := hW.set k (d.tmod 5) 0 (-1) (-1) (w64_small (by omega))
              refine L.nil ?_
              refine X.sq ?_
              refine V.seq ?_
              refine V.region ?_
              refine L.rd (rd_move rfl) rfl ?_
              refine L.rd (rd_eql rfl rfl) rfl ?_
              refine L.nil ?_
              refine X.sq ?_
              first | refine V.cond rfl (fun h37 => ?_) (fun h37 => ?_) | refine V.condB rfl (fun h37 => ?_) (fun h37 => ?_)
              ·
                refine V.region ?_
                refine L.rd (rd_fieldAddr tok rfl rfl rfl rfl rfl rfl) rfl ?_
                refine L.ef (e_store (vs := [_]) tok rfl rfl rfl rfl hW.bl rfl (by simp [Value.oneCell']) (by simp) ?_)
                refine L.nil ?_
                exact X.ct ⟨_, (by repeat' (first | exact trivial | refine ⟨rfl, ?_⟩)), _, rfl, hW.set k 1000001 0 (-1) (-1) (by decide)⟩
              ·
                refine V.skip ?_
                exact X.ct ⟨_, (by repeat' (first | exact trivial | refine ⟨rfl, ?_⟩)), _, rfl, hW⟩
            ·
              refine V.skip ?_
              exact X.ct ⟨_, (by repeat' (first | exact trivial | refine ⟨rfl, ?_⟩)), _, rfl, hW⟩
          ·
            rintro l w8 ⟨v8, rfl, hW⟩
            refine X.sq ?_
            refine V.seq ?_
            refine V.seq ?_
            refine V.region ?_
            refine L.rd (rd_move rfl) rfl ?_
            refine L.rd (rd_eql rfl rfl) rfl ?_
            refine L.nil ?_
            refine X.sq ?_
            refine V.cut (fun l w' => ∃ (x : Int), l = [(0, .slice ba bs.length bc), (2, .pointer (some ⟨w.heap.size, 0, none⟩)), (3, .pointer (some ⟨w.heap.size + 1, 0, none⟩)), (4, .slice na ns.length nc), (5, .int .i64 ns.length), (7, .int .i64 d), (8, .int .i64 k), (9, .pointer (some ⟨w5.heap.size, 0, none⟩))] ∧ WTq w (.slice ba bs.length bc) bs (.slice na ns.length nc) ns w5.heap.size w' j6 k v8 x (-1) (-1)) ?_ ?_
            ·
              first | refine V.cond rfl (fun h40 => ?_) (fun h40 => ?_) | refine V.condB rfl (fun h40 => ?_) (fun h40 => ?_)
              ·
                refine V.region ?_
                refine L.rd (rd_move rfl) rfl ?_
                refine L.rd (rd_remW rfl rfl (by decide)) rfl ?_
                refine L.rd (rd_subW rfl rfl) rfl ?_
                refine L.rd (rd_fieldAddr tok rfl rfl rfl rfl rfl rfl) rfl ?_
                refine L.ef (e_store (vs := [_]) tok rfl rfl rfl rfl hW.bl rfl (by simp [Value.oneCell']) (by simp) ?_)
                refine L.nil ?_
                exact X.ct ⟨_, (by repeat' (first | exact trivial | refine ⟨rfl, ?_⟩)), _, rfl, hW.set k v8 _ (-1) (-1) hW.vw⟩
              ·
                refine V.skip ?_
                exact X.ct ⟨_, (by repeat' (first | exact trivial | refine ⟨rfl, ?_⟩)), _, rfl, hW⟩
            ·
              rintro l w9 ⟨x9, rfl, hW⟩
              refine X.sq ?_
              refine V.seq ?_
              refine V.seq ?_
              refine V.region ?_
              refine L.rd (rd_move rfl) rfl ?_
              refine L.rd (rd_geq rfl rfl) rfl ?_
              refine L.nil ?_
              refine X.sq ?_
              refine V.cut (fun l w' => ∃ (lf_ : Int), l = [(0, .slice ba bs.length bc), (2, .pointer (some ⟨w.heap.size, 0, none⟩)), (3, .pointer (some ⟨w.heap.size + 1, 0, none⟩)), (4, .slice na ns.length nc), (5, .int .i64 ns.length), (7, .int .i64 d), (8, .int .i64 k), (9, .pointer (some ⟨w5.heap.size, 0, none⟩))] ∧ WTq w (.slice ba bs.length bc) bs (.slice na ns.length nc) ns w5.heap.size w' j6 k v8 x9 lf_ (-1)) ?_ ?_
              ·
                first | refine V.cond rfl (fun h46 => ?_) (fun h46 => ?_) | refine V.condB rfl (fun h46 => ?_) (fun h46 => ?_)
                ·
                  refine V.seq ?_
                  refine V.region ?_
                  refine L.rd (rd_move rfl) rfl ?_
                  refine L.rd (rd_subW rfl rfl) rfl ?_
                  refine L.rd (rd_fieldAddr tok rfl rfl rfl rfl rfl rfl) rfl ?_
                  refine L.ef (e_store (vs := [_]) tok rfl rfl rfl rfl hW.bl rfl (by simp [Value.oneCell']) (by simp) ?_)
                  replace hW := hW.set k v8 x9 (IntKind.i64.wrap ((ns.length : Int) - 1)) (-1) hW.vw
                  refine L.nil ?_
                  refine X.sq ?_
                  refine V.seq ?_
                  refine V.region ?_
                  refine L.rd (rd_move rfl) rfl ?_
                  refine L.rd (rd_remW rfl rfl (by decide)) rfl ?_
                  refine L.rd (rd_eql rfl rfl) rfl ?_
                  refine L.nil ?_
                  refine X.sq ?_
                  first | refine V.cond rfl (fun h52 => ?_) (fun h52 => ?_) | refine V.condB rfl (fun h52 => ?_) (fun h52 => ?_)
                  ·
                    refine V.region ?_
                    refine L.rd (rd_move rfl) rfl ?_
                    refine L.rd (rd_subW rfl rfl) rfl ?_
                    refine L.rd (rd_move rfl) rfl ?_
                    refine L.rd (rd_remW rfl rfl (by decide)) rfl ?_
                    refine L.rd (rd_subW rfl rfl) rfl ?_
                    refine L.rd (rd_fieldAddr tok rfl rfl rfl rfl rfl rfl) rfl ?_
                    refine L.ef (e_store (vs := [_]) tok rfl rfl rfl rfl hW.bl rfl (by simp [Value.oneCell']) (by simp) ?_)
                    refine L.nil ?_
                    exact X.ct ⟨_, (by repeat' (first | exact trivial | refine ⟨rfl, ?_⟩)), _, rfl, hW.set k v8 x9 _ (-1) hW.vw⟩
                  ·
                    refine V.skip ?_
                    exact X.ct ⟨_, (by repeat' (first | exact trivial | refine ⟨rfl, ?_⟩)), _, rfl, hW⟩
                ·
                  refine V.skip ?_
                  exact X.ct ⟨_, (by repeat' (first | exact trivial | refine ⟨rfl, ?_⟩)), _, rfl, hW⟩
              ·
                rintro l w10 ⟨l10, rfl, hW⟩
                refine X.sq ?_
                refine V.seq ?_
                refine V.seq ?_
                refine V.cut (fun l w' => ∃ b : Bool, l = [(0, .slice ba bs.length bc), (2, .pointer (some ⟨w.heap.size, 0, none⟩)), (3, .pointer (some ⟨w.heap.size + 1, 0, none⟩)), (4, .slice na ns.length nc), (5, .int .i64 ns.length), (7, .int .i64 d), (9, .pointer (some ⟨w5.heap.size, 0, none⟩)), (64, .bool b)] ∧ w10 = w') ?_ ?_
                ·
                  refine V.region ?_
                  refine L.rd (rd_move rfl) rfl ?_
                  refine L.rd (rd_geq rfl rfl) rfl ?_
                  refine L.rd (rd_move rfl) rfl ?_
                  first | refine L.partG rfl rfl (fun g61 => ?_) (fun g61 => ?_) | refine L.partGB rfl rfl (fun g61 => ?_) (fun g61 => ?_)
                  ·
                    refine L.yes rfl rfl ?_
                    refine L.rd (rd_move rfl) rfl ?_
                    refine L.yes rfl rfl ?_
                    refine L.rd (rd_leq rfl rfl) rfl ?_
                    refine L.rd (rd_pickT rfl rfl) rfl ?_
                    refine L.nil ?_
                    exact X.ct ⟨_, (by repeat' (first | exact trivial | refine ⟨rfl, ?_⟩)), _, rfl, rfl⟩
                  ·
                    refine L.no rfl rfl rfl rfl ?_
                    refine L.no rfl rfl rfl rfl ?_
                    refine L.rd (rd_pickF rfl rfl) rfl ?_
                    refine L.nil ?_
                    exact X.ct ⟨_, (by repeat' (first | exact trivial | refine ⟨rfl, ?_⟩)), _, rfl, rfl⟩
                ·
                  rintro l w' ⟨b64, rfl, rfl⟩
                  refine X.sq ?_
                  refine V.cut (fun l w' => ∃ (lf_ rt : Int), l = [(0, .slice ba bs.length bc), (2, .pointer (some ⟨w.heap.size, 0, none⟩)), (3, .pointer (some ⟨w.heap.size + 1, 0, none⟩)), (4, .slice na ns.length nc), (5, .int .i64 ns.length), (7, .int .i64 d), (9, .pointer (some ⟨w5.heap.size, 0, none⟩))] ∧ WTq w (.slice ba bs.length bc) bs (.slice na ns.length nc) ns w5.heap.size w' j6 k v8 x9 lf_ rt) ?_ ?_
                  ·
                    first | refine V.cond rfl (fun h64 => ?_) (fun h64 => ?_) | refine V.condB rfl (fun h64 => ?_) (fun h64 => ?_)
                    ·
                      refine V.seq ?_
                      refine V.region ?_
                      refine L.rd (rd_move rfl) rfl ?_
                      refine L.rd (rd_subW rfl rfl) rfl ?_
                      refine L.rd (rd_fieldAddr tok rfl rfl rfl rfl rfl rfl) rfl ?_
                      refine L.ef (e_store (vs := [_]) tok rfl rfl rfl rfl hW.bl rfl (by simp [Value.oneCell']) (by simp) ?_)
                      replace hW := hW.set k v8 x9 l10 (IntKind.i64.wrap ((ns.length : Int) - 1)) hW.vw
                      refine L.nil ?_
                      refine X.sq ?_
                      refine V.region ?_
                      refine L.rd (rd_move rfl) rfl ?_
                      refine L.rd (rd_subW rfl rfl) rfl ?_
                      refine L.rd (rd_move rfl) rfl ?_
                      refine L.rd (rd_remW rfl rfl (by decide)) rfl ?_
                      refine L.rd (rd_subW rfl rfl) rfl ?_
                      refine L.rd (rd_fieldAddr tok rfl rfl rfl rfl rfl rfl) rfl ?_
                      refine L.ef (e_store (vs := [_]) tok rfl rfl rfl rfl hW.bl rfl (by simp [Value.oneCell']) (by simp) ?_)
                      refine L.nil ?_
                      exact X.ct ⟨_, (by repeat' (first | exact trivial | refine ⟨rfl, ?_⟩)), _, _, rfl, hW.set k v8 x9 _ _ hW.vw⟩
                    ·
                      refine V.skip ?_
                      exact X.ct ⟨_, (by repeat' (first | exact trivial | refine ⟨rfl, ?_⟩)), _, _, rfl, hW⟩
                  ·
                    rintro l w11 ⟨l11, r11, rfl, hW⟩
                    refine X.sq ?_
                    refine V.seq ?_
                    refine V.seq ?_
                    refine V.region ?_
                    refine L.rd (rd_move rfl) rfl ?_
                    refine L.rd (rd_eql rfl rfl) rfl ?_
                    refine L.nil ?_
                    refine X.sq ?_
                    refine V.cut (fun l w' => ∃ (lf_ : Int), l = [(0, .slice ba bs.length bc), (2, .pointer (some ⟨w.heap.size, 0, none⟩)), (3, .pointer (some ⟨w.heap.size + 1, 0, none⟩)), (4, .slice na ns.length nc), (9, .pointer (some ⟨w5.heap.size, 0, none⟩))] ∧ WTq w (.slice ba bs.length bc) bs (.slice na ns.length nc) ns w5.heap.size w' j6 k v8 x9 lf_ r11) ?_ ?_
                    ·
                      first | refine V.cond rfl (fun h75 => ?_) (fun h75 => ?_) | refine V.condB rfl (fun h75 => ?_) (fun h75 => ?_)
                      ·
                        refine V.region ?_
                        refine L.rd (rd_move rfl) rfl ?_
                        refine L.rd (rd_addW rfl rfl) rfl ?_
                        refine L.rd (rd_fieldAddr tok rfl rfl rfl rfl rfl rfl) rfl ?_
                        refine L.ef (e_store (vs := [_]) tok rfl rfl rfl rfl hW.bl rfl (by simp [Value.oneCell']) (by simp) ?_)
                        refine L.nil ?_
                        exact X.ct ⟨_, (by repeat' (first | exact trivial | refine ⟨rfl, ?_⟩)), _, rfl, hW.set k v8 x9 _ r11 hW.vw⟩
                      ·
                        refine V.skip ?_
                        exact X.ct ⟨_, (by repeat' (first | exact trivial | refine ⟨rfl, ?_⟩)), _, rfl, hW⟩
                    ·
                      rintro l w12 ⟨l12, rfl, hW⟩
                      have hle6 := hW.rd.le
                      refine X.sq ?_
                      refine V.region ?_
                      refine L.rd (rd_move rfl) rfl ?_
                      refine L.rd (rd_loadN tok rfl rfl rfl hW.bl.cells rfl) rfl ?_
                      refine L.ef (e_buildSlice1 (e := 80) (cs := ndE (k, v8, x9, l12, r11)) tok rfl rfl rfl rfl rfl rfl rfl rfl rfl (by first | (simp only [size_addB, size_setB, size_drew]; rfl) | rfl) rfl ?_)
                      have heb := (Ext.refl _ w12).addNew 80 (ndE (k, v8, x9, l12, r11))
                      have hob := own_ext hW.own heb
                      refine L.ef (e_append (m := 1) tok rfl rfl rfl rfl rfl rfl rfl rfl rfl rfl hob (Bl.new _ _ _).cells (ndE_len _) (ndE_one _) (by unfold maxLen; omega) (by simp only []; omega) (by rw [size_addB]; have := hW.bl.lt; have := hW.bx_; omega) ?_)
                      rintro v13 w13 ho13 hg13
                      have he13 : Ext (w.heap.size + 2) w12 w13 := (heb.low (by have := hW.bl.lt; have := hW.bx_; omega)).grown hg13 (by rw [size_addB]; have := hW.bl.lt; have := hW.bx_; omega) (fun q hq => (own_block_lt hob hq).1)
                      have hR13 := hW.rd.low he13
                      have hres13 : Bl w13 w.heap.size 34 [.slice none 0 0, .int .i64 0] := ⟨(he13.block _ (by omega)).trans hW.res.at_⟩
                      have hE13 := hW.ext.trans (he13.low (by omega))
                      have ho13' : w13.ownsRow (w.heap.size + 2) 80 5 v13 (ns ++ [(k, v8, x9, l12, r11)]).length ((ns ++ [(k, v8, x9, l12, r11)]).flatMap ndE) := by
                        rw [List.length_append, List.flatMap_append]
                        simpa using ho13
                      refine L.rd (rd_assign rfl) rfl ?_
                      refine L.nil ?_
                      refine X.bk ?_
                      exact X.lp ⟨_, _, by omega, (by repeat' (first | exact trivial | refine ⟨rfl, ?_⟩)), j6, v13, ns ++ [(k, v8, x9, l12, r11)], rfl, rfl, hR13, ho13', by rw [List.length_append]; simp only [List.length_cons, List.length_nil]; omega, fun nd hn => (List.mem_append.1 hn).elim (hnw nd) (fun h => by simp only [List.mem_cons, List.not_mem_nil, or_false] at h; subst h; exact hW.vw), hres13, hE13⟩
    ·
      refine V.exit ?_
      refine X.sqExit ?_
      refine X.lpExit ?_
      refine X.bkHere ?_
      refine X.sq ?_
      refine V.seq ?_
      refine V.region ?_
      refine L.rd (rd_move rfl) rfl ?_
      refine L.rd (rd_lenSlice tok rfl rfl rfl) rfl ?_
      refine L.rd (rd_subW rfl rfl) rfl ?_
      refine L.rd (rd_assign rfl) rfl ?_
      refine L.nil ?_
      refine X.sq ?_
      refine V.seq ?_
      refine V.seq ?_
      refine V.region ?_
      refine L.rd (rd_move rfl) rfl ?_
      refine L.rd (rd_lenSlice tok rfl rfl rfl) rfl ?_
      refine L.rd (rd_remW rfl rfl (by decide)) rfl ?_
      refine L.rd (rd_eql rfl rfl) rfl ?_
      refine L.nil ?_
      refine X.sq ?_
      refine V.cut (fun l w' => ∃ (root : Int), l = [(2, .pointer (some ⟨w.heap.size, 0, none⟩)), (4, .slice na ns.length nc), (10, .int .i64 root)] ∧ w3 = w') ?_ ?_
      ·
        first | refine V.cond rfl (fun h89 => ?_) (fun h89 => ?_) | refine V.condB rfl (fun h89 => ?_) (fun h89 => ?_)
        ·
          refine V.region ?_
          refine L.rd (rd_move rfl) rfl ?_
          refine L.rd (rd_lenSlice tok rfl rfl rfl) rfl ?_
          refine L.rd (rd_assign rfl) rfl ?_
          refine L.nil ?_
          exact X.ct ⟨_, (by repeat' (first | exact trivial | refine ⟨rfl, ?_⟩)), _, rfl, rfl⟩
        ·
          refine V.skip ?_
          exact X.ct ⟨_, (by repeat' (first | exact trivial | refine ⟨rfl, ?_⟩)), _, rfl, rfl⟩
      ·
        rintro l w' ⟨root, rfl, rfl⟩
        refine X.sq ?_
        refine V.seq ?_
        refine V.region ?_
        refine L.rd (rd_move rfl) rfl ?_
        refine L.rd (rd_move rfl) rfl ?_
        refine L.rd (rd_build (out := [_, _]) tok rfl rfl rfl rfl rfl) rfl ?_
        refine L.ef (e_store (vs := [_, _]) tok rfl rfl rfl rfl hres rfl (by simp [Value.oneCell']) (by simp) ?_)
        refine L.nil ?_
        refine X.sq ?_
        refine V.ret ?_
        refine ret_c tok Yaam.results16 rfl rfl rfl (hres.set _ _).cells rfl ?_
        refine ⟨_, ns, root, rfl, ?_, by omega, hnw, hE.set (Nat.le_refl _) _ _⟩
        have hrg : Rg w.heap.size (w.heap.size + 1) w3 (setB w3 w.heap.size 34 [.slice na ns.length nc, .int .i64 root]) := Rg.set (by omega) _ _
        exact Rs.of_own (own_offR ho hrg (by omega))
end Go.Proofs.YbxaawGreat
