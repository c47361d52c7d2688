/-
  spec.WellFormed at the nodes of a tree, walked.
-/
import Derived.Test.YbxaawGreatWfP
import Derived.Test.YbxaawGreatTermW
set_option linter.unusedVariables false
set_option linter.unusedSimpArgs false
set_option maxRecDepth 10000
namespace Go.Mw
def At (ns : List Nd) (t : Tre) (b : Nat) : Prop := ∀ (j : Nat) (nd : Nd), (flat t b)[j]? = some nd → ns[b + j]? = some nd
end Go.Mw
namespace Go.Proofs.YbxaawGreat
open Go.Mw

theorem wfSub_ok (ns : List Nd) (nv : Value) (w0 : World) (hN : Rs w0 5 nv ns.length (ns.flatMap ndE)) (hlen : ns.length ≤ 1000000) : ∀ (t : Tre) (b : Nat) (ix : Int) (w : World), Wt t → At ns t b → ix = (b : Int) + tsz t - 1 → Ext w0.heap.size w0 w → Ret Yaam.prog 83 [nv, .int .i64 ix] w fun r w' => r = .tuple #[.int .i64 (tsz t : Int), .bool true] ∧ Ext w.heap.size w w' := by
  obtain ⟨na, nc, rfl, hfn⟩ := hN.form
  refine Tre.ind (fun k v x c b ix w hw hat hix hE => ?_) (fun k v x c ih b ix w hw hat hix hE => ?_) (fun k v x n c ih1 ih2 b ix w hw hat hix hE => ?_)
  · have hnd := hat 0 (k, v, x, -1, -1) rfl
    rw [Nat.add_zero] at hnd
    have hbl := (List.getElem?_eq_some_iff.1 hnd).1
    rw [tsz] at hix ⊢
    obtain ⟨b1, o1, rfl, hc1⟩ := hfn.resolve_left (by omega)
    obtain rfl : ix = (b : Int) := by omega
    have hcx := (hc1.le hE.leC).sub (b * 5) (ndE (k, v, x, -1, -1)) (fun j u hu => fm_get ndE_len ns b _ hnd j u hu)
    have hA : (k = 1 ∧ x = 0) ∨ (k = 2 ∧ v = 0 ∧ 0 ≤ x ∧ x ≤ 25) := hw
    refine enter2 Yaam.func83 Yaam.ntmps83 (by kernel_rfl) rfl rfl ?_
    refine V.seq ?_
    refine V.region ?_
    refine L.rd (rd_assign rfl) rfl ?_
    refine L.rd (rd_assign rfl) rfl ?_
    refine L.nil ?_
    refine X.sq ?_
    refine V.seq ?_
    refine V.seq ?_
    refine V.region ?_
    refine L.rd (rd_move rfl) rfl ?_
    refine L.rd (rd_lss rfl rfl) rfl ?_
    refine L.rd (rd_move rfl) rfl ?_
    first | refine L.partG rfl rfl (fun g15 => ?_) (fun g15 => ?_) | refine L.partGB rfl rfl (fun g15 => ?_) (fun g15 => ?_)
    ·
      refine L.no rfl rfl rfl rfl ?_
      refine L.no rfl rfl rfl rfl ?_
      refine L.no rfl rfl rfl rfl ?_
      refine L.no rfl rfl rfl rfl ?_
      refine L.rd (rd_pickT rfl rfl) rfl ?_
      refine L.nil ?_
      refine X.sq ?_
      refine V.condT rfl ?_
      refine V.seq ?_
      refine V.region ?_
      refine L.rd (rd_assign rfl) rfl ?_
      refine L.rd (rd_assign rfl) rfl ?_
      refine L.nil ?_
      refine X.sq ?_
      refine V.ret ?_
      refine X.sqRet ?_
      refine ret_2 Yaam.results83 rfl rfl ?_
      exfalso; omega
    ·
      refine L.yes rfl rfl ?_
      refine L.rd (rd_move rfl) rfl ?_
      refine L.yes rfl rfl ?_
      refine L.rd (rd_move rfl) rfl ?_
      refine L.yes rfl rfl ?_
      refine L.rd (rd_lenSlice tok rfl rfl rfl) rfl ?_
      refine L.yes rfl rfl ?_
      refine L.rd (rd_geq rfl rfl) rfl ?_
      refine L.rd (rd_pickF rfl rfl) rfl ?_
      refine L.nil ?_
      refine X.sq ?_
      first | refine V.cond rfl (fun h20 => ?_) (fun h20 => ?_) | refine V.condB rfl (fun h20 => ?_) (fun h20 => ?_)
      ·
        refine V.seq ?_
        refine V.region ?_
        refine L.rd (rd_assign rfl) rfl ?_
        refine L.rd (rd_assign rfl) rfl ?_
        refine L.nil ?_
        refine X.sq ?_
        refine V.ret ?_
        refine X.sqRet ?_
        refine ret_2 Yaam.results83 rfl rfl ?_
        exfalso; omega
      ·
        refine V.skip ?_
        refine X.sq ?_
        refine V.seq ?_
        refine V.region ?_
        refine L.rd (rd_move rfl) rfl ?_
        refine L.rd (rd_move rfl) rfl ?_
        (refine L.rd (rd_indexSlice (sz := 5) tok rfl rfl rfl rfl rfl rfl rfl ?_) rfl ?_; omega)
        refine L.rd (rd_loadN tok rfl rfl rfl hcx rfl) rfl ?_
        refine L.ef (e_alloc (cs := [_, _, _, _, _]) tok rfl rfl (by first | (simp only [size_addB, size_setB, size_drew]; rfl) | rfl) rfl ?_)
        refine L.ef (e_store (vs := [_, _, _, _, _]) tok rfl rfl rfl rfl (by (repeat (first | assumption | (refine Bl.new' ?_ _ _; first | with_reducible rfl | (simp only [size_addB, size_setB, size_drew]; done)) | apply Bl.add | apply Bl.drew | (apply Bl.setNe; omega) | (refine Bl.set' ?_ _ _; (try simp only [size_addB, size_setB, size_drew]); omega)))) rfl (by simp [Value.oneCell']) (by simp) ?_)
        refine L.nil ?_
        refine X.sq ?_
        refine V.seq ?_
        refine V.seq ?_
        generalize hw3 : setB _ _ _ _ = w3
        have hb3 : Bl w3 w.heap.size 80 [.int .i64 k, .int .i64 v, .int .i64 x, .int .i64 (-1), .int .i64 (-1)] := by rw [← hw3]; refine Bl.set' ?_ _ _; rw [size_addB]; omega
        have he3 : Ext w.heap.size w w3 := by rw [← hw3]; exact ((Ext.refl _ _).addNew _ _).set (Nat.le_refl _) _ _
        have hE3 := hE.next he3
        refine V.region ?_
        refine L.rd (rd_fieldAddr tok rfl rfl rfl rfl rfl rfl) rfl ?_
        refine L.rd (rd_load1 tok rfl rfl rfl (hb3.cell rfl)) rfl ?_
        refine L.nil ?_
        refine X.sq ?_
        refine V.block ?_
        refine V.seq ?_
        refine V.region ?_
        refine L.rd (rd_eql rfl rfl) rfl ?_
        refine L.rd (rd_assign rfl) rfl ?_
        refine L.nil ?_
        refine X.sq ?_
        first | refine V.cond rfl (fun h27 => ?_) (fun h27 => ?_) | refine V.condB rfl (fun h27 => ?_) (fun h27 => ?_)
        ·
          refine V.seq ?_
          refine V.seq ?_
          refine V.region ?_
          refine L.rd (rd_fieldAddr tok rfl rfl rfl rfl rfl rfl) rfl ?_
          refine L.rd (rd_load1 tok rfl rfl rfl (hb3.cell (i := 2) rfl)) rfl ?_
          refine L.rd (rd_neq rfl rfl) rfl ?_
          refine L.rd (rd_move rfl) rfl ?_
          first | refine L.partG rfl rfl (fun g32 => ?_) (fun g32 => ?_) | refine L.partGB rfl rfl (fun g32 => ?_) (fun g32 => ?_)
          ·
            refine L.no rfl rfl rfl rfl ?_
            refine L.no rfl rfl rfl rfl ?_
            refine L.no rfl rfl rfl rfl ?_
            refine L.rd (rd_pickT rfl rfl) rfl ?_
            refine L.rd (rd_move rfl) rfl ?_
            refine L.no rfl rfl rfl rfl ?_
            refine L.no rfl rfl rfl rfl ?_
            refine L.no rfl rfl rfl rfl ?_
            refine L.rd (rd_pickT rfl rfl) rfl ?_
            refine L.nil ?_
            refine X.sq ?_
            refine V.condT rfl ?_
            refine V.seq ?_
            refine V.region ?_
            refine L.rd (rd_assign rfl) rfl ?_
            refine L.rd (rd_assign rfl) rfl ?_
            refine L.nil ?_
            refine X.sq ?_
            refine V.ret ?_
            refine X.sqRet ?_
            refine X.bkRet ?_
            refine X.sqRet ?_
            refine ret_2 Yaam.results83 rfl rfl ?_
            exfalso; omega
          ·
            refine L.yes rfl rfl ?_
            refine L.rd (rd_fieldAddr tok rfl rfl rfl rfl rfl rfl) rfl ?_
            refine L.yes rfl rfl ?_
            refine L.rd (rd_load1 tok rfl rfl rfl (hb3.cell (i := 3) rfl)) rfl ?_
            refine L.yes rfl rfl ?_
            refine L.rd (rd_neq rfl rfl) rfl ?_
            refine L.rd (rd_pickF rfl rfl) rfl ?_
            refine L.rd (rd_move rfl) rfl ?_
            first | refine L.partG rfl rfl (fun g37 => ?_) (fun g37 => ?_) | refine L.partGB rfl rfl (fun g37 => ?_) (fun g37 => ?_)
            ·
              refine L.no rfl rfl rfl rfl ?_
              refine L.no rfl rfl rfl rfl ?_
              refine L.no rfl rfl rfl rfl ?_
              refine L.rd (rd_pickT rfl rfl) rfl ?_
              refine L.nil ?_
              refine X.sq ?_
              refine V.condT rfl ?_
              refine V.seq ?_
              refine V.region ?_
              refine L.rd (rd_assign rfl) rfl ?_
              refine L.rd (rd_assign rfl) rfl ?_
              refine L.nil ?_
              refine X.sq ?_
              refine V.ret ?_
              refine X.sqRet ?_
              refine X.bkRet ?_
              refine X.sqRet ?_
              refine ret_2 Yaam.results83 rfl rfl ?_
              exfalso; omega
            ·
              refine L.yes rfl rfl ?_
              refine L.rd (rd_fieldAddr tok rfl rfl rfl rfl rfl rfl) rfl ?_
              refine L.yes rfl rfl ?_
              refine L.rd (rd_load1 tok rfl rfl rfl (hb3.cell (i := 4) rfl)) rfl ?_
              refine L.yes rfl rfl ?_
              refine L.rd (rd_neq rfl rfl) rfl ?_
              refine L.rd (rd_pickF rfl rfl) rfl ?_
              refine L.nil ?_
              refine X.sq ?_
              first | refine V.cond rfl (fun h41 => ?_) (fun h41 => ?_) | refine V.condB rfl (fun h41 => ?_) (fun h41 => ?_)
              ·
                refine V.seq ?_
                refine V.region ?_
                refine L.rd (rd_assign rfl) rfl ?_
                refine L.rd (rd_assign rfl) rfl ?_
                refine L.nil ?_
                refine X.sq ?_
                refine V.ret ?_
                refine X.sqRet ?_
                refine X.bkRet ?_
                refine X.sqRet ?_
                refine ret_2 Yaam.results83 rfl rfl ?_
                exfalso; omega
              ·
                refine V.skip ?_
                refine X.sq ?_
                refine V.seq ?_
                refine V.region ?_
                refine L.rd (rd_assign rfl) rfl ?_
                refine L.rd (rd_assign rfl) rfl ?_
                refine L.nil ?_
                refine X.sq ?_
                refine V.ret ?_
                refine X.bkRet ?_
                refine X.sqRet ?_
                refine ret_2 Yaam.results83 rfl rfl ?_
                exact ⟨rfl, he3⟩
        ·
          refine V.seq ?_
          refine V.region ?_
          refine L.rd (rd_eql rfl rfl) rfl ?_
          refine L.rd (rd_assign rfl) rfl ?_
          refine L.nil ?_
          refine X.sq ?_
          first | refine V.cond rfl (fun h42 => ?_) (fun h42 => ?_) | refine V.condB rfl (fun h42 => ?_) (fun h42 => ?_)
          ·
            refine V.seq ?_
            refine V.seq ?_
            refine V.region ?_
            refine L.rd (rd_fieldAddr tok rfl rfl rfl rfl rfl rfl) rfl ?_
            refine L.rd (rd_load1 tok rfl rfl rfl (hb3.cell (i := 1) rfl)) rfl ?_
            refine L.rd (rd_neq rfl rfl) rfl ?_
            refine L.rd (rd_move rfl) rfl ?_
            first | refine L.partG rfl rfl (fun g47 => ?_) (fun g47 => ?_) | refine L.partGB rfl rfl (fun g47 => ?_) (fun g47 => ?_)
            ·
              refine L.no rfl rfl rfl rfl ?_
              refine L.no rfl rfl rfl rfl ?_
              refine L.no rfl rfl rfl rfl ?_
              refine L.rd (rd_pickT rfl rfl) rfl ?_
              refine L.rd (rd_move rfl) rfl ?_
              refine L.no rfl rfl rfl rfl ?_
              refine L.no rfl rfl rfl rfl ?_
              refine L.no rfl rfl rfl rfl ?_
              refine L.rd (rd_pickT rfl rfl) rfl ?_
              refine L.rd (rd_move rfl) rfl ?_
              refine L.no rfl rfl rfl rfl ?_
              refine L.no rfl rfl rfl rfl ?_
              refine L.no rfl rfl rfl rfl ?_
              refine L.rd (rd_pickT rfl rfl) rfl ?_
              refine L.rd (rd_move rfl) rfl ?_
              refine L.no rfl rfl rfl rfl ?_
              refine L.no rfl rfl rfl rfl ?_
              refine L.no rfl rfl rfl rfl ?_
              refine L.rd (rd_pickT rfl rfl) rfl ?_
              refine L.nil ?_
              refine X.sq ?_
              refine V.condT rfl ?_
              refine V.seq ?_
              refine V.region ?_
              refine L.rd (rd_assign rfl) rfl ?_
              refine L.rd (rd_assign rfl) rfl ?_
              refine L.nil ?_
              refine X.sq ?_
              refine V.ret ?_
              refine X.sqRet ?_
              refine X.bkRet ?_
              refine X.sqRet ?_
              refine ret_2 Yaam.results83 rfl rfl ?_
              exfalso; omega
            ·
              refine L.yes rfl rfl ?_
              refine L.rd (rd_fieldAddr tok rfl rfl rfl rfl rfl rfl) rfl ?_
              refine L.yes rfl rfl ?_
              refine L.rd (rd_load1 tok rfl rfl rfl (hb3.cell (i := 2) rfl)) rfl ?_
              refine L.yes rfl rfl ?_
              refine L.rd (rd_lss rfl rfl) rfl ?_
              refine L.rd (rd_pickF rfl rfl) rfl ?_
              refine L.rd (rd_move rfl) rfl ?_
              first | refine L.partG rfl rfl (fun g52 => ?_) (fun g52 => ?_) | refine L.partGB rfl rfl (fun g52 => ?_) (fun g52 => ?_)
              ·
                refine L.no rfl rfl rfl rfl ?_
                refine L.no rfl rfl rfl rfl ?_
                refine L.no rfl rfl rfl rfl ?_
                refine L.rd (rd_pickT rfl rfl) rfl ?_
                refine L.rd (rd_move rfl) rfl ?_
                refine L.no rfl rfl rfl rfl ?_
                refine L.no rfl rfl rfl rfl ?_
                refine L.no rfl rfl rfl rfl ?_
                refine L.rd (rd_pickT rfl rfl) rfl ?_
                refine L.rd (rd_move rfl) rfl ?_
                refine L.no rfl rfl rfl rfl ?_
                refine L.no rfl rfl rfl rfl ?_
                refine L.no rfl rfl rfl rfl ?_
                refine L.rd (rd_pickT rfl rfl) rfl ?_
                refine L.nil ?_
                refine X.sq ?_
                refine V.condT rfl ?_
                refine V.seq ?_
                refine V.region ?_
                refine L.rd (rd_assign rfl) rfl ?_
                refine L.rd (rd_assign rfl) rfl ?_
                refine L.nil ?_
                refine X.sq ?_
                refine V.ret ?_
                refine X.sqRet ?_
                refine X.bkRet ?_
                refine X.sqRet ?_
                refine ret_2 Yaam.results83 rfl rfl ?_
                exfalso; omega
              ·
                refine L.yes rfl rfl ?_
                refine L.rd (rd_fieldAddr tok rfl rfl rfl rfl rfl rfl) rfl ?_
                refine L.yes rfl rfl ?_
                refine L.rd (rd_load1 tok rfl rfl rfl (hb3.cell (i := 2) rfl)) rfl ?_
                refine L.yes rfl rfl ?_
                refine L.rd (rd_geq rfl rfl) rfl ?_
                refine L.rd (rd_pickF rfl rfl) rfl ?_
                refine L.rd (rd_move rfl) rfl ?_
                first | refine L.partG rfl rfl (fun g57 => ?_) (fun g57 => ?_) | refine L.partGB rfl rfl (fun g57 => ?_) (fun g57 => ?_)
                ·
                  refine L.no rfl rfl rfl rfl ?_
                  refine L.no rfl rfl rfl rfl ?_
                  refine L.no rfl rfl rfl rfl ?_
                  refine L.rd (rd_pickT rfl rfl) rfl ?_
                  refine L.rd (rd_move rfl) rfl ?_
                  refine L.no rfl rfl rfl rfl ?_
                  refine L.no rfl rfl rfl rfl ?_
                  refine L.no rfl rfl rfl rfl ?_
                  refine L.rd (rd_pickT rfl rfl) rfl ?_
                  refine L.nil ?_
                  refine X.sq ?_
                  refine V.condT rfl ?_
                  refine V.seq ?_
                  refine V.region ?_
                  refine L.rd (rd_assign rfl) rfl ?_
                  refine L.rd (rd_assign rfl) rfl ?_
                  refine L.nil ?_
                  refine X.sq ?_
                  refine V.ret ?_
                  refine X.sqRet ?_
                  refine X.bkRet ?_
                  refine X.sqRet ?_
                  refine ret_2 Yaam.results83 rfl rfl ?_
                  exfalso; omega
                ·
                  refine L.yes rfl rfl ?_
                  refine L.rd (rd_fieldAddr tok rfl rfl rfl rfl rfl rfl) rfl ?_
                  refine L.yes rfl rfl ?_
                  refine L.rd (rd_load1 tok rfl rfl rfl (hb3.cell (i := 3) rfl)) rfl ?_
                  refine L.yes rfl rfl ?_
                  refine L.rd (rd_neq rfl rfl) rfl ?_
                  refine L.rd (rd_pickF rfl rfl) rfl ?_
                  refine L.rd (rd_move rfl) rfl ?_
                  first | refine L.partG rfl rfl (fun g62 => ?_) (fun g62 => ?_) | refine L.partGB rfl rfl (fun g62 => ?_) (fun g62 => ?_)
                  ·
                    refine L.no rfl rfl rfl rfl ?_
                    refine L.no rfl rfl rfl rfl ?_
                    refine L.no rfl rfl rfl rfl ?_
                    refine L.rd (rd_pickT rfl rfl) rfl ?_
                    refine L.nil ?_
                    refine X.sq ?_
                    refine V.condT rfl ?_
                    refine V.seq ?_
                    refine V.region ?_
                    refine L.rd (rd_assign rfl) rfl ?_
                    refine L.rd (rd_assign rfl) rfl ?_
                    refine L.nil ?_
                    refine X.sq ?_
                    refine V.ret ?_
                    refine X.sqRet ?_
                    refine X.bkRet ?_
                    refine X.sqRet ?_
                    refine ret_2 Yaam.results83 rfl rfl ?_
                    exfalso; omega
                  ·
                    refine L.yes rfl rfl ?_
                    refine L.rd (rd_fieldAddr tok rfl rfl rfl rfl rfl rfl) rfl ?_
                    refine L.yes rfl rfl ?_
                    refine L.rd (rd_load1 tok rfl rfl rfl (hb3.cell (i := 4) rfl)) rfl ?_
                    refine L.yes rfl rfl ?_
                    refine L.rd (rd_neq rfl rfl) rfl ?_
                    refine L.rd (rd_pickF rfl rfl) rfl ?_
                    refine L.nil ?_
                    refine X.sq ?_
                    first | refine V.cond rfl (fun h66 => ?_) (fun h66 => ?_) | refine V.condB rfl (fun h66 => ?_) (fun h66 => ?_)
                    ·
                      refine V.seq ?_
                      refine V.region ?_
                      refine L.rd (rd_assign rfl) rfl ?_
                      refine L.rd (rd_assign rfl) rfl ?_
                      refine L.nil ?_
                      refine X.sq ?_
                      refine V.ret ?_
                      refine X.sqRet ?_
                      refine X.bkRet ?_
                      refine X.sqRet ?_
                      refine ret_2 Yaam.results83 rfl rfl ?_
                      exfalso; omega
                    ·
                      refine V.skip ?_
                      refine X.sq ?_
                      refine V.seq ?_
                      refine V.region ?_
                      refine L.rd (rd_assign rfl) rfl ?_
                      refine L.rd (rd_assign rfl) rfl ?_
                      refine L.nil ?_
                      refine X.sq ?_
                      refine V.ret ?_
                      refine X.bkRet ?_
                      refine X.sqRet ?_
                      refine ret_2 Yaam.results83 rfl rfl ?_
                      exact ⟨rfl, he3⟩
          ·
            refine V.seq ?_
            refine V.seq ?_
            exfalso
            omega
  · have hfl := flat_len (c 0) b
    have htp := tsz_pos (c 0)
    have hnd := hat (tsz (c 0)) (k, v, x, (b : Int) + tsz (c 0) - 1, -1) (by rw [flat, List.getElem?_append_right (by omega), hfl, Nat.sub_self]; rfl)
    have hbl := (List.getElem?_eq_some_iff.1 hnd).1
    have hat1 : At ns (c 0) b := fun j nd h => hat j nd (by rw [flat]; exact app_some h)
    obtain ⟨hx0, hA, hw1⟩ := hw
    rw [tsz] at hix ⊢
    obtain ⟨b1, o1, rfl, hc1⟩ := hfn.resolve_left (by omega)
    obtain rfl : ix = ((b + tsz (c 0) : Nat) : Int) := by omega
    have hcx := (hc1.le hE.leC).sub ((b + tsz (c 0)) * 5) (ndE (k, v, x, (b : Int) + tsz (c 0) - 1, -1)) (fun j u hu => fm_get ndE_len ns _ _ hnd j u hu)
    have hkk : k = 3 ∨ k = 7 := by rcases hA with h | h; exact .inl h.1; exact .inr h.1
    refine enter2 Yaam.func83 Yaam.ntmps83 (by kernel_rfl) rfl rfl ?_
    refine V.seq ?_
    refine V.region ?_
    refine L.rd (rd_assign rfl) rfl ?_
    refine L.rd (rd_assign rfl) rfl ?_
    refine L.nil ?_
    refine X.sq ?_
    refine V.seq ?_
    refine V.seq ?_
    refine V.region ?_
    refine L.rd (rd_move rfl) rfl ?_
    refine L.rd (rd_lss rfl rfl) rfl ?_
    refine L.rd (rd_move rfl) rfl ?_
    first | refine L.partG rfl rfl (fun g15 => ?_) (fun g15 => ?_) | refine L.partGB rfl rfl (fun g15 => ?_) (fun g15 => ?_)
    ·
      refine L.no rfl rfl rfl rfl ?_
      refine L.no rfl rfl rfl rfl ?_
      refine L.no rfl rfl rfl rfl ?_
      refine L.no rfl rfl rfl rfl ?_
      refine L.rd (rd_pickT rfl rfl) rfl ?_
      refine L.nil ?_
      refine X.sq ?_
      refine V.condT rfl ?_
      refine V.seq ?_
      refine V.region ?_
      refine L.rd (rd_assign rfl) rfl ?_
      refine L.rd (rd_assign rfl) rfl ?_
      refine L.nil ?_
      refine X.sq ?_
      refine V.ret ?_
      refine X.sqRet ?_
      refine ret_2 Yaam.results83 rfl rfl ?_
      exfalso; omega
    ·
      refine L.yes rfl rfl ?_
      refine L.rd (rd_move rfl) rfl ?_
      refine L.yes rfl rfl ?_
      refine L.rd (rd_move rfl) rfl ?_
      refine L.yes rfl rfl ?_
      refine L.rd (rd_lenSlice tok rfl rfl rfl) rfl ?_
      refine L.yes rfl rfl ?_
      refine L.rd (rd_geq rfl rfl) rfl ?_
      refine L.rd (rd_pickF rfl rfl) rfl ?_
      refine L.nil ?_
      refine X.sq ?_
      first | refine V.cond rfl (fun h20 => ?_) (fun h20 => ?_) | refine V.condB rfl (fun h20 => ?_) (fun h20 => ?_)
      ·
        refine V.seq ?_
        refine V.region ?_
        refine L.rd (rd_assign rfl) rfl ?_
        refine L.rd (rd_assign rfl) rfl ?_
        refine L.nil ?_
        refine X.sq ?_
        refine V.ret ?_
        refine X.sqRet ?_
        refine ret_2 Yaam.results83 rfl rfl ?_
        exfalso; omega
      ·
        refine V.skip ?_
        refine X.sq ?_
        refine V.seq ?_
        refine V.region ?_
        refine L.rd (rd_move rfl) rfl ?_
        refine L.rd (rd_move rfl) rfl ?_
        (refine L.rd (rd_indexSlice (sz := 5) tok rfl rfl rfl rfl rfl rfl rfl ?_) rfl ?_; omega)
        refine L.rd (rd_loadN tok rfl rfl rfl hcx rfl) rfl ?_
        refine L.ef (e_alloc (cs := [_, _, _, _, _]) tok rfl rfl (by first | (simp only [size_addB, size_setB, size_drew]; rfl) | rfl) rfl ?_)
        refine L.ef (e_store (vs := [_, _, _, _, _]) tok rfl rfl rfl rfl (by (repeat (first | assumption | (refine Bl.new' ?_ _ _; first | with_reducible rfl | (simp only [size_addB, size_setB, size_drew]; done)) | apply Bl.add | apply Bl.drew | (apply Bl.setNe; omega) | (refine Bl.set' ?_ _ _; (try simp only [size_addB, size_setB, size_drew]); omega)))) rfl (by simp [Value.oneCell']) (by simp) ?_)
        refine L.nil ?_
        refine X.sq ?_
        refine V.seq ?_
        refine V.seq ?_
        generalize hw3 : setB _ _ _ _ = w3
        have hb3 : Bl w3 w.heap.size 80 [.int .i64 k, .int .i64 v, .int .i64 x, .int .i64 ((b : Int) + tsz (c 0) - 1), .int .i64 (-1)] := by rw [← hw3]; refine Bl.set' ?_ _ _; rw [size_addB]; omega
        have he3 : Ext w.heap.size w w3 := by rw [← hw3]; exact ((Ext.refl _ _).addNew _ _).set (Nat.le_refl _) _ _
        have hE3 := hE.next he3
        refine V.region ?_
        refine L.rd (rd_fieldAddr tok rfl rfl rfl rfl rfl rfl) rfl ?_
        refine L.rd (rd_load1 tok rfl rfl rfl (hb3.cell rfl)) rfl ?_
        refine L.nil ?_
        refine X.sq ?_
        refine V.block ?_
        refine V.seq ?_
        refine V.region ?_
        refine L.rd (rd_eql rfl rfl) rfl ?_
        refine L.rd (rd_assign rfl) rfl ?_
        refine L.nil ?_
        refine X.sq ?_
        first | refine V.cond rfl (fun h27 => ?_) (fun h27 => ?_) | refine V.condB rfl (fun h27 => ?_) (fun h27 => ?_)
        ·
          refine V.seq ?_
          refine V.seq ?_
          exfalso
          omega
        ·
          refine V.seq ?_
          refine V.region ?_
          refine L.rd (rd_eql rfl rfl) rfl ?_
          refine L.rd (rd_assign rfl) rfl ?_
          refine L.nil ?_
          refine X.sq ?_
          first | refine V.cond rfl (fun h42 => ?_) (fun h42 => ?_) | refine V.condB rfl (fun h42 => ?_) (fun h42 => ?_)
          ·
            refine V.seq ?_
            refine V.seq ?_
            exfalso
            omega
          ·
            refine V.seq ?_
            refine V.seq ?_
            refine V.region ?_
            refine L.rd (rd_eql rfl rfl) rfl ?_
            refine L.rd (rd_assign rfl) rfl ?_
            refine L.nil ?_
            refine X.sq ?_
            first | refine V.cond rfl (fun h67 => ?_) (fun h67 => ?_) | refine V.condB rfl (fun h67 => ?_) (fun h67 => ?_)
            ·
              refine V.skip ?_
              refine X.sq ?_
              first | refine V.cond rfl (fun h67_ => ?_) (fun h67_ => ?_) | refine V.condB rfl (fun h67_ => ?_) (fun h67_ => ?_)
              ·
                refine V.seq ?_
                refine V.seq ?_
                refine V.region ?_
                refine L.rd (rd_fieldAddr tok rfl rfl rfl rfl rfl rfl) rfl ?_
                refine L.rd (rd_load1 tok rfl rfl rfl (hb3.cell (i := 2) rfl)) rfl ?_
                refine L.rd (rd_neq rfl rfl) rfl ?_
                refine L.rd (rd_move rfl) rfl ?_
                first | refine L.partG rfl rfl (fun g73 => ?_) (fun g73 => ?_) | refine L.partGB rfl rfl (fun g73 => ?_) (fun g73 => ?_)
                ·
                  refine L.no rfl rfl rfl rfl ?_
                  refine L.no rfl rfl rfl rfl ?_
                  refine L.no rfl rfl rfl rfl ?_
                  refine L.rd (rd_pickT rfl rfl) rfl ?_
                  refine L.rd (rd_move rfl) rfl ?_
                  refine L.no rfl rfl rfl rfl ?_
                  refine L.no rfl rfl rfl rfl ?_
                  refine L.no rfl rfl rfl rfl ?_
                  refine L.no rfl rfl rfl rfl ?_
                  refine L.no rfl rfl rfl rfl ?_
                  refine L.rd (rd_pickT rfl rfl) rfl ?_
                  refine L.nil ?_
                  refine X.sq ?_
                  refine V.condT rfl ?_
                  refine V.seq ?_
                  refine V.region ?_
                  refine L.rd (rd_assign rfl) rfl ?_
                  refine L.rd (rd_assign rfl) rfl ?_
                  refine L.nil ?_
                  refine X.sq ?_
                  refine V.ret ?_
                  refine X.sqRet ?_
                  refine X.bkRet ?_
                  refine X.sqRet ?_
                  refine ret_2 Yaam.results83 rfl rfl ?_
                  exfalso; omega
                ·
                  refine L.yes rfl rfl ?_
                  refine L.rd (rd_fieldAddr tok rfl rfl rfl rfl rfl rfl) rfl ?_
                  refine L.yes rfl rfl ?_
                  refine L.rd (rd_load1 tok rfl rfl rfl (hb3.cell (i := 4) rfl)) rfl ?_
                  refine L.yes rfl rfl ?_
                  refine L.rd (rd_neq rfl rfl) rfl ?_
                  refine L.rd (rd_pickF rfl rfl) rfl ?_
                  refine L.rd (rd_move rfl) rfl ?_
                  first | refine L.partG rfl rfl (fun g78 => ?_) (fun g78 => ?_) | refine L.partGB rfl rfl (fun g78 => ?_) (fun g78 => ?_)
                  ·
                    refine L.no rfl rfl rfl rfl ?_
                    refine L.no rfl rfl rfl rfl ?_
                    refine L.no rfl rfl rfl rfl ?_
                    refine L.no rfl rfl rfl rfl ?_
                    refine L.no rfl rfl rfl rfl ?_
                    refine L.rd (rd_pickT rfl rfl) rfl ?_
                    refine L.nil ?_
                    refine X.sq ?_
                    refine V.condT rfl ?_
                    refine V.seq ?_
                    refine V.region ?_
                    refine L.rd (rd_assign rfl) rfl ?_
                    refine L.rd (rd_assign rfl) rfl ?_
                    refine L.nil ?_
                    refine X.sq ?_
                    refine V.ret ?_
                    refine X.sqRet ?_
                    refine X.bkRet ?_
                    refine X.sqRet ?_
                    refine ret_2 Yaam.results83 rfl rfl ?_
                    exfalso; omega
                  ·
                    refine L.yes rfl rfl ?_
                    refine L.rd (rd_fieldAddr tok rfl rfl rfl rfl rfl rfl) rfl ?_
                    refine L.yes rfl rfl ?_
                    refine L.rd (rd_load1 tok rfl rfl rfl (hb3.cell (i := 3) rfl)) rfl ?_
                    refine L.yes rfl rfl ?_
                    refine L.rd (rd_move rfl) rfl ?_
                    refine L.yes rfl rfl ?_
                    (refine L.rd (rd_sub3 rfl rfl ?_) rfl ?_; omega)
                    refine L.yes rfl rfl ?_
                    refine L.rd (rd_neq rfl rfl) rfl ?_
                    refine L.rd (rd_pickF rfl rfl) rfl ?_
                    refine L.nil ?_
                    refine X.sq ?_
                    first | refine V.cond rfl (fun h84 => ?_) (fun h84 => ?_) | refine V.condB rfl (fun h84 => ?_) (fun h84 => ?_)
                    ·
                      refine V.seq ?_
                      refine V.region ?_
                      refine L.rd (rd_assign rfl) rfl ?_
                      refine L.rd (rd_assign rfl) rfl ?_
                      refine L.nil ?_
                      refine X.sq ?_
                      refine V.ret ?_
                      refine X.sqRet ?_
                      refine X.bkRet ?_
                      refine X.sqRet ?_
                      refine ret_2 Yaam.results83 rfl rfl ?_
                      exfalso; omega
                    ·
                      refine V.skip ?_
                      refine X.sq ?_
                      refine V.seq ?_
                      refine V.seq ?_
                      refine V.region ?_
                      refine L.rd (rd_fieldAddr tok rfl rfl rfl rfl rfl rfl) rfl ?_
                      refine L.rd (rd_load1 tok rfl rfl rfl (hb3.cell (i := 0) rfl)) rfl ?_
                      refine L.rd (rd_eql rfl rfl) rfl ?_
                      refine L.rd (rd_move rfl) rfl ?_
                      first | refine L.partG rfl rfl (fun g88 => ?_) (fun g88 => ?_) | refine L.partGB rfl rfl (fun g88 => ?_) (fun g88 => ?_)
                      ·
                        refine L.yes rfl rfl ?_
                        refine L.rd (rd_fieldAddr tok rfl rfl rfl rfl rfl rfl) rfl ?_
                        refine L.yes rfl rfl ?_
                        refine L.rd (rd_load1 tok rfl rfl rfl (hb3.cell (i := 1) rfl)) rfl ?_
                        refine L.yes rfl rfl ?_
                        refine L.rd (rd_neq rfl rfl) rfl ?_
                        refine L.rd (rd_pickT rfl rfl) rfl ?_
                        refine L.nil ?_
                        refine X.sq ?_
                        first | refine V.cond rfl (fun h92 => ?_) (fun h92 => ?_) | refine V.condB rfl (fun h92 => ?_) (fun h92 => ?_)
                        ·
                          refine V.seq ?_
                          refine V.region ?_
                          refine L.rd (rd_assign rfl) rfl ?_
                          refine L.rd (rd_assign rfl) rfl ?_
                          refine L.nil ?_
                          refine X.sq ?_
                          refine V.ret ?_
                          refine X.sqRet ?_
                          refine X.bkRet ?_
                          refine X.sqRet ?_
                          refine ret_2 Yaam.results83 rfl rfl ?_
                          exfalso; omega
                        ·
                          refine V.skip ?_
                          refine X.sq ?_
                          refine V.seq ?_
                          refine V.seq ?_
                          refine V.region ?_
                          refine L.rd (rd_fieldAddr tok rfl rfl rfl rfl rfl rfl) rfl ?_
                          refine L.rd (rd_load1 tok rfl rfl rfl (hb3.cell (i := 0) rfl)) rfl ?_
                          refine L.rd (rd_eql rfl rfl) rfl ?_
                          refine L.rd (rd_move rfl) rfl ?_
                          first | refine L.partG rfl rfl (fun g96 => ?_) (fun g96 => ?_) | refine L.partGB rfl rfl (fun g96 => ?_) (fun g96 => ?_)
                          ·
                            refine L.yes rfl rfl ?_
                            refine L.rd (rd_fieldAddr tok rfl rfl rfl rfl rfl rfl) rfl ?_
                            refine L.yes rfl rfl ?_
                            refine L.rd (rd_load1 tok rfl rfl rfl (hb3.cell (i := 1) rfl)) rfl ?_
                            refine L.yes rfl rfl ?_
                            refine L.rd (rd_lss rfl rfl) rfl ?_
                            refine L.yes rfl rfl ?_
                            refine L.rd (rd_move rfl) rfl ?_
                            first | refine L.partG rfl rfl (fun g100 => ?_) (fun g100 => ?_) | refine L.partGB rfl rfl (fun g100 => ?_) (fun g100 => ?_)
                            ·
                              refine L.no rfl rfl rfl rfl ?_
                              refine L.no rfl rfl rfl rfl ?_
                              refine L.no rfl rfl rfl rfl ?_
                              refine L.yes rfl rfl ?_
                              refine L.rd (rd_pickT rfl rfl) rfl ?_
                              refine L.rd (rd_pickT rfl rfl) rfl ?_
                              refine L.nil ?_
                              refine X.sq ?_
                              refine V.condT rfl ?_
                              refine V.seq ?_
                              refine V.region ?_
                              refine L.rd (rd_assign rfl) rfl ?_
                              refine L.rd (rd_assign rfl) rfl ?_
                              refine L.nil ?_
                              refine X.sq ?_
                              refine V.ret ?_
                              refine X.sqRet ?_
                              refine X.bkRet ?_
                              refine X.sqRet ?_
                              refine ret_2 Yaam.results83 rfl rfl ?_
                              exfalso; omega
                            ·
                              refine L.yes rfl rfl ?_
                              refine L.rd (rd_fieldAddr tok rfl rfl rfl rfl rfl rfl) rfl ?_
                              refine L.yes rfl rfl ?_
                              refine L.rd (rd_load1 tok rfl rfl rfl (hb3.cell (i := 1) rfl)) rfl ?_
                              refine L.yes rfl rfl ?_
                              refine L.rd (rd_gtr rfl rfl) rfl ?_
                              refine L.yes rfl rfl ?_
                              refine L.rd (rd_pickF rfl rfl) rfl ?_
                              refine L.rd (rd_pickT rfl rfl) rfl ?_
                              refine L.nil ?_
                              refine X.sq ?_
                              first | refine V.cond rfl (fun h105 => ?_) (fun h105 => ?_) | refine V.condB rfl (fun h105 => ?_) (fun h105 => ?_)
                              ·
                                refine V.seq ?_
                                refine V.region ?_
                                refine L.rd (rd_assign rfl) rfl ?_
                                refine L.rd (rd_assign rfl) rfl ?_
                                refine L.nil ?_
                                refine X.sq ?_
                                refine V.ret ?_
                                refine X.sqRet ?_
                                refine X.bkRet ?_
                                refine X.sqRet ?_
                                refine ret_2 Yaam.results83 rfl rfl ?_
                                exfalso; omega
                              ·
                                refine V.skip ?_
                                refine X.sq ?_
                                refine V.seq ?_
                                refine V.region ?_
                                refine L.rd (rd_move rfl) rfl ?_
                                refine L.rd (rd_move rfl) rfl ?_
                                (refine L.rd (rd_sub3 rfl rfl ?_) rfl ?_; omega)
                                refine L.ef (e_call rfl (ih b _ _ hw1 hat1 (by omega) hE3) rfl ?_)
                                rintro _ w4 ⟨rfl, he4⟩
                                refine L.rd (rd_move rfl) rfl ?_
                                refine L.rd (rd_ext0 rfl) rfl ?_
                                refine L.rd (rd_ext1 rfl) rfl ?_
                                refine L.rd (rd_assign rfl) rfl ?_
                                refine L.rd (rd_assign rfl) rfl ?_
                                refine L.nil ?_
                                refine X.sq ?_
                                refine V.seq ?_
                                refine V.seq ?_
                                refine V.region ?_
                                refine L.rd (rd_move rfl) rfl ?_
                                first | refine L.rd (rd_not rfl) rfl ?_ | refine L.rd (rd_notB rfl) rfl ?_
                                refine L.nil ?_
                                refine X.sq ?_
                                first | refine V.cond rfl (fun h114 => ?_) (fun h114 => ?_) | refine V.condB rfl (fun h114 => ?_) (fun h114 => ?_)
                                ·
                                  cases h114
                                ·
                                  refine V.skip ?_
                                  refine X.sq ?_
                                  refine V.seq ?_
                                  refine V.region ?_
                                  refine L.rd (rd_move rfl) rfl ?_
                                  (refine L.rd (rd_add3 rfl rfl ?_) rfl ?_; omega)
                                  refine L.rd (rd_assign rfl) rfl ?_
                                  refine L.rd (rd_assign rfl) rfl ?_
                                  refine L.nil ?_
                                  refine X.sq ?_
                                  refine V.ret ?_
                                  refine X.bkRet ?_
                                  refine X.sqRet ?_
                                  refine ret_2 Yaam.results83 rfl rfl ?_
                                  exact ⟨by rw [Int.natCast_add, Int.add_comm]; rfl, he3.next he4⟩
                          ·
                            refine L.no rfl rfl rfl rfl ?_
                            refine L.no rfl rfl rfl rfl ?_
                            refine L.no rfl rfl rfl rfl ?_
                            refine L.no rfl rfl rfl rfl ?_
                            refine L.noU rfl rfl rfl ?_
                            refine L.noU rfl rfl rfl ?_
                            refine L.noU rfl rfl rfl ?_
                            refine L.no rfl rfl rfl rfl ?_
                            refine L.rd (rd_pickF rfl rfl) rfl ?_
                            refine L.nil ?_
                            refine X.sq ?_
                            refine V.condF rfl ?_
                            refine V.skip ?_
                            refine X.sq ?_
                            refine V.seq ?_
                            refine V.region ?_
                            refine L.rd (rd_move rfl) rfl ?_
                            refine L.rd (rd_move rfl) rfl ?_
                            (refine L.rd (rd_sub3 rfl rfl ?_) rfl ?_; omega)
                            refine L.ef (e_call rfl (ih b _ _ hw1 hat1 (by omega) hE3) rfl ?_)
                            rintro _ w4 ⟨rfl, he4⟩
                            refine L.rd (rd_move rfl) rfl ?_
                            refine L.rd (rd_ext0 rfl) rfl ?_
                            refine L.rd (rd_ext1 rfl) rfl ?_
                            refine L.rd (rd_assign rfl) rfl ?_
                            refine L.rd (rd_assign rfl) rfl ?_
                            refine L.nil ?_
                            refine X.sq ?_
                            refine V.seq ?_
                            refine V.seq ?_
                            refine V.region ?_
                            refine L.rd (rd_move rfl) rfl ?_
                            first | refine L.rd (rd_not rfl) rfl ?_ | refine L.rd (rd_notB rfl) rfl ?_
                            refine L.nil ?_
                            refine X.sq ?_
                            first | refine V.cond rfl (fun h114 => ?_) (fun h114 => ?_) | refine V.condB rfl (fun h114 => ?_) (fun h114 => ?_)
                            ·
                              cases h114
                            ·
                              refine V.skip ?_
                              refine X.sq ?_
                              refine V.seq ?_
                              refine V.region ?_
                              refine L.rd (rd_move rfl) rfl ?_
                              (refine L.rd (rd_add3 rfl rfl ?_) rfl ?_; omega)
                              refine L.rd (rd_assign rfl) rfl ?_
                              refine L.rd (rd_assign rfl) rfl ?_
                              refine L.nil ?_
                              refine X.sq ?_
                              refine V.ret ?_
                              refine X.bkRet ?_
                              refine X.sqRet ?_
                              refine ret_2 Yaam.results83 rfl rfl ?_
                              exact ⟨by rw [Int.natCast_add, Int.add_comm]; rfl, he3.next he4⟩
                      ·
                        refine L.no rfl rfl rfl rfl ?_
                        refine L.no rfl rfl rfl rfl ?_
                        refine L.no rfl rfl rfl rfl ?_
                        refine L.rd (rd_pickF rfl rfl) rfl ?_
                        refine L.nil ?_
                        refine X.sq ?_
                        refine V.condF rfl ?_
                        refine V.skip ?_
                        refine X.sq ?_
                        refine V.seq ?_
                        refine V.seq ?_
                        refine V.region ?_
                        refine L.rd (rd_fieldAddr tok rfl rfl rfl rfl rfl rfl) rfl ?_
                        refine L.rd (rd_load1 tok rfl rfl rfl (hb3.cell (i := 0) rfl)) rfl ?_
                        refine L.rd (rd_eql rfl rfl) rfl ?_
                        refine L.rd (rd_move rfl) rfl ?_
                        first | refine L.partG rfl rfl (fun g96 => ?_) (fun g96 => ?_) | refine L.partGB rfl rfl (fun g96 => ?_) (fun g96 => ?_)
                        ·
                          refine L.yes rfl rfl ?_
                          refine L.rd (rd_fieldAddr tok rfl rfl rfl rfl rfl rfl) rfl ?_
                          refine L.yes rfl rfl ?_
                          refine L.rd (rd_load1 tok rfl rfl rfl (hb3.cell (i := 1) rfl)) rfl ?_
                          refine L.yes rfl rfl ?_
                          refine L.rd (rd_lss rfl rfl) rfl ?_
                          refine L.yes rfl rfl ?_
                          refine L.rd (rd_move rfl) rfl ?_
                          first | refine L.partG rfl rfl (fun g100 => ?_) (fun g100 => ?_) | refine L.partGB rfl rfl (fun g100 => ?_) (fun g100 => ?_)
                          ·
                            refine L.no rfl rfl rfl rfl ?_
                            refine L.no rfl rfl rfl rfl ?_
                            refine L.no rfl rfl rfl rfl ?_
                            refine L.yes rfl rfl ?_
                            refine L.rd (rd_pickT rfl rfl) rfl ?_
                            refine L.rd (rd_pickT rfl rfl) rfl ?_
                            refine L.nil ?_
                            refine X.sq ?_
                            refine V.condT rfl ?_
                            refine V.seq ?_
                            refine V.region ?_
                            refine L.rd (rd_assign rfl) rfl ?_
                            refine L.rd (rd_assign rfl) rfl ?_
                            refine L.nil ?_
                            refine X.sq ?_
                            refine V.ret ?_
                            refine X.sqRet ?_
                            refine X.bkRet ?_
                            refine X.sqRet ?_
                            refine ret_2 Yaam.results83 rfl rfl ?_
                            exfalso; omega
                          ·
                            refine L.yes rfl rfl ?_
                            refine L.rd (rd_fieldAddr tok rfl rfl rfl rfl rfl rfl) rfl ?_
                            refine L.yes rfl rfl ?_
                            refine L.rd (rd_load1 tok rfl rfl rfl (hb3.cell (i := 1) rfl)) rfl ?_
                            refine L.yes rfl rfl ?_
                            refine L.rd (rd_gtr rfl rfl) rfl ?_
                            refine L.yes rfl rfl ?_
                            refine L.rd (rd_pickF rfl rfl) rfl ?_
                            refine L.rd (rd_pickT rfl rfl) rfl ?_
                            refine L.nil ?_
                            refine X.sq ?_
                            first | refine V.cond rfl (fun h105 => ?_) (fun h105 => ?_) | refine V.condB rfl (fun h105 => ?_) (fun h105 => ?_)
                            ·
                              refine V.seq ?_
                              refine V.region ?_
                              refine L.rd (rd_assign rfl) rfl ?_
                              refine L.rd (rd_assign rfl) rfl ?_
                              refine L.nil ?_
                              refine X.sq ?_
                              refine V.ret ?_
                              refine X.sqRet ?_
                              refine X.bkRet ?_
                              refine X.sqRet ?_
                              refine ret_2 Yaam.results83 rfl rfl ?_
                              exfalso; omega
                            ·
                              refine V.skip ?_
                              refine X.sq ?_
                              refine V.seq ?_
                              refine V.region ?_
                              refine L.rd (rd_move rfl) rfl ?_
                              refine L.rd (rd_move rfl) rfl ?_
                              (refine L.rd (rd_sub3 rfl rfl ?_) rfl ?_; omega)
                              refine L.ef (e_call rfl (ih b _ _ hw1 hat1 (by omega) hE3) rfl ?_)
                              rintro _ w4 ⟨rfl, he4⟩
                              refine L.rd (rd_move rfl) rfl ?_
                              refine L.rd (rd_ext0 rfl) rfl ?_
                              refine L.rd (rd_ext1 rfl) rfl ?_
                              refine L.rd (rd_assign rfl) rfl ?_
                              refine L.rd (rd_assign rfl) rfl ?_
                              refine L.nil ?_
                              refine X.sq ?_
                              refine V.seq ?_
                              refine V.seq ?_
                              refine V.region ?_
                              refine L.rd (rd_move rfl) rfl ?_
                              first | refine L.rd (rd_not rfl) rfl ?_ | refine L.rd (rd_notB rfl) rfl ?_
                              refine L.nil ?_
                              refine X.sq ?_
                              first | refine V.cond rfl (fun h114 => ?_) (fun h114 => ?_) | refine V.condB rfl (fun h114 => ?_) (fun h114 => ?_)
                              ·
                                cases h114
                              ·
                                refine V.skip ?_
                                refine X.sq ?_
                                refine V.seq ?_
                                refine V.region ?_
                                refine L.rd (rd_move rfl) rfl ?_
                                (refine L.rd (rd_add3 rfl rfl ?_) rfl ?_; omega)
                                refine L.rd (rd_assign rfl) rfl ?_
                                refine L.rd (rd_assign rfl) rfl ?_
                                refine L.nil ?_
                                refine X.sq ?_
                                refine V.ret ?_
                                refine X.bkRet ?_
                                refine X.sqRet ?_
                                refine ret_2 Yaam.results83 rfl rfl ?_
                                exact ⟨by rw [Int.natCast_add, Int.add_comm]; rfl, he3.next he4⟩
                        ·
                          refine L.no rfl rfl rfl rfl ?_
                          refine L.no rfl rfl rfl rfl ?_
                          refine L.no rfl rfl rfl rfl ?_
                          refine L.no rfl rfl rfl rfl ?_
                          refine L.noU rfl rfl rfl ?_
                          refine L.noU rfl rfl rfl ?_
                          refine L.noU rfl rfl rfl ?_
                          refine L.no rfl rfl rfl rfl ?_
                          refine L.rd (rd_pickF rfl rfl) rfl ?_
                          refine L.nil ?_
                          refine X.sq ?_
                          refine V.condF rfl ?_
                          refine V.skip ?_
                          refine X.sq ?_
                          refine V.seq ?_
                          refine V.region ?_
                          refine L.rd (rd_move rfl) rfl ?_
                          refine L.rd (rd_move rfl) rfl ?_
                          (refine L.rd (rd_sub3 rfl rfl ?_) rfl ?_; omega)
                          refine L.ef (e_call rfl (ih b _ _ hw1 hat1 (by omega) hE3) rfl ?_)
                          rintro _ w4 ⟨rfl, he4⟩
                          refine L.rd (rd_move rfl) rfl ?_
                          refine L.rd (rd_ext0 rfl) rfl ?_
                          refine L.rd (rd_ext1 rfl) rfl ?_
                          refine L.rd (rd_assign rfl) rfl ?_
                          refine L.rd (rd_assign rfl) rfl ?_
                          refine L.nil ?_
                          refine X.sq ?_
                          refine V.seq ?_
                          refine V.seq ?_
                          refine V.region ?_
                          refine L.rd (rd_move rfl) rfl ?_
                          first | refine L.rd (rd_not rfl) rfl ?_ | refine L.rd (rd_notB rfl) rfl ?_
                          refine L.nil ?_
                          refine X.sq ?_
                          first | refine V.cond rfl (fun h114 => ?_) (fun h114 => ?_) | refine V.condB rfl (fun h114 => ?_) (fun h114 => ?_)
                          ·
                            cases h114
                          ·
                            refine V.skip ?_
                            refine X.sq ?_
                            refine V.seq ?_
                            refine V.region ?_
                            refine L.rd (rd_move rfl) rfl ?_
                            (refine L.rd (rd_add3 rfl rfl ?_) rfl ?_; omega)
                            refine L.rd (rd_assign rfl) rfl ?_
                            refine L.rd (rd_assign rfl) rfl ?_
                            refine L.nil ?_
                            refine X.sq ?_
                            refine V.ret ?_
                            refine X.bkRet ?_
                            refine X.sqRet ?_
                            refine ret_2 Yaam.results83 rfl rfl ?_
                            exact ⟨by rw [Int.natCast_add, Int.add_comm]; rfl, he3.next he4⟩
              ·
                exact absurd h67 h67_
            ·
              refine V.region ?_
              refine L.rd (rd_eql rfl rfl) rfl ?_
              refine L.rd (rd_assign rfl) rfl ?_
              refine L.nil ?_
              refine X.sq ?_
              first | refine V.cond rfl (fun h67 => ?_) (fun h67 => ?_) | refine V.condB rfl (fun h67 => ?_) (fun h67 => ?_)
              ·
                refine V.seq ?_
                refine V.seq ?_
                refine V.region ?_
                refine L.rd (rd_fieldAddr tok rfl rfl rfl rfl rfl rfl) rfl ?_
                refine L.rd (rd_load1 tok rfl rfl rfl (hb3.cell (i := 2) rfl)) rfl ?_
                refine L.rd (rd_neq rfl rfl) rfl ?_
                refine L.rd (rd_move rfl) rfl ?_
                first | refine L.partG rfl rfl (fun g73 => ?_) (fun g73 => ?_) | refine L.partGB rfl rfl (fun g73 => ?_) (fun g73 => ?_)
                ·
                  refine L.no rfl rfl rfl rfl ?_
                  refine L.no rfl rfl rfl rfl ?_
                  refine L.no rfl rfl rfl rfl ?_
                  refine L.rd (rd_pickT rfl rfl) rfl ?_
                  refine L.rd (rd_move rfl) rfl ?_
                  refine L.no rfl rfl rfl rfl ?_
                  refine L.no rfl rfl rfl rfl ?_
                  refine L.no rfl rfl rfl rfl ?_
                  refine L.no rfl rfl rfl rfl ?_
                  refine L.no rfl rfl rfl rfl ?_
                  refine L.rd (rd_pickT rfl rfl) rfl ?_
                  refine L.nil ?_
                  refine X.sq ?_
                  refine V.condT rfl ?_
                  refine V.seq ?_
                  refine V.region ?_
                  refine L.rd (rd_assign rfl) rfl ?_
                  refine L.rd (rd_assign rfl) rfl ?_
                  refine L.nil ?_
                  refine X.sq ?_
                  refine V.ret ?_
                  refine X.sqRet ?_
                  refine X.bkRet ?_
                  refine X.sqRet ?_
                  refine ret_2 Yaam.results83 rfl rfl ?_
                  exfalso; omega
                ·
                  refine L.yes rfl rfl ?_
                  refine L.rd (rd_fieldAddr tok rfl rfl rfl rfl rfl rfl) rfl ?_
                  refine L.yes rfl rfl ?_
                  refine L.rd (rd_load1 tok rfl rfl rfl (hb3.cell (i := 4) rfl)) rfl ?_
                  refine L.yes rfl rfl ?_
                  refine L.rd (rd_neq rfl rfl) rfl ?_
                  refine L.rd (rd_pickF rfl rfl) rfl ?_
                  refine L.rd (rd_move rfl) rfl ?_
                  first | refine L.partG rfl rfl (fun g78 => ?_) (fun g78 => ?_) | refine L.partGB rfl rfl (fun g78 => ?_) (fun g78 => ?_)
                  ·
                    refine L.no rfl rfl rfl rfl ?_
                    refine L.no rfl rfl rfl rfl ?_
                    refine L.no rfl rfl rfl rfl ?_
                    refine L.no rfl rfl rfl rfl ?_
                    refine L.no rfl rfl rfl rfl ?_
                    refine L.rd (rd_pickT rfl rfl) rfl ?_
                    refine L.nil ?_
                    refine X.sq ?_
                    refine V.condT rfl ?_
                    refine V.seq ?_
                    refine V.region ?_
                    refine L.rd (rd_assign rfl) rfl ?_
                    refine L.rd (rd_assign rfl) rfl ?_
                    refine L.nil ?_
                    refine X.sq ?_
                    refine V.ret ?_
                    refine X.sqRet ?_
                    refine X.bkRet ?_
                    refine X.sqRet ?_
                    refine ret_2 Yaam.results83 rfl rfl ?_
                    exfalso; omega
                  ·
                    refine L.yes rfl rfl ?_
                    refine L.rd (rd_fieldAddr tok rfl rfl rfl rfl rfl rfl) rfl ?_
                    refine L.yes rfl rfl ?_
                    refine L.rd (rd_load1 tok rfl rfl rfl (hb3.cell (i := 3) rfl)) rfl ?_
                    refine L.yes rfl rfl ?_
                    refine L.rd (rd_move rfl) rfl ?_
                    refine L.yes rfl rfl ?_
                    (refine L.rd (rd_sub3 rfl rfl ?_) rfl ?_; omega)
                    refine L.yes rfl rfl ?_
                    refine L.rd (rd_neq rfl rfl) rfl ?_
                    refine L.rd (rd_pickF rfl rfl) rfl ?_
                    refine L.nil ?_
                    refine X.sq ?_
                    first | refine V.cond rfl (fun h84 => ?_) (fun h84 => ?_) | refine V.condB rfl (fun h84 => ?_) (fun h84 => ?_)
                    ·
                      refine V.seq ?_
                      refine V.region ?_
                      refine L.rd (rd_assign rfl) rfl ?_
                      refine L.rd (rd_assign rfl) rfl ?_
                      refine L.nil ?_
                      refine X.sq ?_
                      refine V.ret ?_
                      refine X.sqRet ?_
                      refine X.bkRet ?_
                      refine X.sqRet ?_
                      refine ret_2 Yaam.results83 rfl rfl ?_
                      exfalso; omega
                    ·
                      refine V.skip ?_
                      refine X.sq ?_
                      refine V.seq ?_
                      refine V.seq ?_
                      refine V.region ?_
                      refine L.rd (rd_fieldAddr tok rfl rfl rfl rfl rfl rfl) rfl ?_
                      refine L.rd (rd_load1 tok rfl rfl rfl (hb3.cell (i := 0) rfl)) rfl ?_
                      refine L.rd (rd_eql rfl rfl) rfl ?_
                      refine L.rd (rd_move rfl) rfl ?_
                      first | refine L.partG rfl rfl (fun g88 => ?_) (fun g88 => ?_) | refine L.partGB rfl rfl (fun g88 => ?_) (fun g88 => ?_)
                      ·
                        refine L.yes rfl rfl ?_
                        refine L.rd (rd_fieldAddr tok rfl rfl rfl rfl rfl rfl) rfl ?_
                        refine L.yes rfl rfl ?_
                        refine L.rd (rd_load1 tok rfl rfl rfl (hb3.cell (i := 1) rfl)) rfl ?_
                        refine L.yes rfl rfl ?_
                        refine L.rd (rd_neq rfl rfl) rfl ?_
                        refine L.rd (rd_pickT rfl rfl) rfl ?_
                        refine L.nil ?_
                        refine X.sq ?_
                        first | refine V.cond rfl (fun h92 => ?_) (fun h92 => ?_) | refine V.condB rfl (fun h92 => ?_) (fun h92 => ?_)
                        ·
                          refine V.seq ?_
                          refine V.region ?_
                          refine L.rd (rd_assign rfl) rfl ?_
                          refine L.rd (rd_assign rfl) rfl ?_
                          refine L.nil ?_
                          refine X.sq ?_
                          refine V.ret ?_
                          refine X.sqRet ?_
                          refine X.bkRet ?_
                          refine X.sqRet ?_
                          refine ret_2 Yaam.results83 rfl rfl ?_
                          exfalso; omega
                        ·
                          refine V.skip ?_
                          refine X.sq ?_
                          refine V.seq ?_
                          refine V.seq ?_
                          refine V.region ?_
                          refine L.rd (rd_fieldAddr tok rfl rfl rfl rfl rfl rfl) rfl ?_
                          refine L.rd (rd_load1 tok rfl rfl rfl (hb3.cell (i := 0) rfl)) rfl ?_
                          refine L.rd (rd_eql rfl rfl) rfl ?_
                          refine L.rd (rd_move rfl) rfl ?_
                          first | refine L.partG rfl rfl (fun g96 => ?_) (fun g96 => ?_) | refine L.partGB rfl rfl (fun g96 => ?_) (fun g96 => ?_)
                          ·
                            refine L.yes rfl rfl ?_
                            refine L.rd (rd_fieldAddr tok rfl rfl rfl rfl rfl rfl) rfl ?_
                            refine L.yes rfl rfl ?_
                            refine L.rd (rd_load1 tok rfl rfl rfl (hb3.cell (i := 1) rfl)) rfl ?_
                            refine L.yes rfl rfl ?_
                            refine L.rd (rd_lss rfl rfl) rfl ?_
                            refine L.yes rfl rfl ?_
                            refine L.rd (rd_move rfl) rfl ?_
                            first | refine L.partG rfl rfl (fun g100 => ?_) (fun g100 => ?_) | refine L.partGB rfl rfl (fun g100 => ?_) (fun g100 => ?_)
                            ·
                              refine L.no rfl rfl rfl rfl ?_
                              refine L.no rfl rfl rfl rfl ?_
                              refine L.no rfl rfl rfl rfl ?_
                              refine L.yes rfl rfl ?_
                              refine L.rd (rd_pickT rfl rfl) rfl ?_
                              refine L.rd (rd_pickT rfl rfl) rfl ?_
                              refine L.nil ?_
                              refine X.sq ?_
                              refine V.condT rfl ?_
                              refine V.seq ?_
                              refine V.region ?_
                              refine L.rd (rd_assign rfl) rfl ?_
                              refine L.rd (rd_assign rfl) rfl ?_
                              refine L.nil ?_
                              refine X.sq ?_
                              refine V.ret ?_
                              refine X.sqRet ?_
                              refine X.bkRet ?_
                              refine X.sqRet ?_
                              refine ret_2 Yaam.results83 rfl rfl ?_
                              exfalso; omega
                            ·
                              refine L.yes rfl rfl ?_
                              refine L.rd (rd_fieldAddr tok rfl rfl rfl rfl rfl rfl) rfl ?_
                              refine L.yes rfl rfl ?_
                              refine L.rd (rd_load1 tok rfl rfl rfl (hb3.cell (i := 1) rfl)) rfl ?_
                              refine L.yes rfl rfl ?_
                              refine L.rd (rd_gtr rfl rfl) rfl ?_
                              refine L.yes rfl rfl ?_
                              refine L.rd (rd_pickF rfl rfl) rfl ?_
                              refine L.rd (rd_pickT rfl rfl) rfl ?_
                              refine L.nil ?_
                              refine X.sq ?_
                              first | refine V.cond rfl (fun h105 => ?_) (fun h105 => ?_) | refine V.condB rfl (fun h105 => ?_) (fun h105 => ?_)
                              ·
                                refine V.seq ?_
                                refine V.region ?_
                                refine L.rd (rd_assign rfl) rfl ?_
                                refine L.rd (rd_assign rfl) rfl ?_
                                refine L.nil ?_
                                refine X.sq ?_
                                refine V.ret ?_
                                refine X.sqRet ?_
                                refine X.bkRet ?_
                                refine X.sqRet ?_
                                refine ret_2 Yaam.results83 rfl rfl ?_
                                exfalso; omega
                              ·
                                refine V.skip ?_
                                refine X.sq ?_
                                refine V.seq ?_
                                refine V.region ?_
                                refine L.rd (rd_move rfl) rfl ?_
                                refine L.rd (rd_move rfl) rfl ?_
                                (refine L.rd (rd_sub3 rfl rfl ?_) rfl ?_; omega)
                                refine L.ef (e_call rfl (ih b _ _ hw1 hat1 (by omega) hE3) rfl ?_)
                                rintro _ w4 ⟨rfl, he4⟩
                                refine L.rd (rd_move rfl) rfl ?_
                                refine L.rd (rd_ext0 rfl) rfl ?_
                                refine L.rd (rd_ext1 rfl) rfl ?_
                                refine L.rd (rd_assign rfl) rfl ?_
                                refine L.rd (rd_assign rfl) rfl ?_
                                refine L.nil ?_
                                refine X.sq ?_
                                refine V.seq ?_
                                refine V.seq ?_
                                refine V.region ?_
                                refine L.rd (rd_move rfl) rfl ?_
                                first | refine L.rd (rd_not rfl) rfl ?_ | refine L.rd (rd_notB rfl) rfl ?_
                                refine L.nil ?_
                                refine X.sq ?_
                                first | refine V.cond rfl (fun h114 => ?_) (fun h114 => ?_) | refine V.condB rfl (fun h114 => ?_) (fun h114 => ?_)
                                ·
                                  cases h114
                                ·
                                  refine V.skip ?_
                                  refine X.sq ?_
                                  refine V.seq ?_
                                  refine V.region ?_
                                  refine L.rd (rd_move rfl) rfl ?_
                                  (refine L.rd (rd_add3 rfl rfl ?_) rfl ?_; omega)
                                  refine L.rd (rd_assign rfl) rfl ?_
                                  refine L.rd (rd_assign rfl) rfl ?_
                                  refine L.nil ?_
                                  refine X.sq ?_
                                  refine V.ret ?_
                                  refine X.bkRet ?_
                                  refine X.sqRet ?_
                                  refine ret_2 Yaam.results83 rfl rfl ?_
                                  exact ⟨by rw [Int.natCast_add, Int.add_comm]; rfl, he3.next he4⟩
                          ·
                            refine L.no rfl rfl rfl rfl ?_
                            refine L.no rfl rfl rfl rfl ?_
                            refine L.no rfl rfl rfl rfl ?_
                            refine L.no rfl rfl rfl rfl ?_
                            refine L.noU rfl rfl rfl ?_
                            refine L.noU rfl rfl rfl ?_
                            refine L.noU rfl rfl rfl ?_
                            refine L.no rfl rfl rfl rfl ?_
                            refine L.rd (rd_pickF rfl rfl) rfl ?_
                            refine L.nil ?_
                            refine X.sq ?_
                            refine V.condF rfl ?_
                            refine V.skip ?_
                            refine X.sq ?_
                            refine V.seq ?_
                            refine V.region ?_
                            refine L.rd (rd_move rfl) rfl ?_
                            refine L.rd (rd_move rfl) rfl ?_
                            (refine L.rd (rd_sub3 rfl rfl ?_) rfl ?_; omega)
                            refine L.ef (e_call rfl (ih b _ _ hw1 hat1 (by omega) hE3) rfl ?_)
                            rintro _ w4 ⟨rfl, he4⟩
                            refine L.rd (rd_move rfl) rfl ?_
                            refine L.rd (rd_ext0 rfl) rfl ?_
                            refine L.rd (rd_ext1 rfl) rfl ?_
                            refine L.rd (rd_assign rfl) rfl ?_
                            refine L.rd (rd_assign rfl) rfl ?_
                            refine L.nil ?_
                            refine X.sq ?_
                            refine V.seq ?_
                            refine V.seq ?_
                            refine V.region ?_
                            refine L.rd (rd_move rfl) rfl ?_
                            first | refine L.rd (rd_not rfl) rfl ?_ | refine L.rd (rd_notB rfl) rfl ?_
                            refine L.nil ?_
                            refine X.sq ?_
                            first | refine V.cond rfl (fun h114 => ?_) (fun h114 => ?_) | refine V.condB rfl (fun h114 => ?_) (fun h114 => ?_)
                            ·
                              cases h114
                            ·
                              refine V.skip ?_
                              refine X.sq ?_
                              refine V.seq ?_
                              refine V.region ?_
                              refine L.rd (rd_move rfl) rfl ?_
                              (refine L.rd (rd_add3 rfl rfl ?_) rfl ?_; omega)
                              refine L.rd (rd_assign rfl) rfl ?_
                              refine L.rd (rd_assign rfl) rfl ?_
                              refine L.nil ?_
                              refine X.sq ?_
                              refine V.ret ?_
                              refine X.bkRet ?_
                              refine X.sqRet ?_
                              refine ret_2 Yaam.results83 rfl rfl ?_
                              exact ⟨by rw [Int.natCast_add, Int.add_comm]; rfl, he3.next he4⟩
                      ·
                        refine L.no rfl rfl rfl rfl ?_
                        refine L.no rfl rfl rfl rfl ?_
                        refine L.no rfl rfl rfl rfl ?_
                        refine L.rd (rd_pickF rfl rfl) rfl ?_
                        refine L.nil ?_
                        refine X.sq ?_
                        refine V.condF rfl ?_
                        refine V.skip ?_
                        refine X.sq ?_
                        refine V.seq ?_
                        refine V.seq ?_
                        refine V.region ?_
                        refine L.rd (rd_fieldAddr tok rfl rfl rfl rfl rfl rfl) rfl ?_
                        refine L.rd (rd_load1 tok rfl rfl rfl (hb3.cell (i := 0) rfl)) rfl ?_
                        refine L.rd (rd_eql rfl rfl) rfl ?_
                        refine L.rd (rd_move rfl) rfl ?_
                        first | refine L.partG rfl rfl (fun g96 => ?_) (fun g96 => ?_) | refine L.partGB rfl rfl (fun g96 => ?_) (fun g96 => ?_)
                        ·
                          refine L.yes rfl rfl ?_
                          refine L.rd (rd_fieldAddr tok rfl rfl rfl rfl rfl rfl) rfl ?_
                          refine L.yes rfl rfl ?_
                          refine L.rd (rd_load1 tok rfl rfl rfl (hb3.cell (i := 1) rfl)) rfl ?_
                          refine L.yes rfl rfl ?_
                          refine L.rd (rd_lss rfl rfl) rfl ?_
                          refine L.yes rfl rfl ?_
                          refine L.rd (rd_move rfl) rfl ?_
                          first | refine L.partG rfl rfl (fun g100 => ?_) (fun g100 => ?_) | refine L.partGB rfl rfl (fun g100 => ?_) (fun g100 => ?_)
                          ·
                            refine L.no rfl rfl rfl rfl ?_
                            refine L.no rfl rfl rfl rfl ?_
                            refine L.no rfl rfl rfl rfl ?_
                            refine L.yes rfl rfl ?_
                            refine L.rd (rd_pickT rfl rfl) rfl ?_
                            refine L.rd (rd_pickT rfl rfl) rfl ?_
                            refine L.nil ?_
                            refine X.sq ?_
                            refine V.condT rfl ?_
                            refine V.seq ?_
                            refine V.region ?_
                            refine L.rd (rd_assign rfl) rfl ?_
                            refine L.rd (rd_assign rfl) rfl ?_
                            refine L.nil ?_
                            refine X.sq ?_
                            refine V.ret ?_
                            refine X.sqRet ?_
                            refine X.bkRet ?_
                            refine X.sqRet ?_
                            refine ret_2 Yaam.results83 rfl rfl ?_
                            exfalso; omega
                          ·
                            refine L.yes rfl rfl ?_
                            refine L.rd (rd_fieldAddr tok rfl rfl rfl rfl rfl rfl) rfl ?_
                            refine L.yes rfl rfl ?_
                            refine L.rd (rd_load1 tok rfl rfl rfl (hb3.cell (i := 1) rfl)) rfl ?_
                            refine L.yes rfl rfl ?_
                            refine L.rd (rd_gtr rfl rfl) rfl ?_
                            refine L.yes rfl rfl ?_
                            refine L.rd (rd_pickF rfl rfl) rfl ?_
                            refine L.rd (rd_pickT rfl rfl) rfl ?_
                            refine L.nil ?_
                            refine X.sq ?_
                            first | refine V.cond rfl (fun h105 => ?_) (fun h105 => ?_) | refine V.condB rfl (fun h105 => ?_) (fun h105 => ?_)
                            ·
                              refine V.seq ?_
                              refine V.region ?_
                              refine L.rd (rd_assign rfl) rfl ?_
                              refine L.rd (rd_assign rfl) rfl ?_
                              refine L.nil ?_
                              refine X.sq ?_
                              refine V.ret ?_
                              refine X.sqRet ?_
                              refine X.bkRet ?_
                              refine X.sqRet ?_
                              refine ret_2 Yaam.results83 rfl rfl ?_
                              exfalso; omega
                            ·
                              refine V.skip ?_
                              refine X.sq ?_
                              refine V.seq ?_
                              refine V.region ?_
                              refine L.rd (rd_move rfl) rfl ?_
                              refine L.rd (rd_move rfl) rfl ?_
                              (refine L.rd (rd_sub3 rfl rfl ?_) rfl ?_; omega)
                              refine L.ef (e_call rfl (ih b _ _ hw1 hat1 (by omega) hE3) rfl ?_)
                              rintro _ w4 ⟨rfl, he4⟩
                              refine L.rd (rd_move rfl) rfl ?_
                              refine L.rd (rd_ext0 rfl) rfl ?_
                              refine L.rd (rd_ext1 rfl) rfl ?_
                              refine L.rd (rd_assign rfl) rfl ?_
                              refine L.rd (rd_assign rfl) rfl ?_
                              refine L.nil ?_
                              refine X.sq ?_
                              refine V.seq ?_
                              refine V.seq ?_
                              refine V.region ?_
                              refine L.rd (rd_move rfl) rfl ?_
                              first | refine L.rd (rd_not rfl) rfl ?_ | refine L.rd (rd_notB rfl) rfl ?_
                              refine L.nil ?_
                              refine X.sq ?_
                              first | refine V.cond rfl (fun h114 => ?_) (fun h114 => ?_) | refine V.condB rfl (fun h114 => ?_) (fun h114 => ?_)
                              ·
                                cases h114
                              ·
                                refine V.skip ?_
                                refine X.sq ?_
                                refine V.seq ?_
                                refine V.region ?_
                                refine L.rd (rd_move rfl) rfl ?_
                                (refine L.rd (rd_add3 rfl rfl ?_) rfl ?_; omega)
                                refine L.rd (rd_assign rfl) rfl ?_
                                refine L.rd (rd_assign rfl) rfl ?_
                                refine L.nil ?_
                                refine X.sq ?_
                                refine V.ret ?_
                                refine X.bkRet ?_
                                refine X.sqRet ?_
                                refine ret_2 Yaam.results83 rfl rfl ?_
                                exact ⟨by rw [Int.natCast_add, Int.add_comm]; rfl, he3.next he4⟩
                        ·
                          refine L.no rfl rfl rfl rfl ?_
                          refine L.no rfl rfl rfl rfl ?_
                          refine L.no rfl rfl rfl rfl ?_
                          refine L.no rfl rfl rfl rfl ?_
                          refine L.noU rfl rfl rfl ?_
                          refine L.noU rfl rfl rfl ?_
                          refine L.noU rfl rfl rfl ?_
                          refine L.no rfl rfl rfl rfl ?_
                          refine L.rd (rd_pickF rfl rfl) rfl ?_
                          refine L.nil ?_
                          refine X.sq ?_
                          refine V.condF rfl ?_
                          refine V.skip ?_
                          refine X.sq ?_
                          refine V.seq ?_
                          refine V.region ?_
                          refine L.rd (rd_move rfl) rfl ?_
                          refine L.rd (rd_move rfl) rfl ?_
                          (refine L.rd (rd_sub3 rfl rfl ?_) rfl ?_; omega)
                          refine L.ef (e_call rfl (ih b _ _ hw1 hat1 (by omega) hE3) rfl ?_)
                          rintro _ w4 ⟨rfl, he4⟩
                          refine L.rd (rd_move rfl) rfl ?_
                          refine L.rd (rd_ext0 rfl) rfl ?_
                          refine L.rd (rd_ext1 rfl) rfl ?_
                          refine L.rd (rd_assign rfl) rfl ?_
                          refine L.rd (rd_assign rfl) rfl ?_
                          refine L.nil ?_
                          refine X.sq ?_
                          refine V.seq ?_
                          refine V.seq ?_
                          refine V.region ?_
                          refine L.rd (rd_move rfl) rfl ?_
                          first | refine L.rd (rd_not rfl) rfl ?_ | refine L.rd (rd_notB rfl) rfl ?_
                          refine L.nil ?_
                          refine X.sq ?_
                          first | refine V.cond rfl (fun h114 => ?_) (fun h114 => ?_) | refine V.condB rfl (fun h114 => ?_) (fun h114 => ?_)
                          ·
                            cases h114
                          ·
                            refine V.skip ?_
                            refine X.sq ?_
                            refine V.seq ?_
                            refine V.region ?_
                            refine L.rd (rd_move rfl) rfl ?_
                            (refine L.rd (rd_add3 rfl rfl ?_) rfl ?_; omega)
                            refine L.rd (rd_assign rfl) rfl ?_
                            refine L.rd (rd_assign rfl) rfl ?_
                            refine L.nil ?_
                            refine X.sq ?_
                            refine V.ret ?_
                            refine X.bkRet ?_
                            refine X.sqRet ?_
                            refine ret_2 Yaam.results83 rfl rfl ?_
                            exact ⟨by rw [Int.natCast_add, Int.add_comm]; rfl, he3.next he4⟩
              ·
                refine V.seq ?_
                refine V.seq ?_
                exfalso
                omega
  · have hfl := flat_len (c 0) b
    have hfl2 := flat_len (c 1) (b + tsz (c 0))
    have htp := tsz_pos (c 0)
    have htp2 := tsz_pos (c 1)
    have hnd := hat (tsz (c 0) + tsz (c 1)) (k, v, x, (b : Int) + tsz (c 0) - 1, (b : Int) + tsz (c 0) + tsz (c 1) - 1) (by rw [flat, List.getElem?_append_right (by rw [List.length_append]; omega), List.length_append, hfl, hfl2, Nat.sub_self]; rfl)
    have hbl := (List.getElem?_eq_some_iff.1 hnd).1
    have hat1 : At ns (c 0) b := fun j nd h => hat j nd (by rw [flat]; exact app_some (app_some h))
    have hat2 : At ns (c 1) (b + tsz (c 0)) := fun j nd h => by
      have hj := (List.getElem?_eq_some_iff.1 h).1
      have := hat (tsz (c 0) + j) nd (by rw [flat, List.append_assoc, List.getElem?_append_right (by omega), hfl, Nat.add_sub_cancel_left]; exact app_some h)
      rwa [← Nat.add_assoc] at this
    obtain ⟨rfl, hv0, hx0, hkk, hw1, hw2⟩ := hw
    rw [tsz] at hix ⊢
    obtain ⟨b1, o1, rfl, hc1⟩ := hfn.resolve_left (by omega)
    obtain rfl : ix = ((b + (tsz (c 0) + tsz (c 1)) : Nat) : Int) := by omega
    have hcx := (hc1.le hE.leC).sub ((b + (tsz (c 0) + tsz (c 1))) * 5) (ndE (k, v, x, (b : Int) + tsz (c 0) - 1, (b : Int) + tsz (c 0) + tsz (c 1) - 1)) (fun j u hu => fm_get ndE_len ns _ _ hnd j u hu)
    refine enter2 Yaam.func83 Yaam.ntmps83 (by kernel_rfl) rfl rfl ?_
    refine V.seq ?_
    refine V.region ?_
    refine L.rd (rd_assign rfl) rfl ?_
    refine L.rd (rd_assign rfl) rfl ?_
    refine L.nil ?_
    refine X.sq ?_
    refine V.seq ?_
    refine V.seq ?_
    refine V.region ?_
    refine L.rd (rd_move rfl) rfl ?_
    refine L.rd (rd_lss rfl rfl) rfl ?_
    refine L.rd (rd_move rfl) rfl ?_
    first | refine L.partG rfl rfl (fun g15 => ?_) (fun g15 => ?_) | refine L.partGB rfl rfl (fun g15 => ?_) (fun g15 => ?_)
    ·
      refine L.no rfl rfl rfl rfl ?_
      refine L.no rfl rfl rfl rfl ?_
      refine L.no rfl rfl rfl rfl ?_
      refine L.no rfl rfl rfl rfl ?_
      refine L.rd (rd_pickT rfl rfl) rfl ?_
      refine L.nil ?_
      refine X.sq ?_
      refine V.condT rfl ?_
      refine V.seq ?_
      refine V.region ?_
      refine L.rd (rd_assign rfl) rfl ?_
      refine L.rd (rd_assign rfl) rfl ?_
      refine L.nil ?_
      refine X.sq ?_
      refine V.ret ?_
      refine X.sqRet ?_
      refine ret_2 Yaam.results83 rfl rfl ?_
      exfalso; omega
    ·
      refine L.yes rfl rfl ?_
      refine L.rd (rd_move rfl) rfl ?_
      refine L.yes rfl rfl ?_
      refine L.rd (rd_move rfl) rfl ?_
      refine L.yes rfl rfl ?_
      refine L.rd (rd_lenSlice tok rfl rfl rfl) rfl ?_
      refine L.yes rfl rfl ?_
      refine L.rd (rd_geq rfl rfl) rfl ?_
      refine L.rd (rd_pickF rfl rfl) rfl ?_
      refine L.nil ?_
      refine X.sq ?_
      first | refine V.cond rfl (fun h20 => ?_) (fun h20 => ?_) | refine V.condB rfl (fun h20 => ?_) (fun h20 => ?_)
      ·
        refine V.seq ?_
        refine V.region ?_
        refine L.rd (rd_assign rfl) rfl ?_
        refine L.rd (rd_assign rfl) rfl ?_
        refine L.nil ?_
        refine X.sq ?_
        refine V.ret ?_
        refine X.sqRet ?_
        refine ret_2 Yaam.results83 rfl rfl ?_
        exfalso; omega
      ·
        refine V.skip ?_
        refine X.sq ?_
        refine V.seq ?_
        refine V.region ?_
        refine L.rd (rd_move rfl) rfl ?_
        refine L.rd (rd_move rfl) rfl ?_
        (refine L.rd (rd_indexSlice (sz := 5) tok rfl rfl rfl rfl rfl rfl rfl ?_) rfl ?_; omega)
        refine L.rd (rd_loadN tok rfl rfl rfl hcx rfl) rfl ?_
        refine L.ef (e_alloc (cs := [_, _, _, _, _]) tok rfl rfl (by first | (simp only [size_addB, size_setB, size_drew]; rfl) | rfl) rfl ?_)
        refine L.ef (e_store (vs := [_, _, _, _, _]) tok rfl rfl rfl rfl (by (repeat (first | assumption | (refine Bl.new' ?_ _ _; first | with_reducible rfl | (simp only [size_addB, size_setB, size_drew]; done)) | apply Bl.add | apply Bl.drew | (apply Bl.setNe; omega) | (refine Bl.set' ?_ _ _; (try simp only [size_addB, size_setB, size_drew]); omega)))) rfl (by simp [Value.oneCell']) (by simp) ?_)
        refine L.nil ?_
        refine X.sq ?_
        refine V.seq ?_
        refine V.seq ?_
        generalize hw3 : setB _ _ _ _ = w3
        have hb3 : Bl w3 w.heap.size 80 [.int .i64 k, .int .i64 v, .int .i64 x, .int .i64 ((b : Int) + tsz (c 0) - 1), .int .i64 ((b : Int) + tsz (c 0) + tsz (c 1) - 1)] := by rw [← hw3]; refine Bl.set' ?_ _ _; rw [size_addB]; omega
        have he3 : Ext w.heap.size w w3 := by rw [← hw3]; exact ((Ext.refl _ _).addNew _ _).set (Nat.le_refl _) _ _
        have hE3 := hE.next he3
        refine V.region ?_
        refine L.rd (rd_fieldAddr tok rfl rfl rfl rfl rfl rfl) rfl ?_
        refine L.rd (rd_load1 tok rfl rfl rfl (hb3.cell rfl)) rfl ?_
        refine L.nil ?_
        refine X.sq ?_
        refine V.block ?_
        refine V.seq ?_
        refine V.region ?_
        refine L.rd (rd_eql rfl rfl) rfl ?_
        refine L.rd (rd_assign rfl) rfl ?_
        refine L.nil ?_
        refine X.sq ?_
        first | refine V.cond rfl (fun h27 => ?_) (fun h27 => ?_) | refine V.condB rfl (fun h27 => ?_) (fun h27 => ?_)
        ·
          refine V.seq ?_
          refine V.seq ?_
          exfalso
          omega
        ·
          refine V.seq ?_
          refine V.region ?_
          refine L.rd (rd_eql rfl rfl) rfl ?_
          refine L.rd (rd_assign rfl) rfl ?_
          refine L.nil ?_
          refine X.sq ?_
          first | refine V.cond rfl (fun h42 => ?_) (fun h42 => ?_) | refine V.condB rfl (fun h42 => ?_) (fun h42 => ?_)
          ·
            refine V.seq ?_
            refine V.seq ?_
            exfalso
            omega
          ·
            refine V.seq ?_
            refine V.seq ?_
            refine V.region ?_
            refine L.rd (rd_eql rfl rfl) rfl ?_
            refine L.rd (rd_assign rfl) rfl ?_
            refine L.nil ?_
            refine X.sq ?_
            first | refine V.cond rfl (fun h67 => ?_) (fun h67 => ?_) | refine V.condB rfl (fun h67 => ?_) (fun h67 => ?_)
            ·
              refine V.skip ?_
              refine X.sq ?_
              first | refine V.cond rfl (fun h67_ => ?_) (fun h67_ => ?_) | refine V.condB rfl (fun h67_ => ?_) (fun h67_ => ?_)
              ·
                refine V.seq ?_
                refine V.seq ?_
                exfalso
                omega
              ·
                exact absurd h67 h67_
            ·
              refine V.region ?_
              refine L.rd (rd_eql rfl rfl) rfl ?_
              refine L.rd (rd_assign rfl) rfl ?_
              refine L.nil ?_
              refine X.sq ?_
              first | refine V.cond rfl (fun h67 => ?_) (fun h67 => ?_) | refine V.condB rfl (fun h67 => ?_) (fun h67 => ?_)
              ·
                refine V.seq ?_
                refine V.seq ?_
                exfalso
                omega
              ·
                refine V.seq ?_
                refine V.seq ?_
                refine V.region ?_
                refine L.rd (rd_eql rfl rfl) rfl ?_
                refine L.rd (rd_assign rfl) rfl ?_
                refine L.nil ?_
                refine X.sq ?_
                first | refine V.cond rfl (fun h117 => ?_) (fun h117 => ?_) | refine V.condB rfl (fun h117 => ?_) (fun h117 => ?_)
                ·
                  refine V.skip ?_
                  refine X.sq ?_
                  first | refine V.cond rfl (fun h117_ => ?_) (fun h117_ => ?_) | refine V.condB rfl (fun h117_ => ?_) (fun h117_ => ?_)
                  ·
                    refine V.seq ?_
                    refine V.seq ?_
                    refine V.region ?_
                    refine L.rd (rd_fieldAddr tok rfl rfl rfl rfl rfl rfl) rfl ?_
                    refine L.rd (rd_load1 tok rfl rfl rfl (hb3.cell (i := 1) rfl)) rfl ?_
                    refine L.rd (rd_neq rfl rfl) rfl ?_
                    refine L.rd (rd_move rfl) rfl ?_
                    first | refine L.partG rfl rfl (fun g124 => ?_) (fun g124 => ?_) | refine L.partGB rfl rfl (fun g124 => ?_) (fun g124 => ?_)
                    ·
                      refine L.no rfl rfl rfl rfl ?_
                      refine L.no rfl rfl rfl rfl ?_
                      refine L.no rfl rfl rfl rfl ?_
                      refine L.rd (rd_pickT rfl rfl) rfl ?_
                      refine L.rd (rd_move rfl) rfl ?_
                      refine L.no rfl rfl rfl rfl ?_
                      refine L.no rfl rfl rfl rfl ?_
                      refine L.no rfl rfl rfl rfl ?_
                      refine L.no rfl rfl rfl rfl ?_
                      refine L.no rfl rfl rfl rfl ?_
                      refine L.rd (rd_pickT rfl rfl) rfl ?_
                      refine L.nil ?_
                      refine X.sq ?_
                      refine V.condT rfl ?_
                      refine V.seq ?_
                      refine V.region ?_
                      refine L.rd (rd_assign rfl) rfl ?_
                      refine L.rd (rd_assign rfl) rfl ?_
                      refine L.nil ?_
                      refine X.sq ?_
                      refine V.ret ?_
                      refine X.sqRet ?_
                      refine X.bkRet ?_
                      refine X.sqRet ?_
                      refine ret_2 Yaam.results83 rfl rfl ?_
                      exfalso; omega
                    ·
                      refine L.yes rfl rfl ?_
                      refine L.rd (rd_fieldAddr tok rfl rfl rfl rfl rfl rfl) rfl ?_
                      refine L.yes rfl rfl ?_
                      refine L.rd (rd_load1 tok rfl rfl rfl (hb3.cell (i := 2) rfl)) rfl ?_
                      refine L.yes rfl rfl ?_
                      refine L.rd (rd_neq rfl rfl) rfl ?_
                      refine L.rd (rd_pickF rfl rfl) rfl ?_
                      refine L.rd (rd_move rfl) rfl ?_
                      first | refine L.partG rfl rfl (fun g129 => ?_) (fun g129 => ?_) | refine L.partGB rfl rfl (fun g129 => ?_) (fun g129 => ?_)
                      ·
                        refine L.no rfl rfl rfl rfl ?_
                        refine L.no rfl rfl rfl rfl ?_
                        refine L.no rfl rfl rfl rfl ?_
                        refine L.no rfl rfl rfl rfl ?_
                        refine L.no rfl rfl rfl rfl ?_
                        refine L.rd (rd_pickT rfl rfl) rfl ?_
                        refine L.nil ?_
                        refine X.sq ?_
                        refine V.condT rfl ?_
                        refine V.seq ?_
                        refine V.region ?_
                        refine L.rd (rd_assign rfl) rfl ?_
                        refine L.rd (rd_assign rfl) rfl ?_
                        refine L.nil ?_
                        refine X.sq ?_
                        refine V.ret ?_
                        refine X.sqRet ?_
                        refine X.bkRet ?_
                        refine X.sqRet ?_
                        refine ret_2 Yaam.results83 rfl rfl ?_
                        exfalso; omega
                      ·
                        refine L.yes rfl rfl ?_
                        refine L.rd (rd_fieldAddr tok rfl rfl rfl rfl rfl rfl) rfl ?_
                        refine L.yes rfl rfl ?_
                        refine L.rd (rd_load1 tok rfl rfl rfl (hb3.cell (i := 4) rfl)) rfl ?_
                        refine L.yes rfl rfl ?_
                        refine L.rd (rd_move rfl) rfl ?_
                        refine L.yes rfl rfl ?_
                        (refine L.rd (rd_sub3 rfl rfl ?_) rfl ?_; omega)
                        refine L.yes rfl rfl ?_
                        refine L.rd (rd_neq rfl rfl) rfl ?_
                        refine L.rd (rd_pickF rfl rfl) rfl ?_
                        refine L.nil ?_
                        refine X.sq ?_
                        first | refine V.cond rfl (fun h135 => ?_) (fun h135 => ?_) | refine V.condB rfl (fun h135 => ?_) (fun h135 => ?_)
                        ·
                          refine V.seq ?_
                          refine V.region ?_
                          refine L.rd (rd_assign rfl) rfl ?_
                          refine L.rd (rd_assign rfl) rfl ?_
                          refine L.nil ?_
                          refine X.sq ?_
                          refine V.ret ?_
                          refine X.sqRet ?_
                          refine X.bkRet ?_
                          refine X.sqRet ?_
                          refine ret_2 Yaam.results83 rfl rfl ?_
                          exfalso; omega
                        ·
                          refine V.skip ?_
                          refine X.sq ?_
                          refine V.seq ?_
                          refine V.region ?_
                          refine L.rd (rd_move rfl) rfl ?_
                          refine L.rd (rd_move rfl) rfl ?_
                          (refine L.rd (rd_sub3 rfl rfl ?_) rfl ?_; omega)
                          refine L.ef (e_call rfl (ih2 (b + tsz (c 0)) _ _ hw2 hat2 (by omega) hE3) rfl ?_)
                          rintro _ w4 ⟨rfl, he4⟩
                          have hb4 := he4.bl hb3.lt hb3
                          have hE4 := hE3.next he4
                          have he34 := he3.next he4
                          refine L.rd (rd_move rfl) rfl ?_
                          refine L.rd (rd_ext0 rfl) rfl ?_
                          refine L.rd (rd_ext1 rfl) rfl ?_
                          refine L.rd (rd_assign rfl) rfl ?_
                          refine L.rd (rd_assign rfl) rfl ?_
                          refine L.nil ?_
                          refine X.sq ?_
                          refine V.seq ?_
                          refine V.seq ?_
                          refine V.region ?_
                          refine L.rd (rd_move rfl) rfl ?_
                          first | refine L.rd (rd_not rfl) rfl ?_ | refine L.rd (rd_notB rfl) rfl ?_
                          refine L.rd (rd_move rfl) rfl ?_
                          first | refine L.partG rfl rfl (fun g145 => ?_) (fun g145 => ?_) | refine L.partGB rfl rfl (fun g145 => ?_) (fun g145 => ?_)
                          ·
                            cases g145
                          ·
                            refine L.yes rfl rfl ?_
                            refine L.rd (rd_fieldAddr tok rfl rfl rfl rfl rfl rfl) rfl ?_
                            refine L.yes rfl rfl ?_
                            refine L.rd (rd_load1 tok rfl rfl rfl (hb4.cell (i := 3) rfl)) rfl ?_
                            refine L.yes rfl rfl ?_
                            refine L.rd (rd_move rfl) rfl ?_
                            refine L.yes rfl rfl ?_
                            (refine L.rd (rd_sub3 rfl rfl ?_) rfl ?_; omega)
                            refine L.yes rfl rfl ?_
                            refine L.rd (rd_move rfl) rfl ?_
                            refine L.yes rfl rfl ?_
                            (refine L.rd (rd_sub3 rfl rfl ?_) rfl ?_; omega)
                            refine L.yes rfl rfl ?_
                            refine L.rd (rd_neq rfl rfl) rfl ?_
                            refine L.rd (rd_pickF rfl rfl) rfl ?_
                            refine L.nil ?_
                            refine X.sq ?_
                            first | refine V.cond rfl (fun h153 => ?_) (fun h153 => ?_) | refine V.condB rfl (fun h153 => ?_) (fun h153 => ?_)
                            ·
                              refine V.seq ?_
                              refine V.region ?_
                              refine L.rd (rd_assign rfl) rfl ?_
                              refine L.rd (rd_assign rfl) rfl ?_
                              refine L.nil ?_
                              refine X.sq ?_
                              refine V.ret ?_
                              refine X.sqRet ?_
                              refine X.bkRet ?_
                              refine X.sqRet ?_
                              refine ret_2 Yaam.results83 rfl rfl ?_
                              exfalso; omega
                            ·
                              refine V.skip ?_
                              refine X.sq ?_
                              refine V.seq ?_
                              refine V.region ?_
                              refine L.rd (rd_move rfl) rfl ?_
                              refine L.rd (rd_fieldAddr tok rfl rfl rfl rfl rfl rfl) rfl ?_
                              refine L.rd (rd_load1 tok rfl rfl rfl (hb4.cell (i := 3) rfl)) rfl ?_
                              refine L.ef (e_call rfl (ih1 b _ _ hw1 hat1 rfl hE4) rfl ?_)
                              rintro _ w5 ⟨rfl, he5⟩
                              refine L.rd (rd_move rfl) rfl ?_
                              refine L.rd (rd_ext0 rfl) rfl ?_
                              refine L.rd (rd_ext1 rfl) rfl ?_
                              refine L.rd (rd_assign rfl) rfl ?_
                              refine L.rd (rd_assign rfl) rfl ?_
                              refine L.nil ?_
                              refine X.sq ?_
                              refine V.seq ?_
                              refine V.seq ?_
                              refine V.region ?_
                              refine L.rd (rd_move rfl) rfl ?_
                              first | refine L.rd (rd_not rfl) rfl ?_ | refine L.rd (rd_notB rfl) rfl ?_
                              refine L.nil ?_
                              refine X.sq ?_
                              first | refine V.cond rfl (fun h162 => ?_) (fun h162 => ?_) | refine V.condB rfl (fun h162 => ?_) (fun h162 => ?_)
                              ·
                                cases h162
                              ·
                                refine V.skip ?_
                                refine X.sq ?_
                                refine V.seq ?_
                                refine V.region ?_
                                refine L.rd (rd_move rfl) rfl ?_
                                (refine L.rd (rd_add3 rfl rfl ?_) rfl ?_; omega)
                                refine L.rd (rd_move rfl) rfl ?_
                                (refine L.rd (rd_add3 rfl rfl ?_) rfl ?_; omega)
                                refine L.rd (rd_assign rfl) rfl ?_
                                refine L.rd (rd_assign rfl) rfl ?_
                                refine L.nil ?_
                                refine X.sq ?_
                                refine V.ret ?_
                                refine X.bkRet ?_
                                refine X.sqRet ?_
                                refine ret_2 Yaam.results83 rfl rfl ?_
                                refine ⟨?_, he34.next he5⟩
                                have e : ((1 + tsz (c 0) + tsz (c 1) : Nat) : Int) = 1 + (tsz (c 1) : Int) + (tsz (c 0) : Int) := by omega
                                rw [e]
                  ·
                    exact absurd h117 h117_
                ·
                  refine V.seq ?_
                  refine V.region ?_
                  refine L.rd (rd_eql rfl rfl) rfl ?_
                  refine L.rd (rd_assign rfl) rfl ?_
                  refine L.nil ?_
                  refine X.sq ?_
                  first | refine V.cond rfl (fun h117 => ?_) (fun h117 => ?_) | refine V.condB rfl (fun h117 => ?_) (fun h117 => ?_)
                  ·
                    refine V.skip ?_
                    refine X.sq ?_
                    first | refine V.cond rfl (fun h117_ => ?_) (fun h117_ => ?_) | refine V.condB rfl (fun h117_ => ?_) (fun h117_ => ?_)
                    ·
                      refine V.seq ?_
                      refine V.seq ?_
                      refine V.region ?_
                      refine L.rd (rd_fieldAddr tok rfl rfl rfl rfl rfl rfl) rfl ?_
                      refine L.rd (rd_load1 tok rfl rfl rfl (hb3.cell (i := 1) rfl)) rfl ?_
                      refine L.rd (rd_neq rfl rfl) rfl ?_
                      refine L.rd (rd_move rfl) rfl ?_
                      first | refine L.partG rfl rfl (fun g124 => ?_) (fun g124 => ?_) | refine L.partGB rfl rfl (fun g124 => ?_) (fun g124 => ?_)
                      ·
                        refine L.no rfl rfl rfl rfl ?_
                        refine L.no rfl rfl rfl rfl ?_
                        refine L.no rfl rfl rfl rfl ?_
                        refine L.rd (rd_pickT rfl rfl) rfl ?_
                        refine L.rd (rd_move rfl) rfl ?_
                        refine L.no rfl rfl rfl rfl ?_
                        refine L.no rfl rfl rfl rfl ?_
                        refine L.no rfl rfl rfl rfl ?_
                        refine L.no rfl rfl rfl rfl ?_
                        refine L.no rfl rfl rfl rfl ?_
                        refine L.rd (rd_pickT rfl rfl) rfl ?_
                        refine L.nil ?_
                        refine X.sq ?_
                        refine V.condT rfl ?_
                        refine V.seq ?_
                        refine V.region ?_
                        refine L.rd (rd_assign rfl) rfl ?_
                        refine L.rd (rd_assign rfl) rfl ?_
                        refine L.nil ?_
                        refine X.sq ?_
                        refine V.ret ?_
                        refine X.sqRet ?_
                        refine X.bkRet ?_
                        refine X.sqRet ?_
                        refine ret_2 Yaam.results83 rfl rfl ?_
                        exfalso; omega
                      ·
                        refine L.yes rfl rfl ?_
                        refine L.rd (rd_fieldAddr tok rfl rfl rfl rfl rfl rfl) rfl ?_
                        refine L.yes rfl rfl ?_
                        refine L.rd (rd_load1 tok rfl rfl rfl (hb3.cell (i := 2) rfl)) rfl ?_
                        refine L.yes rfl rfl ?_
                        refine L.rd (rd_neq rfl rfl) rfl ?_
                        refine L.rd (rd_pickF rfl rfl) rfl ?_
                        refine L.rd (rd_move rfl) rfl ?_
                        first | refine L.partG rfl rfl (fun g129 => ?_) (fun g129 => ?_) | refine L.partGB rfl rfl (fun g129 => ?_) (fun g129 => ?_)
                        ·
                          refine L.no rfl rfl rfl rfl ?_
                          refine L.no rfl rfl rfl rfl ?_
                          refine L.no rfl rfl rfl rfl ?_
                          refine L.no rfl rfl rfl rfl ?_
                          refine L.no rfl rfl rfl rfl ?_
                          refine L.rd (rd_pickT rfl rfl) rfl ?_
                          refine L.nil ?_
                          refine X.sq ?_
                          refine V.condT rfl ?_
                          refine V.seq ?_
                          refine V.region ?_
                          refine L.rd (rd_assign rfl) rfl ?_
                          refine L.rd (rd_assign rfl) rfl ?_
                          refine L.nil ?_
                          refine X.sq ?_
                          refine V.ret ?_
                          refine X.sqRet ?_
                          refine X.bkRet ?_
                          refine X.sqRet ?_
                          refine ret_2 Yaam.results83 rfl rfl ?_
                          exfalso; omega
                        ·
                          refine L.yes rfl rfl ?_
                          refine L.rd (rd_fieldAddr tok rfl rfl rfl rfl rfl rfl) rfl ?_
                          refine L.yes rfl rfl ?_
                          refine L.rd (rd_load1 tok rfl rfl rfl (hb3.cell (i := 4) rfl)) rfl ?_
                          refine L.yes rfl rfl ?_
                          refine L.rd (rd_move rfl) rfl ?_
                          refine L.yes rfl rfl ?_
                          (refine L.rd (rd_sub3 rfl rfl ?_) rfl ?_; omega)
                          refine L.yes rfl rfl ?_
                          refine L.rd (rd_neq rfl rfl) rfl ?_
                          refine L.rd (rd_pickF rfl rfl) rfl ?_
                          refine L.nil ?_
                          refine X.sq ?_
                          first | refine V.cond rfl (fun h135 => ?_) (fun h135 => ?_) | refine V.condB rfl (fun h135 => ?_) (fun h135 => ?_)
                          ·
                            refine V.seq ?_
                            refine V.region ?_
                            refine L.rd (rd_assign rfl) rfl ?_
                            refine L.rd (rd_assign rfl) rfl ?_
                            refine L.nil ?_
                            refine X.sq ?_
                            refine V.ret ?_
                            refine X.sqRet ?_
                            refine X.bkRet ?_
                            refine X.sqRet ?_
                            refine ret_2 Yaam.results83 rfl rfl ?_
                            exfalso; omega
                          ·
                            refine V.skip ?_
                            refine X.sq ?_
                            refine V.seq ?_
                            refine V.region ?_
                            refine L.rd (rd_move rfl) rfl ?_
                            refine L.rd (rd_move rfl) rfl ?_
                            (refine L.rd (rd_sub3 rfl rfl ?_) rfl ?_; omega)
                            refine L.ef (e_call rfl (ih2 (b + tsz (c 0)) _ _ hw2 hat2 (by omega) hE3) rfl ?_)
                            rintro _ w4 ⟨rfl, he4⟩
                            have hb4 := he4.bl hb3.lt hb3
                            have hE4 := hE3.next he4
                            have he34 := he3.next he4
                            refine L.rd (rd_move rfl) rfl ?_
                            refine L.rd (rd_ext0 rfl) rfl ?_
                            refine L.rd (rd_ext1 rfl) rfl ?_
                            refine L.rd (rd_assign rfl) rfl ?_
                            refine L.rd (rd_assign rfl) rfl ?_
                            refine L.nil ?_
                            refine X.sq ?_
                            refine V.seq ?_
                            refine V.seq ?_
                            refine V.region ?_
                            refine L.rd (rd_move rfl) rfl ?_
                            first | refine L.rd (rd_not rfl) rfl ?_ | refine L.rd (rd_notB rfl) rfl ?_
                            refine L.rd (rd_move rfl) rfl ?_
                            first | refine L.partG rfl rfl (fun g145 => ?_) (fun g145 => ?_) | refine L.partGB rfl rfl (fun g145 => ?_) (fun g145 => ?_)
                            ·
                              cases g145
                            ·
                              refine L.yes rfl rfl ?_
                              refine L.rd (rd_fieldAddr tok rfl rfl rfl rfl rfl rfl) rfl ?_
                              refine L.yes rfl rfl ?_
                              refine L.rd (rd_load1 tok rfl rfl rfl (hb4.cell (i := 3) rfl)) rfl ?_
                              refine L.yes rfl rfl ?_
                              refine L.rd (rd_move rfl) rfl ?_
                              refine L.yes rfl rfl ?_
                              (refine L.rd (rd_sub3 rfl rfl ?_) rfl ?_; omega)
                              refine L.yes rfl rfl ?_
                              refine L.rd (rd_move rfl) rfl ?_
                              refine L.yes rfl rfl ?_
                              (refine L.rd (rd_sub3 rfl rfl ?_) rfl ?_; omega)
                              refine L.yes rfl rfl ?_
                              refine L.rd (rd_neq rfl rfl) rfl ?_
                              refine L.rd (rd_pickF rfl rfl) rfl ?_
                              refine L.nil ?_
                              refine X.sq ?_
                              first | refine V.cond rfl (fun h153 => ?_) (fun h153 => ?_) | refine V.condB rfl (fun h153 => ?_) (fun h153 => ?_)
                              ·
                                refine V.seq ?_
                                refine V.region ?_
                                refine L.rd (rd_assign rfl) rfl ?_
                                refine L.rd (rd_assign rfl) rfl ?_
                                refine L.nil ?_
                                refine X.sq ?_
                                refine V.ret ?_
                                refine X.sqRet ?_
                                refine X.bkRet ?_
                                refine X.sqRet ?_
                                refine ret_2 Yaam.results83 rfl rfl ?_
                                exfalso; omega
                              ·
                                refine V.skip ?_
                                refine X.sq ?_
                                refine V.seq ?_
                                refine V.region ?_
                                refine L.rd (rd_move rfl) rfl ?_
                                refine L.rd (rd_fieldAddr tok rfl rfl rfl rfl rfl rfl) rfl ?_
                                refine L.rd (rd_load1 tok rfl rfl rfl (hb4.cell (i := 3) rfl)) rfl ?_
                                refine L.ef (e_call rfl (ih1 b _ _ hw1 hat1 rfl hE4) rfl ?_)
                                rintro _ w5 ⟨rfl, he5⟩
                                refine L.rd (rd_move rfl) rfl ?_
                                refine L.rd (rd_ext0 rfl) rfl ?_
                                refine L.rd (rd_ext1 rfl) rfl ?_
                                refine L.rd (rd_assign rfl) rfl ?_
                                refine L.rd (rd_assign rfl) rfl ?_
                                refine L.nil ?_
                                refine X.sq ?_
                                refine V.seq ?_
                                refine V.seq ?_
                                refine V.region ?_
                                refine L.rd (rd_move rfl) rfl ?_
                                first | refine L.rd (rd_not rfl) rfl ?_ | refine L.rd (rd_notB rfl) rfl ?_
                                refine L.nil ?_
                                refine X.sq ?_
                                first | refine V.cond rfl (fun h162 => ?_) (fun h162 => ?_) | refine V.condB rfl (fun h162 => ?_) (fun h162 => ?_)
                                ·
                                  cases h162
                                ·
                                  refine V.skip ?_
                                  refine X.sq ?_
                                  refine V.seq ?_
                                  refine V.region ?_
                                  refine L.rd (rd_move rfl) rfl ?_
                                  (refine L.rd (rd_add3 rfl rfl ?_) rfl ?_; omega)
                                  refine L.rd (rd_move rfl) rfl ?_
                                  (refine L.rd (rd_add3 rfl rfl ?_) rfl ?_; omega)
                                  refine L.rd (rd_assign rfl) rfl ?_
                                  refine L.rd (rd_assign rfl) rfl ?_
                                  refine L.nil ?_
                                  refine X.sq ?_
                                  refine V.ret ?_
                                  refine X.bkRet ?_
                                  refine X.sqRet ?_
                                  refine ret_2 Yaam.results83 rfl rfl ?_
                                  refine ⟨?_, he34.next he5⟩
                                  have e : ((1 + tsz (c 0) + tsz (c 1) : Nat) : Int) = 1 + (tsz (c 1) : Int) + (tsz (c 0) : Int) := by omega
                                  rw [e]
                    ·
                      exact absurd h117 h117_
                  ·
                    refine V.region ?_
                    refine L.rd (rd_eql rfl rfl) rfl ?_
                    refine L.rd (rd_assign rfl) rfl ?_
                    refine L.nil ?_
                    refine X.sq ?_
                    first | refine V.cond rfl (fun h117 => ?_) (fun h117 => ?_) | refine V.condB rfl (fun h117 => ?_) (fun h117 => ?_)
                    ·
                      refine V.seq ?_
                      refine V.seq ?_
                      refine V.region ?_
                      refine L.rd (rd_fieldAddr tok rfl rfl rfl rfl rfl rfl) rfl ?_
                      refine L.rd (rd_load1 tok rfl rfl rfl (hb3.cell (i := 1) rfl)) rfl ?_
                      refine L.rd (rd_neq rfl rfl) rfl ?_
                      refine L.rd (rd_move rfl) rfl ?_
                      first | refine L.partG rfl rfl (fun g124 => ?_) (fun g124 => ?_) | refine L.partGB rfl rfl (fun g124 => ?_) (fun g124 => ?_)
                      ·
                        refine L.no rfl rfl rfl rfl ?_
                        refine L.no rfl rfl rfl rfl ?_
                        refine L.no rfl rfl rfl rfl ?_
                        refine L.rd (rd_pickT rfl rfl) rfl ?_
                        refine L.rd (rd_move rfl) rfl ?_
                        refine L.no rfl rfl rfl rfl ?_
                        refine L.no rfl rfl rfl rfl ?_
                        refine L.no rfl rfl rfl rfl ?_
                        refine L.no rfl rfl rfl rfl ?_
                        refine L.no rfl rfl rfl rfl ?_
                        refine L.rd (rd_pickT rfl rfl) rfl ?_
                        refine L.nil ?_
                        refine X.sq ?_
                        refine V.condT rfl ?_
                        refine V.seq ?_
                        refine V.region ?_
                        refine L.rd (rd_assign rfl) rfl ?_
                        refine L.rd (rd_assign rfl) rfl ?_
                        refine L.nil ?_
                        refine X.sq ?_
                        refine V.ret ?_
                        refine X.sqRet ?_
                        refine X.bkRet ?_
                        refine X.sqRet ?_
                        refine ret_2 Yaam.results83 rfl rfl ?_
                        exfalso; omega
                      ·
                        refine L.yes rfl rfl ?_
                        refine L.rd (rd_fieldAddr tok rfl rfl rfl rfl rfl rfl) rfl ?_
                        refine L.yes rfl rfl ?_
                        refine L.rd (rd_load1 tok rfl rfl rfl (hb3.cell (i := 2) rfl)) rfl ?_
                        refine L.yes rfl rfl ?_
                        refine L.rd (rd_neq rfl rfl) rfl ?_
                        refine L.rd (rd_pickF rfl rfl) rfl ?_
                        refine L.rd (rd_move rfl) rfl ?_
                        first | refine L.partG rfl rfl (fun g129 => ?_) (fun g129 => ?_) | refine L.partGB rfl rfl (fun g129 => ?_) (fun g129 => ?_)
                        ·
                          refine L.no rfl rfl rfl rfl ?_
                          refine L.no rfl rfl rfl rfl ?_
                          refine L.no rfl rfl rfl rfl ?_
                          refine L.no rfl rfl rfl rfl ?_
                          refine L.no rfl rfl rfl rfl ?_
                          refine L.rd (rd_pickT rfl rfl) rfl ?_
                          refine L.nil ?_
                          refine X.sq ?_
                          refine V.condT rfl ?_
                          refine V.seq ?_
                          refine V.region ?_
                          refine L.rd (rd_assign rfl) rfl ?_
                          refine L.rd (rd_assign rfl) rfl ?_
                          refine L.nil ?_
                          refine X.sq ?_
                          refine V.ret ?_
                          refine X.sqRet ?_
                          refine X.bkRet ?_
                          refine X.sqRet ?_
                          refine ret_2 Yaam.results83 rfl rfl ?_
                          exfalso; omega
                        ·
                          refine L.yes rfl rfl ?_
                          refine L.rd (rd_fieldAddr tok rfl rfl rfl rfl rfl rfl) rfl ?_
                          refine L.yes rfl rfl ?_
                          refine L.rd (rd_load1 tok rfl rfl rfl (hb3.cell (i := 4) rfl)) rfl ?_
                          refine L.yes rfl rfl ?_
                          refine L.rd (rd_move rfl) rfl ?_
                          refine L.yes rfl rfl ?_
                          (refine L.rd (rd_sub3 rfl rfl ?_) rfl ?_; omega)
                          refine L.yes rfl rfl ?_
                          refine L.rd (rd_neq rfl rfl) rfl ?_
                          refine L.rd (rd_pickF rfl rfl) rfl ?_
                          refine L.nil ?_
                          refine X.sq ?_
                          first | refine V.cond rfl (fun h135 => ?_) (fun h135 => ?_) | refine V.condB rfl (fun h135 => ?_) (fun h135 => ?_)
                          ·
                            refine V.seq ?_
                            refine V.region ?_
                            refine L.rd (rd_assign rfl) rfl ?_
                            refine L.rd (rd_assign rfl) rfl ?_
                            refine L.nil ?_
                            refine X.sq ?_
                            refine V.ret ?_
                            refine X.sqRet ?_
                            refine X.bkRet ?_
                            refine X.sqRet ?_
                            refine ret_2 Yaam.results83 rfl rfl ?_
                            exfalso; omega
                          ·
                            refine V.skip ?_
                            refine X.sq ?_
                            refine V.seq ?_
                            refine V.region ?_
                            refine L.rd (rd_move rfl) rfl ?_
                            refine L.rd (rd_move rfl) rfl ?_
                            (refine L.rd (rd_sub3 rfl rfl ?_) rfl ?_; omega)
                            refine L.ef (e_call rfl (ih2 (b + tsz (c 0)) _ _ hw2 hat2 (by omega) hE3) rfl ?_)
                            rintro _ w4 ⟨rfl, he4⟩
                            have hb4 := he4.bl hb3.lt hb3
                            have hE4 := hE3.next he4
                            have he34 := he3.next he4
                            refine L.rd (rd_move rfl) rfl ?_
                            refine L.rd (rd_ext0 rfl) rfl ?_
                            refine L.rd (rd_ext1 rfl) rfl ?_
                            refine L.rd (rd_assign rfl) rfl ?_
                            refine L.rd (rd_assign rfl) rfl ?_
                            refine L.nil ?_
                            refine X.sq ?_
                            refine V.seq ?_
                            refine V.seq ?_
                            refine V.region ?_
                            refine L.rd (rd_move rfl) rfl ?_
                            first | refine L.rd (rd_not rfl) rfl ?_ | refine L.rd (rd_notB rfl) rfl ?_
                            refine L.rd (rd_move rfl) rfl ?_
                            first | refine L.partG rfl rfl (fun g145 => ?_) (fun g145 => ?_) | refine L.partGB rfl rfl (fun g145 => ?_) (fun g145 => ?_)
                            ·
                              cases g145
                            ·
                              refine L.yes rfl rfl ?_
                              refine L.rd (rd_fieldAddr tok rfl rfl rfl rfl rfl rfl) rfl ?_
                              refine L.yes rfl rfl ?_
                              refine L.rd (rd_load1 tok rfl rfl rfl (hb4.cell (i := 3) rfl)) rfl ?_
                              refine L.yes rfl rfl ?_
                              refine L.rd (rd_move rfl) rfl ?_
                              refine L.yes rfl rfl ?_
                              (refine L.rd (rd_sub3 rfl rfl ?_) rfl ?_; omega)
                              refine L.yes rfl rfl ?_
                              refine L.rd (rd_move rfl) rfl ?_
                              refine L.yes rfl rfl ?_
                              (refine L.rd (rd_sub3 rfl rfl ?_) rfl ?_; omega)
                              refine L.yes rfl rfl ?_
                              refine L.rd (rd_neq rfl rfl) rfl ?_
                              refine L.rd (rd_pickF rfl rfl) rfl ?_
                              refine L.nil ?_
                              refine X.sq ?_
                              first | refine V.cond rfl (fun h153 => ?_) (fun h153 => ?_) | refine V.condB rfl (fun h153 => ?_) (fun h153 => ?_)
                              ·
                                refine V.seq ?_
                                refine V.region ?_
                                refine L.rd (rd_assign rfl) rfl ?_
                                refine L.rd (rd_assign rfl) rfl ?_
                                refine L.nil ?_
                                refine X.sq ?_
                                refine V.ret ?_
                                refine X.sqRet ?_
                                refine X.bkRet ?_
                                refine X.sqRet ?_
                                refine ret_2 Yaam.results83 rfl rfl ?_
                                exfalso; omega
                              ·
                                refine V.skip ?_
                                refine X.sq ?_
                                refine V.seq ?_
                                refine V.region ?_
                                refine L.rd (rd_move rfl) rfl ?_
                                refine L.rd (rd_fieldAddr tok rfl rfl rfl rfl rfl rfl) rfl ?_
                                refine L.rd (rd_load1 tok rfl rfl rfl (hb4.cell (i := 3) rfl)) rfl ?_
                                refine L.ef (e_call rfl (ih1 b _ _ hw1 hat1 rfl hE4) rfl ?_)
                                rintro _ w5 ⟨rfl, he5⟩
                                refine L.rd (rd_move rfl) rfl ?_
                                refine L.rd (rd_ext0 rfl) rfl ?_
                                refine L.rd (rd_ext1 rfl) rfl ?_
                                refine L.rd (rd_assign rfl) rfl ?_
                                refine L.rd (rd_assign rfl) rfl ?_
                                refine L.nil ?_
                                refine X.sq ?_
                                refine V.seq ?_
                                refine V.seq ?_
                                refine V.region ?_
                                refine L.rd (rd_move rfl) rfl ?_
                                first | refine L.rd (rd_not rfl) rfl ?_ | refine L.rd (rd_notB rfl) rfl ?_
                                refine L.nil ?_
                                refine X.sq ?_
                                first | refine V.cond rfl (fun h162 => ?_) (fun h162 => ?_) | refine V.condB rfl (fun h162 => ?_) (fun h162 => ?_)
                                ·
                                  cases h162
                                ·
                                  refine V.skip ?_
                                  refine X.sq ?_
                                  refine V.seq ?_
                                  refine V.region ?_
                                  refine L.rd (rd_move rfl) rfl ?_
                                  (refine L.rd (rd_add3 rfl rfl ?_) rfl ?_; omega)
                                  refine L.rd (rd_move rfl) rfl ?_
                                  (refine L.rd (rd_add3 rfl rfl ?_) rfl ?_; omega)
                                  refine L.rd (rd_assign rfl) rfl ?_
                                  refine L.rd (rd_assign rfl) rfl ?_
                                  refine L.nil ?_
                                  refine X.sq ?_
                                  refine V.ret ?_
                                  refine X.bkRet ?_
                                  refine X.sqRet ?_
                                  refine ret_2 Yaam.results83 rfl rfl ?_
                                  refine ⟨?_, he34.next he5⟩
                                  have e : ((1 + tsz (c 0) + tsz (c 1) : Nat) : Int) = 1 + (tsz (c 1) : Int) + (tsz (c 0) : Int) := by omega
                                  rw [e]
                    ·
                      refine V.skip ?_
                      refine X.bk ?_
                      refine X.sq ?_
                      refine V.seq ?_
                      exfalso
                      omega

theorem swf_ok (t : Tre) (hw : Wt t) (hz : tsz t ≤ 500000) (nv : Value) (w : World) (hN : Rs w 5 nv (flat t 0).length ((flat t 0).flatMap ndE)) : Ret Yaam.prog 44 [.agg #[nv, .int .i64 ((tsz t : Int) - 1)]] w fun r w' => r = .bool true ∧ Ext w.heap.size w w' := by
  obtain ⟨na, nc, rfl, hfn⟩ := id hN.form
  have hfl := flat_len t 0
  have htp := tsz_pos t
  refine enter1 Yaam.func44 Yaam.ntmps44 (by kernel_rfl) rfl rfl ?_
  refine V.seq ?_
  refine V.region ?_
  refine L.ef (e_box (cs := [_, _]) rfl rfl (by first | (simp only [size_addB, size_setB, size_drew]; rfl) | rfl) rfl ?_)
  refine L.rd (rd_assign rfl) rfl ?_
  refine L.nil ?_
  refine X.sq ?_
  refine V.seq ?_
  have hp := Bl.new w 34 [.slice na (flat t 0).length nc, .int .i64 ((tsz t : Int) - 1)]
  have hE := (Ext.refl _ w).addNew 34 [.slice na (flat t 0).length nc, .int .i64 ((tsz t : Int) - 1)]
  generalize addB w 34 [.slice na (flat t 0).length nc, .int .i64 ((tsz t : Int) - 1)] = w0 at hp hE ⊢
  refine V.region ?_
  refine L.rd (rd_fieldAddr tok rfl rfl rfl rfl rfl rfl) rfl ?_
  refine L.rd (rd_load1 tok rfl rfl rfl (hp.cell rfl)) rfl ?_
  refine L.rd (rd_lenSlice tok rfl rfl rfl) rfl ?_
  refine L.rd (rd_assign rfl) rfl ?_
  refine L.nil ?_
  refine X.sq ?_
  refine V.seq ?_
  refine V.seq ?_
  refine V.region ?_
  refine L.rd (rd_move rfl) rfl ?_
  refine L.rd (rd_lss rfl rfl) rfl ?_
  refine L.rd (rd_move rfl) rfl ?_
  first | refine L.partG rfl rfl (fun g11 => ?_) (fun g11 => ?_) | refine L.partGB rfl rfl (fun g11 => ?_) (fun g11 => ?_)
  ·
    refine L.no rfl rfl rfl rfl ?_
    refine L.no rfl rfl rfl rfl ?_
    refine L.rd (rd_pickT rfl rfl) rfl ?_
    refine L.rd (rd_move rfl) rfl ?_
    refine L.no rfl rfl rfl rfl ?_
    refine L.no rfl rfl rfl rfl ?_
    refine L.no rfl rfl rfl rfl ?_
    refine L.no rfl rfl rfl rfl ?_
    refine L.no rfl rfl rfl rfl ?_
    refine L.rd (rd_pickT rfl rfl) rfl ?_
    refine L.nil ?_
    refine X.sq ?_
    refine V.condT rfl ?_
    refine V.seq ?_
    refine V.region ?_
    refine L.rd (rd_assign rfl) rfl ?_
    refine L.nil ?_
    refine X.sq ?_
    refine V.ret ?_
    refine X.sqRet ?_
    refine ret_1 Yaam.results44 rfl ?_
    exfalso; omega
  ·
    refine L.yes rfl rfl ?_
    refine L.rd (rd_move rfl) rfl ?_
    refine L.yes rfl rfl ?_
    refine L.rd (rd_gtr rfl rfl) rfl ?_
    refine L.rd (rd_pickF rfl rfl) rfl ?_
    refine L.rd (rd_move rfl) rfl ?_
    first | refine L.partG rfl rfl (fun g15 => ?_) (fun g15 => ?_) | refine L.partGB rfl rfl (fun g15 => ?_) (fun g15 => ?_)
    ·
      refine L.no rfl rfl rfl rfl ?_
      refine L.no rfl rfl rfl rfl ?_
      refine L.no rfl rfl rfl rfl ?_
      refine L.no rfl rfl rfl rfl ?_
      refine L.no rfl rfl rfl rfl ?_
      refine L.rd (rd_pickT rfl rfl) rfl ?_
      refine L.nil ?_
      refine X.sq ?_
      refine V.condT rfl ?_
      refine V.seq ?_
      refine V.region ?_
      refine L.rd (rd_assign rfl) rfl ?_
      refine L.nil ?_
      refine X.sq ?_
      refine V.ret ?_
      refine X.sqRet ?_
      refine ret_1 Yaam.results44 rfl ?_
      exfalso; omega
    ·
      refine L.yes rfl rfl ?_
      refine L.rd (rd_fieldAddr tok rfl rfl rfl rfl rfl rfl) rfl ?_
      refine L.yes rfl rfl ?_
      refine L.rd (rd_load1 tok rfl rfl rfl (hp.cell (i := 1) rfl)) rfl ?_
      refine L.yes rfl rfl ?_
      refine L.rd (rd_move rfl) rfl ?_
      refine L.yes rfl rfl ?_
      (refine L.rd (rd_sub3 rfl rfl ?_) rfl ?_; omega)
      refine L.yes rfl rfl ?_
      refine L.rd (rd_neq rfl rfl) rfl ?_
      refine L.rd (rd_pickF rfl rfl) rfl ?_
      refine L.nil ?_
      refine X.sq ?_
      first | refine V.cond rfl (fun h21 => ?_) (fun h21 => ?_) | refine V.condB rfl (fun h21 => ?_) (fun h21 => ?_)
      ·
        refine V.seq ?_
        refine V.region ?_
        refine L.rd (rd_assign rfl) rfl ?_
        refine L.nil ?_
        refine X.sq ?_
        refine V.ret ?_
        refine X.sqRet ?_
        refine ret_1 Yaam.results44 rfl ?_
        exfalso; omega
      ·
        refine V.skip ?_
        refine X.sq ?_
        refine V.seq ?_
        refine V.region ?_
        refine L.rd (rd_fieldAddr tok rfl rfl rfl rfl rfl rfl) rfl ?_
        refine L.rd (rd_load1 tok rfl rfl rfl (hp.cell rfl)) rfl ?_
        refine L.rd (rd_move rfl) rfl ?_
        (refine L.rd (rd_sub3 rfl rfl ?_) rfl ?_; omega)
        refine L.ef (e_call rfl (wfSub_ok (flat t 0) _ w hN (by omega) t 0 _ _ hw (fun j nd h => by rw [Nat.zero_add]; exact h) (by omega) hE) rfl ?_)
        rintro _ w1 ⟨rfl, he1⟩
        refine L.rd (rd_move rfl) rfl ?_
        refine L.rd (rd_ext0 rfl) rfl ?_
        refine L.rd (rd_ext1 rfl) rfl ?_
        refine L.rd (rd_assign rfl) rfl ?_
        refine L.rd (rd_assign rfl) rfl ?_
        refine L.nil ?_
        refine X.sq ?_
        refine V.seq ?_
        refine V.region ?_
        refine L.rd (rd_move rfl) rfl ?_
        refine L.rd (rd_move rfl) rfl ?_
        first | refine L.partG rfl rfl (fun g31 => ?_) (fun g31 => ?_) | refine L.partGB rfl rfl (fun g31 => ?_) (fun g31 => ?_)
        ·
          refine L.yes rfl rfl ?_
          refine L.rd (rd_move rfl) rfl ?_
          refine L.yes rfl rfl ?_
          refine L.rd (rd_move rfl) rfl ?_
          refine L.yes rfl rfl ?_
          refine L.rd (rd_eql rfl rfl) rfl ?_
          refine L.rd (rd_pickT rfl rfl) rfl ?_
          refine L.rd (rd_assign rfl) rfl ?_
          refine L.nil ?_
          refine X.sq ?_
          refine V.ret ?_
          refine ret_1 Yaam.results44 rfl ?_
          exact ⟨congrArg Value.bool (decide_eq_true (by omega)), hE.next he1⟩
        ·
          cases g31
end Go.Proofs.YbxaawGreat
