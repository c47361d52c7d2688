/-
  impl.Parse and spec.Parse, walked.
-/
import Derived.Test.YbxaawGreatPrsP2
import Derived.Test.YbxaawGreatIPrsW3
import Derived.Test.YbxaawGreatFlatW
set_option linter.unusedVariables false
set_option linter.unusedSimpArgs false
set_option maxRecDepth 10000
namespace Go.Proofs.YbxaawGreat
open Go.Mw

theorem iparse_ok (tv : Value) (ts : List TK) (w : World) (hT : Rr w 0 w.heap.size 2 tv ts.length (prC ts)) : Ret Yaam.prog 11 [tv] w (XPost 80 (parseP ts) w) := by
  obtain ⟨ta, tc, rfl, hft⟩ := hT.form
  refine enter1 Yaam.func11 Yaam.ntmps11 (by kernel_rfl) rfl rfl ?_
  refine V.seq ?_
  refine V.region ?_
  refine L.ef (e_alloc (cs := [_, _]) tok rfl rfl (by first | (simp only [size_addB, size_setB, size_drew]; rfl) | rfl) rfl ?_)
  refine L.rd (rd_assign rfl) rfl ?_
  refine L.nil ?_
  refine X.sq ?_
  refine V.seq ?_
  refine V.seq ?_
  have hr0 := Bl.new w 34 [.slice none 0 0, .int .i64 0]
  have hE0 := (Ext.refl _ w).addNew 34 [.slice none 0 0, .int .i64 0]
  have hs0 := size_addB w 34 [.slice none 0 0, .int .i64 0]
  generalize addB w 34 [.slice none 0 0, .int .i64 0] = w0 at hr0 hE0 hs0 ⊢
  refine V.region ?_
  refine L.rd (rd_move rfl) rfl ?_
  refine L.rd (rd_lenSlice tok rfl rfl rfl) rfl ?_
  refine L.rd (rd_eql rfl rfl) rfl ?_
  refine L.rd (rd_move rfl) rfl ?_
  first | refine L.partG rfl rfl (fun g12 => ?_) (fun g12 => ?_) | refine L.partGB rfl rfl (fun g12 => ?_) (fun g12 => ?_)
  ·
    refine L.no rfl rfl rfl rfl ?_
    refine L.no rfl rfl rfl rfl ?_
    refine L.no rfl rfl rfl rfl ?_
    refine L.rd (rd_pickT rfl rfl) rfl ?_
    refine L.nil ?_
    refine X.sq ?_
    refine V.condT rfl ?_
    refine V.seq ?_
    refine V.region ?_
    refine L.rd (rd_build (out := [_, _]) tok rfl rfl rfl rfl rfl) rfl ?_
    refine L.ef (e_store (vs := [_, _]) tok rfl rfl rfl rfl hr0 rfl (by simp [Value.oneCell']) (by simp) ?_)
    refine L.rd (rd_assign rfl) rfl ?_
    refine L.nil ?_
    refine X.sq ?_
    refine V.ret ?_
    refine X.sqRet ?_
    refine ret_c1 tok Yaam.results11 rfl rfl rfl rfl (Bl.cells (hr0.set _ _)) rfl ?_
    exact XPost.bad (parse_bad (by omega)) (hE0.set (by omega) _ _)
  ·
    refine L.yes rfl rfl ?_
    refine L.rd (rd_move rfl) rfl ?_
    refine L.yes rfl rfl ?_
    refine L.rd (rd_lenSlice tok rfl rfl rfl) rfl ?_
    refine L.yes rfl rfl ?_
    refine L.rd (rd_gtr rfl rfl) rfl ?_
    refine L.rd (rd_pickF rfl rfl) rfl ?_
    refine L.nil ?_
    refine X.sq ?_
    first | refine V.cond rfl (fun h16 => ?_) (fun h16 => ?_) | refine V.condB rfl (fun h16 => ?_) (fun h16 => ?_)
    ·
      refine V.seq ?_
      refine V.region ?_
      refine L.rd (rd_build (out := [_, _]) tok rfl rfl rfl rfl rfl) rfl ?_
      refine L.ef (e_store (vs := [_, _]) tok rfl rfl rfl rfl hr0 rfl (by simp [Value.oneCell']) (by simp) ?_)
      refine L.rd (rd_assign rfl) rfl ?_
      refine L.nil ?_
      refine X.sq ?_
      refine V.ret ?_
      refine X.sqRet ?_
      refine ret_c1 tok Yaam.results11 rfl rfl rfl rfl (Bl.cells (hr0.set _ _)) rfl ?_
      exact XPost.bad (parse_bad (by omega)) (hE0.set (by omega) _ _)
    ·
      refine V.skip ?_
      refine X.sq ?_
      refine V.seq ?_
      refine V.seq ?_
      refine V.region ?_
      refine L.rd (rd_move rfl) rfl ?_
      refine L.rd (rd_lenSlice tok rfl rfl rfl) rfl ?_
      refine L.rd (rd_move rfl) rfl ?_
      refine L.nil ?_
      refine X.sq ?_
      refine V.block ?_
      refine V.loop (fun m l wr => ∃ (k : Nat), l = [(0, .slice ta ts.length tc), (2, .pointer (some ⟨w.heap.size, 0, none⟩)), (18, .slice ta ts.length tc), (19, .int .i64 ts.length), (20, .int .i64 k)] ∧ m = ts.length - k ∧ k ≤ ts.length ∧ Ext w.heap.size w wr ∧ Bl wr w.heap.size 34 [.slice none 0 0, .int .i64 0] ∧ (ts.take k).all tokOk = true) ?_ ?_
      ·
        exact ⟨_, _, (by repeat' (first | exact trivial | refine ⟨rfl, ?_⟩)), 0, rfl, rfl, by omega, hE0, hr0, by simp⟩
      ·
        clear hr0 hE0
        rintro m l wr ⟨k, rfl, rfl, hk, hE, hr, hall⟩
        refine V.seq ?_
        refine V.region ?_
        refine L.rd (rd_lss rfl rfl) rfl ?_
        refine L.nil ?_
        refine X.sq ?_
        refine V.seq ?_
        first | refine V.cond rfl (fun h21 => ?_) (fun h21 => ?_) | refine V.condB rfl (fun h21 => ?_) (fun h21 => ?_)
        ·
          obtain ⟨tb, to, rfl, -, -, hct⟩ := hft.resolve_left (by omega)
          obtain ⟨⟨kd, vl⟩, ht⟩ := nth_of_lt ts k (by omega)
          have hcf := (hct.le hE.leC).sub (k * 2) _ (pr_get ts k _ ht)
          refine V.skip ?_
          refine X.sq ?_
          refine V.seq ?_
          refine V.block ?_
          refine V.seq ?_
          refine V.region ?_
          (refine L.rd (rd_indexSlice (sz := 2) tok rfl rfl rfl rfl rfl rfl rfl ?_) rfl ?_; omega)
          refine L.rd (rd_loadN tok rfl rfl rfl hcf rfl) rfl ?_
          refine L.ef (e_alloc (cs := [_, _]) tok rfl rfl (by first | (simp only [size_addB, size_setB, size_drew]; rfl) | rfl) rfl ?_)
          refine L.ef (e_store (vs := [_, _]) tok rfl rfl rfl rfl (by (repeat (first | assumption | (refine Bl.new' ?_ _ _; first | with_reducible rfl | (simp only [size_addB, size_setB, size_drew]; done)) | apply Bl.add | apply Bl.drew | (apply Bl.setNe; omega) | (refine Bl.set' ?_ _ _; (try simp only [size_addB, size_setB, size_drew]); omega)))) rfl (by simp [Value.oneCell']) (by simp) ?_)
          refine L.nil ?_
          refine X.sq ?_
          refine V.seq ?_
          refine V.seq ?_
          generalize hw4 : setB _ _ _ _ = w4
          have hb4 : Bl w4 wr.heap.size 63 [.int .i64 kd, .int .i64 vl] := by rw [← hw4]; refine Bl.set' ?_ _ _; rw [size_addB]; omega
          have he4 : Ext wr.heap.size wr w4 := by rw [← hw4]; exact ((Ext.refl _ _).addNew _ _).set (Nat.le_refl _) _ _
          have hr4 := he4.bl hr.lt hr
          have hE4 := hE.next he4
          refine V.region ?_
          refine L.rd (rd_fieldAddr tok rfl rfl rfl rfl rfl rfl) rfl ?_
          refine L.rd (rd_load1 tok rfl rfl rfl (hb4.cell rfl)) rfl ?_
          refine L.rd (rd_lss rfl rfl) rfl ?_
          refine L.rd (rd_move rfl) rfl ?_
          first | refine L.partG rfl rfl (fun g27 => ?_) (fun g27 => ?_) | refine L.partGB rfl rfl (fun g27 => ?_) (fun g27 => ?_)
          ·
            refine L.no rfl rfl rfl rfl ?_
            refine L.no rfl rfl rfl rfl ?_
            refine L.no rfl rfl rfl rfl ?_
            refine L.rd (rd_pickT rfl rfl) rfl ?_
            refine L.nil ?_
            refine X.sq ?_
            refine V.condT rfl ?_
            refine V.seq ?_
            refine V.region ?_
            refine L.rd (rd_build (out := [_, _]) tok rfl rfl rfl rfl rfl) rfl ?_
            refine L.ef (e_store (vs := [_, _]) tok rfl rfl rfl rfl hr4 rfl (by simp [Value.oneCell']) (by simp) ?_)
            refine L.rd (rd_assign rfl) rfl ?_
            refine L.nil ?_
            refine X.sq ?_
            refine V.ret ?_
            refine X.sqRet ?_
            refine X.bkRet ?_
            refine X.sqRet ?_
            refine X.lpRet ?_
            refine X.bkRet ?_
            refine X.sqRet ?_
            refine ret_c1 tok Yaam.results11 rfl rfl rfl rfl (Bl.cells (hr4.set _ _)) rfl ?_
            exact XPost.bad (parse_bad (.inr (.inr (.inl (tall_bad ht (by unfold tokOk; exact decide_eq_false (by simp only []; omega))))))) (hE4.set (by omega) _ _)
          ·
            refine L.yes rfl rfl ?_
            refine L.rd (rd_fieldAddr tok rfl rfl rfl rfl rfl rfl) rfl ?_
            refine L.yes rfl rfl ?_
            refine L.rd (rd_load1 tok rfl rfl rfl (hb4.cell rfl)) rfl ?_
            refine L.yes rfl rfl ?_
            refine L.rd (rd_gtr rfl rfl) rfl ?_
            refine L.rd (rd_pickF rfl rfl) rfl ?_
            refine L.nil ?_
            refine X.sq ?_
            first | refine V.cond rfl (fun h31 => ?_) (fun h31 => ?_) | refine V.condB rfl (fun h31 => ?_) (fun h31 => ?_)
            ·
              refine V.seq ?_
              refine V.region ?_
              refine L.rd (rd_build (out := [_, _]) tok rfl rfl rfl rfl rfl) rfl ?_
              refine L.ef (e_store (vs := [_, _]) tok rfl rfl rfl rfl hr4 rfl (by simp [Value.oneCell']) (by simp) ?_)
              refine L.rd (rd_assign rfl) rfl ?_
              refine L.nil ?_
              refine X.sq ?_
              refine V.ret ?_
              refine X.sqRet ?_
              refine X.bkRet ?_
              refine X.sqRet ?_
              refine X.lpRet ?_
              refine X.bkRet ?_
              refine X.sqRet ?_
              refine ret_c1 tok Yaam.results11 rfl rfl rfl rfl (Bl.cells (hr4.set _ _)) rfl ?_
              exact XPost.bad (parse_bad (.inr (.inr (.inl (tall_bad ht (by unfold tokOk; exact decide_eq_false (by simp only []; omega))))))) (hE4.set (by omega) _ _)
            ·
              refine V.skip ?_
              refine X.sq ?_
              refine V.seq ?_
              refine V.seq ?_
              refine V.region ?_
              refine L.rd (rd_fieldAddr tok rfl rfl rfl rfl rfl rfl) rfl ?_
              refine L.rd (rd_load1 tok rfl rfl rfl (hb4.cell rfl)) rfl ?_
              refine L.rd (rd_eql rfl rfl) rfl ?_
              refine L.rd (rd_move rfl) rfl ?_
              first | refine L.partG rfl rfl (fun g36 => ?_) (fun g36 => ?_) | refine L.partGB rfl rfl (fun g36 => ?_) (fun g36 => ?_)
              ·
                refine L.yes rfl rfl ?_
                refine L.rd (rd_fieldAddr tok rfl rfl rfl rfl rfl rfl) rfl ?_
                refine L.yes rfl rfl ?_
                refine L.rd (rd_load1 tok rfl rfl rfl (hb4.cell (i := 1) rfl)) rfl ?_
                refine L.yes rfl rfl ?_
                refine L.rd (rd_lss rfl rfl) rfl ?_
                refine L.yes rfl rfl ?_
                refine L.rd (rd_move rfl) rfl ?_
                first | refine L.partG rfl rfl (fun g40 => ?_) (fun g40 => ?_) | refine L.partGB rfl rfl (fun g40 => ?_) (fun g40 => ?_)
                ·
                  refine L.no rfl rfl rfl rfl ?_
                  refine L.no rfl rfl rfl rfl ?_
                  refine L.no rfl rfl rfl rfl ?_
                  refine L.yes rfl rfl ?_
                  refine L.rd (rd_pickT rfl rfl) rfl ?_
                  refine L.rd (rd_pickT rfl rfl) rfl ?_
                  refine L.nil ?_
                  refine X.sq ?_
                  refine V.condT rfl ?_
                  refine V.seq ?_
                  refine V.region ?_
                  refine L.rd (rd_build (out := [_, _]) tok rfl rfl rfl rfl rfl) rfl ?_
                  refine L.ef (e_store (vs := [_, _]) tok rfl rfl rfl rfl hr4 rfl (by simp [Value.oneCell']) (by simp) ?_)
                  refine L.rd (rd_assign rfl) rfl ?_
                  refine L.nil ?_
                  refine X.sq ?_
                  refine V.ret ?_
                  refine X.sqRet ?_
                  refine X.bkRet ?_
                  refine X.sqRet ?_
                  refine X.lpRet ?_
                  refine X.bkRet ?_
                  refine X.sqRet ?_
                  refine ret_c1 tok Yaam.results11 rfl rfl rfl rfl (Bl.cells (hr4.set _ _)) rfl ?_
                  exact XPost.bad (parse_bad (.inr (.inr (.inl (tall_bad ht (by unfold tokOk; exact decide_eq_false (by simp only []; omega))))))) (hE4.set (by omega) _ _)
                ·
                  refine L.yes rfl rfl ?_
                  refine L.rd (rd_fieldAddr tok rfl rfl rfl rfl rfl rfl) rfl ?_
                  refine L.yes rfl rfl ?_
                  refine L.rd (rd_load1 tok rfl rfl rfl (hb4.cell (i := 1) rfl)) rfl ?_
                  refine L.yes rfl rfl ?_
                  refine L.rd (rd_gtr rfl rfl) rfl ?_
                  refine L.yes rfl rfl ?_
                  refine L.rd (rd_pickF rfl rfl) rfl ?_
                  refine L.rd (rd_pickT rfl rfl) rfl ?_
                  refine L.nil ?_
                  refine X.sq ?_
                  first | refine V.cond rfl (fun h45 => ?_) (fun h45 => ?_) | refine V.condB rfl (fun h45 => ?_) (fun h45 => ?_)
                  ·
                    refine V.seq ?_
                    refine V.region ?_
                    refine L.rd (rd_build (out := [_, _]) tok rfl rfl rfl rfl rfl) rfl ?_
                    refine L.ef (e_store (vs := [_, _]) tok rfl rfl rfl rfl hr4 rfl (by simp [Value.oneCell']) (by simp) ?_)
                    refine L.rd (rd_assign rfl) rfl ?_
                    refine L.nil ?_
                    refine X.sq ?_
                    refine V.ret ?_
                    refine X.sqRet ?_
                    refine X.bkRet ?_
                    refine X.sqRet ?_
                    refine X.lpRet ?_
                    refine X.bkRet ?_
                    refine X.sqRet ?_
                    refine ret_c1 tok Yaam.results11 rfl rfl rfl rfl (Bl.cells (hr4.set _ _)) rfl ?_
                    exact XPost.bad (parse_bad (.inr (.inr (.inl (tall_bad ht (by unfold tokOk; exact decide_eq_false (by simp only []; omega))))))) (hE4.set (by omega) _ _)
                  ·
                    refine V.skip ?_
                    refine X.sq ?_
                    refine V.seq ?_
                    refine V.region ?_
                    refine L.rd (rd_fieldAddr tok rfl rfl rfl rfl rfl rfl) rfl ?_
                    refine L.rd (rd_load1 tok rfl rfl rfl (hb4.cell rfl)) rfl ?_
                    refine L.rd (rd_neq rfl rfl) rfl ?_
                    refine L.rd (rd_move rfl) rfl ?_
                    first | refine L.partG rfl rfl (fun g50 => ?_) (fun g50 => ?_) | refine L.partGB rfl rfl (fun g50 => ?_) (fun g50 => ?_)
                    ·
                      refine L.yes rfl rfl ?_
                      refine L.rd (rd_fieldAddr tok rfl rfl rfl rfl rfl rfl) rfl ?_
                      refine L.yes rfl rfl ?_
                      refine L.rd (rd_load1 tok rfl rfl rfl (hb4.cell rfl)) rfl ?_
                      refine L.yes rfl rfl ?_
                      refine L.rd (rd_neq rfl rfl) rfl ?_
                      refine L.rd (rd_pickT rfl rfl) rfl ?_
                      refine L.rd (rd_move rfl) rfl ?_
                      first | refine L.partG rfl rfl (fun g55 => ?_) (fun g55 => ?_) | refine L.partGB rfl rfl (fun g55 => ?_) (fun g55 => ?_)
                      ·
                        refine L.yes rfl rfl ?_
                        refine L.rd (rd_fieldAddr tok rfl rfl rfl rfl rfl rfl) rfl ?_
                        refine L.yes rfl rfl ?_
                        refine L.rd (rd_load1 tok rfl rfl rfl (hb4.cell (i := 1) rfl)) rfl ?_
                        refine L.yes rfl rfl ?_
                        refine L.rd (rd_neq rfl rfl) rfl ?_
                        refine L.rd (rd_pickT rfl rfl) rfl ?_
                        refine L.nil ?_
                        refine X.sq ?_
                        first | refine V.cond rfl (fun h59 => ?_) (fun h59 => ?_) | refine V.condB rfl (fun h59 => ?_) (fun h59 => ?_)
                        ·
                          refine V.seq ?_
                          refine V.region ?_
                          refine L.rd (rd_build (out := [_, _]) tok rfl rfl rfl rfl rfl) rfl ?_
                          refine L.ef (e_store (vs := [_, _]) tok rfl rfl rfl rfl hr4 rfl (by simp [Value.oneCell']) (by simp) ?_)
                          refine L.rd (rd_assign rfl) rfl ?_
                          refine L.nil ?_
                          refine X.sq ?_
                          refine V.ret ?_
                          refine X.bkRet ?_
                          refine X.sqRet ?_
                          refine X.lpRet ?_
                          refine X.bkRet ?_
                          refine X.sqRet ?_
                          refine ret_c1 tok Yaam.results11 rfl rfl rfl rfl (Bl.cells (hr4.set _ _)) rfl ?_
                          exact XPost.bad (parse_bad (.inr (.inr (.inl (tall_bad ht (by unfold tokOk; exact decide_eq_false (by simp only []; omega))))))) (hE4.set (by omega) _ _)
                        ·
                          refine V.skip ?_
                          refine X.bk ?_
                          refine X.sq ?_
                          refine V.region ?_
                          (refine L.rd (rd_add3 rfl rfl ?_) rfl ?_; omega)
                          refine L.rd (rd_move rfl) rfl ?_
                          refine L.nil ?_
                          exact X.lp ⟨_, _, by omega, (by repeat' (first | exact trivial | refine ⟨rfl, ?_⟩)), k + 1, rfl, rfl, by omega, hE4, hr4, tall_snoc ht hall (by unfold tokOk; exact decide_eq_true (by simp only []; omega))⟩
                      ·
                        refine L.no rfl rfl rfl rfl ?_
                        refine L.no rfl rfl rfl rfl ?_
                        refine L.no rfl rfl rfl rfl ?_
                        refine L.rd (rd_pickF rfl rfl) rfl ?_
                        refine L.nil ?_
                        refine X.sq ?_
                        refine V.condF rfl ?_
                        refine V.skip ?_
                        refine X.bk ?_
                        refine X.sq ?_
                        refine V.region ?_
                        (refine L.rd (rd_add3 rfl rfl ?_) rfl ?_; omega)
                        refine L.rd (rd_move rfl) rfl ?_
                        refine L.nil ?_
                        exact X.lp ⟨_, _, by omega, (by repeat' (first | exact trivial | refine ⟨rfl, ?_⟩)), k + 1, rfl, rfl, by omega, hE4, hr4, tall_snoc ht hall (by unfold tokOk; exact decide_eq_true (by simp only []; omega))⟩
                    ·
                      refine L.no rfl rfl rfl rfl ?_
                      refine L.no rfl rfl rfl rfl ?_
                      refine L.no rfl rfl rfl rfl ?_
                      refine L.rd (rd_pickF rfl rfl) rfl ?_
                      refine L.rd (rd_move rfl) rfl ?_
                      refine L.no rfl rfl rfl rfl ?_
                      refine L.no rfl rfl rfl rfl ?_
                      refine L.no rfl rfl rfl rfl ?_
                      refine L.rd (rd_pickF rfl rfl) rfl ?_
                      refine L.nil ?_
                      refine X.sq ?_
                      refine V.condF rfl ?_
                      refine V.skip ?_
                      refine X.bk ?_
                      refine X.sq ?_
                      refine V.region ?_
                      (refine L.rd (rd_add3 rfl rfl ?_) rfl ?_; omega)
                      refine L.rd (rd_move rfl) rfl ?_
                      refine L.nil ?_
                      exact X.lp ⟨_, _, by omega, (by repeat' (first | exact trivial | refine ⟨rfl, ?_⟩)), k + 1, rfl, rfl, by omega, hE4, hr4, tall_snoc ht hall (by unfold tokOk; exact decide_eq_true (by simp only []; omega))⟩
              ·
                refine L.no rfl rfl rfl rfl ?_
                refine L.no rfl rfl rfl rfl ?_
                refine L.no rfl rfl rfl rfl ?_
                refine L.no rfl rfl rfl rfl ?_
                refine L.noU rfl rfl rfl ?_
                refine L.noU rfl rfl rfl ?_
                refine L.noU rfl rfl rfl ?_
                refine L.no rfl rfl rfl rfl ?_
                refine L.rd (rd_pickF rfl rfl) rfl ?_
                refine L.nil ?_
                refine X.sq ?_
                refine V.condF rfl ?_
                refine V.skip ?_
                refine X.sq ?_
                refine V.seq ?_
                refine V.region ?_
                refine L.rd (rd_fieldAddr tok rfl rfl rfl rfl rfl rfl) rfl ?_
                refine L.rd (rd_load1 tok rfl rfl rfl (hb4.cell rfl)) rfl ?_
                refine L.rd (rd_neq rfl rfl) rfl ?_
                refine L.rd (rd_move rfl) rfl ?_
                first | refine L.partG rfl rfl (fun g50 => ?_) (fun g50 => ?_) | refine L.partGB rfl rfl (fun g50 => ?_) (fun g50 => ?_)
                ·
                  refine L.yes rfl rfl ?_
                  refine L.rd (rd_fieldAddr tok rfl rfl rfl rfl rfl rfl) rfl ?_
                  refine L.yes rfl rfl ?_
                  refine L.rd (rd_load1 tok rfl rfl rfl (hb4.cell rfl)) rfl ?_
                  refine L.yes rfl rfl ?_
                  refine L.rd (rd_neq rfl rfl) rfl ?_
                  refine L.rd (rd_pickT rfl rfl) rfl ?_
                  refine L.rd (rd_move rfl) rfl ?_
                  first | refine L.partG rfl rfl (fun g55 => ?_) (fun g55 => ?_) | refine L.partGB rfl rfl (fun g55 => ?_) (fun g55 => ?_)
                  ·
                    refine L.yes rfl rfl ?_
                    refine L.rd (rd_fieldAddr tok rfl rfl rfl rfl rfl rfl) rfl ?_
                    refine L.yes rfl rfl ?_
                    refine L.rd (rd_load1 tok rfl rfl rfl (hb4.cell (i := 1) rfl)) rfl ?_
                    refine L.yes rfl rfl ?_
                    refine L.rd (rd_neq rfl rfl) rfl ?_
                    refine L.rd (rd_pickT rfl rfl) rfl ?_
                    refine L.nil ?_
                    refine X.sq ?_
                    first | refine V.cond rfl (fun h59 => ?_) (fun h59 => ?_) | refine V.condB rfl (fun h59 => ?_) (fun h59 => ?_)
                    ·
                      refine V.seq ?_
                      refine V.region ?_
                      refine L.rd (rd_build (out := [_, _]) tok rfl rfl rfl rfl rfl) rfl ?_
                      refine L.ef (e_store (vs := [_, _]) tok rfl rfl rfl rfl hr4 rfl (by simp [Value.oneCell']) (by simp) ?_)
                      refine L.rd (rd_assign rfl) rfl ?_
                      refine L.nil ?_
                      refine X.sq ?_
                      refine V.ret ?_
                      refine X.bkRet ?_
                      refine X.sqRet ?_
                      refine X.lpRet ?_
                      refine X.bkRet ?_
                      refine X.sqRet ?_
                      refine ret_c1 tok Yaam.results11 rfl rfl rfl rfl (Bl.cells (hr4.set _ _)) rfl ?_
                      exact XPost.bad (parse_bad (.inr (.inr (.inl (tall_bad ht (by unfold tokOk; exact decide_eq_false (by simp only []; omega))))))) (hE4.set (by omega) _ _)
                    ·
                      refine V.skip ?_
                      refine X.bk ?_
                      refine X.sq ?_
                      refine V.region ?_
                      (refine L.rd (rd_add3 rfl rfl ?_) rfl ?_; omega)
                      refine L.rd (rd_move rfl) rfl ?_
                      refine L.nil ?_
                      exact X.lp ⟨_, _, by omega, (by repeat' (first | exact trivial | refine ⟨rfl, ?_⟩)), k + 1, rfl, rfl, by omega, hE4, hr4, tall_snoc ht hall (by unfold tokOk; exact decide_eq_true (by simp only []; omega))⟩
                  ·
                    refine L.no rfl rfl rfl rfl ?_
                    refine L.no rfl rfl rfl rfl ?_
                    refine L.no rfl rfl rfl rfl ?_
                    refine L.rd (rd_pickF rfl rfl) rfl ?_
                    refine L.nil ?_
                    refine X.sq ?_
                    refine V.condF rfl ?_
                    refine V.skip ?_
                    refine X.bk ?_
                    refine X.sq ?_
                    refine V.region ?_
                    (refine L.rd (rd_add3 rfl rfl ?_) rfl ?_; omega)
                    refine L.rd (rd_move rfl) rfl ?_
                    refine L.nil ?_
                    exact X.lp ⟨_, _, by omega, (by repeat' (first | exact trivial | refine ⟨rfl, ?_⟩)), k + 1, rfl, rfl, by omega, hE4, hr4, tall_snoc ht hall (by unfold tokOk; exact decide_eq_true (by simp only []; omega))⟩
                ·
                  refine L.no rfl rfl rfl rfl ?_
                  refine L.no rfl rfl rfl rfl ?_
                  refine L.no rfl rfl rfl rfl ?_
                  refine L.rd (rd_pickF rfl rfl) rfl ?_
                  refine L.rd (rd_move rfl) rfl ?_
                  refine L.no rfl rfl rfl rfl ?_
                  refine L.no rfl rfl rfl rfl ?_
                  refine L.no rfl rfl rfl rfl ?_
                  refine L.rd (rd_pickF rfl rfl) rfl ?_
                  refine L.nil ?_
                  refine X.sq ?_
                  refine V.condF rfl ?_
                  refine V.skip ?_
                  refine X.bk ?_
                  refine X.sq ?_
                  refine V.region ?_
                  (refine L.rd (rd_add3 rfl rfl ?_) rfl ?_; omega)
                  refine L.rd (rd_move rfl) rfl ?_
                  refine L.nil ?_
                  exact X.lp ⟨_, _, by omega, (by repeat' (first | exact trivial | refine ⟨rfl, ?_⟩)), k + 1, rfl, rfl, by omega, hE4, hr4, tall_snoc ht hall (by unfold tokOk; exact decide_eq_true (by simp only []; omega))⟩
        ·
          refine V.exit ?_
          refine X.sqExit ?_
          refine X.lpExit ?_
          refine X.bkHere ?_
          refine X.sq ?_
          refine V.seq ?_
          have hok : ts.all tokOk = true := by rwa [List.take_of_length_le (by omega)] at hall
          have hpi := parse_impl (ts := ts) (by omega) (by omega) hok
          have hs := hE.size
          have hrl := hr.lt
          refine V.region ?_
          refine L.rd (rd_move rfl) rfl ?_
          refine L.rd (rd_build (out := [_, _, _, _]) tok rfl rfl rfl rfl rfl) rfl ?_
          refine L.ef (e_box (cs := [_, _, _, _]) rfl rfl (by first | (simp only [size_addB, size_setB, size_drew]; rfl) | rfl) rfl ?_)
          refine L.rd (rd_assign rfl) rfl ?_
          refine L.nil ?_
          refine X.sq ?_
          refine V.seq ?_
          have hip : IPq wr.heap.size (.slice ta ts.length tc) ts (addB wr 70 [.slice ta ts.length tc, .int .i64 0, .slice none 0 0, .int .i64 0]) ts (.slice none 0 0) [] 0 := by
            refine ⟨?_, World.ownsRow_nil _ _ _ _, ((hT.ext hE).wide (Nat.le_refl _) hs).ext ((Ext.refl _ _).addNew _ _), List.suffix_refl _⟩
            rw [Nat.sub_self]
            exact Bl.new _ _ _
          have hEp := (Ext.refl _ wr).addNew 70 [.slice ta ts.length tc, .int .i64 0, .slice none 0 0, .int .i64 0]
          generalize addB wr 70 [.slice ta ts.length tc, .int .i64 0, .slice none 0 0, .int .i64 0] = w2 at hip hEp ⊢
          have hr2 := hEp.bl hr.lt hr
          refine V.region ?_
          refine L.rd (rd_move rfl) rfl ?_
          refine L.ef (e_call rfl (iexpr_all (by omega) (ts.length + 1) _ ts _ [] 0 (by omega) (by omega) (by simp) hip) rfl ?_)
          rintro _ w3 ⟨i3, rfl, he3, hs3⟩
          have hr3 := he3.bl hrl hr2
          have hE3 : Ext w.heap.size w w3 := (hE.next hEp).trans (he3.low (by omega))
          rw [List.length_nil] at hs3 ⊢
          refine L.rd (rd_move rfl) rfl ?_
          refine L.rd (rd_ext0 rfl) rfl ?_
          refine L.rd (rd_ext1 rfl) rfl ?_
          refine L.rd (rd_assign rfl) rfl ?_
          refine L.rd (rd_assign rfl) rfl ?_
          refine L.nil ?_
          refine X.sq ?_
          refine V.seq ?_
          refine V.seq ?_
          refine V.region ?_
          refine L.rd (rd_move rfl) rfl ?_
          first | refine L.rd (rd_not rfl) rfl ?_ | refine L.rd (rd_notB rfl) rfl ?_
          refine L.rd (rd_move rfl) rfl ?_
          first | refine L.partG rfl rfl (fun g72 => ?_) (fun g72 => ?_) | refine L.partGB rfl rfl (fun g72 => ?_) (fun g72 => ?_)
          ·
            have hno : lim 0 (pE true (ts.length + 1) 0 ts) = none := by simpa using g72
            refine L.no rfl rfl rfl rfl ?_
            refine L.no rfl rfl rfl rfl ?_
            refine L.no rfl rfl rfl rfl ?_
            refine L.no rfl rfl rfl rfl ?_
            refine L.no rfl rfl rfl rfl ?_
            refine L.no rfl rfl rfl rfl ?_
            refine L.no rfl rfl rfl rfl ?_
            refine L.rd (rd_pickT rfl rfl) rfl ?_
            refine L.rd (rd_move rfl) rfl ?_
            refine L.no rfl rfl rfl rfl ?_
            refine L.no rfl rfl rfl rfl ?_
            refine L.no rfl rfl rfl rfl ?_
            refine L.no rfl rfl rfl rfl ?_
            refine L.no rfl rfl rfl rfl ?_
            refine L.no rfl rfl rfl rfl ?_
            refine L.rd (rd_pickT rfl rfl) rfl ?_
            refine L.nil ?_
            refine X.sq ?_
            refine V.condT rfl ?_
            refine V.seq ?_
            refine V.region ?_
            refine L.rd (rd_build (out := [_, _]) tok rfl rfl rfl rfl rfl) rfl ?_
            refine L.ef (e_store (vs := [_, _]) tok rfl rfl rfl rfl hr3 rfl (by simp [Value.oneCell']) (by simp) ?_)
            refine L.rd (rd_assign rfl) rfl ?_
            refine L.nil ?_
            refine X.sq ?_
            refine V.ret ?_
            refine X.sqRet ?_
            refine ret_c1 tok Yaam.results11 rfl rfl rfl rfl (Bl.cells (hr3.set _ _)) rfl ?_
            refine XPost.bad ?_ (hE3.set (by omega) _ _)
            first
              | (rw [hpi, hno])
              | (rw [hpi, if_neg (by omega)])
              | omega
          ·
            obtain ⟨⟨t, r1⟩, hl⟩ := Option.isSome_iff_exists.1 (by simpa using g72)
            obtain ⟨-, nv, h3⟩ := hs3 _ _ hl
            obtain ⟨-, hb3⟩ := lim_some hl
            rw [hl] at hpi
            simp only [] at hpi
            have hsx := h3.sx.length_le
            obtain ⟨na, nc, rfl⟩ := own_form h3.own
            have hfl : (([] : List Nd) ++ flat t 0).length = tsz t := by rw [List.nil_append, flat_len]
            have htp := tsz_pos t
            refine L.yes rfl rfl ?_
            refine L.rd (rd_move rfl) rfl ?_
            refine L.yes rfl rfl ?_
            refine L.rd (rd_nilCheck rfl) rfl ?_
            refine L.yes rfl rfl ?_
            refine L.rd (rd_fieldAddr tok rfl rfl rfl rfl rfl rfl) rfl ?_
            refine L.yes rfl rfl ?_
            refine L.rd (rd_load1 tok rfl rfl rfl (h3.bl.cell (i := 1) rfl)) rfl ?_
            refine L.yes rfl rfl ?_
            refine L.rd (rd_move rfl) rfl ?_
            refine L.yes rfl rfl ?_
            refine L.rd (rd_lenSlice tok rfl rfl rfl) rfl ?_
            refine L.yes rfl rfl ?_
            refine L.rd (rd_neq rfl rfl) rfl ?_
            refine L.rd (rd_pickF rfl rfl) rfl ?_
            refine L.rd (rd_move rfl) rfl ?_
            first | refine L.partG rfl rfl (fun g81 => ?_) (fun g81 => ?_) | refine L.partGB rfl rfl (fun g81 => ?_) (fun g81 => ?_)
            ·
              refine L.no rfl rfl rfl rfl ?_
              refine L.no rfl rfl rfl rfl ?_
              refine L.no rfl rfl rfl rfl ?_
              refine L.no rfl rfl rfl rfl ?_
              refine L.no rfl rfl rfl rfl ?_
              refine L.no rfl rfl rfl rfl ?_
              refine L.rd (rd_pickT rfl rfl) rfl ?_
              refine L.nil ?_
              refine X.sq ?_
              refine V.condT rfl ?_
              refine V.seq ?_
              refine V.region ?_
              refine L.rd (rd_build (out := [_, _]) tok rfl rfl rfl rfl rfl) rfl ?_
              refine L.ef (e_store (vs := [_, _]) tok rfl rfl rfl rfl hr3 rfl (by simp [Value.oneCell']) (by simp) ?_)
              refine L.rd (rd_assign rfl) rfl ?_
              refine L.nil ?_
              refine X.sq ?_
              refine V.ret ?_
              refine X.sqRet ?_
              refine ret_c1 tok Yaam.results11 rfl rfl rfl rfl (Bl.cells (hr3.set _ _)) rfl ?_
              refine XPost.bad ?_ (hE3.set (by omega) _ _)
              first
                | (rw [hpi, hno])
                | (rw [hpi, if_neg (by omega)])
                | omega
            ·
              refine L.yes rfl rfl ?_
              refine L.rd (rd_move rfl) rfl ?_
              refine L.yes rfl rfl ?_
              refine L.rd (rd_nilCheck rfl) rfl ?_
              refine L.yes rfl rfl ?_
              refine L.rd (rd_fieldAddr tok rfl rfl rfl rfl rfl rfl) rfl ?_
              refine L.yes rfl rfl ?_
              refine L.rd (rd_load1 tok rfl rfl rfl (h3.bl.cell (i := 2) rfl)) rfl ?_
              refine L.yes rfl rfl ?_
              refine L.rd (rd_lenSlice tok rfl rfl rfl) rfl ?_
              refine L.yes rfl rfl ?_
              refine L.rd (rd_eql rfl rfl) rfl ?_
              refine L.rd (rd_pickF rfl rfl) rfl ?_
              refine L.nil ?_
              refine X.sq ?_
              first | refine V.cond rfl (fun h88 => ?_) (fun h88 => ?_) | refine V.condB rfl (fun h88 => ?_) (fun h88 => ?_)
              ·
                refine V.seq ?_
                refine V.region ?_
                refine L.rd (rd_build (out := [_, _]) tok rfl rfl rfl rfl rfl) rfl ?_
                refine L.ef (e_store (vs := [_, _]) tok rfl rfl rfl rfl hr3 rfl (by simp [Value.oneCell']) (by simp) ?_)
                refine L.rd (rd_assign rfl) rfl ?_
                refine L.nil ?_
                refine X.sq ?_
                refine V.ret ?_
                refine X.sqRet ?_
                refine ret_c1 tok Yaam.results11 rfl rfl rfl rfl (Bl.cells (hr3.set _ _)) rfl ?_
                refine XPost.bad ?_ (hE3.set (by omega) _ _)
                first
                  | (rw [hpi, hno])
                  | (rw [hpi, if_neg (by omega)])
                  | omega
              ·
                refine V.skip ?_
                refine X.sq ?_
                refine V.seq ?_
                refine V.draw [11] mixed ?_
                refine D.takeP 0 [true, false, false, false, false, false, false, false, false, false, false, false, false] (.sq .bd) rfl (fun _ => rd_move rfl) rfl (by kernel_rfl) rfl ?_
                refine D.takeP 1 [true, true, false, false, false, false, false, false, false, false, false, false, false] (.sq .bd) rfl (fun _ => rd_nilCheck rfl) rfl (by kernel_rfl) rfl ?_
                refine D.takeP 2 [true, true, true, false, false, false, false, false, false, false, false, false, false] (.sq .bd) rfl (fun _ => rd_fieldAddr tok rfl rfl rfl rfl rfl rfl) rfl (by kernel_rfl) rfl ?_
                refine D.takeW 3 [true, true, true, true, false, false, false, false, false, false, false, false, false] (.sq .bd) rfl (rd_load1 tok rfl rfl rfl (h3.bl.cell (i := 2) rfl)) rfl (by kernel_rfl) rfl (LeC.drew _) ?_
                refine D.takeP 4 [true, true, true, true, true, false, false, false, false, false, false, false, false] (.sq .bd) rfl (fun _ => rd_move rfl) rfl (by kernel_rfl) rfl ?_
                refine D.takeP 5 [true, true, true, true, true, true, false, false, false, false, false, false, false] (.sq .bd) rfl (fun _ => rd_nilCheck rfl) rfl (by kernel_rfl) rfl ?_
                refine D.takeP 6 [true, true, true, true, true, true, true, false, false, false, false, false, false] (.sq .bd) rfl (fun _ => rd_fieldAddr tok rfl rfl rfl rfl rfl rfl) rfl (by kernel_rfl) rfl ?_
                refine D.takeW 7 [true, true, true, true, true, true, true, true, false, false, false, false, false] (.sq .bd) rfl (rd_load1 tok rfl rfl rfl (h3.bl.cell (i := 2) rfl)) rfl (by kernel_rfl) rfl (LeC.drew _) ?_
                refine D.takeP 8 [true, true, true, true, true, true, true, true, true, false, false, false, false] (.sq .bd) rfl (fun _ => rd_lenSlice tok rfl rfl rfl) rfl (by kernel_rfl) rfl ?_
                (refine D.takeP 9 [true, true, true, true, true, true, true, true, true, true, false, false, false] (.sq .bd) rfl (fun _ => rd_sub3 rfl rfl ?_) rfl (by kernel_rfl) rfl ?_; omega)
                refine D.takeP 10 [true, true, true, true, true, true, true, true, true, true, true, false, false] (.sq .bd) rfl (fun _ => rd_build (out := [_, _]) tok rfl rfl rfl rfl rfl) rfl (by kernel_rfl) rfl ?_
                refine D.one 11 [true, true, true, true, true, true, true, true, true, true, true, true, false] rfl (by kernel_rfl) rfl (e_store (vs := [_, _]) tok rfl rfl rfl rfl hr3.drew rfl (by simp [Value.oneCell']) (by simp) ⟨fun h => (by cases h), ?_⟩)
                refine D.takeP 12 [true, true, true, true, true, true, true, true, true, true, true, true, true] (.sq .bd) rfl (fun _ => rd_assign rfl) rfl (by kernel_rfl) rfl ?_
                refine D.done (by kernel_rfl) ?_
                refine X.sq ?_
                refine V.ret ?_
                refine ret_c1 tok Yaam.results11 rfl rfl rfl rfl (Bl.cells (hr3.drew.set _ _)) rfl ?_
                rw [if_pos (by omega)] at hpi
                refine ⟨_, flat t 0, _, by rw [hpi]; rfl, ?_, fun t2 ht2 => ?_, fun hn => (by rw [hpi] at hn; cases hn), hE3.drew.set (by omega) _ _⟩
                · have ho := h3.own
                  simp only [List.nil_append] at ho
                  refine own_low (own_same ho fun q hq => ?_) (by omega)
                  have := (own_block_lt ho hq).1
                  exact ((Rg.refl w.heap.size (w.heap.size + 1) w3).drew.trans (Rg.set (by omega) 34 _)).block q (own_block_lt ho hq).2 (by omega)
                · rw [hpi] at ht2
                  simp only [Option.some.injEq] at ht2
                  subst ht2
                  exact ⟨rfl, by rw [hfl]⟩

theorem sparse_ok (tv : Value) (ts : List TK) (w : World) (hT : Rr w 0 w.heap.size 2 tv ts.length (prC ts)) : Ret Yaam.prog 12 [tv] w (XPost 80 (parseP ts) w) := by
  obtain ⟨ta, tc, rfl, hft⟩ := hT.form
  refine enter1 Yaam.func12 Yaam.ntmps12 (by kernel_rfl) rfl rfl ?_
  refine V.seq ?_
  refine V.region ?_
  refine L.ef (e_alloc (cs := [_, _]) tok rfl rfl (by first | (simp only [size_addB, size_setB, size_drew]; rfl) | rfl) rfl ?_)
  refine L.rd (rd_assign rfl) rfl ?_
  refine L.nil ?_
  refine X.sq ?_
  refine V.seq ?_
  refine V.seq ?_
  have hr0 := Bl.new w 34 [.slice none 0 0, .int .i64 0]
  have hE0 := (Ext.refl _ w).addNew 34 [.slice none 0 0, .int .i64 0]
  have hs0 := size_addB w 34 [.slice none 0 0, .int .i64 0]
  generalize addB w 34 [.slice none 0 0, .int .i64 0] = w0 at hr0 hE0 hs0 ⊢
  refine V.region ?_
  refine L.rd (rd_move rfl) rfl ?_
  refine L.rd (rd_lenSlice tok rfl rfl rfl) rfl ?_
  refine L.rd (rd_eql rfl rfl) rfl ?_
  refine L.rd (rd_move rfl) rfl ?_
  first | refine L.partG rfl rfl (fun g12 => ?_) (fun g12 => ?_) | refine L.partGB rfl rfl (fun g12 => ?_) (fun g12 => ?_)
  ·
    refine L.no rfl rfl rfl rfl ?_
    refine L.no rfl rfl rfl rfl ?_
    refine L.no rfl rfl rfl rfl ?_
    refine L.rd (rd_pickT rfl rfl) rfl ?_
    refine L.nil ?_
    refine X.sq ?_
    refine V.condT rfl ?_
    refine V.seq ?_
    refine V.region ?_
    refine L.rd (rd_build (out := [_, _]) tok rfl rfl rfl rfl rfl) rfl ?_
    refine L.ef (e_store (vs := [_, _]) tok rfl rfl rfl rfl hr0 rfl (by simp [Value.oneCell']) (by simp) ?_)
    refine L.rd (rd_assign rfl) rfl ?_
    refine L.nil ?_
    refine X.sq ?_
    refine V.ret ?_
    refine X.sqRet ?_
    refine ret_c1 tok Yaam.results12 rfl rfl rfl rfl (Bl.cells (hr0.set _ _)) rfl ?_
    exact XPost.bad (parse_bad (by omega)) (hE0.set (by omega) _ _)
  ·
    refine L.yes rfl rfl ?_
    refine L.rd (rd_move rfl) rfl ?_
    refine L.yes rfl rfl ?_
    refine L.rd (rd_lenSlice tok rfl rfl rfl) rfl ?_
    refine L.yes rfl rfl ?_
    refine L.rd (rd_gtr rfl rfl) rfl ?_
    refine L.rd (rd_pickF rfl rfl) rfl ?_
    refine L.nil ?_
    refine X.sq ?_
    first | refine V.cond rfl (fun h16 => ?_) (fun h16 => ?_) | refine V.condB rfl (fun h16 => ?_) (fun h16 => ?_)
    ·
      refine V.seq ?_
      refine V.region ?_
      refine L.rd (rd_build (out := [_, _]) tok rfl rfl rfl rfl rfl) rfl ?_
      refine L.ef (e_store (vs := [_, _]) tok rfl rfl rfl rfl hr0 rfl (by simp [Value.oneCell']) (by simp) ?_)
      refine L.rd (rd_assign rfl) rfl ?_
      refine L.nil ?_
      refine X.sq ?_
      refine V.ret ?_
      refine X.sqRet ?_
      refine ret_c1 tok Yaam.results12 rfl rfl rfl rfl (Bl.cells (hr0.set _ _)) rfl ?_
      exact XPost.bad (parse_bad (by omega)) (hE0.set (by omega) _ _)
    ·
      refine V.skip ?_
      refine X.sq ?_
      refine V.seq ?_
      refine V.region ?_
      refine L.rd (rd_assign rfl) rfl ?_
      refine L.nil ?_
      refine X.sq ?_
      refine V.seq ?_
      refine V.seq ?_
      refine V.region ?_
      refine L.rd (rd_move rfl) rfl ?_
      refine L.rd (rd_lenSlice tok rfl rfl rfl) rfl ?_
      refine L.rd (rd_move rfl) rfl ?_
      refine L.nil ?_
      refine X.sq ?_
      refine V.block ?_
      refine V.loop (fun m l wr => ∃ (k dep : Nat), l = [(0, .slice ta ts.length tc), (2, .pointer (some ⟨w.heap.size, 0, none⟩)), (4, .int .i64 dep), (18, .slice ta ts.length tc), (19, .int .i64 ts.length), (20, .int .i64 k)] ∧ m = ts.length - k ∧ k ≤ ts.length ∧ Ext w.heap.size w wr ∧ Bl wr w.heap.size 34 [.slice none 0 0, .int .i64 0] ∧ (ts.take k).all tokOk = true ∧ dl ts 0 = dl (ts.drop k) dep ∧ dep ≤ 5000) ?_ ?_
      ·
        exact ⟨_, _, (by repeat' (first | exact trivial | refine ⟨rfl, ?_⟩)), 0, 0, rfl, rfl, by omega, hE0, hr0, by simp, by simp, by omega⟩
      ·
        clear hr0 hE0
        rintro m l wr ⟨k, dep, rfl, rfl, hk, hE, hr, hall, hdl, hdep⟩
        refine V.seq ?_
        refine V.region ?_
        refine L.rd (rd_lss rfl rfl) rfl ?_
        refine L.nil ?_
        refine X.sq ?_
        refine V.seq ?_
        first | refine V.cond rfl (fun h21 => ?_) (fun h21 => ?_) | refine V.condB rfl (fun h21 => ?_) (fun h21 => ?_)
        ·
          obtain ⟨tb, to, rfl, -, -, hct⟩ := hft.resolve_left (by omega)
          obtain ⟨⟨kd, vl⟩, ht⟩ := nth_of_lt ts k (by omega)
          have hcf := (hct.le hE.leC).sub (k * 2) _ (pr_get ts k _ ht)
          rw [dl_at ht] at hdl
          simp only at hdl
          refine V.skip ?_
          refine X.sq ?_
          refine V.seq ?_
          refine V.cut (fun l w' => ∃ (dep' : Nat), l = [(0, .slice (some ⟨tb, to, none⟩) ts.length tc), (2, .pointer (some ⟨w.heap.size, 0, none⟩)), (4, .int .i64 dep'), (18, .slice (some ⟨tb, to, none⟩) ts.length tc), (19, .int .i64 ts.length), (20, .int .i64 k)] ∧ Ext w.heap.size w w' ∧ Bl w' w.heap.size 34 [.slice none 0 0, .int .i64 0] ∧ tokOk (kd, vl) = true ∧ dl ts 0 = dl (ts.drop (k + 1)) dep' ∧ dep' ≤ 5000) ?_ ?_
          ·
            refine V.block ?_
            refine V.seq ?_
            refine V.region ?_
            (refine L.rd (rd_indexSlice (sz := 2) tok rfl rfl rfl rfl rfl rfl rfl ?_) rfl ?_; omega)
            refine L.rd (rd_loadN tok rfl rfl rfl hcf rfl) rfl ?_
            refine L.ef (e_alloc (cs := [_, _]) tok rfl rfl (by first | (simp only [size_addB, size_setB, size_drew]; rfl) | rfl) rfl ?_)
            refine L.ef (e_store (vs := [_, _]) tok rfl rfl rfl rfl (by (repeat (first | assumption | (refine Bl.new' ?_ _ _; first | with_reducible rfl | (simp only [size_addB, size_setB, size_drew]; done)) | apply Bl.add | apply Bl.drew | (apply Bl.setNe; omega) | (refine Bl.set' ?_ _ _; (try simp only [size_addB, size_setB, size_drew]); omega)))) rfl (by simp [Value.oneCell']) (by simp) ?_)
            refine L.nil ?_
            refine X.sq ?_
            refine V.seq ?_
            refine V.seq ?_
            generalize hw4 : setB _ _ _ _ = w4
            have hb4 : Bl w4 wr.heap.size 63 [.int .i64 kd, .int .i64 vl] := by rw [← hw4]; refine Bl.set' ?_ _ _; rw [size_addB]; omega
            have he4 : Ext wr.heap.size wr w4 := by rw [← hw4]; exact ((Ext.refl _ _).addNew _ _).set (Nat.le_refl _) _ _
            have hr4 := he4.bl hr.lt hr
            have hE4 := hE.next he4
            refine V.region ?_
            refine L.rd (rd_fieldAddr tok rfl rfl rfl rfl rfl rfl) rfl ?_
            refine L.rd (rd_load1 tok rfl rfl rfl (hb4.cell rfl)) rfl ?_
            refine L.rd (rd_lss rfl rfl) rfl ?_
            refine L.rd (rd_move rfl) rfl ?_
            first | refine L.partG rfl rfl (fun g27 => ?_) (fun g27 => ?_) | refine L.partGB rfl rfl (fun g27 => ?_) (fun g27 => ?_)
            ·
              refine L.no rfl rfl rfl rfl ?_
              refine L.no rfl rfl rfl rfl ?_
              refine L.no rfl rfl rfl rfl ?_
              refine L.rd (rd_pickT rfl rfl) rfl ?_
              refine L.nil ?_
              refine X.sq ?_
              refine V.condT rfl ?_
              refine V.seq ?_
              refine V.region ?_
              refine L.rd (rd_build (out := [_, _]) tok rfl rfl rfl rfl rfl) rfl ?_
              refine L.ef (e_store (vs := [_, _]) tok rfl rfl rfl rfl hr4 rfl (by simp [Value.oneCell']) (by simp) ?_)
              refine L.rd (rd_assign rfl) rfl ?_
              refine L.nil ?_
              refine X.sq ?_
              refine V.ret ?_
              refine X.sqRet ?_
              refine X.bkRet ?_
              refine X.ctRet ?_
              refine X.sqRet ?_
              refine X.lpRet ?_
              refine X.bkRet ?_
              refine X.sqRet ?_
              refine ret_c1 tok Yaam.results12 rfl rfl rfl rfl (Bl.cells (hr4.set _ _)) rfl ?_
              exact XPost.bad (parse_bad (.inr (.inr (.inl (tall_bad ht (by unfold tokOk; exact decide_eq_false (by simp only []; omega))))))) (hE4.set (by omega) _ _)
            ·
              refine L.yes rfl rfl ?_
              refine L.rd (rd_fieldAddr tok rfl rfl rfl rfl rfl rfl) rfl ?_
              refine L.yes rfl rfl ?_
              refine L.rd (rd_load1 tok rfl rfl rfl (hb4.cell rfl)) rfl ?_
              refine L.yes rfl rfl ?_
              refine L.rd (rd_gtr rfl rfl) rfl ?_
              refine L.rd (rd_pickF rfl rfl) rfl ?_
              refine L.nil ?_
              refine X.sq ?_
              first | refine V.cond rfl (fun h31 => ?_) (fun h31 => ?_) | refine V.condB rfl (fun h31 => ?_) (fun h31 => ?_)
              ·
                refine V.seq ?_
                refine V.region ?_
                refine L.rd (rd_build (out := [_, _]) tok rfl rfl rfl rfl rfl) rfl ?_
                refine L.ef (e_store (vs := [_, _]) tok rfl rfl rfl rfl hr4 rfl (by simp [Value.oneCell']) (by simp) ?_)
                refine L.rd (rd_assign rfl) rfl ?_
                refine L.nil ?_
                refine X.sq ?_
                refine V.ret ?_
                refine X.sqRet ?_
                refine X.bkRet ?_
                refine X.ctRet ?_
                refine X.sqRet ?_
                refine X.lpRet ?_
                refine X.bkRet ?_
                refine X.sqRet ?_
                refine ret_c1 tok Yaam.results12 rfl rfl rfl rfl (Bl.cells (hr4.set _ _)) rfl ?_
                exact XPost.bad (parse_bad (.inr (.inr (.inl (tall_bad ht (by unfold tokOk; exact decide_eq_false (by simp only []; omega))))))) (hE4.set (by omega) _ _)
              ·
                refine V.skip ?_
                refine X.sq ?_
                refine V.seq ?_
                refine V.seq ?_
                refine V.region ?_
                refine L.rd (rd_fieldAddr tok rfl rfl rfl rfl rfl rfl) rfl ?_
                refine L.rd (rd_load1 tok rfl rfl rfl (hb4.cell rfl)) rfl ?_
                refine L.rd (rd_eql rfl rfl) rfl ?_
                refine L.rd (rd_move rfl) rfl ?_
                first | refine L.partG rfl rfl (fun g36 => ?_) (fun g36 => ?_) | refine L.partGB rfl rfl (fun g36 => ?_) (fun g36 => ?_)
                ·
                  refine L.yes rfl rfl ?_
                  refine L.rd (rd_fieldAddr tok rfl rfl rfl rfl rfl rfl) rfl ?_
                  refine L.yes rfl rfl ?_
                  refine L.rd (rd_load1 tok rfl rfl rfl (hb4.cell (i := 1) rfl)) rfl ?_
                  refine L.yes rfl rfl ?_
                  refine L.rd (rd_lss rfl rfl) rfl ?_
                  refine L.yes rfl rfl ?_
                  refine L.rd (rd_move rfl) rfl ?_
                  first | refine L.partG rfl rfl (fun g40 => ?_) (fun g40 => ?_) | refine L.partGB rfl rfl (fun g40 => ?_) (fun g40 => ?_)
                  ·
                    refine L.no rfl rfl rfl rfl ?_
                    refine L.no rfl rfl rfl rfl ?_
                    refine L.no rfl rfl rfl rfl ?_
                    refine L.yes rfl rfl ?_
                    refine L.rd (rd_pickT rfl rfl) rfl ?_
                    refine L.rd (rd_pickT rfl rfl) rfl ?_
                    refine L.nil ?_
                    refine X.sq ?_
                    refine V.condT rfl ?_
                    refine V.seq ?_
                    refine V.region ?_
                    refine L.rd (rd_build (out := [_, _]) tok rfl rfl rfl rfl rfl) rfl ?_
                    refine L.ef (e_store (vs := [_, _]) tok rfl rfl rfl rfl hr4 rfl (by simp [Value.oneCell']) (by simp) ?_)
                    refine L.rd (rd_assign rfl) rfl ?_
                    refine L.nil ?_
                    refine X.sq ?_
                    refine V.ret ?_
                    refine X.sqRet ?_
                    refine X.bkRet ?_
                    refine X.ctRet ?_
                    refine X.sqRet ?_
                    refine X.lpRet ?_
                    refine X.bkRet ?_
                    refine X.sqRet ?_
                    refine ret_c1 tok Yaam.results12 rfl rfl rfl rfl (Bl.cells (hr4.set _ _)) rfl ?_
                    exact XPost.bad (parse_bad (.inr (.inr (.inl (tall_bad ht (by unfold tokOk; exact decide_eq_false (by simp only []; omega))))))) (hE4.set (by omega) _ _)
                  ·
                    refine L.yes rfl rfl ?_
                    refine L.rd (rd_fieldAddr tok rfl rfl rfl rfl rfl rfl) rfl ?_
                    refine L.yes rfl rfl ?_
                    refine L.rd (rd_load1 tok rfl rfl rfl (hb4.cell (i := 1) rfl)) rfl ?_
                    refine L.yes rfl rfl ?_
                    refine L.rd (rd_geq rfl rfl) rfl ?_
                    refine L.yes rfl rfl ?_
                    refine L.rd (rd_pickF rfl rfl) rfl ?_
                    refine L.rd (rd_pickT rfl rfl) rfl ?_
                    refine L.nil ?_
                    refine X.sq ?_
                    first | refine V.cond rfl (fun h45 => ?_) (fun h45 => ?_) | refine V.condB rfl (fun h45 => ?_) (fun h45 => ?_)
                    ·
                      refine V.seq ?_
                      refine V.region ?_
                      refine L.rd (rd_build (out := [_, _]) tok rfl rfl rfl rfl rfl) rfl ?_
                      refine L.ef (e_store (vs := [_, _]) tok rfl rfl rfl rfl hr4 rfl (by simp [Value.oneCell']) (by simp) ?_)
                      refine L.rd (rd_assign rfl) rfl ?_
                      refine L.nil ?_
                      refine X.sq ?_
                      refine V.ret ?_
                      refine X.sqRet ?_
                      refine X.bkRet ?_
                      refine X.ctRet ?_
                      refine X.sqRet ?_
                      refine X.lpRet ?_
                      refine X.bkRet ?_
                      refine X.sqRet ?_
                      refine ret_c1 tok Yaam.results12 rfl rfl rfl rfl (Bl.cells (hr4.set _ _)) rfl ?_
                      exact XPost.bad (parse_bad (.inr (.inr (.inl (tall_bad ht (by unfold tokOk; exact decide_eq_false (by simp only []; omega))))))) (hE4.set (by omega) _ _)
                    ·
                      refine V.skip ?_
                      refine X.sq ?_
                      refine V.seq ?_
                      refine V.seq ?_
                      refine V.region ?_
                      refine L.rd (rd_fieldAddr tok rfl rfl rfl rfl rfl rfl) rfl ?_
                      refine L.rd (rd_load1 tok rfl rfl rfl (hb4.cell rfl)) rfl ?_
                      refine L.rd (rd_neq rfl rfl) rfl ?_
                      refine L.rd (rd_move rfl) rfl ?_
                      first | refine L.partG rfl rfl (fun g50 => ?_) (fun g50 => ?_) | refine L.partGB rfl rfl (fun g50 => ?_) (fun g50 => ?_)
                      ·
                        refine L.yes rfl rfl ?_
                        refine L.rd (rd_fieldAddr tok rfl rfl rfl rfl rfl rfl) rfl ?_
                        refine L.yes rfl rfl ?_
                        refine L.rd (rd_load1 tok rfl rfl rfl (hb4.cell rfl)) rfl ?_
                        refine L.yes rfl rfl ?_
                        refine L.rd (rd_neq rfl rfl) rfl ?_
                        refine L.rd (rd_pickT rfl rfl) rfl ?_
                        refine L.rd (rd_move rfl) rfl ?_
                        first | refine L.partG rfl rfl (fun g55 => ?_) (fun g55 => ?_) | refine L.partGB rfl rfl (fun g55 => ?_) (fun g55 => ?_)
                        ·
                          refine L.yes rfl rfl ?_
                          refine L.rd (rd_fieldAddr tok rfl rfl rfl rfl rfl rfl) rfl ?_
                          refine L.yes rfl rfl ?_
                          refine L.rd (rd_load1 tok rfl rfl rfl (hb4.cell (i := 1) rfl)) rfl ?_
                          refine L.yes rfl rfl ?_
                          refine L.rd (rd_neq rfl rfl) rfl ?_
                          refine L.rd (rd_pickT rfl rfl) rfl ?_
                          refine L.nil ?_
                          refine X.sq ?_
                          first | refine V.cond rfl (fun h59 => ?_) (fun h59 => ?_) | refine V.condB rfl (fun h59 => ?_) (fun h59 => ?_)
                          ·
                            refine V.seq ?_
                            refine V.region ?_
                            refine L.rd (rd_build (out := [_, _]) tok rfl rfl rfl rfl rfl) rfl ?_
                            refine L.ef (e_store (vs := [_, _]) tok rfl rfl rfl rfl hr4 rfl (by simp [Value.oneCell']) (by simp) ?_)
                            refine L.rd (rd_assign rfl) rfl ?_
                            refine L.nil ?_
                            refine X.sq ?_
                            refine V.ret ?_
                            refine X.sqRet ?_
                            refine X.bkRet ?_
                            refine X.ctRet ?_
                            refine X.sqRet ?_
                            refine X.lpRet ?_
                            refine X.bkRet ?_
                            refine X.sqRet ?_
                            refine ret_c1 tok Yaam.results12 rfl rfl rfl rfl (Bl.cells (hr4.set _ _)) rfl ?_
                            exact XPost.bad (parse_bad (.inr (.inr (.inl (tall_bad ht (by unfold tokOk; exact decide_eq_false (by simp only []; omega))))))) (hE4.set (by omega) _ _)
                          ·
                            refine V.skip ?_
                            refine X.sq ?_
                            refine V.seq ?_
                            refine V.seq ?_
                            have hok : tokOk (kd, vl) = true := by unfold tokOk; exact decide_eq_true (by simp only []; omega)
                            refine V.region ?_
                            refine L.rd (rd_fieldAddr tok rfl rfl rfl rfl rfl rfl) rfl ?_
                            refine L.rd (rd_load1 tok rfl rfl rfl (hb4.cell rfl)) rfl ?_
                            refine L.rd (rd_eql rfl rfl) rfl ?_
                            refine L.nil ?_
                            refine X.sq ?_
                            first | refine V.cond rfl (fun h63 => ?_) (fun h63 => ?_) | refine V.condB rfl (fun h63 => ?_) (fun h63 => ?_)
                            ·
                              refine V.seq ?_
                              refine V.region ?_
                              refine L.rd (rd_move rfl) rfl ?_
                              (refine L.rd (rd_add3 rfl rfl ?_) rfl ?_; omega)
                              refine L.rd (rd_assign rfl) rfl ?_
                              refine L.nil ?_
                              refine X.sq ?_
                              refine V.seq ?_
                              refine V.region ?_
                              refine L.rd (rd_move rfl) rfl ?_
                              refine L.rd (rd_gtr rfl rfl) rfl ?_
                              refine L.nil ?_
                              refine X.sq ?_
                              first | refine V.cond rfl (fun h67 => ?_) (fun h67 => ?_) | refine V.condB rfl (fun h67 => ?_) (fun h67 => ?_)
                              ·
                                refine V.seq ?_
                                refine V.region ?_
                                refine L.rd (rd_build (out := [_, _]) tok rfl rfl rfl rfl rfl) rfl ?_
                                refine L.ef (e_store (vs := [_, _]) tok rfl rfl rfl rfl hr4 rfl (by simp [Value.oneCell']) (by simp) ?_)
                                refine L.rd (rd_assign rfl) rfl ?_
                                refine L.nil ?_
                                refine X.sq ?_
                                refine V.ret ?_
                                refine X.sqRet ?_
                                refine X.bkRet ?_
                                refine X.ctRet ?_
                                refine X.sqRet ?_
                                refine X.lpRet ?_
                                refine X.bkRet ?_
                                refine X.sqRet ?_
                                refine ret_c1 tok Yaam.results12 rfl rfl rfl rfl (Bl.cells (hr4.set _ _)) rfl ?_
                                rw [if_pos h63, if_pos (by omega)] at hdl
                                exact XPost.bad (parse_bad (.inr (.inr (.inr hdl)))) (hE4.set (by omega) _ _)
                              ·
                                refine V.skip ?_
                                refine X.sq ?_
                                refine V.seq ?_
                                refine V.region ?_
                                refine L.rd (rd_fieldAddr tok rfl rfl rfl rfl rfl rfl) rfl ?_
                                refine L.rd (rd_load1 tok rfl rfl rfl (hb4.cell rfl)) rfl ?_
                                refine L.rd (rd_eql rfl rfl) rfl ?_
                                refine L.rd (rd_move rfl) rfl ?_
                                first | refine L.partG rfl rfl (fun g72 => ?_) (fun g72 => ?_) | refine L.partGB rfl rfl (fun g72 => ?_) (fun g72 => ?_)
                                ·
                                  refine L.yes rfl rfl ?_
                                  refine L.rd (rd_move rfl) rfl ?_
                                  refine L.yes rfl rfl ?_
                                  refine L.rd (rd_gtr rfl rfl) rfl ?_
                                  refine L.rd (rd_pickT rfl rfl) rfl ?_
                                  refine L.nil ?_
                                  refine X.sq ?_
                                  first | refine V.cond rfl (fun h75 => ?_) (fun h75 => ?_) | refine V.condB rfl (fun h75 => ?_) (fun h75 => ?_)
                                  ·
                                    refine V.region ?_
                                    refine L.rd (rd_move rfl) rfl ?_
                                    (refine L.rd (rd_sub3 rfl rfl ?_) rfl ?_; omega)
                                    refine L.rd (rd_assign rfl) rfl ?_
                                    refine L.nil ?_
                                    refine X.bk ?_
                                    first
                                      | (exfalso; omega)
                                      | (rw [if_neg h63, if_pos g72] at hdl
                                         refine X.ct ⟨_, ?_, dep - 1, rfl, hE4, hr4, hok, hdl, by omega⟩
                                         have e : ((dep - 1 : Nat) : Int) = (dep : Int) - 1 := by omega
                                         rw [e]
                                         exact (by repeat' (first | exact trivial | refine ⟨rfl, ?_⟩)))
                                  ·
                                    refine V.skip ?_
                                    refine X.bk ?_
                                    first
                                      | (exfalso; omega)
                                      | (rw [if_pos h63, if_neg (by omega)] at hdl
                                         exact X.ct ⟨_, (by repeat' (first | exact trivial | refine ⟨rfl, ?_⟩)), dep + 1, rfl, hE4, hr4, hok, hdl, by omega⟩)
                                      | (rw [if_neg h63, if_pos g72] at hdl
                                         have h0 : dep = 0 := by omega
                                         subst h0
                                         exact X.ct ⟨_, (by repeat' (first | exact trivial | refine ⟨rfl, ?_⟩)), 0, rfl, hE4, hr4, hok, hdl, by omega⟩)
                                      | (rw [if_neg h63, if_neg g72] at hdl
                                         exact X.ct ⟨_, (by repeat' (first | exact trivial | refine ⟨rfl, ?_⟩)), dep, rfl, hE4, hr4, hok, hdl, hdep⟩)
                                ·
                                  refine L.no rfl rfl rfl rfl ?_
                                  refine L.no rfl rfl rfl rfl ?_
                                  refine L.rd (rd_pickF rfl rfl) rfl ?_
                                  refine L.nil ?_
                                  refine X.sq ?_
                                  refine V.condF rfl ?_
                                  refine V.skip ?_
                                  refine X.bk ?_
                                  first
                                    | (exfalso; omega)
                                    | (rw [if_pos h63, if_neg (by omega)] at hdl
                                       exact X.ct ⟨_, (by repeat' (first | exact trivial | refine ⟨rfl, ?_⟩)), dep + 1, rfl, hE4, hr4, hok, hdl, by omega⟩)
                                    | (rw [if_neg h63, if_pos g72] at hdl
                                       have h0 : dep = 0 := by omega
                                       subst h0
                                       exact X.ct ⟨_, (by repeat' (first | exact trivial | refine ⟨rfl, ?_⟩)), 0, rfl, hE4, hr4, hok, hdl, by omega⟩)
                                    | (rw [if_neg h63, if_neg g72] at hdl
                                       exact X.ct ⟨_, (by repeat' (first | exact trivial | refine ⟨rfl, ?_⟩)), dep, rfl, hE4, hr4, hok, hdl, hdep⟩)
                            ·
                              refine V.skip ?_
                              refine X.sq ?_
                              refine V.seq ?_
                              refine V.region ?_
                              refine L.rd (rd_fieldAddr tok rfl rfl rfl rfl rfl rfl) rfl ?_
                              refine L.rd (rd_load1 tok rfl rfl rfl (hb4.cell rfl)) rfl ?_
                              refine L.rd (rd_eql rfl rfl) rfl ?_
                              refine L.rd (rd_move rfl) rfl ?_
                              first | refine L.partG rfl rfl (fun g72 => ?_) (fun g72 => ?_) | refine L.partGB rfl rfl (fun g72 => ?_) (fun g72 => ?_)
                              ·
                                refine L.yes rfl rfl ?_
                                refine L.rd (rd_move rfl) rfl ?_
                                refine L.yes rfl rfl ?_
                                refine L.rd (rd_gtr rfl rfl) rfl ?_
                                refine L.rd (rd_pickT rfl rfl) rfl ?_
                                refine L.nil ?_
                                refine X.sq ?_
                                first | refine V.cond rfl (fun h75 => ?_) (fun h75 => ?_) | refine V.condB rfl (fun h75 => ?_) (fun h75 => ?_)
                                ·
                                  refine V.region ?_
                                  refine L.rd (rd_move rfl) rfl ?_
                                  (refine L.rd (rd_sub3 rfl rfl ?_) rfl ?_; omega)
                                  refine L.rd (rd_assign rfl) rfl ?_
                                  refine L.nil ?_
                                  refine X.bk ?_
                                  first
                                    | (exfalso; omega)
                                    | (rw [if_neg h63, if_pos g72] at hdl
                                       refine X.ct ⟨_, ?_, dep - 1, rfl, hE4, hr4, hok, hdl, by omega⟩
                                       have e : ((dep - 1 : Nat) : Int) = (dep : Int) - 1 := by omega
                                       rw [e]
                                       exact (by repeat' (first | exact trivial | refine ⟨rfl, ?_⟩)))
                                ·
                                  refine V.skip ?_
                                  refine X.bk ?_
                                  first
                                    | (exfalso; omega)
                                    | (rw [if_pos h63, if_neg (by omega)] at hdl
                                       exact X.ct ⟨_, (by repeat' (first | exact trivial | refine ⟨rfl, ?_⟩)), dep + 1, rfl, hE4, hr4, hok, hdl, by omega⟩)
                                    | (rw [if_neg h63, if_pos g72] at hdl
                                       have h0 : dep = 0 := by omega
                                       subst h0
                                       exact X.ct ⟨_, (by repeat' (first | exact trivial | refine ⟨rfl, ?_⟩)), 0, rfl, hE4, hr4, hok, hdl, by omega⟩)
                                    | (rw [if_neg h63, if_neg g72] at hdl
                                       exact X.ct ⟨_, (by repeat' (first | exact trivial | refine ⟨rfl, ?_⟩)), dep, rfl, hE4, hr4, hok, hdl, hdep⟩)
                              ·
                                refine L.no rfl rfl rfl rfl ?_
                                refine L.no rfl rfl rfl rfl ?_
                                refine L.rd (rd_pickF rfl rfl) rfl ?_
                                refine L.nil ?_
                                refine X.sq ?_
                                refine V.condF rfl ?_
                                refine V.skip ?_
                                refine X.bk ?_
                                first
                                  | (exfalso; omega)
                                  | (rw [if_pos h63, if_neg (by omega)] at hdl
                                     exact X.ct ⟨_, (by repeat' (first | exact trivial | refine ⟨rfl, ?_⟩)), dep + 1, rfl, hE4, hr4, hok, hdl, by omega⟩)
                                  | (rw [if_neg h63, if_pos g72] at hdl
                                     have h0 : dep = 0 := by omega
                                     subst h0
                                     exact X.ct ⟨_, (by repeat' (first | exact trivial | refine ⟨rfl, ?_⟩)), 0, rfl, hE4, hr4, hok, hdl, by omega⟩)
                                  | (rw [if_neg h63, if_neg g72] at hdl
                                     exact X.ct ⟨_, (by repeat' (first | exact trivial | refine ⟨rfl, ?_⟩)), dep, rfl, hE4, hr4, hok, hdl, hdep⟩)
                        ·
                          refine L.no rfl rfl rfl rfl ?_
                          refine L.no rfl rfl rfl rfl ?_
                          refine L.no rfl rfl rfl rfl ?_
                          refine L.rd (rd_pickF rfl rfl) rfl ?_
                          refine L.nil ?_
                          refine X.sq ?_
                          refine V.condF rfl ?_
                          refine V.skip ?_
                          refine X.sq ?_
                          refine V.seq ?_
                          refine V.seq ?_
                          have hok : tokOk (kd, vl) = true := by unfold tokOk; exact decide_eq_true (by simp only []; omega)
                          refine V.region ?_
                          refine L.rd (rd_fieldAddr tok rfl rfl rfl rfl rfl rfl) rfl ?_
                          refine L.rd (rd_load1 tok rfl rfl rfl (hb4.cell rfl)) rfl ?_
                          refine L.rd (rd_eql rfl rfl) rfl ?_
                          refine L.nil ?_
                          refine X.sq ?_
                          first | refine V.cond rfl (fun h63 => ?_) (fun h63 => ?_) | refine V.condB rfl (fun h63 => ?_) (fun h63 => ?_)
                          ·
                            refine V.seq ?_
                            refine V.region ?_
                            refine L.rd (rd_move rfl) rfl ?_
                            (refine L.rd (rd_add3 rfl rfl ?_) rfl ?_; omega)
                            refine L.rd (rd_assign rfl) rfl ?_
                            refine L.nil ?_
                            refine X.sq ?_
                            refine V.seq ?_
                            refine V.region ?_
                            refine L.rd (rd_move rfl) rfl ?_
                            refine L.rd (rd_gtr rfl rfl) rfl ?_
                            refine L.nil ?_
                            refine X.sq ?_
                            first | refine V.cond rfl (fun h67 => ?_) (fun h67 => ?_) | refine V.condB rfl (fun h67 => ?_) (fun h67 => ?_)
                            ·
                              refine V.seq ?_
                              refine V.region ?_
                              refine L.rd (rd_build (out := [_, _]) tok rfl rfl rfl rfl rfl) rfl ?_
                              refine L.ef (e_store (vs := [_, _]) tok rfl rfl rfl rfl hr4 rfl (by simp [Value.oneCell']) (by simp) ?_)
                              refine L.rd (rd_assign rfl) rfl ?_
                              refine L.nil ?_
                              refine X.sq ?_
                              refine V.ret ?_
                              refine X.sqRet ?_
                              refine X.bkRet ?_
                              refine X.ctRet ?_
                              refine X.sqRet ?_
                              refine X.lpRet ?_
                              refine X.bkRet ?_
                              refine X.sqRet ?_
                              refine ret_c1 tok Yaam.results12 rfl rfl rfl rfl (Bl.cells (hr4.set _ _)) rfl ?_
                              rw [if_pos h63, if_pos (by omega)] at hdl
                              exact XPost.bad (parse_bad (.inr (.inr (.inr hdl)))) (hE4.set (by omega) _ _)
                            ·
                              refine V.skip ?_
                              refine X.sq ?_
                              refine V.seq ?_
                              refine V.region ?_
                              refine L.rd (rd_fieldAddr tok rfl rfl rfl rfl rfl rfl) rfl ?_
                              refine L.rd (rd_load1 tok rfl rfl rfl (hb4.cell rfl)) rfl ?_
                              refine L.rd (rd_eql rfl rfl) rfl ?_
                              refine L.rd (rd_move rfl) rfl ?_
                              first | refine L.partG rfl rfl (fun g72 => ?_) (fun g72 => ?_) | refine L.partGB rfl rfl (fun g72 => ?_) (fun g72 => ?_)
                              ·
                                refine L.yes rfl rfl ?_
                                refine L.rd (rd_move rfl) rfl ?_
                                refine L.yes rfl rfl ?_
                                refine L.rd (rd_gtr rfl rfl) rfl ?_
                                refine L.rd (rd_pickT rfl rfl) rfl ?_
                                refine L.nil ?_
                                refine X.sq ?_
                                first | refine V.cond rfl (fun h75 => ?_) (fun h75 => ?_) | refine V.condB rfl (fun h75 => ?_) (fun h75 => ?_)
                                ·
                                  refine V.region ?_
                                  refine L.rd (rd_move rfl) rfl ?_
                                  (refine L.rd (rd_sub3 rfl rfl ?_) rfl ?_; omega)
                                  refine L.rd (rd_assign rfl) rfl ?_
                                  refine L.nil ?_
                                  refine X.bk ?_
                                  first
                                    | (exfalso; omega)
                                    | (rw [if_neg h63, if_pos g72] at hdl
                                       refine X.ct ⟨_, ?_, dep - 1, rfl, hE4, hr4, hok, hdl, by omega⟩
                                       have e : ((dep - 1 : Nat) : Int) = (dep : Int) - 1 := by omega
                                       rw [e]
                                       exact (by repeat' (first | exact trivial | refine ⟨rfl, ?_⟩)))
                                ·
                                  refine V.skip ?_
                                  refine X.bk ?_
                                  first
                                    | (exfalso; omega)
                                    | (rw [if_pos h63, if_neg (by omega)] at hdl
                                       exact X.ct ⟨_, (by repeat' (first | exact trivial | refine ⟨rfl, ?_⟩)), dep + 1, rfl, hE4, hr4, hok, hdl, by omega⟩)
                                    | (rw [if_neg h63, if_pos g72] at hdl
                                       have h0 : dep = 0 := by omega
                                       subst h0
                                       exact X.ct ⟨_, (by repeat' (first | exact trivial | refine ⟨rfl, ?_⟩)), 0, rfl, hE4, hr4, hok, hdl, by omega⟩)
                                    | (rw [if_neg h63, if_neg g72] at hdl
                                       exact X.ct ⟨_, (by repeat' (first | exact trivial | refine ⟨rfl, ?_⟩)), dep, rfl, hE4, hr4, hok, hdl, hdep⟩)
                              ·
                                refine L.no rfl rfl rfl rfl ?_
                                refine L.no rfl rfl rfl rfl ?_
                                refine L.rd (rd_pickF rfl rfl) rfl ?_
                                refine L.nil ?_
                                refine X.sq ?_
                                refine V.condF rfl ?_
                                refine V.skip ?_
                                refine X.bk ?_
                                first
                                  | (exfalso; omega)
                                  | (rw [if_pos h63, if_neg (by omega)] at hdl
                                     exact X.ct ⟨_, (by repeat' (first | exact trivial | refine ⟨rfl, ?_⟩)), dep + 1, rfl, hE4, hr4, hok, hdl, by omega⟩)
                                  | (rw [if_neg h63, if_pos g72] at hdl
                                     have h0 : dep = 0 := by omega
                                     subst h0
                                     exact X.ct ⟨_, (by repeat' (first | exact trivial | refine ⟨rfl, ?_⟩)), 0, rfl, hE4, hr4, hok, hdl, by omega⟩)
                                  | (rw [if_neg h63, if_neg g72] at hdl
                                     exact X.ct ⟨_, (by repeat' (first | exact trivial | refine ⟨rfl, ?_⟩)), dep, rfl, hE4, hr4, hok, hdl, hdep⟩)
                          ·
                            refine V.skip ?_
                            refine X.sq ?_
                            refine V.seq ?_
                            refine V.region ?_
                            refine L.rd (rd_fieldAddr tok rfl rfl rfl rfl rfl rfl) rfl ?_
                            refine L.rd (rd_load1 tok rfl rfl rfl (hb4.cell rfl)) rfl ?_
                            refine L.rd (rd_eql rfl rfl) rfl ?_
                            refine L.rd (rd_move rfl) rfl ?_
                            first | refine L.partG rfl rfl (fun g72 => ?_) (fun g72 => ?_) | refine L.partGB rfl rfl (fun g72 => ?_) (fun g72 => ?_)
                            ·
                              refine L.yes rfl rfl ?_
                              refine L.rd (rd_move rfl) rfl ?_
                              refine L.yes rfl rfl ?_
                              refine L.rd (rd_gtr rfl rfl) rfl ?_
                              refine L.rd (rd_pickT rfl rfl) rfl ?_
                              refine L.nil ?_
                              refine X.sq ?_
                              first | refine V.cond rfl (fun h75 => ?_) (fun h75 => ?_) | refine V.condB rfl (fun h75 => ?_) (fun h75 => ?_)
                              ·
                                refine V.region ?_
                                refine L.rd (rd_move rfl) rfl ?_
                                (refine L.rd (rd_sub3 rfl rfl ?_) rfl ?_; omega)
                                refine L.rd (rd_assign rfl) rfl ?_
                                refine L.nil ?_
                                refine X.bk ?_
                                first
                                  | (exfalso; omega)
                                  | (rw [if_neg h63, if_pos g72] at hdl
                                     refine X.ct ⟨_, ?_, dep - 1, rfl, hE4, hr4, hok, hdl, by omega⟩
                                     have e : ((dep - 1 : Nat) : Int) = (dep : Int) - 1 := by omega
                                     rw [e]
                                     exact (by repeat' (first | exact trivial | refine ⟨rfl, ?_⟩)))
                              ·
                                refine V.skip ?_
                                refine X.bk ?_
                                first
                                  | (exfalso; omega)
                                  | (rw [if_pos h63, if_neg (by omega)] at hdl
                                     exact X.ct ⟨_, (by repeat' (first | exact trivial | refine ⟨rfl, ?_⟩)), dep + 1, rfl, hE4, hr4, hok, hdl, by omega⟩)
                                  | (rw [if_neg h63, if_pos g72] at hdl
                                     have h0 : dep = 0 := by omega
                                     subst h0
                                     exact X.ct ⟨_, (by repeat' (first | exact trivial | refine ⟨rfl, ?_⟩)), 0, rfl, hE4, hr4, hok, hdl, by omega⟩)
                                  | (rw [if_neg h63, if_neg g72] at hdl
                                     exact X.ct ⟨_, (by repeat' (first | exact trivial | refine ⟨rfl, ?_⟩)), dep, rfl, hE4, hr4, hok, hdl, hdep⟩)
                            ·
                              refine L.no rfl rfl rfl rfl ?_
                              refine L.no rfl rfl rfl rfl ?_
                              refine L.rd (rd_pickF rfl rfl) rfl ?_
                              refine L.nil ?_
                              refine X.sq ?_
                              refine V.condF rfl ?_
                              refine V.skip ?_
                              refine X.bk ?_
                              first
                                | (exfalso; omega)
                                | (rw [if_pos h63, if_neg (by omega)] at hdl
                                   exact X.ct ⟨_, (by repeat' (first | exact trivial | refine ⟨rfl, ?_⟩)), dep + 1, rfl, hE4, hr4, hok, hdl, by omega⟩)
                                | (rw [if_neg h63, if_pos g72] at hdl
                                   have h0 : dep = 0 := by omega
                                   subst h0
                                   exact X.ct ⟨_, (by repeat' (first | exact trivial | refine ⟨rfl, ?_⟩)), 0, rfl, hE4, hr4, hok, hdl, by omega⟩)
                                | (rw [if_neg h63, if_neg g72] at hdl
                                   exact X.ct ⟨_, (by repeat' (first | exact trivial | refine ⟨rfl, ?_⟩)), dep, rfl, hE4, hr4, hok, hdl, hdep⟩)
                      ·
                        refine L.no rfl rfl rfl rfl ?_
                        refine L.no rfl rfl rfl rfl ?_
                        refine L.no rfl rfl rfl rfl ?_
                        refine L.rd (rd_pickF rfl rfl) rfl ?_
                        refine L.rd (rd_move rfl) rfl ?_
                        refine L.no rfl rfl rfl rfl ?_
                        refine L.no rfl rfl rfl rfl ?_
                        refine L.no rfl rfl rfl rfl ?_
                        refine L.rd (rd_pickF rfl rfl) rfl ?_
                        refine L.nil ?_
                        refine X.sq ?_
                        refine V.condF rfl ?_
                        refine V.skip ?_
                        refine X.sq ?_
                        refine V.seq ?_
                        refine V.seq ?_
                        have hok : tokOk (kd, vl) = true := by unfold tokOk; exact decide_eq_true (by simp only []; omega)
                        refine V.region ?_
                        refine L.rd (rd_fieldAddr tok rfl rfl rfl rfl rfl rfl) rfl ?_
                        refine L.rd (rd_load1 tok rfl rfl rfl (hb4.cell rfl)) rfl ?_
                        refine L.rd (rd_eql rfl rfl) rfl ?_
                        refine L.nil ?_
                        refine X.sq ?_
                        first | refine V.cond rfl (fun h63 => ?_) (fun h63 => ?_) | refine V.condB rfl (fun h63 => ?_) (fun h63 => ?_)
                        ·
                          refine V.seq ?_
                          refine V.region ?_
                          refine L.rd (rd_move rfl) rfl ?_
                          (refine L.rd (rd_add3 rfl rfl ?_) rfl ?_; omega)
                          refine L.rd (rd_assign rfl) rfl ?_
                          refine L.nil ?_
                          refine X.sq ?_
                          refine V.seq ?_
                          refine V.region ?_
                          refine L.rd (rd_move rfl) rfl ?_
                          refine L.rd (rd_gtr rfl rfl) rfl ?_
                          refine L.nil ?_
                          refine X.sq ?_
                          first | refine V.cond rfl (fun h67 => ?_) (fun h67 => ?_) | refine V.condB rfl (fun h67 => ?_) (fun h67 => ?_)
                          ·
                            refine V.seq ?_
                            refine V.region ?_
                            refine L.rd (rd_build (out := [_, _]) tok rfl rfl rfl rfl rfl) rfl ?_
                            refine L.ef (e_store (vs := [_, _]) tok rfl rfl rfl rfl hr4 rfl (by simp [Value.oneCell']) (by simp) ?_)
                            refine L.rd (rd_assign rfl) rfl ?_
                            refine L.nil ?_
                            refine X.sq ?_
                            refine V.ret ?_
                            refine X.sqRet ?_
                            refine X.bkRet ?_
                            refine X.ctRet ?_
                            refine X.sqRet ?_
                            refine X.lpRet ?_
                            refine X.bkRet ?_
                            refine X.sqRet ?_
                            refine ret_c1 tok Yaam.results12 rfl rfl rfl rfl (Bl.cells (hr4.set _ _)) rfl ?_
                            rw [if_pos h63, if_pos (by omega)] at hdl
                            exact XPost.bad (parse_bad (.inr (.inr (.inr hdl)))) (hE4.set (by omega) _ _)
                          ·
                            refine V.skip ?_
                            refine X.sq ?_
                            refine V.seq ?_
                            refine V.region ?_
                            refine L.rd (rd_fieldAddr tok rfl rfl rfl rfl rfl rfl) rfl ?_
                            refine L.rd (rd_load1 tok rfl rfl rfl (hb4.cell rfl)) rfl ?_
                            refine L.rd (rd_eql rfl rfl) rfl ?_
                            refine L.rd (rd_move rfl) rfl ?_
                            first | refine L.partG rfl rfl (fun g72 => ?_) (fun g72 => ?_) | refine L.partGB rfl rfl (fun g72 => ?_) (fun g72 => ?_)
                            ·
                              refine L.yes rfl rfl ?_
                              refine L.rd (rd_move rfl) rfl ?_
                              refine L.yes rfl rfl ?_
                              refine L.rd (rd_gtr rfl rfl) rfl ?_
                              refine L.rd (rd_pickT rfl rfl) rfl ?_
                              refine L.nil ?_
                              refine X.sq ?_
                              first | refine V.cond rfl (fun h75 => ?_) (fun h75 => ?_) | refine V.condB rfl (fun h75 => ?_) (fun h75 => ?_)
                              ·
                                refine V.region ?_
                                refine L.rd (rd_move rfl) rfl ?_
                                (refine L.rd (rd_sub3 rfl rfl ?_) rfl ?_; omega)
                                refine L.rd (rd_assign rfl) rfl ?_
                                refine L.nil ?_
                                refine X.bk ?_
                                first
                                  | (exfalso; omega)
                                  | (rw [if_neg h63, if_pos g72] at hdl
                                     refine X.ct ⟨_, ?_, dep - 1, rfl, hE4, hr4, hok, hdl, by omega⟩
                                     have e : ((dep - 1 : Nat) : Int) = (dep : Int) - 1 := by omega
                                     rw [e]
                                     exact (by repeat' (first | exact trivial | refine ⟨rfl, ?_⟩)))
                              ·
                                refine V.skip ?_
                                refine X.bk ?_
                                first
                                  | (exfalso; omega)
                                  | (rw [if_pos h63, if_neg (by omega)] at hdl
                                     exact X.ct ⟨_, (by repeat' (first | exact trivial | refine ⟨rfl, ?_⟩)), dep + 1, rfl, hE4, hr4, hok, hdl, by omega⟩)
                                  | (rw [if_neg h63, if_pos g72] at hdl
                                     have h0 : dep = 0 := by omega
                                     subst h0
                                     exact X.ct ⟨_, (by repeat' (first | exact trivial | refine ⟨rfl, ?_⟩)), 0, rfl, hE4, hr4, hok, hdl, by omega⟩)
                                  | (rw [if_neg h63, if_neg g72] at hdl
                                     exact X.ct ⟨_, (by repeat' (first | exact trivial | refine ⟨rfl, ?_⟩)), dep, rfl, hE4, hr4, hok, hdl, hdep⟩)
                            ·
                              refine L.no rfl rfl rfl rfl ?_
                              refine L.no rfl rfl rfl rfl ?_
                              refine L.rd (rd_pickF rfl rfl) rfl ?_
                              refine L.nil ?_
                              refine X.sq ?_
                              refine V.condF rfl ?_
                              refine V.skip ?_
                              refine X.bk ?_
                              first
                                | (exfalso; omega)
                                | (rw [if_pos h63, if_neg (by omega)] at hdl
                                   exact X.ct ⟨_, (by repeat' (first | exact trivial | refine ⟨rfl, ?_⟩)), dep + 1, rfl, hE4, hr4, hok, hdl, by omega⟩)
                                | (rw [if_neg h63, if_pos g72] at hdl
                                   have h0 : dep = 0 := by omega
                                   subst h0
                                   exact X.ct ⟨_, (by repeat' (first | exact trivial | refine ⟨rfl, ?_⟩)), 0, rfl, hE4, hr4, hok, hdl, by omega⟩)
                                | (rw [if_neg h63, if_neg g72] at hdl
                                   exact X.ct ⟨_, (by repeat' (first | exact trivial | refine ⟨rfl, ?_⟩)), dep, rfl, hE4, hr4, hok, hdl, hdep⟩)
                        ·
                          refine V.skip ?_
                          refine X.sq ?_
                          refine V.seq ?_
                          refine V.region ?_
                          refine L.rd (rd_fieldAddr tok rfl rfl rfl rfl rfl rfl) rfl ?_
                          refine L.rd (rd_load1 tok rfl rfl rfl (hb4.cell rfl)) rfl ?_
                          refine L.rd (rd_eql rfl rfl) rfl ?_
                          refine L.rd (rd_move rfl) rfl ?_
                          first | refine L.partG rfl rfl (fun g72 => ?_) (fun g72 => ?_) | refine L.partGB rfl rfl (fun g72 => ?_) (fun g72 => ?_)
                          ·
                            refine L.yes rfl rfl ?_
                            refine L.rd (rd_move rfl) rfl ?_
                            refine L.yes rfl rfl ?_
                            refine L.rd (rd_gtr rfl rfl) rfl ?_
                            refine L.rd (rd_pickT rfl rfl) rfl ?_
                            refine L.nil ?_
                            refine X.sq ?_
                            first | refine V.cond rfl (fun h75 => ?_) (fun h75 => ?_) | refine V.condB rfl (fun h75 => ?_) (fun h75 => ?_)
                            ·
                              refine V.region ?_
                              refine L.rd (rd_move rfl) rfl ?_
                              (refine L.rd (rd_sub3 rfl rfl ?_) rfl ?_; omega)
                              refine L.rd (rd_assign rfl) rfl ?_
                              refine L.nil ?_
                              refine X.bk ?_
                              first
                                | (exfalso; omega)
                                | (rw [if_neg h63, if_pos g72] at hdl
                                   refine X.ct ⟨_, ?_, dep - 1, rfl, hE4, hr4, hok, hdl, by omega⟩
                                   have e : ((dep - 1 : Nat) : Int) = (dep : Int) - 1 := by omega
                                   rw [e]
                                   exact (by repeat' (first | exact trivial | refine ⟨rfl, ?_⟩)))
                            ·
                              refine V.skip ?_
                              refine X.bk ?_
                              first
                                | (exfalso; omega)
                                | (rw [if_pos h63, if_neg (by omega)] at hdl
                                   exact X.ct ⟨_, (by repeat' (first | exact trivial | refine ⟨rfl, ?_⟩)), dep + 1, rfl, hE4, hr4, hok, hdl, by omega⟩)
                                | (rw [if_neg h63, if_pos g72] at hdl
                                   have h0 : dep = 0 := by omega
                                   subst h0
                                   exact X.ct ⟨_, (by repeat' (first | exact trivial | refine ⟨rfl, ?_⟩)), 0, rfl, hE4, hr4, hok, hdl, by omega⟩)
                                | (rw [if_neg h63, if_neg g72] at hdl
                                   exact X.ct ⟨_, (by repeat' (first | exact trivial | refine ⟨rfl, ?_⟩)), dep, rfl, hE4, hr4, hok, hdl, hdep⟩)
                          ·
                            refine L.no rfl rfl rfl rfl ?_
                            refine L.no rfl rfl rfl rfl ?_
                            refine L.rd (rd_pickF rfl rfl) rfl ?_
                            refine L.nil ?_
                            refine X.sq ?_
                            refine V.condF rfl ?_
                            refine V.skip ?_
                            refine X.bk ?_
                            first
                              | (exfalso; omega)
                              | (rw [if_pos h63, if_neg (by omega)] at hdl
                                 exact X.ct ⟨_, (by repeat' (first | exact trivial | refine ⟨rfl, ?_⟩)), dep + 1, rfl, hE4, hr4, hok, hdl, by omega⟩)
                              | (rw [if_neg h63, if_pos g72] at hdl
                                 have h0 : dep = 0 := by omega
                                 subst h0
                                 exact X.ct ⟨_, (by repeat' (first | exact trivial | refine ⟨rfl, ?_⟩)), 0, rfl, hE4, hr4, hok, hdl, by omega⟩)
                              | (rw [if_neg h63, if_neg g72] at hdl
                                 exact X.ct ⟨_, (by repeat' (first | exact trivial | refine ⟨rfl, ?_⟩)), dep, rfl, hE4, hr4, hok, hdl, hdep⟩)
                ·
                  refine L.no rfl rfl rfl rfl ?_
                  refine L.no rfl rfl rfl rfl ?_
                  refine L.no rfl rfl rfl rfl ?_
                  refine L.no rfl rfl rfl rfl ?_
                  refine L.noU rfl rfl rfl ?_
                  refine L.noU rfl rfl rfl ?_
                  refine L.noU rfl rfl rfl ?_
                  refine L.no rfl rfl rfl rfl ?_
                  refine L.rd (rd_pickF rfl rfl) rfl ?_
                  refine L.nil ?_
                  refine X.sq ?_
                  refine V.condF rfl ?_
                  refine V.skip ?_
                  refine X.sq ?_
                  refine V.seq ?_
                  refine V.seq ?_
                  refine V.region ?_
                  refine L.rd (rd_fieldAddr tok rfl rfl rfl rfl rfl rfl) rfl ?_
                  refine L.rd (rd_load1 tok rfl rfl rfl (hb4.cell rfl)) rfl ?_
                  refine L.rd (rd_neq rfl rfl) rfl ?_
                  refine L.rd (rd_move rfl) rfl ?_
                  first | refine L.partG rfl rfl (fun g50 => ?_) (fun g50 => ?_) | refine L.partGB rfl rfl (fun g50 => ?_) (fun g50 => ?_)
                  ·
                    refine L.yes rfl rfl ?_
                    refine L.rd (rd_fieldAddr tok rfl rfl rfl rfl rfl rfl) rfl ?_
                    refine L.yes rfl rfl ?_
                    refine L.rd (rd_load1 tok rfl rfl rfl (hb4.cell rfl)) rfl ?_
                    refine L.yes rfl rfl ?_
                    refine L.rd (rd_neq rfl rfl) rfl ?_
                    refine L.rd (rd_pickT rfl rfl) rfl ?_
                    refine L.rd (rd_move rfl) rfl ?_
                    first | refine L.partG rfl rfl (fun g55 => ?_) (fun g55 => ?_) | refine L.partGB rfl rfl (fun g55 => ?_) (fun g55 => ?_)
                    ·
                      refine L.yes rfl rfl ?_
                      refine L.rd (rd_fieldAddr tok rfl rfl rfl rfl rfl rfl) rfl ?_
                      refine L.yes rfl rfl ?_
                      refine L.rd (rd_load1 tok rfl rfl rfl (hb4.cell (i := 1) rfl)) rfl ?_
                      refine L.yes rfl rfl ?_
                      refine L.rd (rd_neq rfl rfl) rfl ?_
                      refine L.rd (rd_pickT rfl rfl) rfl ?_
                      refine L.nil ?_
                      refine X.sq ?_
                      first | refine V.cond rfl (fun h59 => ?_) (fun h59 => ?_) | refine V.condB rfl (fun h59 => ?_) (fun h59 => ?_)
                      ·
                        refine V.seq ?_
                        refine V.region ?_
                        refine L.rd (rd_build (out := [_, _]) tok rfl rfl rfl rfl rfl) rfl ?_
                        refine L.ef (e_store (vs := [_, _]) tok rfl rfl rfl rfl hr4 rfl (by simp [Value.oneCell']) (by simp) ?_)
                        refine L.rd (rd_assign rfl) rfl ?_
                        refine L.nil ?_
                        refine X.sq ?_
                        refine V.ret ?_
                        refine X.sqRet ?_
                        refine X.bkRet ?_
                        refine X.ctRet ?_
                        refine X.sqRet ?_
                        refine X.lpRet ?_
                        refine X.bkRet ?_
                        refine X.sqRet ?_
                        refine ret_c1 tok Yaam.results12 rfl rfl rfl rfl (Bl.cells (hr4.set _ _)) rfl ?_
                        exact XPost.bad (parse_bad (.inr (.inr (.inl (tall_bad ht (by unfold tokOk; exact decide_eq_false (by simp only []; omega))))))) (hE4.set (by omega) _ _)
                      ·
                        refine V.skip ?_
                        refine X.sq ?_
                        refine V.seq ?_
                        refine V.seq ?_
                        have hok : tokOk (kd, vl) = true := by unfold tokOk; exact decide_eq_true (by simp only []; omega)
                        refine V.region ?_
                        refine L.rd (rd_fieldAddr tok rfl rfl rfl rfl rfl rfl) rfl ?_
                        refine L.rd (rd_load1 tok rfl rfl rfl (hb4.cell rfl)) rfl ?_
                        refine L.rd (rd_eql rfl rfl) rfl ?_
                        refine L.nil ?_
                        refine X.sq ?_
                        first | refine V.cond rfl (fun h63 => ?_) (fun h63 => ?_) | refine V.condB rfl (fun h63 => ?_) (fun h63 => ?_)
                        ·
                          refine V.seq ?_
                          refine V.region ?_
                          refine L.rd (rd_move rfl) rfl ?_
                          (refine L.rd (rd_add3 rfl rfl ?_) rfl ?_; omega)
                          refine L.rd (rd_assign rfl) rfl ?_
                          refine L.nil ?_
                          refine X.sq ?_
                          refine V.seq ?_
                          refine V.region ?_
                          refine L.rd (rd_move rfl) rfl ?_
                          refine L.rd (rd_gtr rfl rfl) rfl ?_
                          refine L.nil ?_
                          refine X.sq ?_
                          first | refine V.cond rfl (fun h67 => ?_) (fun h67 => ?_) | refine V.condB rfl (fun h67 => ?_) (fun h67 => ?_)
                          ·
                            refine V.seq ?_
                            refine V.region ?_
                            refine L.rd (rd_build (out := [_, _]) tok rfl rfl rfl rfl rfl) rfl ?_
                            refine L.ef (e_store (vs := [_, _]) tok rfl rfl rfl rfl hr4 rfl (by simp [Value.oneCell']) (by simp) ?_)
                            refine L.rd (rd_assign rfl) rfl ?_
                            refine L.nil ?_
                            refine X.sq ?_
                            refine V.ret ?_
                            refine X.sqRet ?_
                            refine X.bkRet ?_
                            refine X.ctRet ?_
                            refine X.sqRet ?_
                            refine X.lpRet ?_
                            refine X.bkRet ?_
                            refine X.sqRet ?_
                            refine ret_c1 tok Yaam.results12 rfl rfl rfl rfl (Bl.cells (hr4.set _ _)) rfl ?_
                            rw [if_pos h63, if_pos (by omega)] at hdl
                            exact XPost.bad (parse_bad (.inr (.inr (.inr hdl)))) (hE4.set (by omega) _ _)
                          ·
                            refine V.skip ?_
                            refine X.sq ?_
                            refine V.seq ?_
                            refine V.region ?_
                            refine L.rd (rd_fieldAddr tok rfl rfl rfl rfl rfl rfl) rfl ?_
                            refine L.rd (rd_load1 tok rfl rfl rfl (hb4.cell rfl)) rfl ?_
                            refine L.rd (rd_eql rfl rfl) rfl ?_
                            refine L.rd (rd_move rfl) rfl ?_
                            first | refine L.partG rfl rfl (fun g72 => ?_) (fun g72 => ?_) | refine L.partGB rfl rfl (fun g72 => ?_) (fun g72 => ?_)
                            ·
                              refine L.yes rfl rfl ?_
                              refine L.rd (rd_move rfl) rfl ?_
                              refine L.yes rfl rfl ?_
                              refine L.rd (rd_gtr rfl rfl) rfl ?_
                              refine L.rd (rd_pickT rfl rfl) rfl ?_
                              refine L.nil ?_
                              refine X.sq ?_
                              first | refine V.cond rfl (fun h75 => ?_) (fun h75 => ?_) | refine V.condB rfl (fun h75 => ?_) (fun h75 => ?_)
                              ·
                                refine V.region ?_
                                refine L.rd (rd_move rfl) rfl ?_
                                (refine L.rd (rd_sub3 rfl rfl ?_) rfl ?_; omega)
                                refine L.rd (rd_assign rfl) rfl ?_
                                refine L.nil ?_
                                refine X.bk ?_
                                first
                                  | (exfalso; omega)
                                  | (rw [if_neg h63, if_pos g72] at hdl
                                     refine X.ct ⟨_, ?_, dep - 1, rfl, hE4, hr4, hok, hdl, by omega⟩
                                     have e : ((dep - 1 : Nat) : Int) = (dep : Int) - 1 := by omega
                                     rw [e]
                                     exact (by repeat' (first | exact trivial | refine ⟨rfl, ?_⟩)))
                              ·
                                refine V.skip ?_
                                refine X.bk ?_
                                first
                                  | (exfalso; omega)
                                  | (rw [if_pos h63, if_neg (by omega)] at hdl
                                     exact X.ct ⟨_, (by repeat' (first | exact trivial | refine ⟨rfl, ?_⟩)), dep + 1, rfl, hE4, hr4, hok, hdl, by omega⟩)
                                  | (rw [if_neg h63, if_pos g72] at hdl
                                     have h0 : dep = 0 := by omega
                                     subst h0
                                     exact X.ct ⟨_, (by repeat' (first | exact trivial | refine ⟨rfl, ?_⟩)), 0, rfl, hE4, hr4, hok, hdl, by omega⟩)
                                  | (rw [if_neg h63, if_neg g72] at hdl
                                     exact X.ct ⟨_, (by repeat' (first | exact trivial | refine ⟨rfl, ?_⟩)), dep, rfl, hE4, hr4, hok, hdl, hdep⟩)
                            ·
                              refine L.no rfl rfl rfl rfl ?_
                              refine L.no rfl rfl rfl rfl ?_
                              refine L.rd (rd_pickF rfl rfl) rfl ?_
                              refine L.nil ?_
                              refine X.sq ?_
                              refine V.condF rfl ?_
                              refine V.skip ?_
                              refine X.bk ?_
                              first
                                | (exfalso; omega)
                                | (rw [if_pos h63, if_neg (by omega)] at hdl
                                   exact X.ct ⟨_, (by repeat' (first | exact trivial | refine ⟨rfl, ?_⟩)), dep + 1, rfl, hE4, hr4, hok, hdl, by omega⟩)
                                | (rw [if_neg h63, if_pos g72] at hdl
                                   have h0 : dep = 0 := by omega
                                   subst h0
                                   exact X.ct ⟨_, (by repeat' (first | exact trivial | refine ⟨rfl, ?_⟩)), 0, rfl, hE4, hr4, hok, hdl, by omega⟩)
                                | (rw [if_neg h63, if_neg g72] at hdl
                                   exact X.ct ⟨_, (by repeat' (first | exact trivial | refine ⟨rfl, ?_⟩)), dep, rfl, hE4, hr4, hok, hdl, hdep⟩)
                        ·
                          refine V.skip ?_
                          refine X.sq ?_
                          refine V.seq ?_
                          refine V.region ?_
                          refine L.rd (rd_fieldAddr tok rfl rfl rfl rfl rfl rfl) rfl ?_
                          refine L.rd (rd_load1 tok rfl rfl rfl (hb4.cell rfl)) rfl ?_
                          refine L.rd (rd_eql rfl rfl) rfl ?_
                          refine L.rd (rd_move rfl) rfl ?_
                          first | refine L.partG rfl rfl (fun g72 => ?_) (fun g72 => ?_) | refine L.partGB rfl rfl (fun g72 => ?_) (fun g72 => ?_)
                          ·
                            refine L.yes rfl rfl ?_
                            refine L.rd (rd_move rfl) rfl ?_
                            refine L.yes rfl rfl ?_
                            refine L.rd (rd_gtr rfl rfl) rfl ?_
                            refine L.rd (rd_pickT rfl rfl) rfl ?_
                            refine L.nil ?_
                            refine X.sq ?_
                            first | refine V.cond rfl (fun h75 => ?_) (fun h75 => ?_) | refine V.condB rfl (fun h75 => ?_) (fun h75 => ?_)
                            ·
                              refine V.region ?_
                              refine L.rd (rd_move rfl) rfl ?_
                              (refine L.rd (rd_sub3 rfl rfl ?_) rfl ?_; omega)
                              refine L.rd (rd_assign rfl) rfl ?_
                              refine L.nil ?_
                              refine X.bk ?_
                              first
                                | (exfalso; omega)
                                | (rw [if_neg h63, if_pos g72] at hdl
                                   refine X.ct ⟨_, ?_, dep - 1, rfl, hE4, hr4, hok, hdl, by omega⟩
                                   have e : ((dep - 1 : Nat) : Int) = (dep : Int) - 1 := by omega
                                   rw [e]
                                   exact (by repeat' (first | exact trivial | refine ⟨rfl, ?_⟩)))
                            ·
                              refine V.skip ?_
                              refine X.bk ?_
                              first
                                | (exfalso; omega)
                                | (rw [if_pos h63, if_neg (by omega)] at hdl
                                   exact X.ct ⟨_, (by repeat' (first | exact trivial | refine ⟨rfl, ?_⟩)), dep + 1, rfl, hE4, hr4, hok, hdl, by omega⟩)
                                | (rw [if_neg h63, if_pos g72] at hdl
                                   have h0 : dep = 0 := by omega
                                   subst h0
                                   exact X.ct ⟨_, (by repeat' (first | exact trivial | refine ⟨rfl, ?_⟩)), 0, rfl, hE4, hr4, hok, hdl, by omega⟩)
                                | (rw [if_neg h63, if_neg g72] at hdl
                                   exact X.ct ⟨_, (by repeat' (first | exact trivial | refine ⟨rfl, ?_⟩)), dep, rfl, hE4, hr4, hok, hdl, hdep⟩)
                          ·
                            refine L.no rfl rfl rfl rfl ?_
                            refine L.no rfl rfl rfl rfl ?_
                            refine L.rd (rd_pickF rfl rfl) rfl ?_
                            refine L.nil ?_
                            refine X.sq ?_
                            refine V.condF rfl ?_
                            refine V.skip ?_
                            refine X.bk ?_
                            first
                              | (exfalso; omega)
                              | (rw [if_pos h63, if_neg (by omega)] at hdl
                                 exact X.ct ⟨_, (by repeat' (first | exact trivial | refine ⟨rfl, ?_⟩)), dep + 1, rfl, hE4, hr4, hok, hdl, by omega⟩)
                              | (rw [if_neg h63, if_pos g72] at hdl
                                 have h0 : dep = 0 := by omega
                                 subst h0
                                 exact X.ct ⟨_, (by repeat' (first | exact trivial | refine ⟨rfl, ?_⟩)), 0, rfl, hE4, hr4, hok, hdl, by omega⟩)
                              | (rw [if_neg h63, if_neg g72] at hdl
                                 exact X.ct ⟨_, (by repeat' (first | exact trivial | refine ⟨rfl, ?_⟩)), dep, rfl, hE4, hr4, hok, hdl, hdep⟩)
                    ·
                      refine L.no rfl rfl rfl rfl ?_
                      refine L.no rfl rfl rfl rfl ?_
                      refine L.no rfl rfl rfl rfl ?_
                      refine L.rd (rd_pickF rfl rfl) rfl ?_
                      refine L.nil ?_
                      refine X.sq ?_
                      refine V.condF rfl ?_
                      refine V.skip ?_
                      refine X.sq ?_
                      refine V.seq ?_
                      refine V.seq ?_
                      have hok : tokOk (kd, vl) = true := by unfold tokOk; exact decide_eq_true (by simp only []; omega)
                      refine V.region ?_
                      refine L.rd (rd_fieldAddr tok rfl rfl rfl rfl rfl rfl) rfl ?_
                      refine L.rd (rd_load1 tok rfl rfl rfl (hb4.cell rfl)) rfl ?_
                      refine L.rd (rd_eql rfl rfl) rfl ?_
                      refine L.nil ?_
                      refine X.sq ?_
                      first | refine V.cond rfl (fun h63 => ?_) (fun h63 => ?_) | refine V.condB rfl (fun h63 => ?_) (fun h63 => ?_)
                      ·
                        refine V.seq ?_
                        refine V.region ?_
                        refine L.rd (rd_move rfl) rfl ?_
                        (refine L.rd (rd_add3 rfl rfl ?_) rfl ?_; omega)
                        refine L.rd (rd_assign rfl) rfl ?_
                        refine L.nil ?_
                        refine X.sq ?_
                        refine V.seq ?_
                        refine V.region ?_
                        refine L.rd (rd_move rfl) rfl ?_
                        refine L.rd (rd_gtr rfl rfl) rfl ?_
                        refine L.nil ?_
                        refine X.sq ?_
                        first | refine V.cond rfl (fun h67 => ?_) (fun h67 => ?_) | refine V.condB rfl (fun h67 => ?_) (fun h67 => ?_)
                        ·
                          refine V.seq ?_
                          refine V.region ?_
                          refine L.rd (rd_build (out := [_, _]) tok rfl rfl rfl rfl rfl) rfl ?_
                          refine L.ef (e_store (vs := [_, _]) tok rfl rfl rfl rfl hr4 rfl (by simp [Value.oneCell']) (by simp) ?_)
                          refine L.rd (rd_assign rfl) rfl ?_
                          refine L.nil ?_
                          refine X.sq ?_
                          refine V.ret ?_
                          refine X.sqRet ?_
                          refine X.bkRet ?_
                          refine X.ctRet ?_
                          refine X.sqRet ?_
                          refine X.lpRet ?_
                          refine X.bkRet ?_
                          refine X.sqRet ?_
                          refine ret_c1 tok Yaam.results12 rfl rfl rfl rfl (Bl.cells (hr4.set _ _)) rfl ?_
                          rw [if_pos h63, if_pos (by omega)] at hdl
                          exact XPost.bad (parse_bad (.inr (.inr (.inr hdl)))) (hE4.set (by omega) _ _)
                        ·
                          refine V.skip ?_
                          refine X.sq ?_
                          refine V.seq ?_
                          refine V.region ?_
                          refine L.rd (rd_fieldAddr tok rfl rfl rfl rfl rfl rfl) rfl ?_
                          refine L.rd (rd_load1 tok rfl rfl rfl (hb4.cell rfl)) rfl ?_
                          refine L.rd (rd_eql rfl rfl) rfl ?_
                          refine L.rd (rd_move rfl) rfl ?_
                          first | refine L.partG rfl rfl (fun g72 => ?_) (fun g72 => ?_) | refine L.partGB rfl rfl (fun g72 => ?_) (fun g72 => ?_)
                          ·
                            refine L.yes rfl rfl ?_
                            refine L.rd (rd_move rfl) rfl ?_
                            refine L.yes rfl rfl ?_
                            refine L.rd (rd_gtr rfl rfl) rfl ?_
                            refine L.rd (rd_pickT rfl rfl) rfl ?_
                            refine L.nil ?_
                            refine X.sq ?_
                            first | refine V.cond rfl (fun h75 => ?_) (fun h75 => ?_) | refine V.condB rfl (fun h75 => ?_) (fun h75 => ?_)
                            ·
                              refine V.region ?_
                              refine L.rd (rd_move rfl) rfl ?_
                              (refine L.rd (rd_sub3 rfl rfl ?_) rfl ?_; omega)
                              refine L.rd (rd_assign rfl) rfl ?_
                              refine L.nil ?_
                              refine X.bk ?_
                              first
                                | (exfalso; omega)
                                | (rw [if_neg h63, if_pos g72] at hdl
                                   refine X.ct ⟨_, ?_, dep - 1, rfl, hE4, hr4, hok, hdl, by omega⟩
                                   have e : ((dep - 1 : Nat) : Int) = (dep : Int) - 1 := by omega
                                   rw [e]
                                   exact (by repeat' (first | exact trivial | refine ⟨rfl, ?_⟩)))
                            ·
                              refine V.skip ?_
                              refine X.bk ?_
                              first
                                | (exfalso; omega)
                                | (rw [if_pos h63, if_neg (by omega)] at hdl
                                   exact X.ct ⟨_, (by repeat' (first | exact trivial | refine ⟨rfl, ?_⟩)), dep + 1, rfl, hE4, hr4, hok, hdl, by omega⟩)
                                | (rw [if_neg h63, if_pos g72] at hdl
                                   have h0 : dep = 0 := by omega
                                   subst h0
                                   exact X.ct ⟨_, (by repeat' (first | exact trivial | refine ⟨rfl, ?_⟩)), 0, rfl, hE4, hr4, hok, hdl, by omega⟩)
                                | (rw [if_neg h63, if_neg g72] at hdl
                                   exact X.ct ⟨_, (by repeat' (first | exact trivial | refine ⟨rfl, ?_⟩)), dep, rfl, hE4, hr4, hok, hdl, hdep⟩)
                          ·
                            refine L.no rfl rfl rfl rfl ?_
                            refine L.no rfl rfl rfl rfl ?_
                            refine L.rd (rd_pickF rfl rfl) rfl ?_
                            refine L.nil ?_
                            refine X.sq ?_
                            refine V.condF rfl ?_
                            refine V.skip ?_
                            refine X.bk ?_
                            first
                              | (exfalso; omega)
                              | (rw [if_pos h63, if_neg (by omega)] at hdl
                                 exact X.ct ⟨_, (by repeat' (first | exact trivial | refine ⟨rfl, ?_⟩)), dep + 1, rfl, hE4, hr4, hok, hdl, by omega⟩)
                              | (rw [if_neg h63, if_pos g72] at hdl
                                 have h0 : dep = 0 := by omega
                                 subst h0
                                 exact X.ct ⟨_, (by repeat' (first | exact trivial | refine ⟨rfl, ?_⟩)), 0, rfl, hE4, hr4, hok, hdl, by omega⟩)
                              | (rw [if_neg h63, if_neg g72] at hdl
                                 exact X.ct ⟨_, (by repeat' (first | exact trivial | refine ⟨rfl, ?_⟩)), dep, rfl, hE4, hr4, hok, hdl, hdep⟩)
                      ·
                        refine V.skip ?_
                        refine X.sq ?_
                        refine V.seq ?_
                        refine V.region ?_
                        refine L.rd (rd_fieldAddr tok rfl rfl rfl rfl rfl rfl) rfl ?_
                        refine L.rd (rd_load1 tok rfl rfl rfl (hb4.cell rfl)) rfl ?_
                        refine L.rd (rd_eql rfl rfl) rfl ?_
                        refine L.rd (rd_move rfl) rfl ?_
                        first | refine L.partG rfl rfl (fun g72 => ?_) (fun g72 => ?_) | refine L.partGB rfl rfl (fun g72 => ?_) (fun g72 => ?_)
                        ·
                          refine L.yes rfl rfl ?_
                          refine L.rd (rd_move rfl) rfl ?_
                          refine L.yes rfl rfl ?_
                          refine L.rd (rd_gtr rfl rfl) rfl ?_
                          refine L.rd (rd_pickT rfl rfl) rfl ?_
                          refine L.nil ?_
                          refine X.sq ?_
                          first | refine V.cond rfl (fun h75 => ?_) (fun h75 => ?_) | refine V.condB rfl (fun h75 => ?_) (fun h75 => ?_)
                          ·
                            refine V.region ?_
                            refine L.rd (rd_move rfl) rfl ?_
                            (refine L.rd (rd_sub3 rfl rfl ?_) rfl ?_; omega)
                            refine L.rd (rd_assign rfl) rfl ?_
                            refine L.nil ?_
                            refine X.bk ?_
                            first
                              | (exfalso; omega)
                              | (rw [if_neg h63, if_pos g72] at hdl
                                 refine X.ct ⟨_, ?_, dep - 1, rfl, hE4, hr4, hok, hdl, by omega⟩
                                 have e : ((dep - 1 : Nat) : Int) = (dep : Int) - 1 := by omega
                                 rw [e]
                                 exact (by repeat' (first | exact trivial | refine ⟨rfl, ?_⟩)))
                          ·
                            refine V.skip ?_
                            refine X.bk ?_
                            first
                              | (exfalso; omega)
                              | (rw [if_pos h63, if_neg (by omega)] at hdl
                                 exact X.ct ⟨_, (by repeat' (first | exact trivial | refine ⟨rfl, ?_⟩)), dep + 1, rfl, hE4, hr4, hok, hdl, by omega⟩)
                              | (rw [if_neg h63, if_pos g72] at hdl
                                 have h0 : dep = 0 := by omega
                                 subst h0
                                 exact X.ct ⟨_, (by repeat' (first | exact trivial | refine ⟨rfl, ?_⟩)), 0, rfl, hE4, hr4, hok, hdl, by omega⟩)
                              | (rw [if_neg h63, if_neg g72] at hdl
                                 exact X.ct ⟨_, (by repeat' (first | exact trivial | refine ⟨rfl, ?_⟩)), dep, rfl, hE4, hr4, hok, hdl, hdep⟩)
                        ·
                          refine L.no rfl rfl rfl rfl ?_
                          refine L.no rfl rfl rfl rfl ?_
                          refine L.rd (rd_pickF rfl rfl) rfl ?_
                          refine L.nil ?_
                          refine X.sq ?_
                          refine V.condF rfl ?_
                          refine V.skip ?_
                          refine X.bk ?_
                          first
                            | (exfalso; omega)
                            | (rw [if_pos h63, if_neg (by omega)] at hdl
                               exact X.ct ⟨_, (by repeat' (first | exact trivial | refine ⟨rfl, ?_⟩)), dep + 1, rfl, hE4, hr4, hok, hdl, by omega⟩)
                            | (rw [if_neg h63, if_pos g72] at hdl
                               have h0 : dep = 0 := by omega
                               subst h0
                               exact X.ct ⟨_, (by repeat' (first | exact trivial | refine ⟨rfl, ?_⟩)), 0, rfl, hE4, hr4, hok, hdl, by omega⟩)
                            | (rw [if_neg h63, if_neg g72] at hdl
                               exact X.ct ⟨_, (by repeat' (first | exact trivial | refine ⟨rfl, ?_⟩)), dep, rfl, hE4, hr4, hok, hdl, hdep⟩)
                  ·
                    refine L.no rfl rfl rfl rfl ?_
                    refine L.no rfl rfl rfl rfl ?_
                    refine L.no rfl rfl rfl rfl ?_
                    refine L.rd (rd_pickF rfl rfl) rfl ?_
                    refine L.rd (rd_move rfl) rfl ?_
                    refine L.no rfl rfl rfl rfl ?_
                    refine L.no rfl rfl rfl rfl ?_
                    refine L.no rfl rfl rfl rfl ?_
                    refine L.rd (rd_pickF rfl rfl) rfl ?_
                    refine L.nil ?_
                    refine X.sq ?_
                    refine V.condF rfl ?_
                    refine V.skip ?_
                    refine X.sq ?_
                    refine V.seq ?_
                    refine V.seq ?_
                    have hok : tokOk (kd, vl) = true := by unfold tokOk; exact decide_eq_true (by simp only []; omega)
                    refine V.region ?_
                    refine L.rd (rd_fieldAddr tok rfl rfl rfl rfl rfl rfl) rfl ?_
                    refine L.rd (rd_load1 tok rfl rfl rfl (hb4.cell rfl)) rfl ?_
                    refine L.rd (rd_eql rfl rfl) rfl ?_
                    refine L.nil ?_
                    refine X.sq ?_
                    first | refine V.cond rfl (fun h63 => ?_) (fun h63 => ?_) | refine V.condB rfl (fun h63 => ?_) (fun h63 => ?_)
                    ·
                      refine V.seq ?_
                      refine V.region ?_
                      refine L.rd (rd_move rfl) rfl ?_
                      (refine L.rd (rd_add3 rfl rfl ?_) rfl ?_; omega)
                      refine L.rd (rd_assign rfl) rfl ?_
                      refine L.nil ?_
                      refine X.sq ?_
                      refine V.seq ?_
                      refine V.region ?_
                      refine L.rd (rd_move rfl) rfl ?_
                      refine L.rd (rd_gtr rfl rfl) rfl ?_
                      refine L.nil ?_
                      refine X.sq ?_
                      first | refine V.cond rfl (fun h67 => ?_) (fun h67 => ?_) | refine V.condB rfl (fun h67 => ?_) (fun h67 => ?_)
                      ·
                        refine V.seq ?_
                        refine V.region ?_
                        refine L.rd (rd_build (out := [_, _]) tok rfl rfl rfl rfl rfl) rfl ?_
                        refine L.ef (e_store (vs := [_, _]) tok rfl rfl rfl rfl hr4 rfl (by simp [Value.oneCell']) (by simp) ?_)
                        refine L.rd (rd_assign rfl) rfl ?_
                        refine L.nil ?_
                        refine X.sq ?_
                        refine V.ret ?_
                        refine X.sqRet ?_
                        refine X.bkRet ?_
                        refine X.ctRet ?_
                        refine X.sqRet ?_
                        refine X.lpRet ?_
                        refine X.bkRet ?_
                        refine X.sqRet ?_
                        refine ret_c1 tok Yaam.results12 rfl rfl rfl rfl (Bl.cells (hr4.set _ _)) rfl ?_
                        rw [if_pos h63, if_pos (by omega)] at hdl
                        exact XPost.bad (parse_bad (.inr (.inr (.inr hdl)))) (hE4.set (by omega) _ _)
                      ·
                        refine V.skip ?_
                        refine X.sq ?_
                        refine V.seq ?_
                        refine V.region ?_
                        refine L.rd (rd_fieldAddr tok rfl rfl rfl rfl rfl rfl) rfl ?_
                        refine L.rd (rd_load1 tok rfl rfl rfl (hb4.cell rfl)) rfl ?_
                        refine L.rd (rd_eql rfl rfl) rfl ?_
                        refine L.rd (rd_move rfl) rfl ?_
                        first | refine L.partG rfl rfl (fun g72 => ?_) (fun g72 => ?_) | refine L.partGB rfl rfl (fun g72 => ?_) (fun g72 => ?_)
                        ·
                          refine L.yes rfl rfl ?_
                          refine L.rd (rd_move rfl) rfl ?_
                          refine L.yes rfl rfl ?_
                          refine L.rd (rd_gtr rfl rfl) rfl ?_
                          refine L.rd (rd_pickT rfl rfl) rfl ?_
                          refine L.nil ?_
                          refine X.sq ?_
                          first | refine V.cond rfl (fun h75 => ?_) (fun h75 => ?_) | refine V.condB rfl (fun h75 => ?_) (fun h75 => ?_)
                          ·
                            refine V.region ?_
                            refine L.rd (rd_move rfl) rfl ?_
                            (refine L.rd (rd_sub3 rfl rfl ?_) rfl ?_; omega)
                            refine L.rd (rd_assign rfl) rfl ?_
                            refine L.nil ?_
                            refine X.bk ?_
                            first
                              | (exfalso; omega)
                              | (rw [if_neg h63, if_pos g72] at hdl
                                 refine X.ct ⟨_, ?_, dep - 1, rfl, hE4, hr4, hok, hdl, by omega⟩
                                 have e : ((dep - 1 : Nat) : Int) = (dep : Int) - 1 := by omega
                                 rw [e]
                                 exact (by repeat' (first | exact trivial | refine ⟨rfl, ?_⟩)))
                          ·
                            refine V.skip ?_
                            refine X.bk ?_
                            first
                              | (exfalso; omega)
                              | (rw [if_pos h63, if_neg (by omega)] at hdl
                                 exact X.ct ⟨_, (by repeat' (first | exact trivial | refine ⟨rfl, ?_⟩)), dep + 1, rfl, hE4, hr4, hok, hdl, by omega⟩)
                              | (rw [if_neg h63, if_pos g72] at hdl
                                 have h0 : dep = 0 := by omega
                                 subst h0
                                 exact X.ct ⟨_, (by repeat' (first | exact trivial | refine ⟨rfl, ?_⟩)), 0, rfl, hE4, hr4, hok, hdl, by omega⟩)
                              | (rw [if_neg h63, if_neg g72] at hdl
                                 exact X.ct ⟨_, (by repeat' (first | exact trivial | refine ⟨rfl, ?_⟩)), dep, rfl, hE4, hr4, hok, hdl, hdep⟩)
                        ·
                          refine L.no rfl rfl rfl rfl ?_
                          refine L.no rfl rfl rfl rfl ?_
                          refine L.rd (rd_pickF rfl rfl) rfl ?_
                          refine L.nil ?_
                          refine X.sq ?_
                          refine V.condF rfl ?_
                          refine V.skip ?_
                          refine X.bk ?_
                          first
                            | (exfalso; omega)
                            | (rw [if_pos h63, if_neg (by omega)] at hdl
                               exact X.ct ⟨_, (by repeat' (first | exact trivial | refine ⟨rfl, ?_⟩)), dep + 1, rfl, hE4, hr4, hok, hdl, by omega⟩)
                            | (rw [if_neg h63, if_pos g72] at hdl
                               have h0 : dep = 0 := by omega
                               subst h0
                               exact X.ct ⟨_, (by repeat' (first | exact trivial | refine ⟨rfl, ?_⟩)), 0, rfl, hE4, hr4, hok, hdl, by omega⟩)
                            | (rw [if_neg h63, if_neg g72] at hdl
                               exact X.ct ⟨_, (by repeat' (first | exact trivial | refine ⟨rfl, ?_⟩)), dep, rfl, hE4, hr4, hok, hdl, hdep⟩)
                    ·
                      refine V.skip ?_
                      refine X.sq ?_
                      refine V.seq ?_
                      refine V.region ?_
                      refine L.rd (rd_fieldAddr tok rfl rfl rfl rfl rfl rfl) rfl ?_
                      refine L.rd (rd_load1 tok rfl rfl rfl (hb4.cell rfl)) rfl ?_
                      refine L.rd (rd_eql rfl rfl) rfl ?_
                      refine L.rd (rd_move rfl) rfl ?_
                      first | refine L.partG rfl rfl (fun g72 => ?_) (fun g72 => ?_) | refine L.partGB rfl rfl (fun g72 => ?_) (fun g72 => ?_)
                      ·
                        refine L.yes rfl rfl ?_
                        refine L.rd (rd_move rfl) rfl ?_
                        refine L.yes rfl rfl ?_
                        refine L.rd (rd_gtr rfl rfl) rfl ?_
                        refine L.rd (rd_pickT rfl rfl) rfl ?_
                        refine L.nil ?_
                        refine X.sq ?_
                        first | refine V.cond rfl (fun h75 => ?_) (fun h75 => ?_) | refine V.condB rfl (fun h75 => ?_) (fun h75 => ?_)
                        ·
                          refine V.region ?_
                          refine L.rd (rd_move rfl) rfl ?_
                          (refine L.rd (rd_sub3 rfl rfl ?_) rfl ?_; omega)
                          refine L.rd (rd_assign rfl) rfl ?_
                          refine L.nil ?_
                          refine X.bk ?_
                          first
                            | (exfalso; omega)
                            | (rw [if_neg h63, if_pos g72] at hdl
                               refine X.ct ⟨_, ?_, dep - 1, rfl, hE4, hr4, hok, hdl, by omega⟩
                               have e : ((dep - 1 : Nat) : Int) = (dep : Int) - 1 := by omega
                               rw [e]
                               exact (by repeat' (first | exact trivial | refine ⟨rfl, ?_⟩)))
                        ·
                          refine V.skip ?_
                          refine X.bk ?_
                          first
                            | (exfalso; omega)
                            | (rw [if_pos h63, if_neg (by omega)] at hdl
                               exact X.ct ⟨_, (by repeat' (first | exact trivial | refine ⟨rfl, ?_⟩)), dep + 1, rfl, hE4, hr4, hok, hdl, by omega⟩)
                            | (rw [if_neg h63, if_pos g72] at hdl
                               have h0 : dep = 0 := by omega
                               subst h0
                               exact X.ct ⟨_, (by repeat' (first | exact trivial | refine ⟨rfl, ?_⟩)), 0, rfl, hE4, hr4, hok, hdl, by omega⟩)
                            | (rw [if_neg h63, if_neg g72] at hdl
                               exact X.ct ⟨_, (by repeat' (first | exact trivial | refine ⟨rfl, ?_⟩)), dep, rfl, hE4, hr4, hok, hdl, hdep⟩)
                      ·
                        refine L.no rfl rfl rfl rfl ?_
                        refine L.no rfl rfl rfl rfl ?_
                        refine L.rd (rd_pickF rfl rfl) rfl ?_
                        refine L.nil ?_
                        refine X.sq ?_
                        refine V.condF rfl ?_
                        refine V.skip ?_
                        refine X.bk ?_
                        first
                          | (exfalso; omega)
                          | (rw [if_pos h63, if_neg (by omega)] at hdl
                             exact X.ct ⟨_, (by repeat' (first | exact trivial | refine ⟨rfl, ?_⟩)), dep + 1, rfl, hE4, hr4, hok, hdl, by omega⟩)
                          | (rw [if_neg h63, if_pos g72] at hdl
                             have h0 : dep = 0 := by omega
                             subst h0
                             exact X.ct ⟨_, (by repeat' (first | exact trivial | refine ⟨rfl, ?_⟩)), 0, rfl, hE4, hr4, hok, hdl, by omega⟩)
                          | (rw [if_neg h63, if_neg g72] at hdl
                             exact X.ct ⟨_, (by repeat' (first | exact trivial | refine ⟨rfl, ?_⟩)), dep, rfl, hE4, hr4, hok, hdl, hdep⟩)
          ·
            rintro l w7 ⟨dep7, rfl, hE7, hr7, hok7, hdl7, hdep7⟩
            refine X.sq ?_
            refine V.region ?_
            (refine L.rd (rd_add3 rfl rfl ?_) rfl ?_; omega)
            refine L.rd (rd_move rfl) rfl ?_
            refine L.nil ?_
            exact X.lp ⟨_, _, by omega, (by repeat' (first | exact trivial | refine ⟨rfl, ?_⟩)), k + 1, dep7, rfl, rfl, by omega, hE7, hr7, tall_snoc ht hall hok7, hdl7, hdep7⟩
        ·
          refine V.exit ?_
          refine X.sqExit ?_
          refine X.lpExit ?_
          refine X.bkHere ?_
          refine X.sq ?_
          refine V.seq ?_
          have hok : ts.all tokOk = true := by rwa [List.take_of_length_le (by omega)] at hall
          rw [List.drop_eq_nil_of_le (by omega), dl] at hdl
          have hs := hE.size
          have hrl := hr.lt
          have hpp : parseP ts = match pE false (ts.length + 1) 0 ts with
              | none => none
              | some (t, r) => if r.length = 0 ∧ tsz t ≤ 500000 then some t else none := by
            have hc : ¬ (ts.length = 0 ∨ 2000000 < ts.length ∨ ts.all tokOk = false ∨ dl ts 0 = none) := by
              rintro (h | h | h | h)
              · omega
              · omega
              · rw [hok] at h; cases h
              · rw [hdl] at h; cases h
            unfold parseP
            rw [if_neg hc]
            try rfl
          refine V.region ?_
          refine L.rd (rd_move rfl) rfl ?_
          refine L.rd (rd_build (out := [_, _, _]) tok rfl rfl rfl rfl rfl) rfl ?_
          refine L.ef (e_alloc (cs := [_, _, _]) tok rfl rfl (by first | (simp only [size_addB, size_setB, size_drew]; rfl) | rfl) rfl ?_)
          refine L.ef (e_store (vs := [_, _, _]) tok rfl rfl rfl rfl (by (repeat (first | assumption | (refine Bl.new' ?_ _ _; first | with_reducible rfl | (simp only [size_addB, size_setB, size_drew]; done)) | apply Bl.add | apply Bl.drew | (apply Bl.setNe; omega) | (refine Bl.set' ?_ _ _; (try simp only [size_addB, size_setB, size_drew]); omega)))) rfl (by simp [Value.oneCell']) (by simp) ?_)
          refine L.nil ?_
          refine X.sq ?_
          refine V.seq ?_
          generalize hw2 : setB _ _ _ _ = w2
          have hsp : SPq wr.heap.size (.slice ta ts.length tc) ts w2 ts := by
            rw [← hw2]
            have hex : Ext wr.heap.size wr (setB (addB wr 74 [.slice none 0 0, .int .i64 0, .bool false]) wr.heap.size 74 (putAt [.slice none 0 0, .int .i64 0, .bool false] 0 [.slice ta ts.length tc, .int .i64 0, .bool false])) := ((Ext.refl _ _).addNew _ _).set (Nat.le_refl _) _ _
            refine ⟨?_, ((hT.ext hE).wide (Nat.le_refl _) hs).ext hex, List.suffix_refl _⟩
            rw [Nat.sub_self]
            exact Bl.set' (by rw [size_addB]; omega) _ _
          have hEp : Ext wr.heap.size wr w2 := by rw [← hw2]; exact ((Ext.refl _ _).addNew _ _).set (Nat.le_refl _) _ _
          have hr2 := hEp.bl hr.lt hr
          refine V.region ?_
          refine L.ef (e_call rfl (sexpr_all (by omega) (ts.length + 1) _ ts 0 (by omega) hsp) rfl ?_)
          rintro _ w3 ⟨a3, rfl, hR3, hg3, hb3⟩
          obtain ⟨b3, p3, hbl3, hst3⟩ := SPost.state hg3 hb3
          have hr3 := hr2.rg' hR3 (.inl (by omega))
          have hE3 : Ext w.heap.size w w3 := (hE.next hEp).nextR hR3 (by omega)
          refine L.rd (rd_assign rfl) rfl ?_
          refine L.nil ?_
          refine X.sq ?_
          refine V.seq ?_
          refine V.seq ?_
          refine V.region ?_
          refine L.rd (rd_fieldAddr tok rfl rfl rfl rfl rfl rfl) rfl ?_
          refine L.rd (rd_load1 tok rfl rfl rfl (hbl3.cell (i := 2) rfl)) rfl ?_
          refine L.rd (rd_move rfl) rfl ?_
          first | refine L.partG rfl rfl (fun g84 => ?_) (fun g84 => ?_) | refine L.partGB rfl rfl (fun g84 => ?_) (fun g84 => ?_)
          ·
            refine L.no rfl rfl rfl rfl ?_
            refine L.no rfl rfl rfl rfl ?_
            refine L.no rfl rfl rfl rfl ?_
            refine L.no rfl rfl rfl rfl ?_
            refine L.no rfl rfl rfl rfl ?_
            refine L.rd (rd_pickT rfl rfl) rfl ?_
            refine L.nil ?_
            refine X.sq ?_
            refine V.condT rfl ?_
            refine V.seq ?_
            refine V.region ?_
            refine L.rd (rd_build (out := [_, _]) tok rfl rfl rfl rfl rfl) rfl ?_
            refine L.ef (e_store (vs := [_, _]) tok rfl rfl rfl rfl hr3 rfl (by simp [Value.oneCell']) (by simp) ?_)
            refine L.rd (rd_assign rfl) rfl ?_
            refine L.nil ?_
            refine X.sq ?_
            refine V.ret ?_
            refine X.sqRet ?_
            refine ret_c1 tok Yaam.results12 rfl rfl rfl rfl (Bl.cells (hr3.set _ _)) rfl ?_
            refine XPost.bad ?_ (hE3.set (by omega) _ _)
            first
              | (rw [hpp, if_neg (by omega)])
              | (rcases hst3 with ⟨rfl, ho⟩ | ⟨rfl, -⟩
                 · rw [hpp, ho]
                 · simp at g84)
          ·
            obtain ⟨hbf, t, r1, ho, h3, ht3, hp3⟩ : b3 = false ∧ ∃ t2 r2, pE false (ts.length + 1) 0 ts = some (t2, r2) ∧ SPq wr.heap.size (.slice ta ts.length tc) ts w3 r2 ∧ Tm 119 w3 (wr.heap.size + 1) t2 (.pointer a3) ∧ p3 = ((ts.length - r2.length : Nat) : Int) := by
              rcases hst3 with ⟨rfl, -⟩ | h
              · simp at g84
              · exact h
            have hsx := h3.sx.length_le
            have htz := pE_tz false _ _ _ _ _ ho
            have hwt := pE_wf false _ _ _ _ _ hok ho
            rw [ho] at hpp
            simp only [] at hpp
            refine L.yes rfl rfl ?_
            refine L.rd (rd_fieldAddr tok rfl rfl rfl rfl rfl rfl) rfl ?_
            refine L.yes rfl rfl ?_
            refine L.rd (rd_load1 tok rfl rfl rfl (hbl3.cell (i := 1) rfl)) rfl ?_
            refine L.yes rfl rfl ?_
            refine L.rd (rd_move rfl) rfl ?_
            refine L.yes rfl rfl ?_
            refine L.rd (rd_lenSlice tok rfl rfl rfl) rfl ?_
            refine L.yes rfl rfl ?_
            refine L.rd (rd_neq rfl rfl) rfl ?_
            refine L.rd (rd_pickF rfl rfl) rfl ?_
            refine L.nil ?_
            refine X.sq ?_
            first | refine V.cond rfl (fun h90 => ?_) (fun h90 => ?_) | refine V.condB rfl (fun h90 => ?_) (fun h90 => ?_)
            ·
              refine V.seq ?_
              refine V.region ?_
              refine L.rd (rd_build (out := [_, _]) tok rfl rfl rfl rfl rfl) rfl ?_
              refine L.ef (e_store (vs := [_, _]) tok rfl rfl rfl rfl hr3 rfl (by simp [Value.oneCell']) (by simp) ?_)
              refine L.rd (rd_assign rfl) rfl ?_
              refine L.nil ?_
              refine X.sq ?_
              refine V.ret ?_
              refine X.sqRet ?_
              refine ret_c1 tok Yaam.results12 rfl rfl rfl rfl (Bl.cells (hr3.set _ _)) rfl ?_
              refine XPost.bad ?_ (hE3.set (by omega) _ _)
              first
                | (rw [hpp, if_neg (by omega)])
                | (rcases hst3 with ⟨rfl, ho⟩ | ⟨rfl, -⟩
                   · rw [hpp, ho]
                   · simp at g84)
            ·
              refine V.skip ?_
              refine X.sq ?_
              refine V.seq ?_
              refine V.seq ?_
              have hs3 := hE3.size
              have hrl3 := hr3.lt
              refine V.region ?_
              refine L.rd (rd_move rfl) rfl ?_
              refine L.ef (e_call rfl (count_ok _ t _ _ hwt (by omega) ht3) rfl ?_)
              rintro _ w4 ⟨rfl, he4⟩
              have hr4 := he4.bl hr3.lt hr3
              have hE4 := hE3.next he4
              have ht4 := ht3.ext he4
              refine L.rd (rd_gtr rfl rfl) rfl ?_
              refine L.nil ?_
              refine X.sq ?_
              first | refine V.cond rfl (fun h94 => ?_) (fun h94 => ?_) | refine V.condB rfl (fun h94 => ?_) (fun h94 => ?_)
              ·
                refine V.seq ?_
                refine V.region ?_
                refine L.rd (rd_build (out := [_, _]) tok rfl rfl rfl rfl rfl) rfl ?_
                refine L.ef (e_store (vs := [_, _]) tok rfl rfl rfl rfl hr4 rfl (by simp [Value.oneCell']) (by simp) ?_)
                refine L.rd (rd_assign rfl) rfl ?_
                refine L.nil ?_
                refine X.sq ?_
                refine V.ret ?_
                refine X.sqRet ?_
                refine ret_c1 tok Yaam.results12 rfl rfl rfl rfl (Bl.cells (hr4.set _ _)) rfl ?_
                exact XPost.bad (by rw [hpp, if_neg (by omega)]) (hE4.set (by omega) _ _)
              ·
                refine V.skip ?_
                refine X.sq ?_
                refine V.seq ?_
                refine V.region ?_
                refine L.rd (rd_move rfl) rfl ?_
                refine L.ef (e_call rfl (toExpr_ok t _ _ _ hwt (by omega) ht4) rfl ?_)
                rintro _ w5 ⟨nv5, rfl, ho5, he5⟩
                obtain ⟨na, nc, rfl⟩ := own_form ho5
                have hr5 := he5.bl hr4.lt hr4
                have hE5 := hE4.next he5
                have hrl4 := hr4.lt
                refine L.ef (e_store (vs := [_, _]) tok rfl rfl rfl rfl hr5 rfl (by simp [Value.oneCell']) (by simp) ?_)
                refine L.rd (rd_assign rfl) rfl ?_
                refine L.nil ?_
                refine X.sq ?_
                refine V.ret ?_
                refine ret_c1 tok Yaam.results12 rfl rfl rfl rfl (Bl.cells (hr5.set _ _)) rfl ?_
                rw [if_pos (by omega)] at hpp
                refine ⟨_, flat t 0, _, by rw [hpp]; rfl, ?_, fun t2 ht2 => ?_, fun hn => (by rw [hpp] at hn; cases hn), hE5.set (by omega) _ _⟩
                · refine own_low (own_same ho5 fun q hq => ?_) (by omega)
                  have := (own_block_lt ho5 hq).1
                  exact (Rg.set (w := w5) (lo := w.heap.size) (hi := w.heap.size + 1) (by omega) 34 _).block q (own_block_lt ho5 hq).2 (by omega)
                · rw [hpp] at ht2
                  simp only [Option.some.injEq] at ht2
                  subst ht2
                  exact ⟨rfl, rfl⟩
end Go.Proofs.YbxaawGreat
