/-
  impl.PrintPoly, walked.
-/
import Derived.Test.YbxaawGreatUdecW
import Derived.Test.YbxaawGreatCanW3
set_option linter.unusedVariables false
set_option linter.unusedSimpArgs false
set_option maxRecDepth 10000
namespace Go.Mw
/-- what PrintPoly is to answer -/
def PPost (q : List PT) (w : World) (r : Value) (w' : World) : Prop := r = .tuple #[.string (mkS (if canon q = true then printP q else [])), .bool (canon q)] ∧ Ext w.heap.size w w'
theorem PPost.bad {q : List PT} {w w' : World} (h : canon q = false) (he : Ext w.heap.size w w') : PPost q w (.tuple #[.string (mkS []), .bool false]) w' := ⟨by rw [h]; rfl, he⟩
theorem PPost.good {q : List PT} {w w' : World} {acc : List Nat} (h : canon q = true) (he : Ext w.heap.size w w') (hp : printP q = acc) : PPost q w (.tuple #[.string (mkS acc), .bool true]) w' := ⟨by rw [h, if_pos rfl, hp], he⟩
def plus (k : Nat) : List Nat := if k = 0 then [] else [43]
def star (j : Nat) : List Nat := if j = 0 then [] else [42]
theorem plus_len (k : Nat) : (plus k).length ≤ 1 := by unfold plus; split <;> simp
theorem star_len (k : Nat) : (star k).length ≤ 1 := by unfold star; split <;> simp
theorem prQ_step {q : List PT} {k : Nat} {t : PT} (h : q[k]? = some t) : prQ (q.drop k) (decide (k ≠ 0)) = plus k ++ (prT t ++ prQ (q.drop (k + 1)) (decide (k + 1 ≠ 0))) := by
  rw [drop_cons h, prQ]
  unfold plus
  by_cases hk : k = 0 <;> simp [hk]
theorem pf_step {fs : List (Int × Int)} {j : Nat} {f : Int × Int} (h : fs[j]? = some f) : pf (fs.drop j) (decide (j = 0)) = star j ++ (fac f ++ pf (fs.drop (j + 1)) (decide (j + 1 = 0))) := by
  rw [drop_cons h, pf]
  unfold star
  by_cases hk : j = 0 <;> simp [hk]
theorem prT_many {c : Int} {fs : List (Int × Int)} (h : fs ≠ []) : prT (c, fs) = (if c = 1 then [] else udec c ++ [42]) ++ pf fs true := by
  unfold prT
  rw [if_neg h, pf_false fs h]
  split <;> simp
theorem prT_none {c : Int} : prT (c, []) = udec c := rfl
end Go.Mw
namespace Go.Proofs.YbxaawGreat
open Go.Mw

theorem iprint_ok (va : Value) (Ls : List Lt) (w : World) {lo hi : Nat} (hT : Tl w lo hi va Ls) (hS : Sm (pol Ls)) : Ret Yaam.prog 73 [.agg #[va]] w (PPost (pol Ls) w) := by
  obtain ⟨aa, ca, rfl, hfa⟩ := hT.form
  refine enter1 Yaam.func73 Yaam.ntmps73 (by kernel_rfl) rfl rfl ?_
  refine V.seq ?_
  refine V.region ?_
  refine L.ef (e_box (cs := [_]) rfl rfl (by first | (simp only [size_addB, size_setB, size_drew]; rfl) | rfl) rfl ?_)
  refine L.rd (rd_assign rfl) rfl ?_
  refine L.rd (rd_assign rfl) rfl ?_
  refine L.nil ?_
  refine X.sq ?_
  refine V.seq ?_
  refine V.seq ?_
  have hp := Bl.new w 44 [.slice aa Ls.length ca]
  have hE := (Ext.refl _ w).addNew 44 [.slice aa Ls.length ca]
  refine V.region ?_
  refine L.rd (rd_loadN tok rfl rfl rfl hp.cells rfl) rfl ?_
  refine L.ef (e_call rfl (ican_ok _ Ls _ (hT.ext hE) hS) rfl ?_)
  rintro _ w1 ⟨rfl, he1⟩
  replace hp := he1.bl hp.lt hp
  replace hE := hE.next he1
  first | refine L.rd (rd_not rfl) rfl ?_ | refine L.rd (rd_notB rfl) rfl ?_
  refine L.nil ?_
  refine X.sq ?_
  first | refine V.cond rfl (fun h11 => ?_) (fun h11 => ?_) | refine V.condB rfl (fun h11 => ?_) (fun h11 => ?_)
  ·
    have hC : canon (pol Ls) = false := by simpa using h11
    refine V.seq ?_
    refine V.region ?_
    refine L.rd (rd_assign rfl) rfl ?_
    refine L.rd (rd_assign rfl) rfl ?_
    refine L.nil ?_
    refine X.sq ?_
    refine V.ret ?_
    refine X.sqRet ?_
    refine ret_2 Yaam.results73 rfl rfl ?_
    exact PPost.bad hC hE
  ·
    have hC : canon (pol Ls) = true := by simpa using h11
    have hL : Ls.length ≤ 4096 := by have := canon_len hC; rwa [pol_length] at this
    refine V.skip ?_
    refine X.sq ?_
    refine V.seq ?_
    refine V.seq ?_
    refine V.region ?_
    refine L.rd (rd_fieldAddr tok rfl rfl rfl rfl rfl rfl) rfl ?_
    refine L.rd (rd_load1 tok rfl rfl rfl (hp.cell rfl)) rfl ?_
    refine L.rd (rd_lenSlice tok rfl rfl rfl) rfl ?_
    refine L.rd (rd_eql rfl rfl) rfl ?_
    refine L.nil ?_
    refine X.sq ?_
    first | refine V.cond rfl (fun h15 => ?_) (fun h15 => ?_) | refine V.condB rfl (fun h15 => ?_) (fun h15 => ?_)
    ·
      refine V.seq ?_
      refine V.region ?_
      refine L.rd (rd_assign rfl) rfl ?_
      refine L.rd (rd_assign rfl) rfl ?_
      refine L.nil ?_
      refine X.sq ?_
      refine V.ret ?_
      refine X.sqRet ?_
      refine ret_2 Yaam.results73 rfl rfl ?_
      have hnil : Ls = [] := List.eq_nil_of_length_eq_zero (by omega)
      subst hnil
      exact PPost.good hC hE rfl
    ·
      refine V.skip ?_
      refine X.sq ?_
      refine V.seq ?_
      refine V.region ?_
      refine L.ef (e_make0 (e := 5) tok rfl rfl rfl rfl rfl rfl rfl (by first | (simp only [size_addB, size_setB, size_drew]; rfl) | rfl) rfl ?_)
      refine L.rd (rd_assign rfl) rfl ?_
      refine L.nil ?_
      refine X.sq ?_
      refine V.seq ?_
      refine V.seq ?_
      refine V.region ?_
      refine L.rd (rd_fieldAddr tok rfl rfl rfl rfl rfl rfl) rfl ?_
      refine L.rd (rd_load1 tok rfl rfl rfl ((hp.add _ _).cell rfl)) rfl ?_
      refine L.rd (rd_lenSlice tok rfl rfl rfl) rfl ?_
      refine L.rd (rd_move rfl) rfl ?_
      refine L.nil ?_
      refine X.sq ?_
      refine V.block ?_
      refine V.loop (fun m l wr => ∃ (k : Nat) (bv : Value) (acc : List Nat), l = [(4, bv), (18, .slice aa Ls.length ca), (19, .int .i64 Ls.length), (20, .int .i64 k)] ∧ m = Ls.length - k ∧ k ≤ Ls.length ∧ Bf 5 w wr bv acc ∧ acc.length ≤ k * 800 ∧ prQ (pol Ls) false = acc ++ prQ ((pol Ls).drop k) (decide (k ≠ 0))) ?_ ?_
      ·
        exact ⟨_, _, (by repeat' (first | exact trivial | refine ⟨rfl, ?_⟩)), 0, _, [], rfl, rfl, by omega, ⟨own_empty (Bl.new _ _ _) hE.size, hE.addNew _ _⟩, by simp, by simp⟩
      ·
        clear hE hp
        rintro m l wr ⟨k, bv, acc, rfl, rfl, hk, hB, hal, hpr⟩
        have hE := hB.ext
        refine V.seq ?_
        refine V.region ?_
        refine L.rd (rd_lss rfl rfl) rfl ?_
        refine L.nil ?_
        refine X.sq ?_
        refine V.seq ?_
        first | refine V.cond rfl (fun h21 => ?_) (fun h21 => ?_) | refine V.condB rfl (fun h21 => ?_) (fun h21 => ?_)
        ·
          obtain ⟨b1, o1, rfl, -, -, hc1⟩ := hfa.resolve_left (by omega)
          obtain ⟨⟨c, fv, fs⟩, ht⟩ := nth_of_lt Ls k (by omega)
          have hcx := Tl.cells (hc1.le hE.leC) ht
          have hCT := canon_nth hC (pol_get ht)
          have hfsl := hCT.len
          have hfm := hCT.mem
          have hwr := hE.size
          obtain ⟨fa, fc, hfv, hff⟩ := hT.nth ht
          rw [prQ_step (pol_get ht)] at hpr
          simp only at hfv hff hcx hpr hfsl hfm
          subst hfv
          refine V.skip ?_
          refine X.sq ?_
          refine V.seq ?_
          refine V.cut (fun l w' => ∃ (bv' : Value) (acc' : List Nat), l = [(4, bv'), (18, .slice (some ⟨b1, o1, none⟩) Ls.length ca), (19, .int .i64 Ls.length), (20, .int .i64 k)] ∧ Bf 5 w w' bv' acc' ∧ acc'.length ≤ acc.length + 800 ∧ acc' = acc ++ (plus k ++ prT (c, fs))) ?_ ?_
          ·
            refine V.block ?_
            refine V.seq ?_
            refine V.region ?_
            refine L.rd (rd_move rfl) rfl ?_
            (refine L.rd (rd_indexSlice (sz := 2) tok rfl rfl rfl rfl rfl rfl rfl ?_) rfl ?_; omega)
            refine L.rd (rd_loadN tok rfl rfl rfl hcx rfl) rfl ?_
            refine L.ef (e_alloc (cs := [_, _]) tok rfl rfl (by first | (simp only [size_addB, size_setB, size_drew]; rfl) | rfl) rfl ?_)
            refine L.rd (rd_assign rfl) rfl ?_
            refine L.ef (e_store (vs := [_, _]) tok rfl rfl rfl rfl (by (repeat (first | assumption | (refine Bl.new' ?_ _ _; first | with_reducible rfl | (simp only [size_addB, size_setB, size_drew]; done)) | apply Bl.add | apply Bl.drew | (apply Bl.setNe; omega) | (refine Bl.set' ?_ _ _; (try simp only [size_addB, size_setB, size_drew]); omega)))) rfl (by simp [Value.oneCell']) (by simp) ?_)
            refine L.nil ?_
            refine X.sq ?_
            refine V.seq ?_
            refine V.seq ?_
            have hbt : Bl (setB (addB wr 91 [Value.int .i64 0, .slice none 0 0]) wr.heap.size 91 (putAt [Value.int .i64 0, .slice none 0 0] 0 [Value.int .i64 c, .slice fa fs.length fc])) wr.heap.size 91 [Value.int .i64 c, .slice fa fs.length fc] := Bl.set' (by rw [size_addB]; omega) _ _
            have hB1 := (hB.add 91 [Value.int .i64 0, .slice none 0 0]).set (Bl.new _ _ _) rfl hwr 91 (putAt [Value.int .i64 0, .slice none 0 0] 0 [Value.int .i64 c, .slice fa fs.length fc])
            refine V.region ?_
            refine L.rd (rd_move rfl) rfl ?_
            refine L.rd (rd_gtr rfl rfl) rfl ?_
            refine L.nil ?_
            refine X.sq ?_
            refine V.cut (fun l w' => ∃ (bv' : Value) (acc2 : List Nat), l = [(4, bv'), (6, .pointer (some ⟨wr.heap.size, 0, none⟩)), (18, .slice (some ⟨b1, o1, none⟩) Ls.length ca), (19, .int .i64 Ls.length), (20, .int .i64 k)] ∧ Bf 5 w w' bv' acc2 ∧ Bl w' wr.heap.size 91 [Value.int .i64 c, .slice fa fs.length fc] ∧ acc2 = acc ++ plus k) ?_ ?_
            ·
              first | refine V.cond rfl (fun h26 => ?_) (fun h26 => ?_) | refine V.condB rfl (fun h26 => ?_) (fun h26 => ?_)
              ·
                refine V.region ?_
                refine L.rd (rd_move rfl) rfl ?_
                refine L.ef (e_buildSlice1 (e := 5) (cs := [_]) tok rfl rfl rfl rfl rfl rfl rfl rfl rfl (by first | (simp only [size_addB, size_setB, size_drew]; rfl) | rfl) rfl ?_)
                refine L.ef (e_appB (c := 43) tok rfl rfl rfl rfl rfl rfl rfl rfl rfl (by first | rfl | (simp only [size_addB, size_setB, size_drew])) rfl hB1 (by omega) ?_)
                rintro v2 w2 hB2 hkp2
                refine L.rd (rd_assign rfl) rfl ?_
                refine L.nil ?_
                exact X.ct ⟨_, (by repeat' (first | exact trivial | refine ⟨rfl, ?_⟩)), _, _, rfl, hB2, hkp2 _ _ _ hbt rfl, by unfold plus; rw [if_neg (by omega)]⟩
              ·
                refine V.skip ?_
                exact X.ct ⟨_, (by repeat' (first | exact trivial | refine ⟨rfl, ?_⟩)), _, acc, rfl, hB1, hbt, by unfold plus; rw [if_pos (by omega)]; simp⟩
            ·
              clear hbt hB1
              rintro l w2 ⟨bv2, acc2, rfl, hB2, hbt, ha2⟩
              have hl2 : acc2.length ≤ acc.length + 1 := by rw [ha2, List.length_append]; have := plus_len k; omega
              refine X.sq ?_
              refine V.seq ?_
              refine V.seq ?_
              refine V.region ?_
              refine L.rd (rd_fieldAddr tok rfl rfl rfl rfl rfl rfl) rfl ?_
              refine L.rd (rd_load1 tok rfl rfl rfl (by first | assumption | exact Bl.cell (by (repeat (first | assumption | (refine Bl.new' ?_ _ _; first | with_reducible rfl | (simp only [size_addB, size_setB, size_drew]; done)) | apply Bl.add | apply Bl.drew | (apply Bl.setNe; omega) | (refine Bl.set' ?_ _ _; (try simp only [size_addB, size_setB, size_drew]); omega)))) rfl)) rfl ?_
              refine L.rd (rd_lenSlice tok rfl rfl rfl) rfl ?_
              refine L.rd (rd_eql rfl rfl) rfl ?_
              refine L.nil ?_
              refine X.sq ?_
              first | refine V.cond rfl (fun h33 => ?_) (fun h33 => ?_) | refine V.condB rfl (fun h33 => ?_) (fun h33 => ?_)
              ·
                have hnil : fs = [] := List.eq_nil_of_length_eq_zero (by omega)
                subst hnil
                refine V.seq ?_
                refine V.region ?_
                refine L.rd (rd_move rfl) rfl ?_
                refine L.rd (rd_fieldAddr tok rfl rfl rfl rfl rfl rfl) rfl ?_
                refine L.rd (rd_load1 tok rfl rfl rfl (by first | assumption | exact Bl.cell (by (repeat (first | assumption | (refine Bl.new' ?_ _ _; first | with_reducible rfl | (simp only [size_addB, size_setB, size_drew]; done)) | apply Bl.add | apply Bl.drew | (apply Bl.setNe; omega) | (refine Bl.set' ?_ _ _; (try simp only [size_addB, size_setB, size_drew]); omega)))) rfl)) rfl ?_
                refine L.ef (e_call rfl (udec_ok c _) rfl ?_)
                rintro _ w3 ⟨rfl, he3⟩
                refine L.ef (e_appS tok rfl rfl rfl rfl rfl rfl rfl rfl rfl rfl rfl rfl (hB2.next he3) (by rw [mkS_size]; have := udec_len c; omega) ?_)
                rintro v4 w4 hB4 hkp4
                rw [bl_mkS _ (udec_lt c)] at hB4
                refine L.rd (rd_assign rfl) rfl ?_
                refine L.nil ?_
                refine X.sq ?_
                refine V.exit ?_
                refine X.sqExit ?_
                refine X.bkHere ?_
                exact X.ct ⟨_, (by repeat' (first | exact trivial | refine ⟨rfl, ?_⟩)), _, _, rfl, hB4, by rw [List.length_append]; have := udec_len c; omega, by rw [ha2, prT_none, List.append_assoc]⟩
              ·
                have hnn : fs ≠ [] := fun e => h33 (by rw [e]; rfl)
                refine V.skip ?_
                refine X.sq ?_
                refine V.seq ?_
                refine V.seq ?_
                refine V.region ?_
                refine L.rd (rd_fieldAddr tok rfl rfl rfl rfl rfl rfl) rfl ?_
                refine L.rd (rd_load1 tok rfl rfl rfl (by first | assumption | exact Bl.cell (by (repeat (first | assumption | (refine Bl.new' ?_ _ _; first | with_reducible rfl | (simp only [size_addB, size_setB, size_drew]; done)) | apply Bl.add | apply Bl.drew | (apply Bl.setNe; omega) | (refine Bl.set' ?_ _ _; (try simp only [size_addB, size_setB, size_drew]); omega)))) rfl)) rfl ?_
                refine L.rd (rd_neq rfl rfl) rfl ?_
                refine L.nil ?_
                refine X.sq ?_
                refine V.cut (fun l w' => ∃ (bv' : Value) (acc3 : List Nat), l = [(4, bv'), (6, .pointer (some ⟨wr.heap.size, 0, none⟩)), (18, .slice (some ⟨b1, o1, none⟩) Ls.length ca), (19, .int .i64 Ls.length), (20, .int .i64 k)] ∧ Bf 5 w w' bv' acc3 ∧ Bl w' wr.heap.size 91 [Value.int .i64 c, .slice fa fs.length fc] ∧ acc3 = acc2 ++ (if c = 1 then [] else udec c ++ [42]) ∧ acc3.length ≤ acc2.length + 21) ?_ ?_
                ·
                  first | refine V.cond rfl (fun h41 => ?_) (fun h41 => ?_) | refine V.condB rfl (fun h41 => ?_) (fun h41 => ?_)
                  ·
                    refine V.seq ?_
                    refine V.region ?_
                    refine L.rd (rd_move rfl) rfl ?_
                    refine L.rd (rd_fieldAddr tok rfl rfl rfl rfl rfl rfl) rfl ?_
                    refine L.rd (rd_load1 tok rfl rfl rfl (by first | assumption | exact Bl.cell (by (repeat (first | assumption | (refine Bl.new' ?_ _ _; first | with_reducible rfl | (simp only [size_addB, size_setB, size_drew]; done)) | apply Bl.add | apply Bl.drew | (apply Bl.setNe; omega) | (refine Bl.set' ?_ _ _; (try simp only [size_addB, size_setB, size_drew]); omega)))) rfl)) rfl ?_
                    refine L.ef (e_call rfl (udec_ok c _) rfl ?_)
                    rintro _ w3 ⟨rfl, he3⟩
                    replace hbt := he3.bl hbt.lt hbt
                    refine L.ef (e_appS tok rfl rfl rfl rfl rfl rfl rfl rfl rfl rfl rfl rfl (hB2.next he3) (by rw [mkS_size]; have := udec_len c; omega) ?_)
                    rintro v4 w4 hB4 hkp4
                    rw [bl_mkS _ (udec_lt c)] at hB4
                    replace hbt := hkp4 _ _ _ hbt rfl
                    refine L.rd (rd_assign rfl) rfl ?_
                    refine L.nil ?_
                    refine X.sq ?_
                    refine V.region ?_
                    refine L.rd (rd_move rfl) rfl ?_
                    refine L.ef (e_buildSlice1 (e := 5) (cs := [_]) tok rfl rfl rfl rfl rfl rfl rfl rfl rfl (by first | (simp only [size_addB, size_setB, size_drew]; rfl) | rfl) rfl ?_)
                    refine L.ef (e_appB (c := 42) tok rfl rfl rfl rfl rfl rfl rfl rfl rfl (by first | rfl | (simp only [size_addB, size_setB, size_drew])) rfl hB4 (by rw [List.length_append]; have := udec_len c; omega) ?_)
                    rintro v5 w5 hB5 hkp5
                    replace hbt := hkp5 _ _ _ hbt rfl
                    refine L.rd (rd_assign rfl) rfl ?_
                    refine L.nil ?_
                    exact X.ct ⟨_, (by repeat' (first | exact trivial | refine ⟨rfl, ?_⟩)), _, _, rfl, hB5, hbt, by rw [if_neg h41]; simp, by simp only [List.length_append, List.length_cons, List.length_nil]; have := udec_len c; omega⟩
                  ·
                    refine V.skip ?_
                    exact X.ct ⟨_, (by repeat' (first | exact trivial | refine ⟨rfl, ?_⟩)), _, acc2, rfl, hB2, hbt, by rw [if_pos (Decidable.not_not.1 h41)]; simp, by omega⟩
                ·
                  clear hbt
                  rintro l w3 ⟨bv3, acc3, rfl, hB3, hbt, ha3, hl3⟩
                  refine X.sq ?_
                  refine V.seq ?_
                  refine V.region ?_
                  refine L.rd (rd_fieldAddr tok rfl rfl rfl rfl rfl rfl) rfl ?_
                  refine L.rd (rd_load1 tok rfl rfl rfl (by first | assumption | exact Bl.cell (by (repeat (first | assumption | (refine Bl.new' ?_ _ _; first | with_reducible rfl | (simp only [size_addB, size_setB, size_drew]; done)) | apply Bl.add | apply Bl.drew | (apply Bl.setNe; omega) | (refine Bl.set' ?_ _ _; (try simp only [size_addB, size_setB, size_drew]); omega)))) rfl)) rfl ?_
                  refine L.rd (rd_lenSlice tok rfl rfl rfl) rfl ?_
                  refine L.rd (rd_move rfl) rfl ?_
                  refine L.nil ?_
                  refine X.sq ?_
                  refine V.block ?_
                  refine V.loop (fun m l w' => ∃ (j : Nat) (bv' : Value) (acc' : List Nat), l = [(4, bv'), (18, .slice (some ⟨b1, o1, none⟩) Ls.length ca), (19, .int .i64 Ls.length), (20, .int .i64 k), (51, .slice fa fs.length fc), (52, .int .i64 fs.length), (53, .int .i64 j)] ∧ m = fs.length - j ∧ j ≤ fs.length ∧ Bf 5 w w' bv' acc' ∧ acc'.length ≤ acc3.length + j * 23 ∧ acc3 ++ pf fs true = acc' ++ pf (fs.drop j) (decide (j = 0))) ?_ ?_
                  ·
                    exact ⟨_, _, (by repeat' (first | exact trivial | refine ⟨rfl, ?_⟩)), 0, _, acc3, rfl, rfl, by omega, hB3, by omega, by simp⟩
                  ·
                    rintro m l w6 ⟨j, bv6, acc6, rfl, rfl, hj, hB6, hl6, hp6⟩
                    refine V.seq ?_
                    refine V.region ?_
                    refine L.rd (rd_lss rfl rfl) rfl ?_
                    refine L.nil ?_
                    refine X.sq ?_
                    refine V.seq ?_
                    first | refine V.cond rfl (fun h54 => ?_) (fun h54 => ?_) | refine V.condB rfl (fun h54 => ?_) (fun h54 => ?_)
                    ·
                      obtain ⟨b2, o2, rfl, -, -, hc2⟩ := hff.resolve_left (by omega)
                      obtain ⟨⟨fva, fpo⟩, hf⟩ := nth_of_lt fs j (by omega)
                      have hcf := (hc2.le hB6.ext.leC).sub (j * 2) _ (pr_get fs j _ hf)
                      have hfr := hfm _ (List.mem_of_getElem? hf)
                      have hw6 := hB6.ext.size
                      rw [pf_step hf] at hp6
                      simp only at hfr hcf
                      refine V.skip ?_
                      refine X.sq ?_
                      refine V.seq ?_
                      refine V.block ?_
                      refine V.seq ?_
                      refine V.region ?_
                      refine L.rd (rd_move rfl) rfl ?_
                      (refine L.rd (rd_indexSlice (sz := 2) tok rfl rfl rfl rfl rfl rfl rfl ?_) rfl ?_; omega)
                      refine L.rd (rd_loadN tok rfl rfl rfl hcf rfl) rfl ?_
                      refine L.ef (e_alloc (cs := [_, _]) tok rfl rfl (by first | (simp only [size_addB, size_setB, size_drew]; rfl) | rfl) rfl ?_)
                      refine L.rd (rd_assign rfl) rfl ?_
                      refine L.ef (e_store (vs := [_, _]) tok rfl rfl rfl rfl (by (repeat (first | assumption | (refine Bl.new' ?_ _ _; first | with_reducible rfl | (simp only [size_addB, size_setB, size_drew]; done)) | apply Bl.add | apply Bl.drew | (apply Bl.setNe; omega) | (refine Bl.set' ?_ _ _; (try simp only [size_addB, size_setB, size_drew]); omega)))) rfl (by simp [Value.oneCell']) (by simp) ?_)
                      refine L.nil ?_
                      refine X.sq ?_
                      refine V.seq ?_
                      refine V.seq ?_
                      have hbf : Bl (setB (addB w6 93 [Value.int .i64 0, .int .i64 0]) w6.heap.size 93 (putAt [Value.int .i64 0, .int .i64 0] 0 [Value.int .i64 fva, .int .i64 fpo])) w6.heap.size 93 [Value.int .i64 fva, .int .i64 fpo] := Bl.set' (by rw [size_addB]; omega) _ _
                      have hB7 := (hB6.add 93 [Value.int .i64 0, .int .i64 0]).set (Bl.new _ _ _) rfl hw6 93 (putAt [Value.int .i64 0, .int .i64 0] 0 [Value.int .i64 fva, .int .i64 fpo])
                      refine V.region ?_
                      refine L.rd (rd_move rfl) rfl ?_
                      refine L.rd (rd_gtr rfl rfl) rfl ?_
                      refine L.nil ?_
                      refine X.sq ?_
                      refine V.cut (fun l w' => ∃ (bv' : Value) (acc' : List Nat), l = [(4, bv'), (8, .pointer (some ⟨w6.heap.size, 0, none⟩)), (18, .slice (some ⟨b1, o1, none⟩) Ls.length ca), (19, .int .i64 Ls.length), (20, .int .i64 k), (51, .slice (some ⟨b2, o2, none⟩) fs.length fc), (52, .int .i64 fs.length), (53, .int .i64 j)] ∧ Bf 5 w w' bv' acc' ∧ Bl w' w6.heap.size 93 [Value.int .i64 fva, .int .i64 fpo] ∧ acc' = acc6 ++ star j) ?_ ?_
                      ·
                        first | refine V.cond rfl (fun h59 => ?_) (fun h59 => ?_) | refine V.condB rfl (fun h59 => ?_) (fun h59 => ?_)
                        ·
                          refine V.region ?_
                          refine L.rd (rd_move rfl) rfl ?_
                          refine L.ef (e_buildSlice1 (e := 5) (cs := [_]) tok rfl rfl rfl rfl rfl rfl rfl rfl rfl (by first | (simp only [size_addB, size_setB, size_drew]; rfl) | rfl) rfl ?_)
                          refine L.ef (e_appB (c := 42) tok rfl rfl rfl rfl rfl rfl rfl rfl rfl (by first | rfl | (simp only [size_addB, size_setB, size_drew])) rfl hB7 (by omega) ?_)
                          rintro v8 w8 hB8 hkp8
                          refine L.rd (rd_assign rfl) rfl ?_
                          refine L.nil ?_
                          exact X.ct ⟨_, (by repeat' (first | exact trivial | refine ⟨rfl, ?_⟩)), _, _, rfl, hB8, hkp8 _ _ _ hbf rfl, by unfold star; rw [if_neg (by omega)]⟩
                        ·
                          refine V.skip ?_
                          exact X.ct ⟨_, (by repeat' (first | exact trivial | refine ⟨rfl, ?_⟩)), _, acc6, rfl, hB7, hbf, by unfold star; rw [if_pos (by omega)]; simp⟩
                      ·
                        clear hbf hB7
                        rintro l w8 ⟨bv8, acc8, rfl, hB8, hbf, ha8⟩
                        have hl8 : acc8.length ≤ acc6.length + 1 := by rw [ha8, List.length_append]; have := star_len j; omega
                        refine X.sq ?_
                        refine V.seq ?_
                        refine V.region ?_
                        refine L.rd (rd_move rfl) rfl ?_
                        refine L.rd (rd_fieldAddr tok rfl rfl rfl rfl rfl rfl) rfl ?_
                        refine L.rd (rd_load1 tok rfl rfl rfl (by first | assumption | exact Bl.cell (by (repeat (first | assumption | (refine Bl.new' ?_ _ _; first | with_reducible rfl | (simp only [size_addB, size_setB, size_drew]; done)) | apply Bl.add | apply Bl.drew | (apply Bl.setNe; omega) | (refine Bl.set' ?_ _ _; (try simp only [size_addB, size_setB, size_drew]); omega)))) rfl)) rfl ?_
                        (refine L.rd (rd_add3 rfl rfl ?_) rfl ?_; omega)
                        refine L.rd (rd_convE (r := ((97 + fva.toNat : Nat) : Int)) tok rfl rfl rfl rfl rfl (by rw [wrap_u8_in (by omega)]; omega)) rfl ?_
                        refine L.ef (e_buildSlice1 (e := 5) (cs := [_]) tok rfl rfl rfl rfl rfl rfl rfl rfl rfl (by first | (simp only [size_addB, size_setB, size_drew]; rfl) | rfl) rfl ?_)
                        refine L.ef (e_appB (c := 97 + fva.toNat) tok rfl rfl rfl rfl rfl rfl rfl rfl rfl (by first | rfl | (simp only [size_addB, size_setB, size_drew])) rfl hB8 (by omega) ?_)
                        rintro v9 w9 hB9 hkp9
                        replace hbf := hkp9 _ _ _ hbf rfl
                        refine L.rd (rd_assign rfl) rfl ?_
                        refine L.nil ?_
                        refine X.sq ?_
                        refine V.seq ?_
                        refine V.region ?_
                        refine L.rd (rd_fieldAddr tok rfl rfl rfl rfl rfl rfl) rfl ?_
                        refine L.rd (rd_load1 tok rfl rfl rfl (by first | assumption | exact Bl.cell (by (repeat (first | assumption | (refine Bl.new' ?_ _ _; first | with_reducible rfl | (simp only [size_addB, size_setB, size_drew]; done)) | apply Bl.add | apply Bl.drew | (apply Bl.setNe; omega) | (refine Bl.set' ?_ _ _; (try simp only [size_addB, size_setB, size_drew]); omega)))) rfl)) rfl ?_
                        refine L.rd (rd_neq rfl rfl) rfl ?_
                        refine L.nil ?_
                        refine X.sq ?_
                        refine V.cut (fun l w' => ∃ (bv' : Value) (acc' : List Nat), l = [(4, bv'), (18, .slice (some ⟨b1, o1, none⟩) Ls.length ca), (19, .int .i64 Ls.length), (20, .int .i64 k), (51, .slice (some ⟨b2, o2, none⟩) fs.length fc), (52, .int .i64 fs.length), (53, .int .i64 j)] ∧ Bf 5 w w' bv' acc' ∧ acc' = acc8 ++ fac (fva, fpo)) ?_ ?_
                        ·
                          first | refine V.cond rfl (fun h72 => ?_) (fun h72 => ?_) | refine V.condB rfl (fun h72 => ?_) (fun h72 => ?_)
                          ·
                            refine V.seq ?_
                            refine V.region ?_
                            refine L.rd (rd_move rfl) rfl ?_
                            refine L.ef (e_buildSlice1 (e := 5) (cs := [_]) tok rfl rfl rfl rfl rfl rfl rfl rfl rfl (by first | (simp only [size_addB, size_setB, size_drew]; rfl) | rfl) rfl ?_)
                            refine L.ef (e_appB (c := 94) tok rfl rfl rfl rfl rfl rfl rfl rfl rfl (by first | rfl | (simp only [size_addB, size_setB, size_drew])) rfl hB9 (by simp only [List.length_append, List.length_cons, List.length_nil]; omega) ?_)
                            rintro v10 w10 hB10 hkp10
                            replace hbf := hkp10 _ _ _ hbf rfl
                            refine L.rd (rd_assign rfl) rfl ?_
                            refine L.nil ?_
                            refine X.sq ?_
                            refine V.region ?_
                            refine L.rd (rd_move rfl) rfl ?_
                            refine L.rd (rd_fieldAddr tok rfl rfl rfl rfl rfl rfl) rfl ?_
                            refine L.rd (rd_load1 tok rfl rfl rfl (by first | assumption | exact Bl.cell (by (repeat (first | assumption | (refine Bl.new' ?_ _ _; first | with_reducible rfl | (simp only [size_addB, size_setB, size_drew]; done)) | apply Bl.add | apply Bl.drew | (apply Bl.setNe; omega) | (refine Bl.set' ?_ _ _; (try simp only [size_addB, size_setB, size_drew]); omega)))) rfl)) rfl ?_
                            refine L.ef (e_call rfl (udec_ok fpo _) rfl ?_)
                            rintro _ w11 ⟨rfl, he11⟩
                            refine L.ef (e_appS tok rfl rfl rfl rfl rfl rfl rfl rfl rfl rfl rfl rfl (hB10.next he11) (by simp only [List.length_append, List.length_cons, List.length_nil, mkS_size]; have := udec_len fpo; omega) ?_)
                            rintro v12 w12 hB12 hkp12
                            rw [bl_mkS _ (udec_lt fpo)] at hB12
                            refine L.rd (rd_assign rfl) rfl ?_
                            refine L.nil ?_
                            exact X.ct ⟨_, (by repeat' (first | exact trivial | refine ⟨rfl, ?_⟩)), _, _, rfl, hB12, by simp [fac, h72]⟩
                          ·
                            refine V.skip ?_
                            exact X.ct ⟨_, (by repeat' (first | exact trivial | refine ⟨rfl, ?_⟩)), _, _, rfl, hB9, by simp [fac, Decidable.not_not.1 h72]⟩
                        ·
                          clear hbf
                          rintro l w12 ⟨bv12, acc12, rfl, hB12, ha12⟩
                          refine X.bk ?_
                          refine X.sq ?_
                          refine V.region ?_
                          (refine L.rd (rd_add3 rfl rfl ?_) rfl ?_; omega)
                          refine L.rd (rd_move rfl) rfl ?_
                          refine L.nil ?_
                          refine X.lp ⟨_, _, by omega, (by repeat' (first | exact trivial | refine ⟨rfl, ?_⟩)), j + 1, _, acc12, rfl, rfl, by omega, hB12, ?_, ?_⟩
                          · rw [ha12, List.length_append]; have := fac_len (fva, fpo); omega
                          · rw [hp6, ha12, ha8]; simp only [List.append_assoc]
                    ·
                      refine V.exit ?_
                      refine X.sqExit ?_
                      refine X.lpExit ?_
                      refine X.bkHere ?_
                      refine X.bk ?_
                      rw [drop_end (by omega)] at hp6
                      refine X.ct ⟨_, (by repeat' (first | exact trivial | refine ⟨rfl, ?_⟩)), _, acc6, rfl, hB6, by omega, ?_⟩
                      simp only [pf, List.append_nil] at hp6
                      rw [← hp6, ha3, ha2, prT_many hnn]; simp only [List.append_assoc]
          ·
            rintro l w5 ⟨bv5, acc5, rfl, hB5, hl5, he5⟩
            refine X.sq ?_
            refine V.region ?_
            (refine L.rd (rd_add3 rfl rfl ?_) rfl ?_; omega)
            refine L.rd (rd_move rfl) rfl ?_
            refine L.nil ?_
            refine X.lp ⟨_, _, by omega, (by repeat' (first | exact trivial | refine ⟨rfl, ?_⟩)), k + 1, bv5, acc5, rfl, rfl, by omega, hB5, by omega, ?_⟩
            rw [hpr, he5]; simp only [List.append_assoc]
        ·
          refine V.exit ?_
          refine X.sqExit ?_
          refine X.lpExit ?_
          refine X.bkHere ?_
          refine X.sq ?_
          refine V.seq ?_
          refine V.region ?_
          refine L.rd (rd_move rfl) rfl ?_
          refine L.rd (rd_bytesBf tok rfl rfl rfl rfl rfl rfl rfl rfl rfl hB) rfl ?_
          refine L.rd (rd_assign rfl) rfl ?_
          refine L.rd (rd_assign rfl) rfl ?_
          refine L.nil ?_
          refine X.sq ?_
          refine V.ret ?_
          refine ret_2 Yaam.results73 rfl rfl ?_
          refine PPost.good hC hB.ext ?_
          rw [drop_end (by rw [pol_length]; omega)] at hpr
          simp only [prQ, List.append_nil] at hpr
          rw [← hpr]
          unfold printP
          rw [if_neg]
          intro e
          have := congrArg List.length e
          rw [pol_length, List.length_nil] at this
          omega
end Go.Proofs.YbxaawGreat
