/-
  impl.ToPoly, walked.
-/
import Derived.Test.YbxaawGreatXpW
import Derived.Test.YbxaawGreatWfW
set_option linter.unusedVariables false
set_option linter.unusedSimpArgs false
set_option maxRecDepth 10000
set_option maxHeartbeats 4000000
namespace Go.Mw
section
variable {k v x : Int} {A B : List MT} {u : Nat}
theorem st1 (h : k = 1) : stA k v x A B u = (chg u 1).map fun u1 => (numM v, u1) := by subst h; rfl
theorem st2 (h : k = 2) : stA k v x A B u = (chg u 1).map fun u1 => (varM x, u1) := by subst h; rfl
theorem st3 (h : k = 3) : stA k v x A B u = (chg u A.length).map fun u1 => (negM A, u1) := by subst h; rfl
theorem st45 (h : k = 4 ∨ k = 5) : stA k v x A B u = (chg u (A.length + B.length)).bind (opM (A ++ if k = 5 then negM B else B)) := by rcases h with rfl | rfl <;> rfl
theorem st6 (h : k = 6) : stA k v x A B u = (chg u (A.length * B.length)).bind (opM (prods A B)) := by subst h; rfl
theorem st70 (h : k = 7) (h0 : v = 0) : stA k v x A B u = (chg u 1).map fun u1 => (oneM, u1) := by subst h h0; rfl
theorem st7 (h : k = 7) (h0 : ¬ v = 0) : stA k v x A B u = pwL v.toNat v.toNat oneM A u := by
  subst h
  unfold stA
  rw [if_neg (by omega), if_neg (by omega), if_neg (by omega), if_neg (by omega), if_neg (by omega), if_neg (by omega), if_neg h0]
end
theorem opM_yes {M : List MT} {u : Nat} (h : nfOk (nf M) = true) : opM M u = some (nf M, u) := by unfold opM; rw [if_pos h]
theorem opM_no {M : List MT} {u : Nat} (h : nfOk (nf M) = false) : opM M u = none := by unfold opM; rw [h]; rfl
/-- what a sum or product gives back -/
def OPost (eP : TypeId) (M : List MT) (lo : Nat) (w : World) (r : Value) (w' : World) : Prop := ∃ a n c, r = .tuple #[.agg #[.slice a n c], .bool (nfOk (nf M))] ∧ (nfOk (nf M) = true → Ph eP w' lo (.slice a n c) (nf M)) ∧ Ext w.heap.size w w'
theorem OPost.of {eP eT eF : TypeId} {M : List MT} {lo : Nat} {w w' : World} {r : Value} (hV : Vl M) (hlo : lo ≤ w.heap.size) (h1 : Nat.beq eP eT = false) (h2 : Nat.beq eP eF = false) (h : RPost eT eF (rawP M) w r w') : OPost eP M lo w r w' := by
  obtain ⟨v, Ls, h3, h4, h5, h6⟩ := h
  obtain ⟨a, c, rfl, _⟩ := h4.tl.form
  rcases rawP_cases M with ⟨h7, h8⟩ | ⟨h7, h8⟩
  · rw [h8] at h3 h5
    exact ⟨a, _, c, by rw [h3, h7]; rfl, fun _ => Ph.low (lo := w.heap.size) ⟨CM.of_nf hV h7, Ls, h4.tl, h5, NT.own h4.top h1, fun t ht => NT.own (h4.sub t ht) h2⟩ hlo, h6⟩
  · rw [h8] at h3
    exact ⟨a, _, c, by rw [h3, h7]; rfl, (fun h => by rw [h7] at h; cases h), h6⟩
theorem Cells.zadd {w : World} {b o : Nat} {xs : List Value} (h : Cells w b (0 + o) xs) : Cells w b (0 + o) xs := h
end Go.Mw
namespace Go.Proofs.YbxaawGreat
open Go.Mw

theorem addRaw_ph (A B : List MT) (va vb : Value) (w : World) {lo : Nat} (hA : PhP w lo va A) (hB : PhP w lo vb B) (hlo : lo ≤ w.heap.size) : Ret Yaam.prog 95 [.agg #[va], .agg #[vb]] w (OPost 44 (A ++ B) lo w) := by
  obtain ⟨As, h1, h2, -⟩ := hA.ex
  obtain ⟨Bs, h3, h4, -⟩ := hB.ex
  refine (addRaw_ok va vb As Bs w h1 h3 (by rw [h2]; exact hA.cm.canon) (by rw [h4]; exact hB.cm.canon) (by rw [h2]; exact hA.cm.cq) (by rw [h4]; exact hB.cm.cq)).mono fun r w' h => ?_
  rw [h2, h4, hA.cm.ms, hB.cm.ms] at h
  exact OPost.of (app_vl hA.cm.vl hB.cm.vl) hlo rfl rfl h
theorem mulRaw_ph (A B : List MT) (va vb : Value) (w : World) {lo : Nat} (hA : PhP w lo va A) (hB : PhP w lo vb B) (hlo : lo ≤ w.heap.size) (hn : A.length * B.length ≤ 100000) : Ret Yaam.prog 96 [.agg #[va], .agg #[vb]] w (OPost 44 (prods A B) lo w) := by
  obtain ⟨As, h1, h2, -⟩ := hA.ex
  obtain ⟨Bs, h3, h4, -⟩ := hB.ex
  refine (mulRaw_ok va vb As Bs w h1 h3 (by rw [h2]; exact hA.cm.canon) (by rw [h4]; exact hB.cm.canon) (by rw [h2, h4, toP_len, toP_len]; exact hn)).mono fun r w' h => ?_
  rw [h2, h4, hA.cm.ms, hB.cm.ms] at h
  exact OPost.of (prods_vl hA.cm.hv hB.cm.hv) hlo rfl rfl h

theorem itopoly_ok (t : Tre) (hw : Wt t) (hwi : Wi t) (hz : tsz t ≤ 500000) (nv : Value) (w : World) (hN : Rs w 5 nv (flat t 0).length ((flat t 0).flatMap ndE)) : Ret Yaam.prog 51 [.agg #[nv, .int .i64 ((tsz t : Int) - 1)]] w (TPost (tpP t) w) := by
  obtain ⟨na, nc, rfl, hfn⟩ := id hN.form
  have hfl := flat_len t 0
  have htp := tsz_pos t
  have hSb := sb_tree hw
  have hSl := subs_len t
  have hSw := wi_subs t hwi
  have hiwf := iwf_ok t hw hz
  have hrn := run_none hw
  have hrs := fun Ps u => run_some hw (Ps := Ps) (u := u)
  generalize hns : flat t 0 = ns at *
  generalize hSS : subs t = S at *
  refine enter1 Yaam.func51 Yaam.ntmps51 (by kernel_rfl) rfl rfl ?_
  refine V.seq ?_
  refine V.region ?_
  refine L.ef (e_box (cs := [_, _]) rfl rfl (by first | (simp only [size_addB, size_setB, size_drew]; rfl) | rfl) rfl ?_)
  refine L.ef (e_alloc (cs := [_]) tok rfl rfl (by first | (simp only [size_addB, size_setB, size_drew]; rfl) | rfl) rfl ?_)
  refine L.rd (rd_assign rfl) rfl ?_
  refine L.nil ?_
  refine X.sq ?_
  refine V.seq ?_
  refine V.seq ?_
  have hp := (Bl.new w 34 [.slice na ns.length nc, .int .i64 ((tsz t : Int) - 1)]).add 44 [.slice none 0 0]
  have hr := Bl.new' (w := addB w 34 [.slice na ns.length nc, .int .i64 ((tsz t : Int) - 1)]) (b := w.heap.size + 1) (by rw [size_addB]) 44 [.slice none 0 0]
  have hE := ((Ext.refl _ w).addNew 34 [.slice na ns.length nc, .int .i64 ((tsz t : Int) - 1)]).addNew 44 [.slice none 0 0]
  generalize addB (addB w 34 [.slice na ns.length nc, .int .i64 ((tsz t : Int) - 1)]) 44 [.slice none 0 0] = w0 at hp hr hE ⊢
  have hrl := hr.lt
  refine V.region ?_
  refine L.rd (rd_loadN tok rfl rfl rfl hp.cells rfl) rfl ?_
  refine L.ef (e_call rfl (hiwf _ _ (hN.le hE.leC)) rfl ?_)
  rintro _ w1 ⟨rfl, he1⟩
  have hp1 := he1.bl hp.lt hp
  have hr1 := he1.bl hr.lt hr
  have hE1 := hE.next he1
  have hs1 := he1.size
  first | refine L.rd (rd_not rfl) rfl ?_ | refine L.rd (rd_notB rfl) rfl ?_
  refine L.nil ?_
  refine X.sq ?_
  first | refine V.cond rfl (fun h21 => ?_) (fun h21 => ?_) | refine V.condB rfl (fun h21 => ?_) (fun h21 => ?_)
  ·
    cases h21
  ·
    refine V.skip ?_
    refine X.sq ?_
    refine V.seq ?_
    refine V.region ?_
    refine L.rd (rd_fieldAddr tok rfl rfl rfl rfl rfl rfl) rfl ?_
    refine L.rd (rd_load1 tok rfl rfl rfl (hp1.cell rfl)) rfl ?_
    refine L.rd (rd_lenSlice tok rfl rfl rfl) rfl ?_
    refine L.rd (rd_assign rfl) rfl ?_
    refine L.nil ?_
    refine X.sq ?_
    refine V.seq ?_
    refine V.region ?_
    refine L.rd (rd_move rfl) rfl ?_
    refine L.ef (e_make (e := 44) (zs := [_]) (m := ns.length) (c := ns.length) tok rfl rfl rfl rfl rfl rfl rfl rfl (by first | (simp only [size_addB, size_setB, size_drew]; rfl) | rfl) rfl (by omega) (by simp only []; omega) (by omega) ?_)
    refine L.rd (rd_assign rfl) rfl ?_
    refine L.nil ?_
    refine X.sq ?_
    refine V.seq ?_
    refine V.region ?_
    refine L.rd (rd_assign rfl) rfl ?_
    refine L.nil ?_
    refine X.sq ?_
    refine V.seq ?_
    refine V.seq ?_
    refine V.region ?_
    refine L.rd (rd_assign rfl) rfl ?_
    refine L.nil ?_
    refine X.sq ?_
    refine V.block ?_
    refine V.loop (fun m l wr => ∃ (i u : Nat) (Ps : List (List MT)) (vs : List Value), l = [(1, .pointer (some ⟨w.heap.size, 0, none⟩)), (2, .pointer (some ⟨w.heap.size + 1, 0, none⟩)), (4, .int .i64 ns.length), (5, .slice (some ⟨w1.heap.size, 0, none⟩) ns.length ns.length), (6, .int .i64 (u : Nat)), (7, .int .i64 i)] ∧ m = ns.length - i ∧ i ≤ ns.length ∧ u ≤ 100000 ∧ Ps.length = i ∧ vs.length = ns.length ∧ Bl wr w1.heap.size 44 vs ∧ Ext w1.heap.size w1 wr ∧ (∀ (j : Nat) (A : List MT), Ps[j]? = some A → ∃ v, vs[j]? = some v ∧ PhP wr (w1.heap.size + 1) v A) ∧ prun (ns.drop i) Ps u = prun ns [] 0) ?_ ?_
    ·
      refine ⟨_, _, (by repeat' (first | exact trivial | refine ⟨rfl, ?_⟩)), 0, 0, [], List.replicate ns.length (.slice none 0 0), rfl, rfl, by omega, by omega, rfl, by simp, ?_, (Ext.refl _ _).addNew _ _, fun j A h => by simp at h, by simp⟩
      have := Bl.new w1 44 ((List.replicate ns.length [Value.slice none 0 0]).flatten)
      simp only [flat_rep1] at this ⊢
      exact this
    ·
      rintro m l wr ⟨i, u, Ps, vs, rfl, rfl, hi, hu, hPl, hvl, hP, hEw, hinv, hrun⟩
      have hse := hE1.size
      have hEr : Ext w.heap.size w wr := hE1.next hEw
      have hpr : Bl wr w.heap.size 34 [.slice na ns.length nc, .int .i64 ((tsz t : Int) - 1)] := hEw.bl hp1.lt hp1
      have hrr : Bl wr (w.heap.size + 1) 44 [.slice none 0 0] := hEw.bl hr1.lt hr1
      have hswr := hEw.size
      have hPlt := hP.lt
      refine V.seq ?_
      refine V.seq ?_
      refine V.region ?_
      refine L.rd (rd_move rfl) rfl ?_
      refine L.rd (rd_move rfl) rfl ?_
      refine L.rd (rd_lss rfl rfl) rfl ?_
      refine L.nil ?_
      refine X.sq ?_
      first | refine V.cond rfl (fun h30 => ?_) (fun h30 => ?_) | refine V.condB rfl (fun h30 => ?_) (fun h30 => ?_)
      ·
        obtain ⟨b1, o1, rfl, hc1⟩ := hfn.resolve_left (by omega)
        obtain ⟨⟨k, v, x, lf_, rt⟩, ht⟩ := nth_of_lt ns i (by omega)
        obtain ⟨s, hs⟩ := nth_of_lt S i (by omega)
        obtain ⟨hok, hws⟩ := hSb.ok i _ s ht hs
        have hwis := hSw s (List.mem_of_getElem? hs)
        have hkk := sok_kind hok hws
        have hcx := (hc1.le hEr.leC).sub (i * 5) (ndE (k, v, x, lf_, rt)) (fun j u hu => fm_get ndE_len ns i _ ht j u hu)
        rw [drop_cons ht, prun] at hrun
        have hkey : stN Ps u (k, v, x, lf_, rt) = none → tpP t = none := fun h => by
          rw [h] at hrun
          exact hrn hrun.symm
        refine V.skip ?_
        refine X.sq ?_
        refine V.seq ?_
        refine V.block ?_
        refine V.seq ?_
        refine V.region ?_
        refine L.rd (rd_fieldAddr tok rfl rfl rfl rfl rfl rfl) rfl ?_
        refine L.rd (rd_load1 tok rfl rfl rfl (hpr.cell rfl)) rfl ?_
        refine L.rd (rd_move rfl) rfl ?_
        (refine L.rd (rd_indexSlice (sz := 5) tok rfl rfl rfl rfl rfl rfl rfl ?_) rfl ?_; omega)
        refine L.rd (rd_loadN tok rfl rfl rfl hcx rfl) rfl ?_
        refine L.ef (e_alloc (cs := [_, _, _, _, _]) tok rfl rfl (by first | (simp only [size_addB, size_setB, size_drew]; rfl) | rfl) rfl ?_)
        refine L.ef (e_store (vs := [_, _, _, _, _]) tok rfl rfl rfl rfl (by (repeat (first | assumption | (refine Bl.new' ?_ _ _; first | with_reducible rfl | (simp only [size_addB, size_setB, size_drew]; done)) | apply Bl.add | apply Bl.drew | (apply Bl.setNe; omega) | (refine Bl.set' ?_ _ _; (try simp only [size_addB, size_setB, size_drew]); omega)))) rfl (by simp [Value.oneCell']) (by simp) ?_)
        refine L.nil ?_
        refine X.sq ?_
        refine V.seq ?_
        generalize hw4 : setB _ _ _ _ = w4
        have hb4 : Bl w4 wr.heap.size 80 [.int .i64 k, .int .i64 v, .int .i64 x, .int .i64 lf_, .int .i64 rt] := by rw [← hw4]; refine Bl.set' ?_ _ _; rw [size_addB]; omega
        have he4 : Ext wr.heap.size wr w4 := by rw [← hw4]; exact ((Ext.refl _ _).addNew _ _).set (Nat.le_refl _) _ _
        have hs4 := hb4.lt
        refine V.region ?_
        refine L.ef (e_alloc (cs := [_]) tok rfl rfl (by first | (simp only [size_addB, size_setB, size_drew]; rfl) | rfl) rfl ?_)
        refine L.nil ?_
        refine X.sq ?_
        refine V.seq ?_
        have hres := Bl.new w4 44 [.slice none 0 0]
        have hnd := hb4.add 44 [.slice none 0 0]
        have he5 := he4.addNew 44 [.slice none 0 0]
        generalize addB w4 44 [.slice none 0 0] = w5 at hres hnd he5 ⊢
        have hs5 := hres.lt
        have hP5 := he5.bl hP.lt hP
        have hr5 := he5.bl hrr.lt hrr
        have hrlt5 := hr5.lt
        have hE5 := hEr.next he5
        have hinv5 : ∀ (j : Nat) (A : List MT), Ps[j]? = some A → ∃ a c, vs[j]? = some (.slice a A.length c) ∧ PhP w5 (w1.heap.size + 1) (.slice a A.length c) A := fun j A h => by
          obtain ⟨v, h1, h2⟩ := hinv j A h
          obtain ⟨a, c, rfl⟩ := h2.form
          exact ⟨a, c, h1, h2.ext he5⟩
        refine V.region ?_
        refine L.rd (rd_assign rfl) rfl ?_
        refine L.nil ?_
        refine X.sq ?_
        refine V.seq ?_
        refine V.seq ?_
        refine V.region ?_
        refine L.rd (rd_fieldAddr tok rfl rfl rfl rfl rfl rfl) rfl ?_
        refine L.rd (rd_load1 tok rfl rfl rfl (hnd.cell rfl)) rfl ?_
        refine L.nil ?_
        refine X.sq ?_
        refine V.cut (fun l w' => ∃ (u1 : Nat) (b : Bool) (va : Option Addr) (vn vc : Nat) (R : List MT), l = [(1, .pointer (some ⟨w.heap.size, 0, none⟩)), (2, .pointer (some ⟨w.heap.size + 1, 0, none⟩)), (4, .int .i64 ns.length), (5, .slice (some ⟨w1.heap.size, 0, none⟩) ns.length ns.length), (6, .int .i64 (u1 : Nat)), (7, .int .i64 i), (9, .pointer (some ⟨w4.heap.size, 0, none⟩)), (10, .bool b)] ∧ Ext wr.heap.size wr w' ∧ Bl w' w4.heap.size 44 [.slice va vn vc] ∧ u1 ≤ 1000000000 ∧ (u1 ≤ 100000 → b = true → stN Ps u (k, v, x, lf_, rt) = some (R, u1) ∧ PhP w' (w1.heap.size + 1) (.slice va vn vc) R) ∧ (u1 ≤ 100000 → b = false → tpP t = none) ∧ (¬ u1 ≤ 100000 → tpP t = none)) ?_ ?_
        ·
          refine V.block ?_
          refine V.seq ?_
          refine V.region ?_
          refine L.rd (rd_eql rfl rfl) rfl ?_
          refine L.rd (rd_assign rfl) rfl ?_
          refine L.nil ?_
          refine X.sq ?_
          first | refine V.cond rfl (fun h40 => ?_) (fun h40 => ?_) | refine V.condB rfl (fun h40 => ?_) (fun h40 => ?_)
          ·
            obtain ⟨rfl, rfl⟩ := sok1 hok hws h40
            have hst : stN Ps u (k, v, 0, lf_, rt) = (chg u 1).map fun u1 => (numM v, u1) := st1 h40
            refine V.seq ?_
            refine V.region ?_
            refine L.rd (rd_move rfl) rfl ?_
            refine L.rd (rd_addE (r := ((u + 1 : Nat) : Int)) rfl rfl (by rw [wrap_i64_in (by omega)]; omega)) rfl ?_
            refine L.rd (rd_assign rfl) rfl ?_
            refine L.nil ?_
            refine X.sq ?_
            refine V.seq ?_
            refine V.region ?_
            refine L.rd (rd_fieldAddr tok rfl rfl rfl rfl rfl rfl) rfl ?_
            refine L.rd (rd_load1 tok rfl rfl rfl (hnd.cell (i := 1) rfl)) rfl ?_
            refine L.rd (rd_neq rfl rfl) rfl ?_
            refine L.nil ?_
            refine X.sq ?_
            first | refine V.cond rfl (fun h46 => ?_) (fun h46 => ?_) | refine V.condB rfl (fun h46 => ?_) (fun h46 => ?_)
            ·
              refine V.region ?_
              refine L.rd (rd_fieldAddr tok rfl rfl rfl rfl rfl rfl) rfl ?_
              refine L.rd (rd_load1 tok rfl rfl rfl (hnd.cell (i := 1) rfl)) rfl ?_
              refine L.rd (rd_build (out := [_, _]) tok rfl rfl rfl rfl rfl) rfl ?_
              refine L.ef (e_buildSlice1 (e := 91) (cs := [_, _]) tok rfl rfl rfl rfl rfl rfl rfl rfl rfl (by first | (simp only [size_addB, size_setB, size_drew]; rfl) | rfl) rfl ?_)
              refine L.rd (rd_build (out := [_]) tok rfl rfl rfl rfl rfl) rfl ?_
              refine L.ef (e_store (vs := [_]) tok rfl rfl rfl rfl (by (repeat (first | assumption | (refine Bl.new' ?_ _ _; first | with_reducible rfl | (simp only [size_addB, size_setB, size_drew]; done)) | apply Bl.add | apply Bl.drew | (apply Bl.setNe; omega) | (refine Bl.set' ?_ _ _; (try simp only [size_addB, size_setB, size_drew]); omega)))) rfl (by simp [Value.oneCell']) (by simp) ?_)
              refine L.nil ?_
              refine X.bk ?_
              refine X.ct ⟨_, (by repeat' (first | exact trivial | refine ⟨rfl, ?_⟩)), u + 1, true, _, _, _, numM v, rfl, (he5.addNew _ _).set (by omega) _ _, (by (repeat (first | assumption | (refine Bl.new' ?_ _ _; first | with_reducible rfl | (simp only [size_addB, size_setB, size_drew]; done)) | apply Bl.add | apply Bl.drew | (apply Bl.setNe; omega) | (refine Bl.set' ?_ _ _; (try simp only [size_addB, size_setB, size_drew]); omega)))), by omega, fun hu1 _ => ⟨?_, ?_⟩, fun _ h => (by cases h), fun hu1 => hkey ?_⟩
              · rw [hst, chg_yes (by omega)]; rfl
              · exact Ph.const (CM.num hwis) (by rw [toP_num, if_neg h46]) (eT := 91) (by (repeat (first | assumption | (refine Bl.new' ?_ _ _; first | with_reducible rfl | (simp only [size_addB, size_setB, size_drew]; done)) | apply Bl.add | apply Bl.drew | (apply Bl.setNe; omega) | (refine Bl.set' ?_ _ _; (try simp only [size_addB, size_setB, size_drew]); omega)))) rfl (by omega)
              · rw [hst, chg_no (by omega)]; rfl
            ·
              refine V.region ?_
              refine L.ef (e_make0 (e := 91) tok rfl rfl rfl rfl rfl rfl rfl (by first | (simp only [size_addB, size_setB, size_drew]; rfl) | rfl) rfl ?_)
              refine L.rd (rd_build (out := [_]) tok rfl rfl rfl rfl rfl) rfl ?_
              refine L.ef (e_store (vs := [_]) tok rfl rfl rfl rfl (by (repeat (first | assumption | (refine Bl.new' ?_ _ _; first | with_reducible rfl | (simp only [size_addB, size_setB, size_drew]; done)) | apply Bl.add | apply Bl.drew | (apply Bl.setNe; omega) | (refine Bl.set' ?_ _ _; (try simp only [size_addB, size_setB, size_drew]); omega)))) rfl (by simp [Value.oneCell']) (by simp) ?_)
              refine L.nil ?_
              refine X.bk ?_
              have hv0 : v = 0 := by omega
              refine X.ct ⟨_, (by repeat' (first | exact trivial | refine ⟨rfl, ?_⟩)), u + 1, true, _, _, _, numM v, rfl, (he5.addNew _ _).set (by omega) _ _, (by (repeat (first | assumption | (refine Bl.new' ?_ _ _; first | with_reducible rfl | (simp only [size_addB, size_setB, size_drew]; done)) | apply Bl.add | apply Bl.drew | (apply Bl.setNe; omega) | (refine Bl.set' ?_ _ _; (try simp only [size_addB, size_setB, size_drew]); omega)))), by omega, fun hu1 _ => ⟨?_, ?_⟩, fun _ h => (by cases h), fun hu1 => hkey ?_⟩
              · rw [hst, chg_yes (by omega)]; rfl
              · exact Ph.zero (CM.num hwis) (by rw [toP_num, if_pos hv0])
              · rw [hst, chg_no (by omega)]; rfl
          ·
            refine V.seq ?_
            refine V.region ?_
            refine L.rd (rd_eql rfl rfl) rfl ?_
            refine L.rd (rd_assign rfl) rfl ?_
            refine L.nil ?_
            refine X.sq ?_
            first | refine V.cond rfl (fun h54 => ?_) (fun h54 => ?_) | refine V.condB rfl (fun h54 => ?_) (fun h54 => ?_)
            ·
              obtain ⟨rfl, rfl, hx0⟩ := sok2 hok hws h54
              have hst : stN Ps u (k, 0, x, lf_, rt) = (chg u 1).map fun u1 => (varM x, u1) := st2 h54
              refine V.seq ?_
              refine V.region ?_
              refine L.rd (rd_move rfl) rfl ?_
              refine L.rd (rd_addE (r := ((u + 1 : Nat) : Int)) rfl rfl (by rw [wrap_i64_in (by omega)]; omega)) rfl ?_
              refine L.rd (rd_assign rfl) rfl ?_
              refine L.nil ?_
              refine X.sq ?_
              refine V.region ?_
              refine L.rd (rd_fieldAddr tok rfl rfl rfl rfl rfl rfl) rfl ?_
              refine L.rd (rd_load1 tok rfl rfl rfl (hnd.cell (i := 2) rfl)) rfl ?_
              refine L.rd (rd_build (out := [_, _]) tok rfl rfl rfl rfl rfl) rfl ?_
              refine L.ef (e_buildSlice1 (e := 93) (cs := [_, _]) tok rfl rfl rfl rfl rfl rfl rfl rfl rfl (by first | (simp only [size_addB, size_setB, size_drew]; rfl) | rfl) rfl ?_)
              refine L.rd (rd_build (out := [_, _]) tok rfl rfl rfl rfl rfl) rfl ?_
              refine L.ef (e_buildSlice1 (e := 91) (cs := [_, _]) tok rfl rfl rfl rfl rfl rfl rfl rfl rfl (by first | (simp only [size_addB, size_setB, size_drew]; rfl) | rfl) rfl ?_)
              refine L.rd (rd_build (out := [_]) tok rfl rfl rfl rfl rfl) rfl ?_
              refine L.ef (e_store (vs := [_]) tok rfl rfl rfl rfl (by (repeat (first | assumption | (refine Bl.new' ?_ _ _; first | with_reducible rfl | (simp only [size_addB, size_setB, size_drew]; done)) | apply Bl.add | apply Bl.drew | (apply Bl.setNe; omega) | (refine Bl.set' ?_ _ _; (try simp only [size_addB, size_setB, size_drew]); omega)))) rfl (by simp [Value.oneCell']) (by simp) ?_)
              refine L.nil ?_
              refine X.bk ?_
              refine X.ct ⟨_, (by repeat' (first | exact trivial | refine ⟨rfl, ?_⟩)), u + 1, true, _, _, _, varM x, rfl, ((he5.addNew _ _).addNew _ _).set (by omega) _ _, (by (repeat (first | assumption | (refine Bl.new' ?_ _ _; first | with_reducible rfl | (simp only [size_addB, size_setB, size_drew]; done)) | apply Bl.add | apply Bl.drew | (apply Bl.setNe; omega) | (refine Bl.set' ?_ _ _; (try simp only [size_addB, size_setB, size_drew]); omega)))), by omega, fun hu1 _ => ⟨?_, ?_⟩, fun _ h => (by cases h), fun hu1 => hkey ?_⟩
              · rw [hst, chg_yes (by omega)]; rfl
              · exact Ph.var (CM.var hx0) (toP_var hx0) (eT := 91) (eF := 93) (by (repeat (first | assumption | (refine Bl.new' ?_ _ _; first | with_reducible rfl | (simp only [size_addB, size_setB, size_drew]; done)) | apply Bl.add | apply Bl.drew | (apply Bl.setNe; omega) | (refine Bl.set' ?_ _ _; (try simp only [size_addB, size_setB, size_drew]); omega)))) (by (repeat (first | assumption | (refine Bl.new' ?_ _ _; first | with_reducible rfl | (simp only [size_addB, size_setB, size_drew]; done)) | apply Bl.add | apply Bl.drew | (apply Bl.setNe; omega) | (refine Bl.set' ?_ _ _; (try simp only [size_addB, size_setB, size_drew]); omega)))) rfl rfl (by omega) (by omega)
              · rw [hst, chg_no (by omega)]; rfl
            ·
              refine V.seq ?_
              refine V.region ?_
              refine L.rd (rd_eql rfl rfl) rfl ?_
              refine L.rd (rd_assign rfl) rfl ?_
              refine L.nil ?_
              refine X.sq ?_
              first | refine V.cond rfl (fun h65 => ?_) (fun h65 => ?_) | refine V.condB rfl (fun h65 => ?_) (fun h65 => ?_)
              ·
                obtain ⟨a, j, rfl, rfl, hj, hSj, hwa⟩ := sok3 hok hws h65
                obtain ⟨A, hA⟩ := nth_of_lt Ps j (by omega)
                obtain ⟨aa, ac, hvj, hPA⟩ := hinv5 j A hA
                have hAl := hPA.cm.len
                have hst : stN Ps u (k, v, x, (j : Int), rt) = (chg u A.length).map fun u1 => (negM A, u1) := by
                  unfold stN
                  simp only [Int.toNat_natCast, hA, Option.getD_some]
                  exact st3 h65
                refine V.seq ?_
                refine V.region ?_
                refine L.rd (rd_move rfl) rfl ?_
                refine L.rd (rd_move rfl) rfl ?_
                refine L.rd (rd_fieldAddr tok rfl rfl rfl rfl rfl rfl) rfl ?_
                refine L.rd (rd_load1 tok rfl rfl rfl (hnd.cell (i := 3) rfl)) rfl ?_
                (refine L.rd (rd_indexSlice (sz := 1) tok rfl rfl rfl rfl rfl rfl rfl ?_) rfl ?_; omega)
                refine L.rd (rd_fieldAddr tok rfl rfl rfl rfl rfl rfl) rfl ?_
                refine L.rd (rd_load1 tok rfl rfl rfl (cell_at (i := ((j : Int)).toNat) hP5 (by rw [Int.toNat_natCast]; exact hvj) (by simp))) rfl ?_
                refine L.rd (rd_lenSlice tok rfl rfl rfl) rfl ?_
                refine L.ef (e_call rfl (max1_ok A.length _) rfl ?_)
                rintro _ _ ⟨rfl, rfl⟩
                refine L.rd (rd_addE (r := ((u + max A.length 1 : Nat) : Int)) rfl rfl (by rw [wrap_i64_in (by omega)]; omega)) rfl ?_
                refine L.rd (rd_assign rfl) rfl ?_
                refine L.nil ?_
                refine X.sq ?_
                refine V.seq ?_
                refine V.seq ?_
                refine V.region ?_
                refine L.rd (rd_move rfl) rfl ?_
                refine L.rd (rd_gtr rfl rfl) rfl ?_
                refine L.nil ?_
                refine X.sq ?_
                first | refine V.cond rfl (fun h78 => ?_) (fun h78 => ?_) | refine V.condB rfl (fun h78 => ?_) (fun h78 => ?_)
                ·
                  refine V.seq ?_
                  refine V.region ?_
                  refine L.rd (rd_build (out := [_]) tok rfl rfl rfl rfl rfl) rfl ?_
                  refine L.ef (e_store (vs := [_]) tok rfl rfl rfl rfl hr5 rfl (by simp [Value.oneCell']) (by simp) ?_)
                  refine L.rd (rd_assign rfl) rfl ?_
                  refine L.nil ?_
                  refine X.sq ?_
                  refine V.ret ?_
                  refine X.sqRet ?_
                  refine X.bkRet ?_
                  refine X.ctRet ?_
                  refine X.sqRet ?_
                  refine X.bkRet ?_
                  refine X.sqRet ?_
                  refine X.lpRet ?_
                  refine X.bkRet ?_
                  refine X.sqRet ?_
                  refine ret_c1 tok Yaam.results51 rfl rfl rfl rfl (Bl.cells (Bl.set hr5 _ _)) rfl ?_
                  exact TPost.bad (hkey (by rw [hst, chg_no (by omega)]; rfl)) (Ext.set hE5 (by omega) _ _)
                ·
                  refine V.skip ?_
                  refine X.sq ?_
                  have hcj : Cells w5 w1.heap.size (0 + ((j : Int)).toNat * 1) [.slice aa A.length ac] := by rw [Int.toNat_natCast, Nat.mul_one]; exact ((Cells.sub hP5.cells j [.slice aa A.length ac] (fun q y hy => by cases q with | zero => (simp only [List.getElem?_cons_zero, Option.some.injEq] at hy; subst hy; rw [Nat.add_zero]; exact hvj) | succ q => simp at hy)).zadd)
                  refine V.region ?_
                  refine L.rd (rd_move rfl) rfl ?_
                  refine L.rd (rd_fieldAddr tok rfl rfl rfl rfl rfl rfl) rfl ?_
                  refine L.rd (rd_load1 tok rfl rfl rfl (hnd.cell (i := 3) rfl)) rfl ?_
                  (refine L.rd (rd_indexSlice (sz := 1) tok rfl rfl rfl rfl rfl rfl rfl ?_) rfl ?_; omega)
                  refine L.rd (rd_loadN tok rfl rfl rfl hcj rfl) rfl ?_
                  refine L.ef (e_call rfl (negRaw_ok A _ _ hPA (by omega)) rfl ?_)
                  rintro _ w6 ⟨v6, rfl, hP6, he6⟩
                  obtain ⟨a6, c6, rfl⟩ := hP6.form
                  have hres6 := he6.bl hres.lt hres
                  have hs6 := he6.size
                  refine L.ef (e_store (vs := [_]) tok rfl rfl rfl rfl hres6 rfl (by simp [Value.oneCell']) (by simp) ?_)
                  refine L.nil ?_
                  refine X.bk ?_
                  refine X.ct ⟨_, (by repeat' (first | exact trivial | refine ⟨rfl, ?_⟩)), u + max A.length 1, true, _, _, _, negM A, rfl, (he5.next he6).set (by omega) _ _, hres6.set _ _, by omega, fun hu1 _ => ⟨?_, pset hres6 hP6 _⟩, fun _ h => (by cases h), fun hu1 => hkey ?_⟩
                  · rw [hst, chg_yes (by omega)]; rfl
                  · rw [hst, chg_no (by omega)]; rfl
              ·
                refine V.seq ?_
                refine V.seq ?_
                refine V.region ?_
                refine L.rd (rd_eql rfl rfl) rfl ?_
                refine L.rd (rd_assign rfl) rfl ?_
                refine L.nil ?_
                refine X.sq ?_
                refine V.cut (fun l w' => ∃ b : Bool, l = [(1, .pointer (some ⟨w.heap.size, 0, none⟩)), (2, .pointer (some ⟨w.heap.size + 1, 0, none⟩)), (4, .int .i64 ns.length), (5, .slice (some ⟨w1.heap.size, 0, none⟩) ns.length ns.length), (6, .int .i64 (u : Nat)), (7, .int .i64 i), (8, .pointer (some ⟨wr.heap.size, 0, none⟩)), (9, .pointer (some ⟨w4.heap.size, 0, none⟩)), (10, .bool true), (39, .int .i64 k), (86, .bool b)] ∧ b = decide (k = 4 ∨ k = 5) ∧ w5 = w') ?_ ?_
                ·
                  first | refine V.cond rfl (fun h86 => ?_) (fun h86 => ?_) | refine V.condB rfl (fun h86 => ?_) (fun h86 => ?_)
                  ·
                    refine V.skip ?_
                    refine X.ct ⟨_, (by repeat' (first | exact trivial | refine ⟨rfl, ?_⟩)), _, rfl, ?_, rfl⟩
                    first
                      | (rw [decide_eq_true h86, decide_eq_true (by omega)])
                      | (by_cases h6 : k = 5
                         · rw [decide_eq_true h6, decide_eq_true (by omega)]
                         · rw [decide_eq_false h6, decide_eq_false (by omega)])
                  ·
                    refine V.region ?_
                    refine L.rd (rd_eql rfl rfl) rfl ?_
                    refine L.rd (rd_assign rfl) rfl ?_
                    refine L.nil ?_
                    refine X.ct ⟨_, (by repeat' (first | exact trivial | refine ⟨rfl, ?_⟩)), _, rfl, ?_, rfl⟩
                    first
                      | (rw [decide_eq_true h86, decide_eq_true (by omega)])
                      | (by_cases h6 : k = 5
                         · rw [decide_eq_true h6, decide_eq_true (by omega)]
                         · rw [decide_eq_false h6, decide_eq_false (by omega)])
                ·
                  rintro l w' ⟨b, rfl, hb86, rfl⟩
                  refine X.sq ?_
                  first | refine V.cond rfl (fun h86 => ?_) (fun h86 => ?_) | refine V.condB rfl (fun h86 => ?_) (fun h86 => ?_)
                  ·
                    refine V.seq ?_
                    have h45 : k = 4 ∨ k = 5 := by rw [h86] at hb86; exact of_decide_eq_true hb86.symm
                    obtain ⟨a, b', j, j2, rfl, rfl, rfl, hj, hj2, hSj, hSj2, hwa, hwb⟩ := sokb hok hws (by omega)
                    obtain ⟨A, hA⟩ := nth_of_lt Ps j (by omega)
                    obtain ⟨B, hB⟩ := nth_of_lt Ps j2 (by omega)
                    obtain ⟨aa, ac, hvj, hPA⟩ := hinv5 j A hA
                    obtain ⟨ba0, bc0, hvj2, hPB⟩ := hinv5 j2 B hB
                    have hAl := hPA.cm.len
                    have hBl := hPB.cm.len
                    have hcj : Cells w5 w1.heap.size (0 + ((j : Int)).toNat * 1) [.slice aa A.length ac] := by rw [Int.toNat_natCast, Nat.mul_one]; exact ((Cells.sub hP5.cells j [.slice aa A.length ac] (fun q y hy => by cases q with | zero => (simp only [List.getElem?_cons_zero, Option.some.injEq] at hy; subst hy; rw [Nat.add_zero]; exact hvj) | succ q => simp at hy)).zadd)
                    have hst : stN Ps u (k, v, x, (j : Int), (j2 : Int)) = (chg u (A.length + B.length)).bind (opM (A ++ if k = 5 then negM B else B)) := by
                      unfold stN
                      simp only [Int.toNat_natCast, hA, hB, Option.getD_some]
                      exact st45 h45
                    refine V.region ?_
                    refine L.rd (rd_move rfl) rfl ?_
                    refine L.rd (rd_fieldAddr tok rfl rfl rfl rfl rfl rfl) rfl ?_
                    refine L.rd (rd_load1 tok rfl rfl rfl (hnd.cell (i := 3) rfl)) rfl ?_
                    (refine L.rd (rd_indexSlice (sz := 1) tok rfl rfl rfl rfl rfl rfl rfl ?_) rfl ?_; omega)
                    refine L.rd (rd_loadN tok rfl rfl rfl hcj rfl) rfl ?_
                    refine L.ef (e_alloc (cs := [_]) tok rfl rfl (by first | (simp only [size_addB, size_setB, size_drew]; rfl) | rfl) rfl ?_)
                    refine L.ef (e_store (vs := [_]) tok rfl rfl rfl rfl (by (repeat (first | assumption | (refine Bl.new' ?_ _ _; first | with_reducible rfl | (simp only [size_addB, size_setB, size_drew]; done)) | apply Bl.add | apply Bl.drew | (apply Bl.setNe; omega) | (refine Bl.set' ?_ _ _; (try simp only [size_addB, size_setB, size_drew]); omega)))) rfl (by simp [Value.oneCell']) (by simp) ?_)
                    refine L.nil ?_
                    refine X.sq ?_
                    refine V.seq ?_
                    generalize hw6 : setB _ _ _ _ = w6
                    have hbA6 : Bl w6 w5.heap.size 44 [.slice aa A.length ac] := by rw [← hw6]; exact (by (repeat (first | assumption | (refine Bl.new' ?_ _ _; first | with_reducible rfl | (simp only [size_addB, size_setB, size_drew]; done)) | apply Bl.add | apply Bl.drew | (apply Bl.setNe; omega) | (refine Bl.set' ?_ _ _; (try simp only [size_addB, size_setB, size_drew]); omega))))
                    have he6 : Ext w5.heap.size w5 w6 := by rw [← hw6]; exact ((Ext.refl _ _).addNew _ _).set (by omega) _ _
                    have hs6 := hbA6.lt
                    have hP6 := he6.bl hP5.lt hP5
                    have hnd6 := he6.bl hnd.lt hnd
                    have hcj2 : Cells w6 w1.heap.size (0 + ((j2 : Int)).toNat * 1) [.slice ba0 B.length bc0] := by rw [Int.toNat_natCast, Nat.mul_one]; exact ((Cells.sub hP6.cells j2 [.slice ba0 B.length bc0] (fun q y hy => by cases q with | zero => (simp only [List.getElem?_cons_zero, Option.some.injEq] at hy; subst hy; rw [Nat.add_zero]; exact hvj2) | succ q => simp at hy)).zadd)
                    refine V.region ?_
                    refine L.rd (rd_move rfl) rfl ?_
                    refine L.rd (rd_fieldAddr tok rfl rfl rfl rfl rfl rfl) rfl ?_
                    refine L.rd (rd_load1 tok rfl rfl rfl (hnd6.cell (i := 4) rfl)) rfl ?_
                    (refine L.rd (rd_indexSlice (sz := 1) tok rfl rfl rfl rfl rfl rfl rfl ?_) rfl ?_; omega)
                    refine L.rd (rd_loadN tok rfl rfl rfl hcj2 rfl) rfl ?_
                    refine L.ef (e_alloc (cs := [_]) tok rfl rfl (by first | (simp only [size_addB, size_setB, size_drew]; rfl) | rfl) rfl ?_)
                    refine L.ef (e_store (vs := [_]) tok rfl rfl rfl rfl (by (repeat (first | assumption | (refine Bl.new' ?_ _ _; first | with_reducible rfl | (simp only [size_addB, size_setB, size_drew]; done)) | apply Bl.add | apply Bl.drew | (apply Bl.setNe; omega) | (refine Bl.set' ?_ _ _; (try simp only [size_addB, size_setB, size_drew]); omega)))) rfl (by simp [Value.oneCell']) (by simp) ?_)
                    refine L.nil ?_
                    refine X.sq ?_
                    refine V.seq ?_
                    generalize hw7 : setB _ _ _ _ = w7
                    have hbB : Bl w7 w6.heap.size 44 [.slice ba0 B.length bc0] := by rw [← hw7]; exact (by (repeat (first | assumption | (refine Bl.new' ?_ _ _; first | with_reducible rfl | (simp only [size_addB, size_setB, size_drew]; done)) | apply Bl.add | apply Bl.drew | (apply Bl.setNe; omega) | (refine Bl.set' ?_ _ _; (try simp only [size_addB, size_setB, size_drew]); omega))))
                    have he67 : Ext w6.heap.size w6 w7 := by rw [← hw7]; exact ((Ext.refl _ _).addNew _ _).set (by omega) _ _
                    have hs7 := hbB.lt
                    have hbA := he67.bl hbA6.lt hbA6
                    have hnd7 := he67.bl hnd6.lt hnd6
                    have he57 := he6.next he67
                    have he7 := he5.next he57
                    have hres7 := he57.bl hres.lt hres
                    have hr7 := he57.bl hr5.lt hr5
                    have hE7 := hE5.next he57
                    have hPA7 := hPA.ext he57
                    have hPB7 := hPB.ext he57
                    refine V.region ?_
                    refine L.rd (rd_move rfl) rfl ?_
                    refine L.rd (rd_fieldAddr tok rfl rfl rfl rfl rfl rfl) rfl ?_
                    refine L.rd (rd_load1 tok rfl rfl rfl (hbA.cell rfl)) rfl ?_
                    refine L.rd (rd_lenSlice tok rfl rfl rfl) rfl ?_
                    refine L.rd (rd_fieldAddr tok rfl rfl rfl rfl rfl rfl) rfl ?_
                    refine L.rd (rd_load1 tok rfl rfl rfl (hbB.cell rfl)) rfl ?_
                    refine L.rd (rd_lenSlice tok rfl rfl rfl) rfl ?_
                    refine L.rd (rd_addE (r := ((A.length + B.length : Nat) : Int)) rfl rfl (by rw [wrap_i64_in (by omega)]; omega)) rfl ?_
                    refine L.ef (e_call rfl (max1_ok (A.length + B.length) _) rfl ?_)
                    rintro _ _ ⟨rfl, rfl⟩
                    refine L.rd (rd_addE (r := ((u + max (A.length + B.length) 1 : Nat) : Int)) rfl rfl (by rw [wrap_i64_in (by omega)]; omega)) rfl ?_
                    refine L.rd (rd_assign rfl) rfl ?_
                    refine L.nil ?_
                    refine X.sq ?_
                    refine V.seq ?_
                    refine V.seq ?_
                    refine V.region ?_
                    refine L.rd (rd_move rfl) rfl ?_
                    refine L.rd (rd_gtr rfl rfl) rfl ?_
                    refine L.nil ?_
                    refine X.sq ?_
                    first | refine V.cond rfl (fun h110 => ?_) (fun h110 => ?_) | refine V.condB rfl (fun h110 => ?_) (fun h110 => ?_)
                    ·
                      refine V.seq ?_
                      refine V.region ?_
                      refine L.rd (rd_build (out := [_]) tok rfl rfl rfl rfl rfl) rfl ?_
                      refine L.ef (e_store (vs := [_]) tok rfl rfl rfl rfl hr7 rfl (by simp [Value.oneCell']) (by simp) ?_)
                      refine L.rd (rd_assign rfl) rfl ?_
                      refine L.nil ?_
                      refine X.sq ?_
                      refine V.ret ?_
                      refine X.sqRet ?_
                      refine X.bkRet ?_
                      refine X.ctRet ?_
                      refine X.sqRet ?_
                      refine X.bkRet ?_
                      refine X.sqRet ?_
                      refine X.lpRet ?_
                      refine X.bkRet ?_
                      refine X.sqRet ?_
                      refine ret_c1 tok Yaam.results51 rfl rfl rfl rfl (Bl.cells (Bl.set hr7 _ _)) rfl ?_
                      exact TPost.bad (hkey (by rw [hst, chg_no (by omega)]; rfl)) (Ext.set hE7 (by omega) _ _)
                    ·
                      refine V.skip ?_
                      refine X.sq ?_
                      refine V.seq ?_
                      refine V.seq ?_
                      refine V.region ?_
                      refine L.rd (rd_fieldAddr tok rfl rfl rfl rfl rfl rfl) rfl ?_
                      refine L.rd (rd_load1 tok rfl rfl rfl (hnd7.cell rfl)) rfl ?_
                      refine L.rd (rd_eql rfl rfl) rfl ?_
                      refine L.nil ?_
                      refine X.sq ?_
                      refine V.cut (fun l w' => ∃ (ba : Option Addr) (bn bc : Nat), l = [(1, .pointer (some ⟨w.heap.size, 0, none⟩)), (2, .pointer (some ⟨w.heap.size + 1, 0, none⟩)), (4, .int .i64 ns.length), (5, .slice (some ⟨w1.heap.size, 0, none⟩) ns.length ns.length), (6, .int .i64 (u + max (A.length + B.length) 1 : Nat)), (7, .int .i64 i), (9, .pointer (some ⟨w4.heap.size, 0, none⟩)), (11, .pointer (some ⟨w5.heap.size, 0, none⟩)), (12, .pointer (some ⟨w6.heap.size, 0, none⟩))] ∧ Ext wr.heap.size wr w' ∧ Bl w' w4.heap.size 44 [.slice none 0 0] ∧ Bl w' w5.heap.size 44 [.slice aa A.length ac] ∧ Bl w' w6.heap.size 44 [.slice ba bn bc] ∧ PhP w' (w1.heap.size + 1) (.slice aa A.length ac) A ∧ PhP w' (w1.heap.size + 1) (.slice ba bn bc) (if k = 5 then negM B else B)) ?_ ?_
                      ·
                        first | refine V.cond rfl (fun h114 => ?_) (fun h114 => ?_) | refine V.condB rfl (fun h114 => ?_) (fun h114 => ?_)
                        ·
                          refine V.region ?_
                          refine L.rd (rd_loadN tok rfl rfl rfl hbB.cells rfl) rfl ?_
                          refine L.ef (e_call rfl (negRaw_ok B _ _ hPB7 (by omega)) rfl ?_)
                          rintro _ w8 ⟨v8, rfl, hP8, he8⟩
                          obtain ⟨a8, c8, rfl⟩ := hP8.form
                          have hbB8 := he8.bl hbB.lt hbB
                          have hbA8 := he8.bl hbA.lt hbA
                          have hres8 := he8.bl hres7.lt hres7
                          have hPA8 := hPA7.ext he8
                          refine L.ef (e_store (vs := [_]) tok rfl rfl rfl rfl hbB8 rfl (by simp [Value.oneCell']) (by simp) ?_)
                          refine L.nil ?_
                          exact X.ct ⟨_, (by repeat' (first | exact trivial | refine ⟨rfl, ?_⟩)), _, _, _, rfl, (he7.next he8).set (by omega) _ _, hres8.setNe (by omega) _ _, hbA8.setNe (by omega) _ _, hbB8.set _ _, pset hbB8 hPA8 _, by rw [if_pos h114]; exact pset hbB8 hP8 _⟩
                        ·
                          refine V.skip ?_
                          exact X.ct ⟨_, (by repeat' (first | exact trivial | refine ⟨rfl, ?_⟩)), _, _, _, rfl, he7, hres7, hbA, hbB, hPA7, by rw [if_neg h114]; exact hPB7⟩
                      ·
                        rintro l w9 ⟨ba, bn, bc, rfl, he9, hres9, hbA9, hbB9, hPA9, hPB9⟩
                        have hs9 := he9.size
                        refine X.sq ?_
                        refine V.region ?_
                        refine L.rd (rd_loadN tok rfl rfl rfl hbA9.cells rfl) rfl ?_
                        refine L.rd (rd_loadN tok rfl rfl rfl hbB9.cells rfl) rfl ?_
                        refine L.ef (e_call rfl (addRaw_ph A _ _ _ _ hPA9 hPB9 (by omega)) rfl ?_)
                        rintro _ w10 ⟨ra, rn, rc, rfl, hP10, he10⟩
                        have hres10 := he10.bl hres9.lt hres9
                        refine L.rd (rd_move rfl) rfl ?_
                        refine L.rd (rd_ext0 rfl) rfl ?_
                        refine L.rd (rd_ext1 rfl) rfl ?_
                        refine L.ef (e_store (vs := [_]) tok rfl rfl rfl rfl hres10 rfl (by simp [Value.oneCell']) (by simp) ?_)
                        refine L.rd (rd_assign rfl) rfl ?_
                        refine L.nil ?_
                        refine X.bk ?_
                        refine X.ct ⟨_, (by repeat' (first | exact trivial | refine ⟨rfl, ?_⟩)), u + max (A.length + B.length) 1, _, _, _, _, nf (A ++ if k = 5 then negM B else B), rfl, (he9.next he10).set (by omega) _ _, hres10.set _ _, by omega, fun hu1 hb => ⟨?_, pset hres10 (hP10 hb) _⟩, fun hu1 hb => hkey ?_, fun hu1 => absurd hu1 (by omega)⟩
                        · rw [hst, chg_yes (by omega), Option.bind_some, opM_yes hb]
                        · rw [hst, chg_yes (by omega), Option.bind_some, opM_no hb]
                  ·
                    refine V.seq ?_
                    have hn45 : ¬ (k = 4 ∨ k = 5) := by rw [h86] at hb86; exact of_decide_eq_false hb86.symm
                    refine V.region ?_
                    refine L.rd (rd_eql rfl rfl) rfl ?_
                    refine L.rd (rd_assign rfl) rfl ?_
                    refine L.nil ?_
                    refine X.sq ?_
                    first | refine V.cond rfl (fun h123 => ?_) (fun h123 => ?_) | refine V.condB rfl (fun h123 => ?_) (fun h123 => ?_)
                    ·
                      obtain ⟨a, b', j, j2, rfl, rfl, rfl, hj, hj2, hSj, hSj2, hwa, hwb⟩ := sokb hok hws (by omega)
                      obtain ⟨A, hA⟩ := nth_of_lt Ps j (by omega)
                      obtain ⟨B, hB⟩ := nth_of_lt Ps j2 (by omega)
                      obtain ⟨aa, ac, hvj, hPA⟩ := hinv5 j A hA
                      obtain ⟨ba0, bc0, hvj2, hPB⟩ := hinv5 j2 B hB
                      have hAl := hPA.cm.len
                      have hBl := hPB.cm.len
                      have hcj : Cells w5 w1.heap.size (0 + ((j : Int)).toNat * 1) [.slice aa A.length ac] := by rw [Int.toNat_natCast, Nat.mul_one]; exact ((Cells.sub hP5.cells j [.slice aa A.length ac] (fun q y hy => by cases q with | zero => (simp only [List.getElem?_cons_zero, Option.some.injEq] at hy; subst hy; rw [Nat.add_zero]; exact hvj) | succ q => simp at hy)).zadd)
                      have hml : A.length * B.length ≤ 16777216 := Nat.mul_le_mul hAl hBl
                      have hst : stN Ps u (k, v, x, (j : Int), (j2 : Int)) = (chg u (A.length * B.length)).bind (opM (prods A B)) := by
                        unfold stN
                        simp only [Int.toNat_natCast, hA, hB, Option.getD_some]
                        exact st6 h123
                      refine V.seq ?_
                      refine V.region ?_
                      refine L.rd (rd_move rfl) rfl ?_
                      refine L.rd (rd_fieldAddr tok rfl rfl rfl rfl rfl rfl) rfl ?_
                      refine L.rd (rd_load1 tok rfl rfl rfl (hnd.cell (i := 3) rfl)) rfl ?_
                      (refine L.rd (rd_indexSlice (sz := 1) tok rfl rfl rfl rfl rfl rfl rfl ?_) rfl ?_; omega)
                      refine L.rd (rd_loadN tok rfl rfl rfl hcj rfl) rfl ?_
                      refine L.ef (e_alloc (cs := [_]) tok rfl rfl (by first | (simp only [size_addB, size_setB, size_drew]; rfl) | rfl) rfl ?_)
                      refine L.ef (e_store (vs := [_]) tok rfl rfl rfl rfl (by (repeat (first | assumption | (refine Bl.new' ?_ _ _; first | with_reducible rfl | (simp only [size_addB, size_setB, size_drew]; done)) | apply Bl.add | apply Bl.drew | (apply Bl.setNe; omega) | (refine Bl.set' ?_ _ _; (try simp only [size_addB, size_setB, size_drew]); omega)))) rfl (by simp [Value.oneCell']) (by simp) ?_)
                      refine L.nil ?_
                      refine X.sq ?_
                      refine V.seq ?_
                      generalize hw6 : setB _ _ _ _ = w6
                      have hbA6 : Bl w6 w5.heap.size 44 [.slice aa A.length ac] := by rw [← hw6]; exact (by (repeat (first | assumption | (refine Bl.new' ?_ _ _; first | with_reducible rfl | (simp only [size_addB, size_setB, size_drew]; done)) | apply Bl.add | apply Bl.drew | (apply Bl.setNe; omega) | (refine Bl.set' ?_ _ _; (try simp only [size_addB, size_setB, size_drew]); omega))))
                      have he6 : Ext w5.heap.size w5 w6 := by rw [← hw6]; exact ((Ext.refl _ _).addNew _ _).set (by omega) _ _
                      have hs6 := hbA6.lt
                      have hP6 := he6.bl hP5.lt hP5
                      have hnd6 := he6.bl hnd.lt hnd
                      have hcj2 : Cells w6 w1.heap.size (0 + ((j2 : Int)).toNat * 1) [.slice ba0 B.length bc0] := by rw [Int.toNat_natCast, Nat.mul_one]; exact ((Cells.sub hP6.cells j2 [.slice ba0 B.length bc0] (fun q y hy => by cases q with | zero => (simp only [List.getElem?_cons_zero, Option.some.injEq] at hy; subst hy; rw [Nat.add_zero]; exact hvj2) | succ q => simp at hy)).zadd)
                      refine V.region ?_
                      refine L.rd (rd_move rfl) rfl ?_
                      refine L.rd (rd_fieldAddr tok rfl rfl rfl rfl rfl rfl) rfl ?_
                      refine L.rd (rd_load1 tok rfl rfl rfl (hnd6.cell (i := 4) rfl)) rfl ?_
                      (refine L.rd (rd_indexSlice (sz := 1) tok rfl rfl rfl rfl rfl rfl rfl ?_) rfl ?_; omega)
                      refine L.rd (rd_loadN tok rfl rfl rfl hcj2 rfl) rfl ?_
                      refine L.ef (e_alloc (cs := [_]) tok rfl rfl (by first | (simp only [size_addB, size_setB, size_drew]; rfl) | rfl) rfl ?_)
                      refine L.ef (e_store (vs := [_]) tok rfl rfl rfl rfl (by (repeat (first | assumption | (refine Bl.new' ?_ _ _; first | with_reducible rfl | (simp only [size_addB, size_setB, size_drew]; done)) | apply Bl.add | apply Bl.drew | (apply Bl.setNe; omega) | (refine Bl.set' ?_ _ _; (try simp only [size_addB, size_setB, size_drew]); omega)))) rfl (by simp [Value.oneCell']) (by simp) ?_)
                      refine L.nil ?_
                      refine X.sq ?_
                      refine V.seq ?_
                      generalize hw7 : setB _ _ _ _ = w7
                      have hbB : Bl w7 w6.heap.size 44 [.slice ba0 B.length bc0] := by rw [← hw7]; exact (by (repeat (first | assumption | (refine Bl.new' ?_ _ _; first | with_reducible rfl | (simp only [size_addB, size_setB, size_drew]; done)) | apply Bl.add | apply Bl.drew | (apply Bl.setNe; omega) | (refine Bl.set' ?_ _ _; (try simp only [size_addB, size_setB, size_drew]); omega))))
                      have he67 : Ext w6.heap.size w6 w7 := by rw [← hw7]; exact ((Ext.refl _ _).addNew _ _).set (by omega) _ _
                      have hs7 := hbB.lt
                      have hbA := he67.bl hbA6.lt hbA6
                      have hnd7 := he67.bl hnd6.lt hnd6
                      have he57 := he6.next he67
                      have he7 := he5.next he57
                      have hres7 := he57.bl hres.lt hres
                      have hr7 := he57.bl hr5.lt hr5
                      have hE7 := hE5.next he57
                      have hPA7 := hPA.ext he57
                      have hPB7 := hPB.ext he57
                      refine V.region ?_
                      refine L.rd (rd_move rfl) rfl ?_
                      refine L.rd (rd_fieldAddr tok rfl rfl rfl rfl rfl rfl) rfl ?_
                      refine L.rd (rd_load1 tok rfl rfl rfl (hbA.cell rfl)) rfl ?_
                      refine L.rd (rd_lenSlice tok rfl rfl rfl) rfl ?_
                      refine L.rd (rd_fieldAddr tok rfl rfl rfl rfl rfl rfl) rfl ?_
                      refine L.rd (rd_load1 tok rfl rfl rfl (hbB.cell rfl)) rfl ?_
                      refine L.rd (rd_lenSlice tok rfl rfl rfl) rfl ?_
                      refine L.rd (rd_mulE (r := ((A.length * B.length : Nat) : Int)) rfl rfl (by rw [← Int.natCast_mul, wrap_i64_in (by omega)])) rfl ?_
                      refine L.ef (e_call rfl (max1_ok (A.length * B.length) _) rfl ?_)
                      rintro _ _ ⟨rfl, rfl⟩
                      refine L.rd (rd_addE (r := ((u + max (A.length * B.length) 1 : Nat) : Int)) rfl rfl (by rw [wrap_i64_in (by omega)]; omega)) rfl ?_
                      refine L.rd (rd_assign rfl) rfl ?_
                      refine L.nil ?_
                      refine X.sq ?_
                      refine V.seq ?_
                      refine V.seq ?_
                      refine V.region ?_
                      refine L.rd (rd_move rfl) rfl ?_
                      refine L.rd (rd_gtr rfl rfl) rfl ?_
                      refine L.nil ?_
                      refine X.sq ?_
                      first | refine V.cond rfl (fun h146 => ?_) (fun h146 => ?_) | refine V.condB rfl (fun h146 => ?_) (fun h146 => ?_)
                      ·
                        refine V.seq ?_
                        refine V.region ?_
                        refine L.rd (rd_build (out := [_]) tok rfl rfl rfl rfl rfl) rfl ?_
                        refine L.ef (e_store (vs := [_]) tok rfl rfl rfl rfl hr7 rfl (by simp [Value.oneCell']) (by simp) ?_)
                        refine L.rd (rd_assign rfl) rfl ?_
                        refine L.nil ?_
                        refine X.sq ?_
                        refine V.ret ?_
                        refine X.sqRet ?_
                        refine X.bkRet ?_
                        refine X.ctRet ?_
                        refine X.sqRet ?_
                        refine X.bkRet ?_
                        refine X.sqRet ?_
                        refine X.lpRet ?_
                        refine X.bkRet ?_
                        refine X.sqRet ?_
                        refine ret_c1 tok Yaam.results51 rfl rfl rfl rfl (Bl.cells (Bl.set hr7 _ _)) rfl ?_
                        exact TPost.bad (hkey (by rw [hst, chg_no (by omega)]; rfl)) (Ext.set hE7 (by omega) _ _)
                      ·
                        refine V.skip ?_
                        refine X.sq ?_
                        refine V.region ?_
                        refine L.rd (rd_loadN tok rfl rfl rfl hbA.cells rfl) rfl ?_
                        refine L.rd (rd_loadN tok rfl rfl rfl hbB.cells rfl) rfl ?_
                        refine L.ef (e_call rfl (mulRaw_ph A B _ _ _ hPA7 hPB7 (by omega) (by omega)) rfl ?_)
                        rintro _ w10 ⟨ra, rn, rc, rfl, hP10, he10⟩
                        have hres10 := he10.bl hres7.lt hres7
                        refine L.rd (rd_move rfl) rfl ?_
                        refine L.rd (rd_ext0 rfl) rfl ?_
                        refine L.rd (rd_ext1 rfl) rfl ?_
                        refine L.ef (e_store (vs := [_]) tok rfl rfl rfl rfl hres10 rfl (by simp [Value.oneCell']) (by simp) ?_)
                        refine L.rd (rd_assign rfl) rfl ?_
                        refine L.nil ?_
                        refine X.bk ?_
                        refine X.ct ⟨_, (by repeat' (first | exact trivial | refine ⟨rfl, ?_⟩)), u + max (A.length * B.length) 1, _, _, _, _, nf (prods A B), rfl, (he7.next he10).set (by omega) _ _, hres10.set _ _, by omega, fun hu1 hb => ⟨?_, pset hres10 (hP10 hb) _⟩, fun hu1 hb => hkey ?_, fun hu1 => absurd hu1 (by omega)⟩
                        · rw [hst, chg_yes (by omega), Option.bind_some, opM_yes hb]
                        · rw [hst, chg_yes (by omega), Option.bind_some, opM_no hb]
                    ·
                      refine V.seq ?_
                      refine V.region ?_
                      refine L.rd (rd_eql rfl rfl) rfl ?_
                      refine L.rd (rd_assign rfl) rfl ?_
                      refine L.nil ?_
                      refine X.sq ?_
                      first | refine V.cond rfl (fun h154 => ?_) (fun h154 => ?_) | refine V.condB rfl (fun h154 => ?_) (fun h154 => ?_)
                      ·
                        obtain ⟨a, j, rfl, rfl, hj, hSj, hwa, hv0, hv1⟩ := sok7 hok hws h154
                        obtain ⟨A, hA⟩ := nth_of_lt Ps j (by omega)
                        obtain ⟨aa, ac, hvj, hPA⟩ := hinv5 j A hA
                        have hAl := hPA.cm.len
                        have hstN : stN Ps u (k, v, x, (j : Int), rt) = stA k v x A (Ps[rt.toNat]?.getD []) u := by
                          unfold stN
                          simp only [Int.toNat_natCast, hA, Option.getD_some]
                        refine V.seq ?_
                        refine V.region ?_
                        refine L.rd (rd_fieldAddr tok rfl rfl rfl rfl rfl rfl) rfl ?_
                        refine L.rd (rd_load1 tok rfl rfl rfl (hnd.cell (i := 1) rfl)) rfl ?_
                        refine L.rd (rd_eql rfl rfl) rfl ?_
                        refine L.nil ?_
                        refine X.sq ?_
                        first | refine V.cond rfl (fun h158 => ?_) (fun h158 => ?_) | refine V.condB rfl (fun h158 => ?_) (fun h158 => ?_)
                        ·
                          refine V.seq ?_
                          refine V.region ?_
                          refine L.rd (rd_move rfl) rfl ?_
                          refine L.rd (rd_addE (r := ((u + 1 : Nat) : Int)) rfl rfl (by rw [wrap_i64_in (by omega)]; omega)) rfl ?_
                          refine L.rd (rd_assign rfl) rfl ?_
                          refine L.nil ?_
                          refine X.sq ?_
                          refine V.region ?_
                          refine L.rd (rd_build (out := [_, _]) tok rfl rfl rfl rfl rfl) rfl ?_
                          refine L.ef (e_buildSlice1 (e := 91) (cs := [_, _]) tok rfl rfl rfl rfl rfl rfl rfl rfl rfl (by first | (simp only [size_addB, size_setB, size_drew]; rfl) | rfl) rfl ?_)
                          refine L.rd (rd_build (out := [_]) tok rfl rfl rfl rfl rfl) rfl ?_
                          refine L.ef (e_store (vs := [_]) tok rfl rfl rfl rfl (by (repeat (first | assumption | (refine Bl.new' ?_ _ _; first | with_reducible rfl | (simp only [size_addB, size_setB, size_drew]; done)) | apply Bl.add | apply Bl.drew | (apply Bl.setNe; omega) | (refine Bl.set' ?_ _ _; (try simp only [size_addB, size_setB, size_drew]); omega)))) rfl (by simp [Value.oneCell']) (by simp) ?_)
                          refine L.nil ?_
                          refine X.bk ?_
                          refine X.ct ⟨_, (by repeat' (first | exact trivial | refine ⟨rfl, ?_⟩)), u + 1, true, _, _, _, oneM, rfl, (he5.addNew _ _).set (by omega) _ _, (by (repeat (first | assumption | (refine Bl.new' ?_ _ _; first | with_reducible rfl | (simp only [size_addB, size_setB, size_drew]; done)) | apply Bl.add | apply Bl.drew | (apply Bl.setNe; omega) | (refine Bl.set' ?_ _ _; (try simp only [size_addB, size_setB, size_drew]); omega)))), by omega, fun hu1 _ => ⟨?_, ?_⟩, fun _ h => (by cases h), fun hu1 => hkey ?_⟩
                          · rw [hstN, st70 h154 h158, chg_yes (by omega)]; rfl
                          · exact Ph.const CM.unit toP_one (eT := 91) (by (repeat (first | assumption | (refine Bl.new' ?_ _ _; first | with_reducible rfl | (simp only [size_addB, size_setB, size_drew]; done)) | apply Bl.add | apply Bl.drew | (apply Bl.setNe; omega) | (refine Bl.set' ?_ _ _; (try simp only [size_addB, size_setB, size_drew]); omega)))) rfl (by omega)
                          · rw [hstN, st70 h154 h158, chg_no (by omega)]; rfl
                        ·
                          refine V.seq ?_
                          refine V.region ?_
                          refine L.rd (rd_build (out := [_, _]) tok rfl rfl rfl rfl rfl) rfl ?_
                          refine L.ef (e_buildSlice1 (e := 91) (cs := [_, _]) tok rfl rfl rfl rfl rfl rfl rfl rfl rfl (by first | (simp only [size_addB, size_setB, size_drew]; rfl) | rfl) rfl ?_)
                          refine L.rd (rd_build (out := [_]) tok rfl rfl rfl rfl rfl) rfl ?_
                          refine L.ef (e_alloc (cs := [_]) tok rfl rfl (by first | (simp only [size_addB, size_setB, size_drew]; rfl) | rfl) rfl ?_)
                          refine L.ef (e_store (vs := [_]) tok rfl rfl rfl rfl (by (repeat (first | assumption | (refine Bl.new' ?_ _ _; first | with_reducible rfl | (simp only [size_addB, size_setB, size_drew]; done)) | apply Bl.add | apply Bl.drew | (apply Bl.setNe; omega) | (refine Bl.set' ?_ _ _; (try simp only [size_addB, size_setB, size_drew]); omega)))) rfl (by simp [Value.oneCell']) (by simp) ?_)
                          refine L.nil ?_
                          refine X.sq ?_
                          refine V.seq ?_
                          have hst : stN Ps u (k, v, x, (j : Int), rt) = pwL v.toNat v.toNat oneM A u := by rw [hstN, st7 h154 h158]
                          generalize hw6 : setB _ _ _ _ = w6
                          have hbT : Bl w6 w5.heap.size 91 [.int .i64 1, .slice none 0 0] := by rw [← hw6]; exact (by (repeat (first | assumption | (refine Bl.new' ?_ _ _; first | with_reducible rfl | (simp only [size_addB, size_setB, size_drew]; done)) | apply Bl.add | apply Bl.drew | (apply Bl.setNe; omega) | (refine Bl.set' ?_ _ _; (try simp only [size_addB, size_setB, size_drew]); omega))))
                          have hbR : Bl w6 (w5.heap.size + 1) 44 [.slice (some ⟨w5.heap.size, 0, none⟩) 1 1] := by rw [← hw6]; exact (by (repeat (first | assumption | (refine Bl.new' ?_ _ _; first | with_reducible rfl | (simp only [size_addB, size_setB, size_drew]; done)) | apply Bl.add | apply Bl.drew | (apply Bl.setNe; omega) | (refine Bl.set' ?_ _ _; (try simp only [size_addB, size_setB, size_drew]); omega))))
                          have he6 : Ext w5.heap.size w5 w6 := by rw [← hw6]; exact (((Ext.refl _ _).addNew _ _).addNew _ _).set (by omega) _ _
                          have hs6 := hbR.lt
                          have hPR := Ph.const (eP := 44) (lo := w1.heap.size + 1) (c := 1) CM.unit toP_one hbT rfl (by omega)
                          have hP6 := he6.bl hP5.lt hP5
                          have hnd6 := he6.bl hnd.lt hnd
                          have hcj : Cells w6 w1.heap.size (0 + ((j : Int)).toNat * 1) [.slice aa A.length ac] := by rw [Int.toNat_natCast, Nat.mul_one]; exact ((Cells.sub hP6.cells j [.slice aa A.length ac] (fun q y hy => by cases q with | zero => (simp only [List.getElem?_cons_zero, Option.some.injEq] at hy; subst hy; rw [Nat.add_zero]; exact hvj) | succ q => simp at hy)).zadd)
                          refine V.region ?_
                          refine L.rd (rd_move rfl) rfl ?_
                          refine L.rd (rd_fieldAddr tok rfl rfl rfl rfl rfl rfl) rfl ?_
                          refine L.rd (rd_load1 tok rfl rfl rfl (hnd6.cell (i := 3) rfl)) rfl ?_
                          (refine L.rd (rd_indexSlice (sz := 1) tok rfl rfl rfl rfl rfl rfl rfl ?_) rfl ?_; omega)
                          refine L.rd (rd_loadN tok rfl rfl rfl hcj rfl) rfl ?_
                          refine L.ef (e_alloc (cs := [_]) tok rfl rfl (by first | (simp only [size_addB, size_setB, size_drew]; rfl) | rfl) rfl ?_)
                          refine L.ef (e_store (vs := [_]) tok rfl rfl rfl rfl (by (repeat (first | assumption | (refine Bl.new' ?_ _ _; first | with_reducible rfl | (simp only [size_addB, size_setB, size_drew]; done)) | apply Bl.add | apply Bl.drew | (apply Bl.setNe; omega) | (refine Bl.set' ?_ _ _; (try simp only [size_addB, size_setB, size_drew]); omega)))) rfl (by simp [Value.oneCell']) (by simp) ?_)
                          refine L.nil ?_
                          refine X.sq ?_
                          refine V.seq ?_
                          generalize hw7 : setB _ _ _ _ = w7
                          have hbQ : Bl w7 w6.heap.size 44 [.slice aa A.length ac] := by rw [← hw7]; exact (by (repeat (first | assumption | (refine Bl.new' ?_ _ _; first | with_reducible rfl | (simp only [size_addB, size_setB, size_drew]; done)) | apply Bl.add | apply Bl.drew | (apply Bl.setNe; omega) | (refine Bl.set' ?_ _ _; (try simp only [size_addB, size_setB, size_drew]); omega))))
                          have he7 : Ext w6.heap.size w6 w7 := by rw [← hw7]; exact ((Ext.refl _ _).addNew _ _).set (by omega) _ _
                          have hs7 := hbQ.lt
                          have hnd7 := he7.bl hnd6.lt hnd6
                          have hbR7 := he7.bl hbR.lt hbR
                          have hE57 := he5.next (he6.next he7)
                          have hres7 := (he6.next he7).bl hres.lt hres
                          have hPR7 := hPR.ext he7
                          have hPQ7 := (hPA.ext he6).ext he7
                          refine V.region ?_
                          refine L.rd (rd_fieldAddr tok rfl rfl rfl rfl rfl rfl) rfl ?_
                          refine L.rd (rd_load1 tok rfl rfl rfl (hnd7.cell (i := 1) rfl)) rfl ?_
                          refine L.rd (rd_assign rfl) rfl ?_
                          refine L.nil ?_
                          refine X.sq ?_
                          refine V.seq ?_
                          refine V.block ?_
                          refine V.loop (fun m l w8 => ∃ (kk u2 f : Nat) (ra qa : Option Addr) (rn rc qn qc : Nat) (R Q : List MT), l = [(1, .pointer (some ⟨w.heap.size, 0, none⟩)), (2, .pointer (some ⟨w.heap.size + 1, 0, none⟩)), (4, .int .i64 ns.length), (5, .slice (some ⟨w1.heap.size, 0, none⟩) ns.length ns.length), (6, .int .i64 (u2 : Nat)), (7, .int .i64 i), (9, .pointer (some ⟨w4.heap.size, 0, none⟩)), (10, .bool true), (15, .pointer (some ⟨w5.heap.size + 1, 0, none⟩)), (16, .pointer (some ⟨w6.heap.size, 0, none⟩)), (17, .int .i64 kk)] ∧ m = kk ∧ 1 ≤ kk ∧ kk ≤ f ∧ kk ≤ 1000000 ∧ u2 ≤ 100000 ∧ Ext wr.heap.size wr w8 ∧ w6.heap.size < w8.heap.size ∧ Bl w8 w4.heap.size 44 [.slice none 0 0] ∧ Bl w8 (w5.heap.size + 1) 44 [.slice ra rn rc] ∧ Bl w8 w6.heap.size 44 [.slice qa qn qc] ∧ PhP w8 (w1.heap.size + 1) (.slice ra rn rc) R ∧ PhP w8 (w1.heap.size + 1) (.slice qa qn qc) Q ∧ pwL f kk R Q u2 = pwL v.toNat v.toNat oneM A u) ?_ ?_
                          ·
                            refine ⟨v.toNat, _, ?_, v.toNat, u, v.toNat, _, _, _, _, _, _, oneM, A, rfl, rfl, by omega, by omega, by omega, hu, hE57, hs7, hres7, hbR7, hbQ, hPR7, hPQ7, rfl⟩
                            have hvn : ((v.toNat : Nat) : Int) = v := by omega
                            exact ⟨rfl, rfl, rfl, rfl, rfl, rfl, rfl, rfl, rfl, rfl, by rw [hvn]; rfl, trivial⟩
                          ·
                            clear hbR hbQ hbR7 hPR7 hPQ7 hres7 hE57 hPR
                            rintro m l w8 ⟨kk, u2, f, ra, qa, rn, rc, qn, qc, R, Q, rfl, hm, hkk1, hkf, hkk2, hu2, hE8, hs8, hres8, hbR, hbQ, hPR, hPQ, hpw⟩
                            obtain rfl : kk = m := hm.symm
                            obtain ⟨f, rfl⟩ : ∃ f', f = f' + 1 := ⟨f - 1, by omega⟩
                            rw [pwL] at hpw
                            have hRl := hPR.cm.len
                            have hQl := hPQ.cm.len
                            obtain ⟨_, _, hrf⟩ := hPR.form
                            simp only [Value.slice.injEq] at hrf
                            obtain ⟨-, rfl, -⟩ := hrf
                            obtain ⟨_, _, hqf⟩ := hPQ.form
                            simp only [Value.slice.injEq] at hqf
                            obtain ⟨-, rfl, -⟩ := hqf
                            have hRQ : R.length * Q.length ≤ 16777216 := Nat.mul_le_mul hRl hQl
                            have hQQ : Q.length * Q.length ≤ 16777216 := Nat.mul_le_mul hQl hQl
                            have hr8 := hE8.bl hrr.lt hrr
                            have hEr8 := hEr.next hE8
                            refine V.block ?_
                            refine V.seq ?_
                            refine V.seq ?_
                            refine V.region ?_
                            refine L.rd (rd_move rfl) rfl ?_
                            refine L.rd (rd_remE (r := ((kk % 2 : Nat) : Int)) rfl rfl (by decide) (by rw [Int.tmod_eq_emod_of_nonneg (by omega)]; omega)) rfl ?_
                            refine L.rd (rd_eql rfl rfl) rfl ?_
                            refine L.nil ?_
                            refine X.sq ?_
                            refine V.cut (fun l w' => ∃ (u3 : Nat) (ra2 : Option Addr) (rn2 rc2 : Nat) (R1 : List MT), l = [(1, .pointer (some ⟨w.heap.size, 0, none⟩)), (2, .pointer (some ⟨w.heap.size + 1, 0, none⟩)), (4, .int .i64 ns.length), (5, .slice (some ⟨w1.heap.size, 0, none⟩) ns.length ns.length), (6, .int .i64 (u3 : Nat)), (7, .int .i64 i), (9, .pointer (some ⟨w4.heap.size, 0, none⟩)), (10, .bool true), (15, .pointer (some ⟨w5.heap.size + 1, 0, none⟩)), (16, .pointer (some ⟨w6.heap.size, 0, none⟩)), (17, .int .i64 kk)] ∧ u3 ≤ 100000 ∧ Ext wr.heap.size wr w' ∧ w6.heap.size < w'.heap.size ∧ Bl w' w4.heap.size 44 [.slice none 0 0] ∧ Bl w' (w5.heap.size + 1) 44 [.slice ra2 rn2 rc2] ∧ Bl w' w6.heap.size 44 [.slice qa Q.length qc] ∧ PhP w' (w1.heap.size + 1) (.slice ra2 rn2 rc2) R1 ∧ PhP w' (w1.heap.size + 1) (.slice qa Q.length qc) Q ∧ (if kk % 2 = 1 then (chg u2 (R.length * Q.length)).bind (opM (prods R Q)) else some (R, u2)) = some (R1, u3)) ?_ ?_
                            ·
                              first | refine V.cond rfl (fun h176 => ?_) (fun h176 => ?_) | refine V.condB rfl (fun h176 => ?_) (fun h176 => ?_)
                              ·
                                refine V.seq ?_
                                refine V.region ?_
                                refine L.rd (rd_move rfl) rfl ?_
                                refine L.rd (rd_fieldAddr tok rfl rfl rfl rfl rfl rfl) rfl ?_
                                refine L.rd (rd_load1 tok rfl rfl rfl (hbR.cell rfl)) rfl ?_
                                refine L.rd (rd_lenSlice tok rfl rfl rfl) rfl ?_
                                refine L.rd (rd_fieldAddr tok rfl rfl rfl rfl rfl rfl) rfl ?_
                                refine L.rd (rd_load1 tok rfl rfl rfl (hbQ.cell rfl)) rfl ?_
                                refine L.rd (rd_lenSlice tok rfl rfl rfl) rfl ?_
                                refine L.rd (rd_mulE (r := ((R.length * Q.length : Nat) : Int)) rfl rfl (by rw [← Int.natCast_mul, wrap_i64_in (by omega)])) rfl ?_
                                refine L.ef (e_call rfl (max1_ok (R.length * Q.length) _) rfl ?_)
                                rintro _ _ ⟨rfl, rfl⟩
                                refine L.rd (rd_addE (r := ((u2 + max (R.length * Q.length) 1 : Nat) : Int)) rfl rfl (by rw [wrap_i64_in (by omega)]; omega)) rfl ?_
                                refine L.rd (rd_assign rfl) rfl ?_
                                refine L.nil ?_
                                refine X.sq ?_
                                refine V.seq ?_
                                refine V.seq ?_
                                refine V.region ?_
                                refine L.rd (rd_move rfl) rfl ?_
                                refine L.rd (rd_gtr rfl rfl) rfl ?_
                                refine L.nil ?_
                                refine X.sq ?_
                                first | refine V.cond rfl (fun h188 => ?_) (fun h188 => ?_) | refine V.condB rfl (fun h188 => ?_) (fun h188 => ?_)
                                ·
                                  refine V.seq ?_
                                  refine V.region ?_
                                  refine L.rd (rd_build (out := [_]) tok rfl rfl rfl rfl rfl) rfl ?_
                                  refine L.ef (e_store (vs := [_]) tok rfl rfl rfl rfl hr8 rfl (by simp [Value.oneCell']) (by simp) ?_)
                                  refine L.rd (rd_assign rfl) rfl ?_
                                  refine L.nil ?_
                                  refine X.sq ?_
                                  refine V.ret ?_
                                  refine X.sqRet ?_
                                  refine X.ctRet ?_
                                  refine X.sqRet ?_
                                  refine X.bkRet ?_
                                  refine X.lpRet ?_
                                  refine X.bkRet ?_
                                  refine X.sqRet ?_
                                  refine X.bkRet ?_
                                  refine X.ctRet ?_
                                  refine X.sqRet ?_
                                  refine X.bkRet ?_
                                  refine X.sqRet ?_
                                  refine X.lpRet ?_
                                  refine X.bkRet ?_
                                  refine X.sqRet ?_
                                  refine ret_c1 tok Yaam.results51 rfl rfl rfl rfl (Bl.cells (Bl.set hr8 _ _)) rfl ?_
                                  exact TPost.bad (hkey (by rw [hst, ← hpw, if_pos (by omega), chg_no (by omega)]; rfl)) (Ext.set hEr8 (by omega) _ _)
                                ·
                                  refine V.skip ?_
                                  refine X.sq ?_
                                  refine V.seq ?_
                                  refine V.region ?_
                                  refine L.rd (rd_loadN tok rfl rfl rfl hbR.cells rfl) rfl ?_
                                  refine L.rd (rd_loadN tok rfl rfl rfl hbQ.cells rfl) rfl ?_
                                  refine L.ef (e_call rfl (mulRaw_ph R Q _ _ _ hPR hPQ (by omega) (by omega)) rfl ?_)
                                  rintro _ w10 ⟨xa, xn, xc, rfl, hP10, he10⟩
                                  have hres10 := he10.bl hres8.lt hres8
                                  have hbR10 := he10.bl hbR.lt hbR
                                  have hbQ10 := he10.bl hbQ.lt hbQ
                                  have hr10 := he10.bl hr8.lt hr8
                                  have hs10 := he10.size
                                  refine L.rd (rd_move rfl) rfl ?_
                                  refine L.rd (rd_ext0 rfl) rfl ?_
                                  refine L.rd (rd_ext1 rfl) rfl ?_
                                  refine L.ef (e_store (vs := [_]) tok rfl rfl rfl rfl hbR10 rfl (by simp [Value.oneCell']) (by simp) ?_)
                                  refine L.rd (rd_assign rfl) rfl ?_
                                  refine L.nil ?_
                                  refine X.sq ?_
                                  refine V.seq ?_
                                  have hr11 := hr10.setNe (b' := w5.heap.size + 1) (by omega) 44 (putAt [.slice ra R.length rc] 0 [.slice xa xn xc])
                                  have hE11 : Ext w.heap.size w (setB w10 (w5.heap.size + 1) 44 (putAt [.slice ra R.length rc] 0 [.slice xa xn xc])) := (hEr8.next he10).set (by omega) _ _
                                  refine V.region ?_
                                  refine L.rd (rd_move rfl) rfl ?_
                                  first | refine L.rd (rd_not rfl) rfl ?_ | refine L.rd (rd_notB rfl) rfl ?_
                                  refine L.nil ?_
                                  refine X.sq ?_
                                  first | refine V.cond rfl (fun h197 => ?_) (fun h197 => ?_) | refine V.condB rfl (fun h197 => ?_) (fun h197 => ?_)
                                  ·
                                    refine V.seq ?_
                                    refine V.region ?_
                                    refine L.rd (rd_build (out := [_]) tok rfl rfl rfl rfl rfl) rfl ?_
                                    refine L.ef (e_store (vs := [_]) tok rfl rfl rfl rfl hr11 rfl (by simp [Value.oneCell']) (by simp) ?_)
                                    refine L.rd (rd_assign rfl) rfl ?_
                                    refine L.nil ?_
                                    refine X.sq ?_
                                    refine V.ret ?_
                                    refine X.ctRet ?_
                                    refine X.sqRet ?_
                                    refine X.bkRet ?_
                                    refine X.lpRet ?_
                                    refine X.bkRet ?_
                                    refine X.sqRet ?_
                                    refine X.bkRet ?_
                                    refine X.ctRet ?_
                                    refine X.sqRet ?_
                                    refine X.bkRet ?_
                                    refine X.sqRet ?_
                                    refine X.lpRet ?_
                                    refine X.bkRet ?_
                                    refine X.sqRet ?_
                                    refine ret_c1 tok Yaam.results51 rfl rfl rfl rfl (Bl.cells (Bl.set hr11 _ _)) rfl ?_
                                    exact TPost.bad (hkey (by have hb : nfOk (nf (prods R Q)) = false := (by simpa using h197); rw [hst, ← hpw, if_pos (by omega), chg_yes (by omega), Option.bind_some, opM_no hb]; rfl)) (Ext.set hE11 (by omega) _ _)
                                  ·
                                    refine V.skip ?_
                                    have hb : nfOk (nf (prods R Q)) = true := by simpa using h197
                                    refine X.ct ⟨_, (by repeat' (first | exact trivial | refine ⟨rfl, ?_⟩ | refine ⟨congrArg (fun b => some (Value.bool b)) hb, ?_⟩)), u2 + max (R.length * Q.length) 1, xa, xn, xc, nf (prods R Q), rfl, by omega, (hE8.next he10).set (by omega) _ _, by rw [size_setB]; omega, hres10.setNe (by omega) _ _, hbR10.set _ _, hbQ10.setNe (by omega) _ _, pset hbR10 (hP10 hb) _, pset hbR10 (hPQ.ext he10) _, ?_⟩
                                    rw [if_pos (by omega), chg_yes (by omega), Option.bind_some, opM_yes hb]
                              ·
                                refine V.skip ?_
                                exact X.ct ⟨_, (by repeat' (first | exact trivial | refine ⟨rfl, ?_⟩)), u2, _, _, _, R, rfl, hu2, hE8, hs8, hres8, hbR, hbQ, hPR, hPQ, by rw [if_neg (by omega)]⟩
                            ·
                              clear hbR hPR hPQ hbQ hres8 hr8
                              rintro l w9 ⟨u3, ra2, rn2, rc2, R1, rfl, hu3, hE9, hs9, hres9, hbR, hbQ, hPR, hPQ, hfst⟩
                              rw [hfst, Option.bind_some] at hpw
                              have hr9 := hE9.bl hrr.lt hrr
                              have hEr9 := hEr.next hE9
                              refine X.sq ?_
                              refine V.seq ?_
                              refine V.region ?_
                              refine L.rd (rd_move rfl) rfl ?_
                              refine L.rd (rd_quoE (r := ((kk / 2 : Nat) : Int)) rfl rfl (by decide) (by rw [Int.tdiv_eq_ediv_of_nonneg (by omega), wrap_i64_in (by omega)]; omega)) rfl ?_
                              refine L.rd (rd_assign rfl) rfl ?_
                              refine L.nil ?_
                              refine X.sq ?_
                              refine V.seq ?_
                              refine V.seq ?_
                              refine V.region ?_
                              refine L.rd (rd_move rfl) rfl ?_
                              refine L.rd (rd_eql rfl rfl) rfl ?_
                              refine L.nil ?_
                              refine X.sq ?_
                              first | refine V.cond rfl (fun h202 => ?_) (fun h202 => ?_) | refine V.condB rfl (fun h202 => ?_) (fun h202 => ?_)
                              ·
                                refine V.exit ?_
                                refine X.sqExit ?_
                                refine X.bkOut rfl ?_
                                refine X.lpExit ?_
                                refine X.bkHere ?_
                                refine X.sq ?_
                                rw [if_pos (by omega)] at hpw
                                refine V.region ?_
                                refine L.rd (rd_loadN tok rfl rfl rfl hbR.cells rfl) rfl ?_
                                refine L.ef (e_store (vs := [_]) tok rfl rfl rfl rfl hres9 rfl (by simp [Value.oneCell']) (by simp) ?_)
                                refine L.nil ?_
                                refine X.bk ?_
                                exact X.ct ⟨_, (by repeat' (first | exact trivial | refine ⟨rfl, ?_⟩)), u3, true, _, _, _, R1, rfl, hE9.set (by omega) _ _, hres9.set _ _, by omega, fun _ _ => ⟨by rw [hst, ← hpw], pset hres9 hPR _⟩, fun _ h => (by cases h), fun h => absurd hu3 h⟩
                              ·
                                rw [if_neg (by omega)] at hpw
                                refine V.skip ?_
                                refine X.sq ?_
                                refine V.seq ?_
                                refine V.region ?_
                                refine L.rd (rd_move rfl) rfl ?_
                                refine L.rd (rd_fieldAddr tok rfl rfl rfl rfl rfl rfl) rfl ?_
                                refine L.rd (rd_load1 tok rfl rfl rfl (hbQ.cell rfl)) rfl ?_
                                refine L.rd (rd_lenSlice tok rfl rfl rfl) rfl ?_
                                refine L.rd (rd_fieldAddr tok rfl rfl rfl rfl rfl rfl) rfl ?_
                                refine L.rd (rd_load1 tok rfl rfl rfl (hbQ.cell rfl)) rfl ?_
                                refine L.rd (rd_lenSlice tok rfl rfl rfl) rfl ?_
                                refine L.rd (rd_mulE (r := ((Q.length * Q.length : Nat) : Int)) rfl rfl (by rw [← Int.natCast_mul, wrap_i64_in (by omega)])) rfl ?_
                                refine L.ef (e_call rfl (max1_ok (Q.length * Q.length) _) rfl ?_)
                                rintro _ _ ⟨rfl, rfl⟩
                                refine L.rd (rd_addE (r := ((u3 + max (Q.length * Q.length) 1 : Nat) : Int)) rfl rfl (by rw [wrap_i64_in (by omega)]; omega)) rfl ?_
                                refine L.rd (rd_assign rfl) rfl ?_
                                refine L.nil ?_
                                refine X.sq ?_
                                refine V.seq ?_
                                refine V.seq ?_
                                refine V.region ?_
                                refine L.rd (rd_move rfl) rfl ?_
                                refine L.rd (rd_gtr rfl rfl) rfl ?_
                                refine L.nil ?_
                                refine X.sq ?_
                                first | refine V.cond rfl (fun h214 => ?_) (fun h214 => ?_) | refine V.condB rfl (fun h214 => ?_) (fun h214 => ?_)
                                ·
                                  refine V.seq ?_
                                  refine V.region ?_
                                  refine L.rd (rd_build (out := [_]) tok rfl rfl rfl rfl rfl) rfl ?_
                                  refine L.ef (e_store (vs := [_]) tok rfl rfl rfl rfl hr9 rfl (by simp [Value.oneCell']) (by simp) ?_)
                                  refine L.rd (rd_assign rfl) rfl ?_
                                  refine L.nil ?_
                                  refine X.sq ?_
                                  refine V.ret ?_
                                  refine X.sqRet ?_
                                  refine X.bkRet ?_
                                  refine X.lpRet ?_
                                  refine X.bkRet ?_
                                  refine X.sqRet ?_
                                  refine X.bkRet ?_
                                  refine X.ctRet ?_
                                  refine X.sqRet ?_
                                  refine X.bkRet ?_
                                  refine X.sqRet ?_
                                  refine X.lpRet ?_
                                  refine X.bkRet ?_
                                  refine X.sqRet ?_
                                  refine ret_c1 tok Yaam.results51 rfl rfl rfl rfl (Bl.cells (Bl.set hr9 _ _)) rfl ?_
                                  exact TPost.bad (hkey (by rw [hst, ← hpw, chg_no (by omega)]; rfl)) (Ext.set hEr9 (by omega) _ _)
                                ·
                                  refine V.skip ?_
                                  refine X.sq ?_
                                  refine V.seq ?_
                                  refine V.region ?_
                                  refine L.rd (rd_loadN tok rfl rfl rfl hbQ.cells rfl) rfl ?_
                                  refine L.rd (rd_loadN tok rfl rfl rfl hbQ.cells rfl) rfl ?_
                                  refine L.ef (e_call rfl (mulRaw_ph Q Q _ _ _ hPQ hPQ (by omega) (by omega)) rfl ?_)
                                  rintro _ w10 ⟨xa, xn, xc, rfl, hP10, he10⟩
                                  have hres10 := he10.bl hres9.lt hres9
                                  have hbR10 := he10.bl hbR.lt hbR
                                  have hbQ10 := he10.bl hbQ.lt hbQ
                                  have hr10 := he10.bl hr9.lt hr9
                                  have hs10 := he10.size
                                  refine L.rd (rd_move rfl) rfl ?_
                                  refine L.rd (rd_ext0 rfl) rfl ?_
                                  refine L.rd (rd_ext1 rfl) rfl ?_
                                  refine L.ef (e_store (vs := [_]) tok rfl rfl rfl rfl hbQ10 rfl (by simp [Value.oneCell']) (by simp) ?_)
                                  refine L.rd (rd_assign rfl) rfl ?_
                                  refine L.nil ?_
                                  refine X.sq ?_
                                  refine V.seq ?_
                                  have hr11 := hr10.setNe (b' := w6.heap.size) (by omega) 44 (putAt [.slice qa Q.length qc] 0 [.slice xa xn xc])
                                  have hE11 : Ext w.heap.size w (setB w10 w6.heap.size 44 (putAt [.slice qa Q.length qc] 0 [.slice xa xn xc])) := (hEr9.next he10).set (by omega) _ _
                                  refine V.region ?_
                                  refine L.rd (rd_move rfl) rfl ?_
                                  first | refine L.rd (rd_not rfl) rfl ?_ | refine L.rd (rd_notB rfl) rfl ?_
                                  refine L.nil ?_
                                  refine X.sq ?_
                                  first | refine V.cond rfl (fun h223 => ?_) (fun h223 => ?_) | refine V.condB rfl (fun h223 => ?_) (fun h223 => ?_)
                                  ·
                                    refine V.seq ?_
                                    refine V.region ?_
                                    refine L.rd (rd_build (out := [_]) tok rfl rfl rfl rfl rfl) rfl ?_
                                    refine L.ef (e_store (vs := [_]) tok rfl rfl rfl rfl hr11 rfl (by simp [Value.oneCell']) (by simp) ?_)
                                    refine L.rd (rd_assign rfl) rfl ?_
                                    refine L.nil ?_
                                    refine X.sq ?_
                                    refine V.ret ?_
                                    refine X.bkRet ?_
                                    refine X.lpRet ?_
                                    refine X.bkRet ?_
                                    refine X.sqRet ?_
                                    refine X.bkRet ?_
                                    refine X.ctRet ?_
                                    refine X.sqRet ?_
                                    refine X.bkRet ?_
                                    refine X.sqRet ?_
                                    refine X.lpRet ?_
                                    refine X.bkRet ?_
                                    refine X.sqRet ?_
                                    refine ret_c1 tok Yaam.results51 rfl rfl rfl rfl (Bl.cells (Bl.set hr11 _ _)) rfl ?_
                                    exact TPost.bad (hkey (by have hb : nfOk (nf (prods Q Q)) = false := (by simpa using h223); rw [hst, ← hpw, chg_yes (by omega), Option.bind_some, opM_no hb]; rfl)) (Ext.set hE11 (by omega) _ _)
                                  ·
                                    refine V.skip ?_
                                    refine X.bk ?_
                                    have hb : nfOk (nf (prods Q Q)) = true := by simpa using h223
                                    rw [chg_yes (by omega), Option.bind_some, opM_yes hb, Option.bind_some] at hpw
                                    exact X.lp ⟨kk / 2, _, by omega, (by repeat' (first | exact trivial | refine ⟨rfl, ?_⟩ | refine ⟨congrArg (fun b => some (Value.bool b)) hb, ?_⟩)), kk / 2, u3 + max (Q.length * Q.length) 1, f, ra2, xa, rn2, rc2, xn, xc, R1, nf (prods Q Q), rfl, rfl, by omega, by omega, by omega, by omega, (hE9.next he10).set (by omega) _ _, by rw [size_setB]; omega, hres10.setNe (by omega) _ _, hbR10.setNe (by omega) _ _, hbQ10.set _ _, pset hbQ10 (hPR.ext he10) _, pset hbQ10 (hP10 hb) _, hpw⟩
                      ·
                        omega
        ·
          rintro l w6 ⟨u1, b, va, vn, vc, R, rfl, hE6, hres6, hu1, hgood, hbad1, hbad2⟩
          have hr6 := hE6.bl hrr.lt hrr
          have hEr6 := hEr.next hE6
          have hP6 := hE6.bl hP.lt hP
          refine X.sq ?_
          refine V.seq ?_
          refine V.seq ?_
          refine V.region ?_
          refine L.rd (rd_move rfl) rfl ?_
          refine L.rd (rd_gtr rfl rfl) rfl ?_
          refine L.rd (rd_move rfl) rfl ?_
          first | refine L.partG rfl rfl (fun g228 => ?_) (fun g228 => ?_) | refine L.partGB rfl rfl (fun g228 => ?_) (fun g228 => ?_)
          ·
            refine L.no rfl rfl rfl rfl ?_
            refine L.no rfl rfl rfl rfl ?_
            refine L.rd (rd_pickT rfl rfl) rfl ?_
            refine L.nil ?_
            refine X.sq ?_
            refine V.condT rfl ?_
            refine V.seq ?_
            refine V.region ?_
            refine L.rd (rd_build (out := [_]) tok rfl rfl rfl rfl rfl) rfl ?_
            refine L.ef (e_store (vs := [_]) tok rfl rfl rfl rfl hr6 rfl (by simp [Value.oneCell']) (by simp) ?_)
            refine L.rd (rd_assign rfl) rfl ?_
            refine L.nil ?_
            refine X.sq ?_
            refine V.ret ?_
            refine X.sqRet ?_
            refine X.bkRet ?_
            refine X.sqRet ?_
            refine X.lpRet ?_
            refine X.bkRet ?_
            refine X.sqRet ?_
            refine ret_c1 tok Yaam.results51 rfl rfl rfl rfl (Bl.cells (hr6.set _ _)) rfl ?_
            refine TPost.bad ?_ (hEr6.set (by omega) _ _)
            by_cases hu1' : u1 ≤ 100000
            · refine hbad1 hu1' ?_
              cases b with
              | false => rfl
              | true => first | (exfalso; omega) | (simp at h231)
            · exact hbad2 hu1'
          ·
            refine L.yes rfl rfl ?_
            refine L.rd (rd_move rfl) rfl ?_
            refine L.yes rfl rfl ?_
            first | refine L.rd (rd_not rfl) rfl ?_ | refine L.rd (rd_notB rfl) rfl ?_
            refine L.rd (rd_pickF rfl rfl) rfl ?_
            refine L.nil ?_
            refine X.sq ?_
            first | refine V.cond rfl (fun h231 => ?_) (fun h231 => ?_) | refine V.condB rfl (fun h231 => ?_) (fun h231 => ?_)
            ·
              refine V.seq ?_
              refine V.region ?_
              refine L.rd (rd_build (out := [_]) tok rfl rfl rfl rfl rfl) rfl ?_
              refine L.ef (e_store (vs := [_]) tok rfl rfl rfl rfl hr6 rfl (by simp [Value.oneCell']) (by simp) ?_)
              refine L.rd (rd_assign rfl) rfl ?_
              refine L.nil ?_
              refine X.sq ?_
              refine V.ret ?_
              refine X.sqRet ?_
              refine X.bkRet ?_
              refine X.sqRet ?_
              refine X.lpRet ?_
              refine X.bkRet ?_
              refine X.sqRet ?_
              refine ret_c1 tok Yaam.results51 rfl rfl rfl rfl (Bl.cells (hr6.set _ _)) rfl ?_
              refine TPost.bad ?_ (hEr6.set (by omega) _ _)
              by_cases hu1' : u1 ≤ 100000
              · refine hbad1 hu1' ?_
                cases b with
                | false => rfl
                | true => first | (exfalso; omega) | (simp at h231)
              · exact hbad2 hu1'
            ·
              refine V.skip ?_
              refine X.sq ?_
              have hu1' : u1 ≤ 100000 := by omega
              have hbt : b = true := by cases b with | true => rfl | false => simp at h231
              obtain ⟨hst, hPh⟩ := hgood hu1' hbt
              refine V.region ?_
              refine L.rd (rd_move rfl) rfl ?_
              refine L.rd (rd_move rfl) rfl ?_
              refine L.rd (rd_loadN tok rfl rfl rfl hres6.cells rfl) rfl ?_
              (refine L.rd (rd_indexSlice (sz := 1) tok rfl rfl rfl rfl rfl rfl rfl ?_) rfl ?_; omega)
              refine L.ef (e_store (vs := [_]) tok rfl rfl rfl rfl hP6 rfl (by simp [Value.oneCell']) (by simp; omega) ?_)
              refine L.nil ?_
              refine X.bk ?_
              refine X.sq ?_
              refine V.region ?_
              refine L.rd (rd_move rfl) rfl ?_
              (refine L.rd (rd_add3 rfl rfl ?_) rfl ?_; omega)
              refine L.rd (rd_assign rfl) rfl ?_
              refine L.nil ?_
              rw [hst, Option.bind_some] at hrun
              have hpu : putAt vs (0 + ((i : Int)).toNat * 1) [.slice va vn vc] = vs.set i (.slice va vn vc) := by rw [Nat.zero_add, Nat.mul_one, Int.toNat_natCast, putAt_one _ _ _ (by omega)]
              rw [hpu]
              refine X.lp ⟨_, _, by omega, (by repeat' (first | exact trivial | refine ⟨rfl, ?_⟩)), i + 1, u1, Ps ++ [R], vs.set i (.slice va vn vc), rfl, rfl, by omega, hu1', by simp [hPl], by simp [hvl], hP6.set _ _, (hEw.next hE6).set (Nat.le_refl _) _ _, fun j2 A2 h2 => ?_, hrun⟩
              by_cases hji : j2 = i
              · subst hji
                rw [← hPl, last_get] at h2
                simp only [Option.some.injEq] at h2
                subst h2
                exact ⟨_, List.getElem?_set_self (by omega), pset hP6 hPh _⟩
              · have hl2 := (List.getElem?_eq_some_iff.1 h2).1
                rw [List.length_append] at hl2
                simp only [List.length_cons, List.length_nil] at hl2
                rw [List.getElem?_append_left (by omega)] at h2
                obtain ⟨v2, h3, h4⟩ := hinv j2 A2 h2
                exact ⟨v2, by rw [List.getElem?_set_ne (by omega)]; exact h3, pset hP6 (h4.ext hE6) _⟩
      ·
        refine V.exit ?_
        refine X.sqExit ?_
        refine X.lpExit ?_
        refine X.bkHere ?_
        refine X.sq ?_
        refine V.seq ?_
        have hdr : ns.drop i = [] := List.drop_eq_nil_of_le (by omega)
        rw [hdr, prun] at hrun
        obtain ⟨R, hR, htR⟩ := hrs Ps u hrun.symm
        obtain ⟨vR, hvR, hPR⟩ := hinv _ R hR
        obtain ⟨ra, rc, rfl⟩ := hPR.form
        have hix : ((ns.length : Int) - 1).toNat = tsz t - 1 := by omega
        have hcR : Cells wr w1.heap.size (0 + ((ns.length : Int) - 1).toNat * 1) [.slice ra R.length rc] := by rw [hix, Nat.mul_one]; exact ((Cells.sub hP.cells (tsz t - 1) [.slice ra R.length rc] (fun q y hy => by cases q with | zero => (simp only [List.getElem?_cons_zero, Option.some.injEq] at hy; subst hy; rw [Nat.add_zero]; exact hvR) | succ q => simp at hy)).zadd)
        refine V.region ?_
        refine L.rd (rd_move rfl) rfl ?_
        refine L.rd (rd_move rfl) rfl ?_
        (refine L.rd (rd_sub3 rfl rfl ?_) rfl ?_; omega)
        (refine L.rd (rd_indexSlice (sz := 1) tok rfl rfl rfl rfl rfl rfl rfl ?_) rfl ?_; omega)
        refine L.rd (rd_loadN tok rfl rfl rfl hcR rfl) rfl ?_
        refine L.ef (e_alloc (cs := [_]) tok rfl rfl (by first | (simp only [size_addB, size_setB, size_drew]; rfl) | rfl) rfl ?_)
        refine L.ef (e_store (vs := [_]) tok rfl rfl rfl rfl (by (repeat (first | assumption | (refine Bl.new' ?_ _ _; first | with_reducible rfl | (simp only [size_addB, size_setB, size_drew]; done)) | apply Bl.add | apply Bl.drew | (apply Bl.setNe; omega) | (refine Bl.set' ?_ _ _; (try simp only [size_addB, size_setB, size_drew]); omega)))) rfl (by simp [Value.oneCell']) (by simp) ?_)
        refine L.nil ?_
        refine X.sq ?_
        refine V.seq ?_
        refine V.seq ?_
        generalize hw6 : setB _ _ _ _ = w6
        have hb6 : Bl w6 wr.heap.size 44 [.slice ra R.length rc] := by rw [← hw6]; exact (by (repeat (first | assumption | (refine Bl.new' ?_ _ _; first | with_reducible rfl | (simp only [size_addB, size_setB, size_drew]; done)) | apply Bl.add | apply Bl.drew | (apply Bl.setNe; omega) | (refine Bl.set' ?_ _ _; (try simp only [size_addB, size_setB, size_drew]); omega))))
        have he6 : Ext wr.heap.size wr w6 := by rw [← hw6]; exact ((Ext.refl _ _).addNew _ _).set (by omega) _ _
        have hs6 := hb6.lt
        have hr6 := he6.bl hrr.lt hrr
        refine V.region ?_
        refine L.rd (rd_fieldAddr tok rfl rfl rfl rfl rfl rfl) rfl ?_
        refine L.rd (rd_load1 tok rfl rfl rfl (hb6.cell rfl)) rfl ?_
        refine L.rd (rd_lenSlice tok rfl rfl rfl) rfl ?_
        refine L.rd (rd_eql rfl rfl) rfl ?_
        refine L.nil ?_
        refine X.sq ?_
        refine V.cut (fun l w' => ∃ (ya : Option Addr) (yn yc : Nat), l = [(2, .pointer (some ⟨w.heap.size + 1, 0, none⟩)), (18, .pointer (some ⟨wr.heap.size, 0, none⟩))] ∧ Bl w' wr.heap.size 44 [.slice ya yn yc] ∧ PhP w' (w1.heap.size + 1) (.slice ya yn yc) R ∧ Ext wr.heap.size wr w') ?_ ?_
        ·
          first | refine V.cond rfl (fun h245 => ?_) (fun h245 => ?_) | refine V.condB rfl (fun h245 => ?_) (fun h245 => ?_)
          ·
            refine V.region ?_
            refine L.ef (e_make0 (e := 91) tok rfl rfl rfl rfl rfl rfl rfl (by first | (simp only [size_addB, size_setB, size_drew]; rfl) | rfl) rfl ?_)
            refine L.rd (rd_fieldAddr tok rfl rfl rfl rfl rfl rfl) rfl ?_
            refine L.ef (e_store (vs := [_]) tok rfl rfl rfl rfl (by (repeat (first | assumption | (refine Bl.new' ?_ _ _; first | with_reducible rfl | (simp only [size_addB, size_setB, size_drew]; done)) | apply Bl.add | apply Bl.drew | (apply Bl.setNe; omega) | (refine Bl.set' ?_ _ _; (try simp only [size_addB, size_setB, size_drew]); omega)))) rfl (by simp [Value.oneCell']) (by simp) ?_)
            refine L.nil ?_
            have hR0 : R = [] := List.eq_nil_of_length_eq_zero (by omega)
            subst hR0
            exact X.ct ⟨_, (by repeat' (first | exact trivial | refine ⟨rfl, ?_⟩)), _, _, _, rfl, (by (repeat (first | assumption | (refine Bl.new' ?_ _ _; first | with_reducible rfl | (simp only [size_addB, size_setB, size_drew]; done)) | apply Bl.add | apply Bl.drew | (apply Bl.setNe; omega) | (refine Bl.set' ?_ _ _; (try simp only [size_addB, size_setB, size_drew]); omega)))), Ph.zero CM.nil rfl, (he6.addNew _ _).set (by omega) _ _⟩
          ·
            refine V.skip ?_
            exact X.ct ⟨_, (by repeat' (first | exact trivial | refine ⟨rfl, ?_⟩)), _, _, _, rfl, hb6, hPR.ext he6, he6⟩
        ·
          rintro l w7 ⟨ya, yn, yc, rfl, hb7, hP7, he7⟩
          have hr7 := he7.bl hrr.lt hrr
          refine X.sq ?_
          refine V.seq ?_
          refine V.region ?_
          refine L.rd (rd_loadN tok rfl rfl rfl hb7.cells rfl) rfl ?_
          refine L.ef (e_store (vs := [_]) tok rfl rfl rfl rfl hr7 rfl (by simp [Value.oneCell']) (by simp) ?_)
          refine L.rd (rd_assign rfl) rfl ?_
          refine L.nil ?_
          refine X.sq ?_
          refine V.ret ?_
          refine ret_c1 tok Yaam.results51 rfl rfl rfl rfl (Bl.cells (hr7.set _ _)) rfl ?_
          obtain ⟨Ls, hTl, hpl, -⟩ := (pset hr7 hP7 (putAt [.slice none 0 0] 0 [.slice ya yn yc])).ex
          exact ⟨_, Ls, by rw [htR]; rfl, hTl.wide (by omega) (Nat.le_refl _), by rw [hpl, htR]; rfl, (hEr.next he7).set (by omega) _ _⟩
end Go.Proofs.YbxaawGreat
