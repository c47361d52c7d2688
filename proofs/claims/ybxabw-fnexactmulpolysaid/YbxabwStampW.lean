/-
  laws.stampTerms, walked.
-/
import Derived.Test.YbxabwAnsW
set_option linter.unusedVariables false
set_option linter.unusedSimpArgs false
set_option maxRecDepth 10000
namespace Go.Mw
/-- factors stamped from c on -/
def SF (fs : List (Int × Int)) (c : Int) : Prop := ∀ (i : Nat) (f : Int × Int), fs[i]? = some f → f = (-1000000 - (c + i), c + i)
/-- terms stamped from a on, up to d -/
def Stm : List Lt → Int → Int → Prop
  | [], c, d => c = d
  | t :: r, c, d => t.1 = -1000000 - c ∧ SF t.2.2 (c + 1) ∧ Stm r (c + 1 + t.2.2.length) d
theorem Stm.snoc : ∀ {P : List Lt} {a c : Int} {t : Lt}, Stm P a c → t.1 = -1000000 - c → SF t.2.2 (c + 1) → Stm (P ++ [t]) a (c + 1 + t.2.2.length)
  | [], a, c, t, h, h1, h2 => by
    simp only [Stm] at h
    subst h
    exact ⟨h1, h2, rfl⟩
  | u :: P, a, c, t, h, h1, h2 => ⟨h.1, h.2.1, Stm.snoc h.2.2 h1 h2⟩
/-- small: no counter overflows -/
structure S4 (Ls : List Lt) : Prop where
  len : Ls.length ≤ 4096
  sub : ∀ t ∈ Ls, t.2.2.length ≤ 4096
theorem SF.start (fs : List (Int × Int)) (c : Int) (h : fs = []) : SF fs c := fun i f hf => by rw [h] at hf; simp at hf
/-- a prefix of j factors is stamped -/
def SFj (fs : List (Int × Int)) (c : Int) (j : Nat) : Prop := ∀ (i : Nat) (f : Int × Int), i < j → fs[i]? = some f → f = (-1000000 - (c + i), c + i)
theorem SFj.set {fs : List (Int × Int)} {c : Int} {j : Nat} (h : SFj fs c j) (hj : j < fs.length) : SFj (fs.set j (-1000000 - (c + j), c + j)) c (j + 1) := by
  intro i f hi hf
  by_cases e : i = j
  · subst e
    rw [List.getElem?_set_self hj] at hf
    simp only [Option.some.injEq] at hf
    exact hf.symm
  · rw [List.getElem?_set_ne (by omega)] at hf
    exact h i f (by omega) hf
end Go.Mw
namespace Go.Proofs.Ybxabw
open Go.Mw

theorem stampTerms_ok (va : Value) (Ls : List Lt) (w : World) {lo hi : Nat} (hO : OwnT w lo hi 133 135 va Ls) (hS : S4 Ls) :
    Ret Yabm.prog 57 [va] w fun r w' => r = .bool true ∧ ∃ Ms, OwnT w' lo hi 133 135 va Ms ∧ S4 Ms ∧ Rg lo hi w w' := by
  obtain ⟨aa, ca, rfl⟩ := own_form hO.top
  have hSl := hS.len
  refine enter1 Yabm.func57 Yabm.ntmps57 (by kernel_rfl) rfl rfl ?_
  refine V.seq ?_
  refine V.region ?_
  refine L.rd (rd_assign rfl) rfl ?_
  refine L.nil ?_
  refine X.sq ?_
  refine V.seq ?_
  refine V.region ?_
  refine L.rd (rd_assign rfl) rfl ?_
  refine L.nil ?_
  refine X.sq ?_
  refine V.seq ?_
  refine V.seq ?_
  refine V.region ?_
  refine L.rd (rd_assign rfl) rfl ?_
  refine L.nil ?_
  refine X.sq ?_
  refine V.block ?_
  refine V.loop (fun m l wr => ∃ (k : Nat) (c : Int) (P : List Lt), l = [(0, .slice aa Ls.length ca), (3, .int .i64 c), (4, .int .i64 k)] ∧ m = Ls.length - k ∧ k ≤ Ls.length ∧ P.length = k ∧ 0 ≤ c ∧ c ≤ k * 4097 ∧ OwnT wr lo hi 133 135 (.slice aa Ls.length ca) (P ++ Ls.drop k) ∧ Stm P 0 c ∧ (∀ t ∈ P, t.2.2.length ≤ 4096) ∧ Rg lo hi w wr) ?_ ?_
  ·
    exact ⟨_, _, (by repeat' (first | exact trivial | refine ⟨rfl, ?_⟩)), 0, 0, [], rfl, rfl, by omega, rfl, by omega, by omega, by simpa using hO, rfl, fun t ht => (by cases ht), Rg.refl _ _ _⟩
  ·
    rintro m l wr ⟨k, c, P, rfl, rfl, hk, hPl, hc0, hc1, hOk, hSt, hP4, hR⟩
    refine V.seq ?_
    refine V.seq ?_
    refine V.region ?_
    refine L.rd (rd_move rfl) rfl ?_
    refine L.rd (rd_move rfl) rfl ?_
    refine L.rd (rd_lenSlice tok rfl rfl rfl) rfl ?_
    refine L.rd (rd_lss rfl rfl) rfl ?_
    refine L.nil ?_
    refine X.sq ?_
    first | refine V.cond rfl (fun h13 => ?_) (fun h13 => ?_) | refine V.condB rfl (fun h13 => ?_) (fun h13 => ?_)
    ·
      obtain ⟨⟨tc, fv, fs⟩, ht⟩ := nth_of_lt Ls k (by omega)
      have hfs4 := hS.sub _ (List.mem_of_getElem? ht)
      have ht2 : (P ++ Ls.drop k)[k]? = some (tc, fv, fs) := by
        rw [List.getElem?_append_right (by omega), hPl, Nat.sub_self, List.getElem?_drop]; simpa using ht
      have hPL : (P ++ Ls.drop k).length = Ls.length := by rw [List.length_append, List.length_drop]; omega
      obtain ⟨g, cap, hgv, -, -, hct⟩ := own_some hOk.top (by omega)
      simp only [Value.slice.injEq] at hgv
      obtain ⟨rfl, -, rfl⟩ := hgv
      obtain ⟨cs, hbs, hln, hlo1, hhi1, hO1⟩ := hOk.storeC (c := -1000000 - c) ht2
      obtain ⟨fa, fc, hfv⟩ := own_form (hOk.sub _ (List.mem_of_getElem? ht2))
      simp only at hfv hfs4 hO1
      subst hfv
      refine V.skip ?_
      refine X.sq ?_
      refine V.seq ?_
      refine V.block ?_
      refine V.seq ?_
      refine V.region ?_
      refine L.rd (rd_move rfl) rfl ?_
      refine L.rd (rd_move rfl) rfl ?_
      refine L.rd (rd_move rfl) rfl ?_
      (refine L.rd (rd_sub3 rfl rfl ?_) rfl ?_; omega)
      (refine L.rd (rd_indexSlice (sz := 2) tok rfl rfl rfl rfl rfl rfl rfl ?_) rfl ?_; omega)
      refine L.rd (rd_fieldAddr tok rfl rfl rfl rfl rfl rfl) rfl ?_
      refine L.ef (e_store (vs := [_]) tok rfl rfl rfl rfl hbs rfl (by simp [Value.oneCell']) (by simp; omega) ?_)
      (simp only [Nat.zero_add, Int.toNat_natCast, Nat.add_zero])
      refine L.nil ?_
      refine X.sq ?_
      refine V.seq ?_
      generalize hw2 : setB _ _ _ _ = w2 at hO1 ⊢
      have hR2 : Rg lo hi w w2 := by rw [← hw2]; exact hR.trans (Rg.set ⟨hlo1, hhi1⟩ _ _)
      obtain ⟨M, hM⟩ : ∃ M, M = (P ++ Ls.drop k).set k (-1000000 - c, .slice fa fs.length fc, fs) := ⟨_, rfl⟩
      rw [← hM] at hO1
      have hMl : M.length = Ls.length := by rw [hM, List.length_set, hPL]
      have hMk : M[k]? = some (-1000000 - c, .slice fa fs.length fc, fs) := by rw [hM]; exact List.getElem?_set_self (by omega)
      obtain ⟨g', cap', hgv', -, -, hct2⟩ := own_some hO1.top (by omega)
      simp only [Value.slice.injEq, Option.some.injEq, Addr.mk.injEq] at hgv'
      obtain ⟨⟨rfl, -, -⟩, -, -⟩ := hgv'
      have hcx2 := Tl.cells hct2 hMk
      refine V.region ?_
      refine L.rd (rd_move rfl) rfl ?_
      (refine L.rd (rd_add3 rfl rfl ?_) rfl ?_; omega)
      refine L.rd (rd_assign rfl) rfl ?_
      refine L.nil ?_
      refine X.sq ?_
      refine V.seq ?_
      refine V.region ?_
      refine L.rd (rd_move rfl) rfl ?_
      refine L.rd (rd_move rfl) rfl ?_
      (refine L.rd (rd_indexSlice (sz := 2) tok rfl rfl rfl rfl rfl rfl rfl ?_) rfl ?_; omega)
      refine L.rd (rd_fieldAddr tok rfl rfl rfl rfl rfl rfl) rfl ?_
      refine L.rd (rd_load1 tok rfl rfl rfl (hcx2.at_ 1 _ rfl)) rfl ?_
      refine L.rd (rd_assign rfl) rfl ?_
      refine L.nil ?_
      refine X.sq ?_
      refine V.seq ?_
      refine V.region ?_
      refine L.rd (rd_assign rfl) rfl ?_
      refine L.nil ?_
      refine X.sq ?_
      refine V.block ?_
      refine V.loop (fun m l w3 => ∃ (j : Nat) (cc : Int) (gs : List (Int × Int)), l = [(0, .slice (some ⟨g, 0, none⟩) Ls.length ca), (3, .int .i64 cc), (4, .int .i64 k), (5, .slice fa fs.length fc), (6, .int .i64 j)] ∧ cc = c + 1 + j ∧ m = fs.length - j ∧ j ≤ fs.length ∧ gs.length = fs.length ∧ OwnT w3 lo hi 133 135 (.slice (some ⟨g, 0, none⟩) Ls.length ca) (M.set k (-1000000 - c, .slice fa fs.length fc, gs)) ∧ SFj gs (c + 1) j ∧ Rg lo hi w w3) ?_ ?_
      ·
        exact ⟨_, _, (by repeat' (first | exact trivial | refine ⟨rfl, ?_⟩)), 0, c + 1, fs, rfl, by omega, rfl, by omega, rfl, by rw [set_same hMk]; exact hO1, fun i f h => by omega, hR2⟩
      ·
        rintro m l w3 ⟨j, cc, gs, rfl, hcc, rfl, hj, hgl, hOj, hSj, hR3⟩
        refine V.seq ?_
        refine V.seq ?_
        refine V.region ?_
        refine L.rd (rd_move rfl) rfl ?_
        refine L.rd (rd_move rfl) rfl ?_
        refine L.rd (rd_lenSlice tok rfl rfl rfl) rfl ?_
        refine L.rd (rd_lss rfl rfl) rfl ?_
        refine L.nil ?_
        refine X.sq ?_
        first | refine V.cond rfl (fun h32 => ?_) (fun h32 => ?_) | refine V.condB rfl (fun h32 => ?_) (fun h32 => ?_)
        ·
          have ht3 : (M.set k (-1000000 - c, .slice fa fs.length fc, gs))[k]? = some (-1000000 - c, .slice fa fs.length fc, gs) := List.getElem?_set_self (by omega)
          have hsub := hOj.sub _ (List.mem_of_getElem? ht3)
          obtain ⟨g3, cap3, hgv3, -, -, -⟩ := own_some hsub (by simp only []; omega)
          simp only [Value.slice.injEq] at hgv3
          obtain ⟨rfl, -, rfl⟩ := hgv3
          obtain ⟨cs3, hbs3, hln3, hlo3, hhi3, hO3⟩ := hOj.storeF (j := j) (x := (-1000000 - cc, cc)) ht3 (by omega)
          refine V.skip ?_
          refine X.sq ?_
          refine V.seq ?_
          refine V.block ?_
          refine V.seq ?_
          refine V.region ?_
          refine L.rd (rd_move rfl) rfl ?_
          refine L.rd (rd_move rfl) rfl ?_
          refine L.rd (rd_move rfl) rfl ?_
          (refine L.rd (rd_sub3 rfl rfl ?_) rfl ?_; omega)
          refine L.rd (rd_move rfl) rfl ?_
          refine L.rd (rd_build (out := [_, _]) tok rfl rfl rfl rfl rfl) rfl ?_
          (refine L.rd (rd_indexSlice (sz := 2) tok rfl rfl rfl rfl rfl rfl rfl ?_) rfl ?_; omega)
          refine L.ef (e_store (vs := [_, _]) tok rfl rfl rfl rfl hbs3 rfl (by simp [Value.oneCell']) (by simp; omega) ?_)
          refine L.nil ?_
          refine X.sq ?_
          refine V.region ?_
          refine L.rd (rd_move rfl) rfl ?_
          (refine L.rd (rd_add3 rfl rfl ?_) rfl ?_; omega)
          refine L.rd (rd_assign rfl) rfl ?_
          refine L.nil ?_
          refine X.bk ?_
          refine X.sq ?_
          refine V.region ?_
          refine L.rd (rd_move rfl) rfl ?_
          (refine L.rd (rd_add3 rfl rfl ?_) rfl ?_; omega)
          refine L.rd (rd_assign rfl) rfl ?_
          refine L.nil ?_
          simp only [Nat.zero_add, Int.toNat_natCast]
          refine X.lp ⟨_, _, by omega, (by repeat' (first | exact trivial | refine ⟨rfl, ?_⟩)), j + 1, cc + 1, gs.set j (-1000000 - cc, cc), rfl, by omega, rfl, by omega, by simpa using hgl, ?_, by have := hSj.set (j := j) (by omega); rw [← hcc] at this; exact this, hR3.trans (Rg.set ⟨hlo3, hhi3⟩ _ _)⟩
          rw [List.set_set] at hO3
          exact hO3
        ·
          refine V.exit ?_
          refine X.sqExit ?_
          refine X.lpExit ?_
          refine X.bkHere ?_
          refine X.bk ?_
          refine X.sq ?_
          refine V.region ?_
          refine L.rd (rd_move rfl) rfl ?_
          (refine L.rd (rd_add3 rfl rfl ?_) rfl ?_; omega)
          refine L.rd (rd_assign rfl) rfl ?_
          refine L.nil ?_
          have hjf : j = fs.length := by omega
          subst hjf
          have hSF : SF gs (c + 1) := fun i f hf => hSj i f (by have := (List.getElem?_eq_some_iff.1 hf).1; omega) hf
          have hlist : M.set k (-1000000 - c, .slice fa fs.length fc, gs) = (P ++ [(-1000000 - c, .slice fa fs.length fc, gs)]) ++ Ls.drop (k + 1) := by
            rw [hM, List.set_set, drop_cons ht, List.set_append_right _ _ (by omega), hPl, Nat.sub_self]
            simp
          rw [hlist] at hOj
          have hst2 := hSt.snoc (t := (-1000000 - c, .slice fa fs.length fc, gs)) rfl hSF
          simp only [hgl] at hst2
          rw [← hcc] at hst2
          refine X.lp ⟨_, _, by omega, (by repeat' (first | exact trivial | refine ⟨rfl, ?_⟩)), k + 1, cc, P ++ [(-1000000 - c, .slice fa fs.length fc, gs)], rfl, rfl, by omega, by simp [hPl], by omega, by omega, hOj, hst2, ?_, hR3⟩
          intro t htm
          rcases List.mem_append.1 htm with htm | htm
          · exact hP4 t htm
          · simp at htm; subst htm; simp only []; omega
    ·
      refine V.exit ?_
      refine X.sqExit ?_
      refine X.lpExit ?_
      refine X.bkHere ?_
      refine X.sq ?_
      refine V.seq ?_
      refine V.region ?_
      refine L.rd (rd_assign rfl) rfl ?_
      refine L.nil ?_
      refine X.sq ?_
      refine V.seq ?_
      refine V.seq ?_
      refine V.region ?_
      refine L.rd (rd_assign rfl) rfl ?_
      refine L.nil ?_
      refine X.sq ?_
      refine V.block ?_
      have hkL : k = Ls.length := by omega
      rw [drop_end (by omega), List.append_nil] at hOk
      refine V.loop (fun m l wr2 => ∃ (i : Nat) (c' : Int), l = [(0, .slice aa Ls.length ca), (3, .int .i64 c'), (7, .int .i64 i)] ∧ m = Ls.length - i ∧ i ≤ Ls.length ∧ 0 ≤ c' ∧ c' ≤ i * 4097 ∧ Stm (P.drop i) c' c ∧ wr = wr2) ?_ ?_
      ·
        exact ⟨_, _, (by repeat' (first | exact trivial | refine ⟨rfl, ?_⟩)), 0, 0, rfl, rfl, by omega, by omega, by omega, by simpa using hSt, rfl⟩
      ·
        rintro m l wr2 ⟨i, c', rfl, rfl, hi, hc0', hc1', hSt', rfl⟩
        refine V.seq ?_
        refine V.seq ?_
        refine V.region ?_
        refine L.rd (rd_move rfl) rfl ?_
        refine L.rd (rd_move rfl) rfl ?_
        refine L.rd (rd_lenSlice tok rfl rfl rfl) rfl ?_
        refine L.rd (rd_lss rfl rfl) rfl ?_
        refine L.nil ?_
        refine X.sq ?_
        first | refine V.cond rfl (fun h47 => ?_) (fun h47 => ?_) | refine V.condB rfl (fun h47 => ?_) (fun h47 => ?_)
        ·
          obtain ⟨⟨tc, fv, fs⟩, ht⟩ := nth_of_lt P i (by omega)
          have hfs4 := hP4 _ (List.mem_of_getElem? ht)
          rw [drop_cons ht] at hSt'
          obtain ⟨hs1, hs2, hs3⟩ := hSt'
          obtain ⟨g, cap, hgv, -, -, hct⟩ := own_some hOk.top (by omega)
          simp only [Value.slice.injEq] at hgv
          obtain ⟨rfl, -, rfl⟩ := hgv
          have hcx := Tl.cells hct ht
          have hfo := hOk.sub _ (List.mem_of_getElem? ht)
          simp only at hfs4 hs1 hs2 hs3 hcx hfo
          obtain ⟨fa, fc, rfl⟩ := own_form hfo
          refine V.skip ?_
          refine X.sq ?_
          refine V.seq ?_
          refine V.block ?_
          refine V.seq ?_
          refine V.seq ?_
          refine V.region ?_
          refine L.rd (rd_move rfl) rfl ?_
          refine L.rd (rd_move rfl) rfl ?_
          (refine L.rd (rd_indexSlice (sz := 2) tok rfl rfl rfl rfl rfl rfl rfl ?_) rfl ?_; omega)
          refine L.rd (rd_fieldAddr tok rfl rfl rfl rfl rfl rfl) rfl ?_
          refine L.rd (rd_load1 tok rfl rfl rfl (hcx.at_ 0 _ rfl)) rfl ?_
          refine L.rd (rd_move rfl) rfl ?_
          (refine L.rd (rd_sub3 rfl rfl ?_) rfl ?_; omega)
          refine L.rd (rd_neq rfl rfl) rfl ?_
          refine L.nil ?_
          refine X.sq ?_
          first | refine V.cond rfl (fun h57 => ?_) (fun h57 => ?_) | refine V.condB rfl (fun h57 => ?_) (fun h57 => ?_)
          ·
            exact absurd hs1 h57
          ·
            refine V.skip ?_
            refine X.sq ?_
            refine V.seq ?_
            refine V.region ?_
            refine L.rd (rd_move rfl) rfl ?_
            (refine L.rd (rd_add3 rfl rfl ?_) rfl ?_; omega)
            refine L.rd (rd_assign rfl) rfl ?_
            refine L.nil ?_
            refine X.sq ?_
            refine V.seq ?_
            refine V.region ?_
            refine L.rd (rd_move rfl) rfl ?_
            refine L.rd (rd_move rfl) rfl ?_
            (refine L.rd (rd_indexSlice (sz := 2) tok rfl rfl rfl rfl rfl rfl rfl ?_) rfl ?_; omega)
            refine L.rd (rd_fieldAddr tok rfl rfl rfl rfl rfl rfl) rfl ?_
            refine L.rd (rd_load1 tok rfl rfl rfl (hcx.at_ 1 _ rfl)) rfl ?_
            refine L.rd (rd_assign rfl) rfl ?_
            refine L.nil ?_
            refine X.sq ?_
            refine V.seq ?_
            refine V.region ?_
            refine L.rd (rd_assign rfl) rfl ?_
            refine L.nil ?_
            refine X.sq ?_
            refine V.block ?_
            refine V.loop (fun m l w3 => ∃ (j : Nat) (cc : Int), l = [(0, .slice (some ⟨g, 0, none⟩) Ls.length ca), (3, .int .i64 cc), (7, .int .i64 i), (8, .slice fa fs.length fc), (9, .int .i64 j)] ∧ cc = c' + 1 + j ∧ m = fs.length - j ∧ j ≤ fs.length ∧ wr = w3) ?_ ?_
            ·
              exact ⟨_, _, (by repeat' (first | exact trivial | refine ⟨rfl, ?_⟩)), 0, c' + 1, rfl, by omega, rfl, by omega, rfl⟩
            ·
              rintro m l w3 ⟨j, cc, rfl, hcc, rfl, hj, rfl⟩
              refine V.seq ?_
              refine V.seq ?_
              refine V.region ?_
              refine L.rd (rd_move rfl) rfl ?_
              refine L.rd (rd_move rfl) rfl ?_
              refine L.rd (rd_lenSlice tok rfl rfl rfl) rfl ?_
              refine L.rd (rd_lss rfl rfl) rfl ?_
              refine L.nil ?_
              refine X.sq ?_
              first | refine V.cond rfl (fun h68 => ?_) (fun h68 => ?_) | refine V.condB rfl (fun h68 => ?_) (fun h68 => ?_)
              ·
                obtain ⟨g3, cap3, hgv3, -, -, hcf⟩ := own_some hfo (by omega)
                simp only [Value.slice.injEq] at hgv3
                obtain ⟨rfl, -, rfl⟩ := hgv3
                obtain ⟨x, hx⟩ := nth_of_lt fs j (by omega)
                have hxe := hs2 j x hx
                rw [← hcc] at hxe
                subst hxe
                have hcj := hcf.sub (j * 2) _ (pr_get fs j _ hx)
                refine V.skip ?_
                refine X.sq ?_
                refine V.seq ?_
                refine V.block ?_
                refine V.seq ?_
                refine V.seq ?_
                refine V.region ?_
                refine L.rd (rd_move rfl) rfl ?_
                refine L.rd (rd_move rfl) rfl ?_
                (refine L.rd (rd_indexSlice (sz := 2) tok rfl rfl rfl rfl rfl rfl rfl ?_) rfl ?_; omega)
                refine L.rd (rd_fieldAddr tok rfl rfl rfl rfl rfl rfl) rfl ?_
                refine L.rd (rd_load1 tok rfl rfl rfl (hcj.at_ 0 _ rfl)) rfl ?_
                refine L.rd (rd_move rfl) rfl ?_
                (refine L.rd (rd_sub3 rfl rfl ?_) rfl ?_; omega)
                refine L.rd (rd_neq rfl rfl) rfl ?_
                refine L.rd (rd_move rfl) rfl ?_
                first | refine L.partG rfl rfl (fun g79 => ?_) (fun g79 => ?_) | refine L.partGB rfl rfl (fun g79 => ?_) (fun g79 => ?_)
                ·
                  exact absurd rfl g79
                ·
                  refine L.yes rfl rfl ?_
                  refine L.rd (rd_move rfl) rfl ?_
                  refine L.yes rfl rfl ?_
                  refine L.rd (rd_move rfl) rfl ?_
                  refine L.yes rfl rfl ?_
                  (refine L.rd (rd_indexSlice (sz := 2) tok rfl rfl rfl rfl rfl rfl rfl ?_) rfl ?_; omega)
                  refine L.yes rfl rfl ?_
                  refine L.rd (rd_fieldAddr tok rfl rfl rfl rfl rfl rfl) rfl ?_
                  refine L.yes rfl rfl ?_
                  refine L.rd (rd_load1 tok rfl rfl rfl (hcj.at_ 1 _ rfl)) rfl ?_
                  refine L.yes rfl rfl ?_
                  refine L.rd (rd_move rfl) rfl ?_
                  refine L.yes rfl rfl ?_
                  refine L.rd (rd_neq rfl rfl) rfl ?_
                  refine L.rd (rd_pickF rfl rfl) rfl ?_
                  refine L.nil ?_
                  refine X.sq ?_
                  first | refine V.cond rfl (fun h87 => ?_) (fun h87 => ?_) | refine V.condB rfl (fun h87 => ?_) (fun h87 => ?_)
                  ·
                    exact absurd rfl h87
                  ·
                    refine V.skip ?_
                    refine X.sq ?_
                    refine V.region ?_
                    refine L.rd (rd_move rfl) rfl ?_
                    (refine L.rd (rd_add3 rfl rfl ?_) rfl ?_; omega)
                    refine L.rd (rd_assign rfl) rfl ?_
                    refine L.nil ?_
                    refine X.bk ?_
                    refine X.sq ?_
                    refine V.region ?_
                    refine L.rd (rd_move rfl) rfl ?_
                    (refine L.rd (rd_add3 rfl rfl ?_) rfl ?_; omega)
                    refine L.rd (rd_assign rfl) rfl ?_
                    refine L.nil ?_
                    exact X.lp ⟨_, _, by omega, (by repeat' (first | exact trivial | refine ⟨rfl, ?_⟩)), j + 1, cc + 1, rfl, by omega, rfl, by omega, rfl⟩
              ·
                refine V.exit ?_
                refine X.sqExit ?_
                refine X.lpExit ?_
                refine X.bkHere ?_
                refine X.bk ?_
                refine X.sq ?_
                refine V.region ?_
                refine L.rd (rd_move rfl) rfl ?_
                (refine L.rd (rd_add3 rfl rfl ?_) rfl ?_; omega)
                refine L.rd (rd_assign rfl) rfl ?_
                refine L.nil ?_
                obtain rfl : j = fs.length := by omega
                exact X.lp ⟨_, _, by omega, (by repeat' (first | exact trivial | refine ⟨rfl, ?_⟩)), i + 1, cc, rfl, rfl, by omega, by omega, by omega, by rw [hcc]; exact hs3, rfl⟩
        ·
          refine V.exit ?_
          refine X.sqExit ?_
          refine X.lpExit ?_
          refine X.bkHere ?_
          refine X.sq ?_
          refine V.seq ?_
          refine V.region ?_
          refine L.rd (rd_assign rfl) rfl ?_
          refine L.nil ?_
          refine X.sq ?_
          refine V.ret ?_
          refine ret_1 Yabm.results57 rfl ?_
          exact ⟨rfl, P, hOk, ⟨by omega, hP4⟩, hR⟩
end Go.Proofs.Ybxabw
