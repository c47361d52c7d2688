/-
  impl.factorsOf and impl.finish, walked.
-/
import Derived.Test.YbxaawGreatSortW3
import Derived.Test.YbxaawGreatFromW
set_option linter.unusedVariables false
set_option linter.unusedSimpArgs false
set_option maxRecDepth 10000
namespace Go.Mw
/-- however the grouping goes on, what is closed stays -/
theorem Gr.goes {S : List MT} (hw : Wk S) (hv : Vl S) (hcr : Cr S) : ∀ (n k : Nat) (P : List MT) (x : MT), S.length - k = n → k ≤ S.length → Gr S k (P ++ [x]) → Cr (P ++ [x]) → ∃ c rest, Gr S S.length (P ++ (c, x.2) :: rest) ∧ Cr (P ++ (c, x.2) :: rest)
  | 0, k, P, x, hn, hk, h, hc => by
    obtain rfl : k = S.length := by omega
    exact ⟨x.1, [], h, hc⟩
  | n + 1, k, P, x, hn, hk, h, hc => by
    obtain ⟨t, ht⟩ := nth_of_lt S k (by omega)
    have htc := hcr t (List.mem_of_getElem? ht)
    by_cases e : x.2 = t.2
    · have h2 : Gr S (k + 1) (P ++ [(w64 (x.1 + t.1), t.2)]) := Gr.same (c := x.1) (by rw [← e]; exact h) hw ht
      rw [e]
      refine Gr.goes hw hv hcr n (k + 1) P (w64 (x.1 + t.1), t.2) (by omega) (by omega) h2 fun y hy => ?_
      rcases List.mem_append.1 hy with hy | hy
      · exact hc y (List.mem_append.2 (.inl hy))
      · simp at hy; subst hy; exact w64_wr _
    · have h2 := h.new hw hv.len ht (fun y hy => by
        rw [List.getLast?_append] at hy
        simp at hy; subst hy; exact e)
      obtain ⟨c, rest, h3, h4⟩ := Gr.goes hw hv hcr n (k + 1) (P ++ [x]) t (by omega) (by omega) h2 (fun y hy => by
        rcases List.mem_append.1 hy with hy | hy
        · exact hc y hy
        · simp at hy; subst hy; exact htc)
      exact ⟨x.1, (c, t.2) :: rest, by simpa using h3, by simpa using h4⟩
/-- the last group is closed: it and all before it are part of the normal form -/
theorem Gr.part {A S acc : List MT} {k : Nat} (hs : Srt A S) (hv : Vl A) (hcr : Cr A) (h : Gr S k acc) (hc : Cr acc) (hk : k ≤ S.length) (hcl : ∀ x t, acc.getLast? = some x → S[k]? = some t → x.2 ≠ t.2) : ∃ rest, nf A = nzf acc ++ rest := by
  have hvS := hs.vl hv
  have hcS : Cr S := fun t ht => hcr t (hs.mem t ht)
  rcases Nat.lt_or_ge k S.length with hlt | hge
  · obtain ⟨t, ht⟩ := nth_of_lt S k hlt
    have h2 := h.new hs.wk hvS.len ht (fun x hx => hcl x t hx ht)
    obtain ⟨c, rest, h3, h4⟩ := Gr.goes hs.wk hvS hcS _ (k + 1) acc t rfl (by omega) h2 (fun y hy => by
      rcases List.mem_append.1 hy with hy | hy
      · exact hc y hy
      · simp at hy; subst hy; exact hcS y (List.mem_of_getElem? ht))
    have h5 := ((nzf_norm h3 hvS h4).of_srt hs).nf hv.len
    exact ⟨nzf ((c, t.2) :: rest), by rw [← h5]; unfold nzf; rw [List.filter_append]⟩
  · obtain rfl : k = S.length := by omega
    have h5 := ((nzf_norm h hvS hc).of_srt hs).nf hv.len
    exact ⟨[], by rw [← h5]; simp⟩
theorem nfOk_false {R : List MT} {rest : List MT} {t : MT} (h : 4096 ≤ R.length ∨ 1000000 < isum t.2) : nfOk (R ++ [t] ++ rest) = false := by
  unfold nfOk
  rcases h with h | h
  · rw [decide_eq_false (by simp only [List.length_append, List.length_cons, List.length_nil]; omega)]; rfl
  · have : ((R ++ [t] ++ rest).all fun t => decide (isum t.2 ≤ 1000000)) = false := by
      rw [List.all_eq_false]
      exact ⟨t, by simp, by simp; omega⟩
    rw [this]; simp
theorem nfOk_true {R : List MT} (h1 : R.length ≤ 4096) (h2 : ∀ t ∈ R, isum t.2 ≤ 1000000) : nfOk R = true := by
  unfold nfOk
  rw [decide_eq_true h1, Bool.true_and, List.all_eq_true]
  intro t ht; simpa using h2 t ht
theorem nzf_append (a b : List MT) : nzf (a ++ b) = nzf a ++ nzf b := by unfold nzf; rw [List.filter_append]
theorem nzf_one {t : MT} : nzf [t] = if t.1 = 0 then [] else [t] := by
  unfold nzf
  by_cases e : t.1 = 0 <;> simp [e]
end Go.Mw
namespace Go.Proofs.YbxaawGreat
open Go.Mw
theorem cmpV_self (a : List Int) : cmpV a a = 0 := by unfold cmpV; rw [before_irr]; rfl
theorem cmpV_zero {a b : List Int} (hl : a.length = b.length) (h : cmpV a b = 0) : a = b := by
  by_cases e : a = b
  · exact e
  · rcases before_total hl e with hb | hb
    · unfold cmpV at h; rw [hb] at h; simp at h
    · unfold cmpV at h; rw [hb, before_anti hb] at h; simp at h

theorem factorsOf_ok (b o : Nat) (c : Int) (v : List Int) (w : World) (hM : Mn w b o c v) : Ret Yaam.prog 111 [.pointer (some ⟨b, o, none⟩)] w fun r w' => w'.ownsRow w.heap.size 93 2 r (spF v 0).length (prC (spF v 0)) ∧ Ext w.heap.size w w' := by
  have hspl := spF_len v 0
  have hvl := hM.rv.len
  refine enter1 Yaam.func111 Yaam.ntmps111 (by kernel_rfl) rfl rfl ?_
  refine V.seq ?_
  refine V.region ?_
  refine L.rd (rd_assign rfl) rfl ?_
  refine L.nil ?_
  refine X.sq ?_
  refine V.seq ?_
  refine V.region ?_
  refine L.ef (e_make0 (e := 93) tok rfl rfl rfl rfl rfl rfl rfl (by first | (simp only [size_addB, size_setB, size_drew]; rfl) | rfl) rfl ?_)
  refine L.rd (rd_assign rfl) rfl ?_
  refine L.nil ?_
  refine X.sq ?_
  refine V.seq ?_
  refine V.seq ?_
  refine V.region ?_
  refine L.rd (rd_assign rfl) rfl ?_
  refine L.nil ?_
  refine X.sq ?_
  refine V.block ?_
  refine V.loop (fun m l wr => ∃ (i : Nat) (fv : Value) (fs : List (Int × Int)), l = [(0, .pointer (some ⟨b, o, none⟩)), (3, fv), (4, .int .i64 i)] ∧ m = 26 - i ∧ i ≤ 26 ∧ Ext w.heap.size w wr ∧ wr.ownsRow w.heap.size 93 2 fv fs.length (prC fs) ∧ spF v 0 = fs ++ spF (v.drop i) i) ?_ ?_
  ·
    exact ⟨_, _, (by repeat' (first | exact trivial | refine ⟨rfl, ?_⟩)), 0, _, [], rfl, rfl, by omega, (Ext.refl _ _).addNew _ _, own_empty (Bl.new _ _ _) (Nat.le_refl _), by simp⟩
  ·
    rintro m l wr ⟨i, fv, fs, rfl, rfl, hi, hE, hf, hsp⟩
    have hwr := hE.size
    refine V.seq ?_
    refine V.seq ?_
    refine V.region ?_
    refine L.rd (rd_move rfl) rfl ?_
    refine L.rd (rd_lss rfl rfl) rfl ?_
    refine L.nil ?_
    refine X.sq ?_
    first | refine V.cond rfl (fun h7 => ?_) (fun h7 => ?_) | refine V.condB rfl (fun h7 => ?_) (fun h7 => ?_)
    ·
      obtain ⟨x, hx, hx0, hx1⟩ := hM.rv.nth (k := i) (by omega)
      have hcm := (hM.le hE.leC).cells
      rw [spF_step hx] at hsp
      have hfl : fs.length ≤ 26 := by
        have := congrArg List.length hsp
        rw [List.length_append] at this; omega
      refine V.skip ?_
      refine X.sq ?_
      refine V.seq ?_
      refine V.block ?_
      refine V.seq ?_
      refine V.region ?_
      refine L.rd (rd_move rfl) rfl ?_
      refine L.rd (rd_move rfl) rfl ?_
      refine L.rd (rd_nilCheck rfl) rfl ?_
      refine L.rd (rd_fieldAddr tok rfl rfl rfl rfl rfl rfl) rfl ?_
      (refine L.rd (rd_indexArr (n := 26) (sz := 1) tok rfl rfl rfl rfl rfl rfl rfl rfl ?_) rfl ?_; omega)
      refine L.rd (rd_load1 tok rfl rfl rfl (cells_at hcm (mC_get hx) (by simp; omega))) rfl ?_
      refine L.rd (rd_neq rfl rfl) rfl ?_
      refine L.nil ?_
      refine X.sq ?_
      first | refine V.cond rfl (fun h16 => ?_) (fun h16 => ?_) | refine V.condB rfl (fun h16 => ?_) (fun h16 => ?_)
      ·
        rw [if_neg h16] at hsp
        refine V.region ?_
        refine L.rd (rd_move rfl) rfl ?_
        refine L.rd (rd_move rfl) rfl ?_
        refine L.rd (rd_move rfl) rfl ?_
        refine L.rd (rd_move rfl) rfl ?_
        refine L.rd (rd_nilCheck rfl) rfl ?_
        refine L.rd (rd_fieldAddr tok rfl rfl rfl rfl rfl rfl) rfl ?_
        (refine L.rd (rd_indexArr (n := 26) (sz := 1) tok rfl rfl rfl rfl rfl rfl rfl rfl ?_) rfl ?_; omega)
        refine L.rd (rd_load1 tok rfl rfl rfl (cells_at hcm (mC_get hx) (by simp; omega))) rfl ?_
        refine L.rd (rd_build (out := [_, _]) tok rfl rfl rfl rfl rfl) rfl ?_
        refine L.ef (e_buildSlice1 (e := 93) (cs := [_, _]) tok rfl rfl rfl rfl rfl rfl rfl rfl rfl (by first | (simp only [size_addB, size_setB, size_drew]; rfl) | rfl) rfl ?_)
        refine L.ef (e_append (m := 1) tok rfl rfl rfl rfl rfl rfl rfl rfl rfl rfl (hf.alloc _) (Bl.new _ _ _).cells rfl (by simp [Value.oneCell']) (by unfold maxLen; omega) (by simp only []; omega) (by rw [size_addB]; omega) ?_)
        rintro v7 w7 ho7 hg7
        have hE7 := (hE.addNew 93 [Value.int .i64 i, .int .i64 x]).grown hg7 (by rw [size_addB]; omega) (fun q hq => (own_block_lt hf hq).1)
        refine L.rd (rd_assign rfl) rfl ?_
        refine L.nil ?_
        refine X.bk ?_
        refine X.sq ?_
        refine V.region ?_
        refine L.rd (rd_move rfl) rfl ?_
        (refine L.rd (rd_add3 rfl rfl ?_) rfl ?_; omega)
        refine L.rd (rd_assign rfl) rfl ?_
        refine L.nil ?_
        first
          | exact X.lp ⟨_, _, by omega, (by repeat' (first | exact trivial | refine ⟨rfl, ?_⟩)), i + 1, v7, fs ++ [((i : Int), x)], rfl, rfl, by omega, hE7, by rw [List.length_append]; simpa [prC, prE] using ho7, by rw [hsp]; simp⟩
          | exact X.lp ⟨_, _, by omega, (by repeat' (first | exact trivial | refine ⟨rfl, ?_⟩)), i + 1, fv, fs, rfl, rfl, by omega, hE, hf, by rw [hsp, if_pos (Decidable.not_not.1 h16)]⟩
      ·
        refine V.skip ?_
        refine X.bk ?_
        refine X.sq ?_
        refine V.region ?_
        refine L.rd (rd_move rfl) rfl ?_
        (refine L.rd (rd_add3 rfl rfl ?_) rfl ?_; omega)
        refine L.rd (rd_assign rfl) rfl ?_
        refine L.nil ?_
        first
          | exact X.lp ⟨_, _, by omega, (by repeat' (first | exact trivial | refine ⟨rfl, ?_⟩)), i + 1, v7, fs ++ [((i : Int), x)], rfl, rfl, by omega, hE7, by rw [List.length_append]; simpa [prC, prE] using ho7, by rw [hsp]; simp⟩
          | exact X.lp ⟨_, _, by omega, (by repeat' (first | exact trivial | refine ⟨rfl, ?_⟩)), i + 1, fv, fs, rfl, rfl, by omega, hE, hf, by rw [hsp, if_pos (Decidable.not_not.1 h16)]⟩
    ·
      refine V.exit ?_
      refine X.sqExit ?_
      refine X.lpExit ?_
      refine X.bkHere ?_
      refine X.sq ?_
      refine V.seq ?_
      refine V.region ?_
      refine L.rd (rd_move rfl) rfl ?_
      refine L.rd (rd_assign rfl) rfl ?_
      refine L.nil ?_
      refine X.sq ?_
      refine V.ret ?_
      refine ret_1 Yaam.results111 rfl ?_
      rw [drop_end (by omega)] at hsp
      simp only [spF, List.append_nil] at hsp
      rw [hsp]
      exact ⟨hf, hE⟩
end Go.Proofs.YbxaawGreat
