/-
  laws.okS; texts of polynomials are bytes.
-/
import Derived.Test.YbxaawGreatTxtP
import Derived.Test.YbxaawGreatLawB
set_option linter.unusedVariables false
set_option linter.unusedSimpArgs false
set_option maxRecDepth 10000
namespace Go.Mw
theorem fac_lt {f : Int × Int} (h : 0 ≤ f.1 ∧ f.1 < 26) : ∀ x ∈ fac f, x < 256 := by
  unfold fac
  intro x hx
  rcases List.mem_cons.1 hx with rfl | hx
  · omega
  · split at hx
    · cases hx
    · rcases List.mem_cons.1 hx with rfl | hx
      · omega
      · exact udec_lt _ x hx
theorem pf_lt : ∀ (fs : List (Int × Int)) (b : Bool), Fo fs → ∀ x ∈ pf fs b, x < 256
  | [], _, _, x, hx => by simp [pf] at hx
  | f :: fs, b, h, x, hx => by
    have h0 := h f (by simp)
    rw [pf] at hx
    rcases List.mem_append.1 hx with hx | hx
    · split at hx
      · cases hx
      · simp at hx; omega
    · rcases List.mem_append.1 hx with hx | hx
      · exact fac_lt ⟨h0.1, h0.2.1⟩ x hx
      · exact pf_lt fs false (fun g hg => h g (by simp [hg])) x hx
theorem prT_lt {t : PT} (h : Fo t.2) : ∀ x ∈ prT t, x < 256 := by
  unfold prT
  intro x hx
  split at hx
  · exact udec_lt _ x hx
  · split at hx
    · exact pf_lt _ _ h x hx
    · rcases List.mem_append.1 hx with hx | hx
      · exact udec_lt _ x hx
      · exact pf_lt _ _ h x hx
theorem prQ_lt : ∀ (q : List PT) (b : Bool), (∀ t ∈ q, Fo t.2) → ∀ x ∈ prQ q b, x < 256
  | [], _, _, x, hx => by simp [prQ] at hx
  | t :: q, b, h, x, hx => by
    rw [prQ] at hx
    rcases List.mem_append.1 hx with hx | hx
    · split at hx
      · simp at hx; omega
      · cases hx
    · rcases List.mem_append.1 hx with hx | hx
      · exact prT_lt (h t (by simp)) x hx
      · exact prQ_lt q true (fun g hg => h g (by simp [hg])) x hx
theorem printP_lt {q : List PT} (h : Po q) : ∀ x ∈ printP q, x < 256 := by
  unfold printP
  intro x hx
  split at hx
  · simp at hx; omega
  · exact prQ_lt q false h.fo x hx
theorem norm_cm {q p : List PT} (h : p = (normP q).getD []) : ∃ R, CM R ∧ p = toP R := by
  cases hn : normP q with
  | none => rw [hn] at h; exact ⟨[], CM.nil, h⟩
  | some r =>
    rw [hn, Option.getD_some] at h
    subst h
    unfold normP at hn
    split at hn
    · rename_i hi
      split at hn
      · rename_i hk
        simp only [Option.some.injEq] at hn
        exact ⟨nf (ms q), CM.of_nf (ms_vl hi) hk, hn.symm⟩
      · cases hn
    · cases hn
theorem parse_of_src {l : List Nat} {ts : List TK} {t : Tre} (h : Lexp.lex l = some ts) (k : srcP l = some t) : parseP ts = some t := by
  unfold srcP at k
  rwa [h, Option.bind_some] at k
end Go.Mw
namespace Go.Proofs.YbxaawGreat
open Go.Mw
theorem okS_ok (s : ByteArray) (ok mf : Bool) (w : World) (h1 : ok = true → mf = false) (h2 : ok = false → s = mkS []) : Ret Yaam.prog 26 [.string s, .bool ok, .bool mf] w fun r w' => r = .bool true ∧ Ext w.heap.size w w' := by
  obtain rfl | rfl : ok = true ∨ ok = false := by cases ok <;> simp
  · obtain rfl := h1 rfl
    refine enter3 Yaam.func26 Yaam.ntmps26 (by kernel_rfl) rfl rfl ?_
    refine V.seq ?_
    refine V.region ?_
    refine L.rd (rd_assign rfl) rfl ?_
    refine L.nil ?_
    refine X.sq ?_
    refine V.seq ?_
    refine V.seq ?_
    refine V.region ?_
    refine L.rd (rd_move rfl) rfl ?_
    refine L.rd (rd_move rfl) rfl ?_
    first | refine L.partG rfl rfl (fun g8 => ?_) (fun g8 => ?_) | refine L.partGB rfl rfl (fun g8 => ?_) (fun g8 => ?_)
    ·
      cases g8
    ·
      refine L.no rfl rfl rfl rfl ?_
      refine L.rd (rd_pickF rfl rfl) rfl ?_
      refine L.nil ?_
      refine X.sq ?_
      refine V.condF rfl ?_
      refine V.skip ?_
      refine X.sq ?_
      refine V.seq ?_
      refine V.region ?_
      refine L.rd (rd_move rfl) rfl ?_
      refine L.rd (rd_move rfl) rfl ?_
      first | refine L.partG rfl rfl (fun g12 => ?_) (fun g12 => ?_) | refine L.partGB rfl rfl (fun g12 => ?_) (fun g12 => ?_)
      ·
        refine L.no rfl rfl rfl rfl ?_
        refine L.no rfl rfl rfl rfl ?_
        refine L.rd (rd_pickT rfl rfl) rfl ?_
        refine L.rd (rd_assign rfl) rfl ?_
        refine L.nil ?_
        refine X.sq ?_
        refine V.ret ?_
        refine ret_1 Yaam.results26 rfl ?_
        exact ⟨rfl, Ext.refl _ _⟩
      ·
        cases g12
  · obtain rfl := h2 rfl
    refine enter3 Yaam.func26 Yaam.ntmps26 (by kernel_rfl) rfl rfl ?_
    refine V.seq ?_
    refine V.region ?_
    refine L.rd (rd_assign rfl) rfl ?_
    refine L.nil ?_
    refine X.sq ?_
    refine V.seq ?_
    refine V.seq ?_
    refine V.region ?_
    refine L.rd (rd_move rfl) rfl ?_
    refine L.rd (rd_move rfl) rfl ?_
    first | refine L.partG rfl rfl (fun g8 => ?_) (fun g8 => ?_) | refine L.partGB rfl rfl (fun g8 => ?_) (fun g8 => ?_)
    ·
      refine L.yes rfl rfl ?_
      refine L.rd (rd_move rfl) rfl ?_
      refine L.rd (rd_pickT rfl rfl) rfl ?_
      refine L.nil ?_
      refine X.sq ?_
      first | refine V.cond rfl (fun h10 => ?_) (fun h10 => ?_) | refine V.condB rfl (fun h10 => ?_) (fun h10 => ?_)
      ·
        cases h10
      ·
        refine V.skip ?_
        refine X.sq ?_
        refine V.seq ?_
        refine V.region ?_
        refine L.rd (rd_move rfl) rfl ?_
        refine L.rd (rd_move rfl) rfl ?_
        first | refine L.partG rfl rfl (fun g12 => ?_) (fun g12 => ?_) | refine L.partGB rfl rfl (fun g12 => ?_) (fun g12 => ?_)
        ·
          cases g12
        ·
          refine L.yes rfl rfl ?_
          refine L.rd (rd_move rfl) rfl ?_
          refine L.yes rfl rfl ?_
          refine L.rd (rd_eqlS rfl rfl) rfl ?_
          refine L.rd (rd_pickF rfl rfl) rfl ?_
          refine L.rd (rd_assign rfl) rfl ?_
          refine L.nil ?_
          refine X.sq ?_
          refine V.ret ?_
          refine ret_1 Yaam.results26 rfl ?_
          have hme : mkS [] = ⟨#[]⟩ := rfl
          exact ⟨by rw [hme]; simp, Ext.refl _ _⟩
    ·
      refine L.no rfl rfl rfl rfl ?_
      refine L.rd (rd_pickF rfl rfl) rfl ?_
      refine L.nil ?_
      refine X.sq ?_
      refine V.condF rfl ?_
      refine V.skip ?_
      refine X.sq ?_
      refine V.seq ?_
      refine V.region ?_
      refine L.rd (rd_move rfl) rfl ?_
      refine L.rd (rd_move rfl) rfl ?_
      first | refine L.partG rfl rfl (fun g12 => ?_) (fun g12 => ?_) | refine L.partGB rfl rfl (fun g12 => ?_) (fun g12 => ?_)
      ·
        cases g12
      ·
        refine L.yes rfl rfl ?_
        refine L.rd (rd_move rfl) rfl ?_
        refine L.yes rfl rfl ?_
        refine L.rd (rd_eqlS rfl rfl) rfl ?_
        refine L.rd (rd_pickF rfl rfl) rfl ?_
        refine L.rd (rd_assign rfl) rfl ?_
        refine L.nil ?_
        refine X.sq ?_
        refine V.ret ?_
        refine ret_1 Yaam.results26 rfl ?_
        have hme : mkS [] = ⟨#[]⟩ := rfl
        exact ⟨by rw [hme]; simp, Ext.refl _ _⟩
end Go.Proofs.YbxaawGreat
