/-
  MulPoly, walked.
-/
import Derived.Test.YbxaawGreatAmW3
set_option linter.unusedVariables false
set_option linter.unusedSimpArgs false
set_option maxRecDepth 10000
namespace Go.Proofs.YbxaawGreat
open Go.Mw

theorem imul_ok (va vb : Value) (As Bs : List Lt) (w : World) {lo hi lo' hi' : Nat} (hA : Tl w lo hi va As) (hB : Tl w lo' hi' vb Bs) (hSA : Sm (pol As)) (hSB : Sm (pol Bs)) (hqa : Cq (pol As)) (hqb : Cq (pol Bs)) : Ret Yaam.prog 67 [.agg #[va], .agg #[vb]] w (RPost 91 93 (mulP (pol As) (pol Bs)) w) := by
  obtain ⟨aa, ca, rfl, hfa⟩ := hA.form
  obtain ⟨ab, cb, rfl, hfb⟩ := hB.form
  refine enter2 Yaam.func67 Yaam.ntmps67 (by kernel_rfl) rfl rfl ?_
  refine V.seq ?_
  refine V.region ?_
  refine L.ef (e_box (cs := [_]) rfl rfl (by first | (simp only [size_addB, size_setB, size_drew]; rfl) | rfl) rfl ?_)
  refine L.ef (e_box (cs := [_]) rfl rfl (by first | (simp only [size_addB, size_setB, size_drew]; rfl) | rfl) rfl ?_)
  refine L.ef (e_alloc (cs := [_]) tok rfl rfl (by first | (simp only [size_addB, size_setB, size_drew]; rfl) | rfl) rfl ?_)
  refine L.rd (rd_assign rfl) rfl ?_
  refine L.nil ?_
  refine X.sq ?_
  refine V.seq ?_
  refine V.seq ?_
  have hp := ((Bl.new w 44 [.slice aa As.length ca]).add 44 [.slice ab Bs.length cb]).add 44 [.slice none 0 0]
  have hq := (Bl.new' (w := addB w 44 [.slice aa As.length ca]) (b := w.heap.size + 1) (by rw [size_addB]) 44 [.slice ab Bs.length cb]).add 44 [.slice none 0 0]
  have hr := Bl.new' (w := addB (addB w 44 [.slice aa As.length ca]) 44 [.slice ab Bs.length cb]) (b := w.heap.size + 2) (by simp only [size_addB]) 44 [.slice none 0 0]
  have hE := (((Ext.refl _ w).addNew 44 [.slice aa As.length ca]).addNew 44 [.slice ab Bs.length cb]).addNew 44 [.slice none 0 0]
  generalize addB (addB (addB w 44 [.slice aa As.length ca]) 44 [.slice ab Bs.length cb]) 44 [.slice none 0 0] = w0 at hp hq hr hE ⊢
  have hrl := hr.lt
  refine V.region ?_
  refine L.rd (rd_loadN tok rfl rfl rfl hp.cells rfl) rfl ?_
  refine L.ef (e_call rfl (ican_ok _ As _ (hA.ext hE) hSA) rfl ?_)
  rintro _ w1 ⟨rfl, he1⟩
  have hp1 := he1.bl hp.lt hp
  have hq1 := he1.bl hq.lt hq
  have hr1 := he1.bl hr.lt hr
  have hE1 := hE.next he1
  first | refine L.rd (rd_not rfl) rfl ?_ | refine L.rd (rd_notB rfl) rfl ?_
  refine L.rd (rd_move rfl) rfl ?_
  first | refine L.partG rfl rfl (fun g9 => ?_) (fun g9 => ?_) | refine L.partGB rfl rfl (fun g9 => ?_) (fun g9 => ?_)
  ·
    refine L.no rfl rfl rfl rfl ?_
    refine L.no rfl rfl rfl rfl ?_
    refine L.no rfl rfl rfl rfl ?_
    refine L.rd (rd_pickT rfl rfl) rfl ?_
    refine L.nil ?_
    refine X.sq ?_
    refine V.condT rfl ?_
    refine V.seq ?_
    refine V.region ?_
    refine L.rd (rd_build (out := [_]) tok rfl rfl rfl rfl rfl) rfl ?_
    refine L.ef (e_store (vs := [_]) tok rfl rfl rfl rfl hr1 rfl (by simp [Value.oneCell']) (by simp) ?_)
    refine L.rd (rd_assign rfl) rfl ?_
    refine L.nil ?_
    refine X.sq ?_
    refine V.ret ?_
    refine X.sqRet ?_
    refine ret_c1 tok Yaam.results67 rfl rfl rfl rfl (Bl.cells (hr1.set _ _)) rfl ?_
    have hbad : mulP (pol As) (pol Bs) = none := mulP_no (by rintro ⟨h1, h2⟩; simp_all)
    exact ⟨_, [], by rw [hbad]; rfl, OwnT.nil _ _ _ _ _, by rw [hbad]; rfl, hE1.set (by omega) _ _⟩
  ·
    refine L.yes rfl rfl ?_
    refine L.rd (rd_loadN tok rfl rfl rfl hq1.cells rfl) rfl ?_
    refine L.yes rfl rfl ?_
    refine L.ef (e_call rfl (ican_ok _ Bs _ (hB.ext hE1) hSB) rfl ?_)
    rintro _ w2 ⟨rfl, he2⟩
    replace hp1 := he2.bl hp1.lt hp1
    replace hq1 := he2.bl hq1.lt hq1
    replace hr1 := he2.bl hr1.lt hr1
    replace hE1 := hE1.next he2
    refine L.yes rfl rfl ?_
    first | refine L.rd (rd_not rfl) rfl ?_ | refine L.rd (rd_notB rfl) rfl ?_
    refine L.rd (rd_pickF rfl rfl) rfl ?_
    refine L.nil ?_
    refine X.sq ?_
    first | refine V.cond rfl (fun h13 => ?_) (fun h13 => ?_) | refine V.condB rfl (fun h13 => ?_) (fun h13 => ?_)
    ·
      refine V.seq ?_
      refine V.region ?_
      refine L.rd (rd_build (out := [_]) tok rfl rfl rfl rfl rfl) rfl ?_
      refine L.ef (e_store (vs := [_]) tok rfl rfl rfl rfl hr1 rfl (by simp [Value.oneCell']) (by simp) ?_)
      refine L.rd (rd_assign rfl) rfl ?_
      refine L.nil ?_
      refine X.sq ?_
      refine V.ret ?_
      refine X.sqRet ?_
      refine ret_c1 tok Yaam.results67 rfl rfl rfl rfl (Bl.cells (hr1.set _ _)) rfl ?_
      have hbad : mulP (pol As) (pol Bs) = none := mulP_no (by rintro ⟨h1, h2⟩; simp_all)
      exact ⟨_, [], by rw [hbad]; rfl, OwnT.nil _ _ _ _ _, by rw [hbad]; rfl, hE1.set (by omega) _ _⟩
    ·
      refine V.skip ?_
      refine X.sq ?_
      refine V.seq ?_
      refine V.seq ?_
      have hCA : canon (pol As) = true := by simpa using g9
      have hCB : canon (pol Bs) = true := by simpa using h13
      have hrl1 := hr1.lt
      have hla : As.length ≤ 4096 := by have := canon_len hCA; rwa [pol_length] at this
      have hlb : Bs.length ≤ 4096 := by have := canon_len hCB; rwa [pol_length] at this
      obtain ⟨N, hN⟩ : ∃ N, N = As.length * Bs.length := ⟨_, rfl⟩
      have hNb : N ≤ 16777216 := by rw [hN]; exact Nat.mul_le_mul hla hlb
      have hNi : (As.length : Int) * (Bs.length : Int) = (N : Int) := by rw [hN, Int.natCast_mul]
      have hs1 := hE1.size
      refine V.region ?_
      refine L.rd (rd_fieldAddr tok rfl rfl rfl rfl rfl rfl) rfl ?_
      refine L.rd (rd_load1 tok rfl rfl rfl (hp1.cell rfl)) rfl ?_
      refine L.rd (rd_lenSlice tok rfl rfl rfl) rfl ?_
      refine L.rd (rd_fieldAddr tok rfl rfl rfl rfl rfl rfl) rfl ?_
      refine L.rd (rd_load1 tok rfl rfl rfl (hq1.cell rfl)) rfl ?_
      refine L.rd (rd_lenSlice tok rfl rfl rfl) rfl ?_
      refine L.rd (rd_mulE (r := (N : Int)) rfl rfl (by rw [hNi]; exact wrap_i64_in (by omega))) rfl ?_
      refine L.rd (rd_gtr rfl rfl) rfl ?_
      refine L.nil ?_
      refine X.sq ?_
      first | refine V.cond rfl (fun h22 => ?_) (fun h22 => ?_) | refine V.condB rfl (fun h22 => ?_) (fun h22 => ?_)
      ·
        refine V.seq ?_
        refine V.region ?_
        refine L.rd (rd_build (out := [_]) tok rfl rfl rfl rfl rfl) rfl ?_
        refine L.ef (e_store (vs := [_]) tok rfl rfl rfl rfl hr1 rfl (by simp [Value.oneCell']) (by simp) ?_)
        refine L.rd (rd_assign rfl) rfl ?_
        refine L.nil ?_
        refine X.sq ?_
        refine V.ret ?_
        refine X.sqRet ?_
        refine ret_c1 tok Yaam.results67 rfl rfl rfl rfl (Bl.cells (hr1.set _ _)) rfl ?_
        have hbad : mulP (pol As) (pol Bs) = none := mulP_big (by rw [pol_length, pol_length, ← hN]; omega)
        exact ⟨_, [], by rw [hbad]; rfl, OwnT.nil _ _ _ _ _, by rw [hbad]; rfl, hE1.set (by omega) _ _⟩
      ·
        refine V.skip ?_
        refine X.sq ?_
        refine V.seq ?_
        have hlen : (pol As).length * (pol Bs).length ≤ 100000 := by rw [pol_length, pol_length, ← hN]; omega
        have hgood : mulP (pol As) (pol Bs) = rawP (prods (ms (pol As)) (ms (pol Bs))) := by unfold mulP; rw [if_pos ⟨hCA, hCB, hlen⟩]
        rw [hgood]
        refine V.region ?_
        refine L.rd (rd_loadN tok rfl rfl rfl hp1.cells rfl) rfl ?_
        refine L.rd (rd_loadN tok rfl rfl rfl hq1.cells rfl) rfl ?_
        refine L.ef (e_call rfl (mulRaw_ok _ _ As Bs _ (hA.ext hE1) (hB.ext hE1) hCA hCB hlen) rfl ?_)
        rintro _ w3 ⟨v3, L3, rfl, hO3, hq3, he3⟩
        obtain ⟨a3, c3, rfl⟩ := own_form hO3.top
        have hr3 := he3.bl hr1.lt hr1
        have hE3 := hE1.next he3
        refine L.rd (rd_ext0 rfl) rfl ?_
        refine L.rd (rd_ext1 rfl) rfl ?_
        refine L.ef (e_store (vs := [_]) tok rfl rfl rfl rfl hr3 rfl (by simp [Value.oneCell']) (by simp) ?_)
        refine L.rd (rd_assign rfl) rfl ?_
        refine L.nil ?_
        refine X.sq ?_
        refine V.ret ?_
        refine ret_c1 tok Yaam.results67 rfl rfl rfl rfl (Bl.cells (hr3.set _ _)) rfl ?_
        refine ⟨_, L3, rfl, ?_, hq3, hE3.set (by omega) _ _⟩
        rw [size_setB]
        exact (hO3.rg (Rg.set (lo := w.heap.size + 2) (hi := w.heap.size + 3) (by omega) _ _) (by omega)).low (by omega)

theorem smul_ok (va vb : Value) (As Bs : List Lt) (w : World) {lo hi lo' hi' : Nat} (hA : Tl w lo hi va As) (hB : Tl w lo' hi' vb Bs) (hSA : Sm (pol As)) (hSB : Sm (pol Bs)) (hqa : Cq (pol As)) (hqb : Cq (pol Bs)) : Ret Yaam.prog 68 [.agg #[va], .agg #[vb]] w (RPost 91 93 (mulP (pol As) (pol Bs)) w) := by
  obtain ⟨aa, ca, rfl, hfa⟩ := hA.form
  obtain ⟨ab, cb, rfl, hfb⟩ := hB.form
  refine enter2 Yaam.func68 Yaam.ntmps68 (by kernel_rfl) rfl rfl ?_
  refine V.seq ?_
  refine V.region ?_
  refine L.ef (e_box (cs := [_]) rfl rfl (by first | (simp only [size_addB, size_setB, size_drew]; rfl) | rfl) rfl ?_)
  refine L.ef (e_box (cs := [_]) rfl rfl (by first | (simp only [size_addB, size_setB, size_drew]; rfl) | rfl) rfl ?_)
  refine L.ef (e_alloc (cs := [_]) tok rfl rfl (by first | (simp only [size_addB, size_setB, size_drew]; rfl) | rfl) rfl ?_)
  refine L.rd (rd_assign rfl) rfl ?_
  refine L.nil ?_
  refine X.sq ?_
  refine V.seq ?_
  refine V.seq ?_
  have hp := ((Bl.new w 44 [.slice aa As.length ca]).add 44 [.slice ab Bs.length cb]).add 44 [.slice none 0 0]
  have hq := (Bl.new' (w := addB w 44 [.slice aa As.length ca]) (b := w.heap.size + 1) (by rw [size_addB]) 44 [.slice ab Bs.length cb]).add 44 [.slice none 0 0]
  have hr := Bl.new' (w := addB (addB w 44 [.slice aa As.length ca]) 44 [.slice ab Bs.length cb]) (b := w.heap.size + 2) (by simp only [size_addB]) 44 [.slice none 0 0]
  have hE := (((Ext.refl _ w).addNew 44 [.slice aa As.length ca]).addNew 44 [.slice ab Bs.length cb]).addNew 44 [.slice none 0 0]
  generalize addB (addB (addB w 44 [.slice aa As.length ca]) 44 [.slice ab Bs.length cb]) 44 [.slice none 0 0] = w0 at hp hq hr hE ⊢
  have hrl := hr.lt
  refine V.region ?_
  refine L.rd (rd_loadN tok rfl rfl rfl hp.cells rfl) rfl ?_
  refine L.ef (e_call rfl (scan_ok _ As _ (hA.ext hE) hSA) rfl ?_)
  rintro _ w1 ⟨rfl, he1⟩
  have hp1 := he1.bl hp.lt hp
  have hq1 := he1.bl hq.lt hq
  have hr1 := he1.bl hr.lt hr
  have hE1 := hE.next he1
  first | refine L.rd (rd_not rfl) rfl ?_ | refine L.rd (rd_notB rfl) rfl ?_
  refine L.rd (rd_move rfl) rfl ?_
  first | refine L.partG rfl rfl (fun g10 => ?_) (fun g10 => ?_) | refine L.partGB rfl rfl (fun g10 => ?_) (fun g10 => ?_)
  ·
    refine L.no rfl rfl rfl rfl ?_
    refine L.no rfl rfl rfl rfl ?_
    refine L.no rfl rfl rfl rfl ?_
    refine L.rd (rd_pickT rfl rfl) rfl ?_
    refine L.nil ?_
    refine X.sq ?_
    refine V.condT rfl ?_
    refine V.seq ?_
    refine V.region ?_
    refine L.rd (rd_build (out := [_]) tok rfl rfl rfl rfl rfl) rfl ?_
    refine L.ef (e_store (vs := [_]) tok rfl rfl rfl rfl hr1 rfl (by simp [Value.oneCell']) (by simp) ?_)
    refine L.rd (rd_assign rfl) rfl ?_
    refine L.nil ?_
    refine X.sq ?_
    refine V.ret ?_
    refine X.sqRet ?_
    refine ret_c1 tok Yaam.results68 rfl rfl rfl rfl (Bl.cells (hr1.set _ _)) rfl ?_
    have hbad : mulP (pol As) (pol Bs) = none := mulP_no (by rintro ⟨h1, h2⟩; simp_all)
    exact ⟨_, [], by rw [hbad]; rfl, OwnT.nil _ _ _ _ _, by rw [hbad]; rfl, hE1.set (by omega) _ _⟩
  ·
    refine L.yes rfl rfl ?_
    refine L.rd (rd_loadN tok rfl rfl rfl hq1.cells rfl) rfl ?_
    refine L.yes rfl rfl ?_
    refine L.ef (e_call rfl (scan_ok _ Bs _ (hB.ext hE1) hSB) rfl ?_)
    rintro _ w2 ⟨rfl, he2⟩
    replace hp1 := he2.bl hp1.lt hp1
    replace hq1 := he2.bl hq1.lt hq1
    replace hr1 := he2.bl hr1.lt hr1
    replace hE1 := hE1.next he2
    refine L.yes rfl rfl ?_
    first | refine L.rd (rd_not rfl) rfl ?_ | refine L.rd (rd_notB rfl) rfl ?_
    refine L.rd (rd_pickF rfl rfl) rfl ?_
    refine L.nil ?_
    refine X.sq ?_
    first | refine V.cond rfl (fun h14 => ?_) (fun h14 => ?_) | refine V.condB rfl (fun h14 => ?_) (fun h14 => ?_)
    ·
      refine V.seq ?_
      refine V.region ?_
      refine L.rd (rd_build (out := [_]) tok rfl rfl rfl rfl rfl) rfl ?_
      refine L.ef (e_store (vs := [_]) tok rfl rfl rfl rfl hr1 rfl (by simp [Value.oneCell']) (by simp) ?_)
      refine L.rd (rd_assign rfl) rfl ?_
      refine L.nil ?_
      refine X.sq ?_
      refine V.ret ?_
      refine X.sqRet ?_
      refine ret_c1 tok Yaam.results68 rfl rfl rfl rfl (Bl.cells (hr1.set _ _)) rfl ?_
      have hbad : mulP (pol As) (pol Bs) = none := mulP_no (by rintro ⟨h1, h2⟩; simp_all)
      exact ⟨_, [], by rw [hbad]; rfl, OwnT.nil _ _ _ _ _, by rw [hbad]; rfl, hE1.set (by omega) _ _⟩
    ·
      refine V.skip ?_
      refine X.sq ?_
      refine V.seq ?_
      refine V.seq ?_
      have hCA : canon (pol As) = true := by simpa using g10
      have hCB : canon (pol Bs) = true := by simpa using h14
      have hrl1 := hr1.lt
      have hla : As.length ≤ 4096 := by have := canon_len hCA; rwa [pol_length] at this
      have hlb : Bs.length ≤ 4096 := by have := canon_len hCB; rwa [pol_length] at this
      obtain ⟨N, hN⟩ : ∃ N, N = As.length * Bs.length := ⟨_, rfl⟩
      have hNb : N ≤ 16777216 := by rw [hN]; exact Nat.mul_le_mul hla hlb
      have hNi : (As.length : Int) * (Bs.length : Int) = (N : Int) := by rw [hN, Int.natCast_mul]
      have hs1 := hE1.size
      refine V.region ?_
      refine L.rd (rd_fieldAddr tok rfl rfl rfl rfl rfl rfl) rfl ?_
      refine L.rd (rd_load1 tok rfl rfl rfl (hp1.cell rfl)) rfl ?_
      refine L.rd (rd_lenSlice tok rfl rfl rfl) rfl ?_
      refine L.rd (rd_fieldAddr tok rfl rfl rfl rfl rfl rfl) rfl ?_
      refine L.rd (rd_load1 tok rfl rfl rfl (hq1.cell rfl)) rfl ?_
      refine L.rd (rd_lenSlice tok rfl rfl rfl) rfl ?_
      refine L.rd (rd_mulE (r := (N : Int)) rfl rfl (by rw [hNi]; exact wrap_i64_in (by omega))) rfl ?_
      refine L.rd (rd_gtr rfl rfl) rfl ?_
      refine L.nil ?_
      refine X.sq ?_
      first | refine V.cond rfl (fun h23 => ?_) (fun h23 => ?_) | refine V.condB rfl (fun h23 => ?_) (fun h23 => ?_)
      ·
        refine V.seq ?_
        refine V.region ?_
        refine L.rd (rd_build (out := [_]) tok rfl rfl rfl rfl rfl) rfl ?_
        refine L.ef (e_store (vs := [_]) tok rfl rfl rfl rfl hr1 rfl (by simp [Value.oneCell']) (by simp) ?_)
        refine L.rd (rd_assign rfl) rfl ?_
        refine L.nil ?_
        refine X.sq ?_
        refine V.ret ?_
        refine X.sqRet ?_
        refine ret_c1 tok Yaam.results68 rfl rfl rfl rfl (Bl.cells (hr1.set _ _)) rfl ?_
        have hbad : mulP (pol As) (pol Bs) = none := mulP_big (by rw [pol_length, pol_length, ← hN]; omega)
        exact ⟨_, [], by rw [hbad]; rfl, OwnT.nil _ _ _ _ _, by rw [hbad]; rfl, hE1.set (by omega) _ _⟩
      ·
        refine V.skip ?_
        refine X.sq ?_
        refine V.seq ?_
        have hlen : (pol As).length * (pol Bs).length ≤ 100000 := by rw [pol_length, pol_length, ← hN]; omega
        have hgood : mulP (pol As) (pol Bs) = rawP (prods (ms (pol As)) (ms (pol Bs))) := by unfold mulP; rw [if_pos ⟨hCA, hCB, hlen⟩]
        rw [hgood]
        have hma : (ms (pol As)).length = As.length := by rw [ms_len, pol_length]
        have hmb : (ms (pol Bs)).length = Bs.length := by rw [ms_len, pol_length]
        refine V.draw [] mixed ?_
        refine D.take 0 [true, false, false, false, false, false] (.sq .bd) rfl (rd_loadN tok rfl rfl rfl hp1.cells rfl) rfl (by kernel_rfl) rfl (LeC.drew _) ?_
        refine D.take 2 [true, false, true, false, false, false] (.sq .bd) rfl (rd_loadN tok rfl rfl rfl hq1.cells rfl) rfl (by kernel_rfl) rfl (LeC.drew _) ?_
        refine D.one 1 [true, true, true, false, false, false] rfl (by kernel_rfl) rfl (e_call rfl (polyToM_ok _ As _ ((hA.ext hE1).le (LeC.drew _)) hCA) rfl ?_)
        rintro v3 w3 ⟨hO3, he3'⟩
        have he3 : Ext w2.heap.size w2 w3 := (Ext.refl _ _).drew.trans he3'
        have hle3 := he3.leC
        have hE3 := hE1.next he3
        rw [← hma, size_drew] at hO3
        have hs3 := he3.size
        refine ⟨fun _ => hle3, ?_⟩
        refine D.one 3 [true, true, true, true, false, false] rfl (by kernel_rfl) rfl (e_call rfl (polyToM_ok _ Bs _ (hB.ext hE3) hCB) rfl ?_)
        rintro v4 w4 ⟨hO4, he4⟩
        have he34 := he3.next he4
        have hle4 := he34.leC
        have hE4 := hE3.next he4
        have hO34 := own_ext hO3 he4
        rw [← hmb] at hO4
        have hs4 := he4.size
        have hVm := prods_vl (canon_hv hCA) (canon_hv hCB)
        have hpl := prods_len (ms (pol As)) (ms (pol Bs))
        rw [hma, hmb, ← hN] at hpl
        have hnl := nf_len (prods (ms (pol As)) (ms (pol Bs)))
        refine ⟨fun _ => hle4, ?_⟩
        refine D.one 4 [true, true, true, true, true, false] rfl (by kernel_rfl) rfl (e_call rfl (mulM_ok _ _ (canon_hv hCA) (canon_hv hCB) (by rw [hma, hmb, ← hN]; omega) (by omega) (by omega) _ _ _ (Sl.of_own hO34) (Sl.of_own hO4)) rfl ?_)
        rintro v6 w6 ⟨hO6, he6⟩
        have he346 := he34.next he6
        have hle6 := he346.leC
        have hE6 := hE4.next he6
        have hr6 := he346.bl hr1.lt hr1
        have hs6 := he6.size
        refine ⟨fun _ => hle6, ?_⟩
        refine D.take 5 [true, true, true, true, true, true] (.sq .bd) rfl (rd_assign rfl) rfl (by kernel_rfl) rfl hle6 ?_
        refine D.done (by kernel_rfl) ?_
        refine X.sq ?_
        refine V.seq ?_
        refine V.seq ?_
        refine V.region ?_
        refine L.rd (rd_move rfl) rfl ?_
        refine L.ef (e_call rfl (boundsOK_ok _ (nf_vl hVm) _ _ (Sl.of_own hO6)) rfl ?_)
        rintro _ w7 ⟨rfl, he7⟩
        have hr7 := he7.bl hr6.lt hr6
        have hE7 := hE6.next he7
        have hO7 := own_ext hO6 he7
        have hs7 := he7.size
        first | refine L.rd (rd_not rfl) rfl ?_ | refine L.rd (rd_notB rfl) rfl ?_
        refine L.nil ?_
        refine X.sq ?_
        first | refine V.cond rfl (fun h32 => ?_) (fun h32 => ?_) | refine V.condB rfl (fun h32 => ?_) (fun h32 => ?_)
        ·
          refine V.seq ?_
          refine V.region ?_
          refine L.rd (rd_build (out := [_]) tok rfl rfl rfl rfl rfl) rfl ?_
          refine L.ef (e_store (vs := [_]) tok rfl rfl rfl rfl hr7 rfl (by simp [Value.oneCell']) (by simp) ?_)
          refine L.rd (rd_assign rfl) rfl ?_
          refine L.nil ?_
          refine X.sq ?_
          refine V.ret ?_
          refine X.sqRet ?_
          refine ret_c1 tok Yaam.results68 rfl rfl rfl rfl (Bl.cells (hr7.set _ _)) rfl ?_
          have hbad : rawP (prods (ms (pol As)) (ms (pol Bs))) = none := by unfold rawP; rw [if_neg (by simpa using h32)]
          exact ⟨_, [], by rw [hbad]; rfl, OwnT.nil _ _ _ _ _, by rw [hbad]; rfl, hE7.set (by omega) _ _⟩
        ·
          refine V.skip ?_
          refine X.sq ?_
          refine V.seq ?_
          refine V.region ?_
          refine L.rd (rd_move rfl) rfl ?_
          refine L.ef (e_call rfl (fromM_ok _ (nf_vl hVm) (by omega) _ _ (Sl.of_own hO7)) rfl ?_)
          rintro _ w8 ⟨v8, rfl, L8, hO8, hq8, he8⟩
          obtain ⟨a8, c8, rfl⟩ := own_form hO8.top
          have hr8 := he8.bl hr7.lt hr7
          have hE8 := hE7.next he8
          refine L.ef (e_store (vs := [_]) tok rfl rfl rfl rfl hr8 rfl (by simp [Value.oneCell']) (by simp) ?_)
          refine L.rd (rd_assign rfl) rfl ?_
          refine L.nil ?_
          refine X.sq ?_
          refine V.ret ?_
          refine ret_c1 tok Yaam.results68 rfl rfl rfl rfl (Bl.cells (hr8.set _ _)) rfl ?_
          have hok : rawP (prods (ms (pol As)) (ms (pol Bs))) = some (toP (nf (prods (ms (pol As)) (ms (pol Bs))))) := by unfold rawP; rw [if_pos (by simpa using h32)]
          refine ⟨_, L8, by rw [hok]; rfl, ?_, by rw [hok]; exact hq8, hE8.set (by omega) _ _⟩
          rw [size_setB]
          exact (hO8.rg (Rg.set (lo := w.heap.size + 2) (hi := w.heap.size + 3) (by omega) _ _) (by omega)).low (by omega)
end Go.Proofs.YbxaawGreat
