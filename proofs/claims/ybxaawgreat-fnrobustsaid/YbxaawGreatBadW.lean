/-
  Canon, ToPoly and Diff at nodes that are not those of a tree.
-/
import Derived.Test.YbxaawGreatWfW3
import Derived.Test.YbxaawGreatXpW
import Derived.Test.YbxaawGreatPrsP2
set_option linter.unusedVariables false
set_option linter.unusedSimpArgs false
set_option maxRecDepth 10000
namespace Go.Proofs.YbxaawGreat
open Go.Mw

theorem icanon_bad (ns : List Nd) (root : Int) (hnot : ¬ WF ns root) (nv : Value) (w : World) (hN : Rs w 5 nv ns.length (ns.flatMap ndE)) (hlen : ns.length ≤ 1000000000) : Ret Yaam.prog 49 [.agg #[nv, .int .i64 root]] w (XPost 80 none w) := by
  obtain ⟨na, nc, rfl, hfn⟩ := id hN.form
  refine enter1 Yaam.func49 Yaam.ntmps49 (by kernel_rfl) rfl rfl ?_
  refine V.seq ?_
  refine V.region ?_
  refine L.ef (e_box (cs := [_, _]) rfl rfl (by first | (simp only [size_addB, size_setB, size_drew]; rfl) | rfl) rfl ?_)
  refine L.ef (e_alloc (cs := [_, _]) tok rfl rfl (by first | (simp only [size_addB, size_setB, size_drew]; rfl) | rfl) rfl ?_)
  refine L.rd (rd_assign rfl) rfl ?_
  refine L.nil ?_
  refine X.sq ?_
  refine V.seq ?_
  refine V.seq ?_
  have hp := (Bl.new w 34 [.slice na ns.length nc, .int .i64 root]).add 34 [.slice none 0 0, .int .i64 0]
  have hr := Bl.new' (w := addB w 34 [.slice na ns.length nc, .int .i64 root]) (b := w.heap.size + 1) (by rw [size_addB]) 34 [.slice none 0 0, .int .i64 0]
  have hE := ((Ext.refl _ w).addNew 34 [.slice na ns.length nc, .int .i64 root]).addNew 34 [.slice none 0 0, .int .i64 0]
  generalize addB (addB w 34 [.slice na ns.length nc, .int .i64 root]) 34 [.slice none 0 0, .int .i64 0] = w0 at hp hr hE ⊢
  refine V.region ?_
  refine L.rd (rd_loadN tok rfl rfl rfl hp.cells rfl) rfl ?_
  refine L.ef (e_call rfl (iwf_bad ns root hnot _ _ (hN.le hE.leC) hlen) rfl ?_)
  rintro _ w1 ⟨rfl, he1⟩
  have hr1 := he1.bl hr.lt hr
  have hE1 := hE.next he1
  first | refine L.rd (rd_not rfl) rfl ?_ | refine L.rd (rd_notB rfl) rfl ?_
  refine L.nil ?_
  refine X.sq ?_
  first | refine V.cond rfl (fun h25 => ?_) (fun h25 => ?_) | refine V.condB rfl (fun h25 => ?_) (fun h25 => ?_)
  ·
    refine V.seq ?_
    refine V.region ?_
    refine L.rd (rd_build (out := [_, _]) tok rfl rfl rfl rfl rfl) rfl ?_
    refine L.ef (e_store (vs := [_, _]) tok rfl rfl rfl rfl hr1 rfl (by simp [Value.oneCell']) (by simp) ?_)
    refine L.rd (rd_assign rfl) rfl ?_
    refine L.nil ?_
    refine X.sq ?_
    refine V.ret ?_
    refine X.sqRet ?_
    refine ret_c1 tok Yaam.results49 rfl rfl rfl rfl (Bl.cells (hr1.set _ _)) rfl ?_
    exact XPost.bad rfl (hE1.set (by omega) _ _)
  ·
    refine V.skip ?_
    refine X.sq ?_
    refine V.seq ?_
    first | cases h25 | simp at h25

theorem scanon_bad (ns : List Nd) (root : Int) (hnot : ¬ WF ns root) (nv : Value) (w : World) (hN : Rs w 5 nv ns.length (ns.flatMap ndE)) (hlen : ns.length ≤ 1000000000) : Ret Yaam.prog 50 [.agg #[nv, .int .i64 root]] w (XPost 80 none w) := by
  obtain ⟨na, nc, rfl, hfn⟩ := id hN.form
  refine enter1 Yaam.func50 Yaam.ntmps50 (by kernel_rfl) rfl rfl ?_
  refine V.seq ?_
  refine V.region ?_
  refine L.ef (e_box (cs := [_, _]) rfl rfl (by first | (simp only [size_addB, size_setB, size_drew]; rfl) | rfl) rfl ?_)
  refine L.ef (e_alloc (cs := [_, _]) tok rfl rfl (by first | (simp only [size_addB, size_setB, size_drew]; rfl) | rfl) rfl ?_)
  refine L.rd (rd_assign rfl) rfl ?_
  refine L.nil ?_
  refine X.sq ?_
  refine V.seq ?_
  refine V.seq ?_
  have hp := (Bl.new w 34 [.slice na ns.length nc, .int .i64 root]).add 34 [.slice none 0 0, .int .i64 0]
  have hr := Bl.new' (w := addB w 34 [.slice na ns.length nc, .int .i64 root]) (b := w.heap.size + 1) (by rw [size_addB]) 34 [.slice none 0 0, .int .i64 0]
  have hE := ((Ext.refl _ w).addNew 34 [.slice na ns.length nc, .int .i64 root]).addNew 34 [.slice none 0 0, .int .i64 0]
  generalize addB (addB w 34 [.slice na ns.length nc, .int .i64 root]) 34 [.slice none 0 0, .int .i64 0] = w0 at hp hr hE ⊢
  refine V.region ?_
  refine L.rd (rd_loadN tok rfl rfl rfl hp.cells rfl) rfl ?_
  refine L.ef (e_call rfl (swf_bad ns root hnot _ _ (hN.le hE.leC) hlen) rfl ?_)
  rintro _ w1 ⟨rfl, he1⟩
  have hr1 := he1.bl hr.lt hr
  have hE1 := hE.next he1
  first | refine L.rd (rd_not rfl) rfl ?_ | refine L.rd (rd_notB rfl) rfl ?_
  refine L.nil ?_
  refine X.sq ?_
  first | refine V.cond rfl (fun h6 => ?_) (fun h6 => ?_) | refine V.condB rfl (fun h6 => ?_) (fun h6 => ?_)
  ·
    refine V.seq ?_
    refine V.region ?_
    refine L.rd (rd_build (out := [_, _]) tok rfl rfl rfl rfl rfl) rfl ?_
    refine L.ef (e_store (vs := [_, _]) tok rfl rfl rfl rfl hr1 rfl (by simp [Value.oneCell']) (by simp) ?_)
    refine L.rd (rd_assign rfl) rfl ?_
    refine L.nil ?_
    refine X.sq ?_
    refine V.ret ?_
    refine X.sqRet ?_
    refine ret_c1 tok Yaam.results50 rfl rfl rfl rfl (Bl.cells (hr1.set _ _)) rfl ?_
    exact XPost.bad rfl (hE1.set (by omega) _ _)
  ·
    refine V.skip ?_
    refine X.sq ?_
    refine V.seq ?_
    first | cases h6 | simp at h6

theorem itopoly_bad (ns : List Nd) (root : Int) (hnot : ¬ WF ns root) (nv : Value) (w : World) (hN : Rs w 5 nv ns.length (ns.flatMap ndE)) (hlen : ns.length ≤ 1000000000) : Ret Yaam.prog 51 [.agg #[nv, .int .i64 root]] w (TPost none w) := by
  obtain ⟨na, nc, rfl, hfn⟩ := id hN.form
  refine enter1 Yaam.func51 Yaam.ntmps51 (by kernel_rfl) rfl rfl ?_
  refine V.seq ?_
  refine V.region ?_
  refine L.ef (e_box (cs := [_, _]) rfl rfl (by first | (simp only [size_addB, size_setB, size_drew]; rfl) | rfl) rfl ?_)
  refine L.ef (e_alloc (cs := [_]) tok rfl rfl (by first | (simp only [size_addB, size_setB, size_drew]; rfl) | rfl) rfl ?_)
  refine L.rd (rd_assign rfl) rfl ?_
  refine L.nil ?_
  refine X.sq ?_
  refine V.seq ?_
  refine V.seq ?_
  have hp := (Bl.new w 34 [.slice na ns.length nc, .int .i64 root]).add 44 [.slice none 0 0]
  have hr := Bl.new' (w := addB w 34 [.slice na ns.length nc, .int .i64 root]) (b := w.heap.size + 1) (by rw [size_addB]) 44 [.slice none 0 0]
  have hE := ((Ext.refl _ w).addNew 34 [.slice na ns.length nc, .int .i64 root]).addNew 44 [.slice none 0 0]
  generalize addB (addB w 34 [.slice na ns.length nc, .int .i64 root]) 44 [.slice none 0 0] = w0 at hp hr hE ⊢
  refine V.region ?_
  refine L.rd (rd_loadN tok rfl rfl rfl hp.cells rfl) rfl ?_
  refine L.ef (e_call rfl (iwf_bad ns root hnot _ _ (hN.le hE.leC) hlen) rfl ?_)
  rintro _ w1 ⟨rfl, he1⟩
  have hr1 := he1.bl hr.lt hr
  have hE1 := hE.next he1
  first | refine L.rd (rd_not rfl) rfl ?_ | refine L.rd (rd_notB rfl) rfl ?_
  refine L.nil ?_
  refine X.sq ?_
  first | refine V.cond rfl (fun h21 => ?_) (fun h21 => ?_) | refine V.condB rfl (fun h21 => ?_) (fun h21 => ?_)
  ·
    refine V.seq ?_
    refine V.region ?_
    refine L.rd (rd_build (out := [_]) tok rfl rfl rfl rfl rfl) rfl ?_
    refine L.ef (e_store (vs := [_]) tok rfl rfl rfl rfl hr1 rfl (by simp [Value.oneCell']) (by simp) ?_)
    refine L.rd (rd_assign rfl) rfl ?_
    refine L.nil ?_
    refine X.sq ?_
    refine V.ret ?_
    refine X.sqRet ?_
    refine ret_c1 tok Yaam.results51 rfl rfl rfl rfl (Bl.cells (hr1.set _ _)) rfl ?_
    exact TPost.bad rfl (hE1.set (by omega) _ _)
  ·
    refine V.skip ?_
    refine X.sq ?_
    refine V.seq ?_
    first | cases h21 | simp at h21

theorem stopoly_bad (ns : List Nd) (root : Int) (hnot : ¬ WF ns root) (nv : Value) (w : World) (hN : Rs w 5 nv ns.length (ns.flatMap ndE)) (hlen : ns.length ≤ 1000000000) : Ret Yaam.prog 52 [.agg #[nv, .int .i64 root]] w (TPost none w) := by
  obtain ⟨na, nc, rfl, hfn⟩ := id hN.form
  refine enter1 Yaam.func52 Yaam.ntmps52 (by kernel_rfl) rfl rfl ?_
  refine V.seq ?_
  refine V.region ?_
  refine L.ef (e_box (cs := [_, _]) rfl rfl (by first | (simp only [size_addB, size_setB, size_drew]; rfl) | rfl) rfl ?_)
  refine L.ef (e_alloc (cs := [_]) tok rfl rfl (by first | (simp only [size_addB, size_setB, size_drew]; rfl) | rfl) rfl ?_)
  refine L.rd (rd_assign rfl) rfl ?_
  refine L.nil ?_
  refine X.sq ?_
  refine V.seq ?_
  refine V.seq ?_
  have hp := (Bl.new w 34 [.slice na ns.length nc, .int .i64 root]).add 44 [.slice none 0 0]
  have hr := Bl.new' (w := addB w 34 [.slice na ns.length nc, .int .i64 root]) (b := w.heap.size + 1) (by rw [size_addB]) 44 [.slice none 0 0]
  have hE := ((Ext.refl _ w).addNew 34 [.slice na ns.length nc, .int .i64 root]).addNew 44 [.slice none 0 0]
  generalize addB (addB w 34 [.slice na ns.length nc, .int .i64 root]) 44 [.slice none 0 0] = w0 at hp hr hE ⊢
  refine V.region ?_
  refine L.rd (rd_loadN tok rfl rfl rfl hp.cells rfl) rfl ?_
  refine L.ef (e_call rfl (swf_bad ns root hnot _ _ (hN.le hE.leC) hlen) rfl ?_)
  rintro _ w1 ⟨rfl, he1⟩
  have hr1 := he1.bl hr.lt hr
  have hE1 := hE.next he1
  first | refine L.rd (rd_not rfl) rfl ?_ | refine L.rd (rd_notB rfl) rfl ?_
  refine L.nil ?_
  refine X.sq ?_
  first | refine V.cond rfl (fun h8 => ?_) (fun h8 => ?_) | refine V.condB rfl (fun h8 => ?_) (fun h8 => ?_)
  ·
    refine V.seq ?_
    refine V.region ?_
    refine L.rd (rd_build (out := [_]) tok rfl rfl rfl rfl rfl) rfl ?_
    refine L.ef (e_store (vs := [_]) tok rfl rfl rfl rfl hr1 rfl (by simp [Value.oneCell']) (by simp) ?_)
    refine L.rd (rd_assign rfl) rfl ?_
    refine L.nil ?_
    refine X.sq ?_
    refine V.ret ?_
    refine X.sqRet ?_
    refine ret_c1 tok Yaam.results52 rfl rfl rfl rfl (Bl.cells (hr1.set _ _)) rfl ?_
    exact TPost.bad rfl (hE1.set (by omega) _ _)
  ·
    refine V.skip ?_
    refine X.sq ?_
    refine V.seq ?_
    first | cases h8 | simp at h8

theorem idiff_bad (ns : List Nd) (root : Int) (y : Int) (hnot : ¬ WF ns root) (nv : Value) (w : World) (hN : Rs w 5 nv ns.length (ns.flatMap ndE)) (hlen : ns.length ≤ 1000000000) : Ret Yaam.prog 53 [.agg #[nv, .int .i64 root], .int .i64 y] w (XPost 80 none w) := by
  obtain ⟨na, nc, rfl, hfn⟩ := id hN.form
  refine enter2 Yaam.func53 Yaam.ntmps53 (by kernel_rfl) rfl rfl ?_
  refine V.seq ?_
  refine V.region ?_
  refine L.ef (e_box (cs := [_, _]) rfl rfl (by first | (simp only [size_addB, size_setB, size_drew]; rfl) | rfl) rfl ?_)
  refine L.ef (e_alloc (cs := [_, _]) tok rfl rfl (by first | (simp only [size_addB, size_setB, size_drew]; rfl) | rfl) rfl ?_)
  refine L.rd (rd_assign rfl) rfl ?_
  refine L.nil ?_
  refine X.sq ?_
  refine V.seq ?_
  refine V.seq ?_
  have hp := (Bl.new w 34 [.slice na ns.length nc, .int .i64 root]).add 34 [.slice none 0 0, .int .i64 0]
  have hr := Bl.new' (w := addB w 34 [.slice na ns.length nc, .int .i64 root]) (b := w.heap.size + 1) (by rw [size_addB]) 34 [.slice none 0 0, .int .i64 0]
  have hE := ((Ext.refl _ w).addNew 34 [.slice na ns.length nc, .int .i64 root]).addNew 34 [.slice none 0 0, .int .i64 0]
  generalize addB (addB w 34 [.slice na ns.length nc, .int .i64 root]) 34 [.slice none 0 0, .int .i64 0] = w0 at hp hr hE ⊢
  refine V.region ?_
  refine L.rd (rd_loadN tok rfl rfl rfl hp.cells rfl) rfl ?_
  refine L.ef (e_call rfl (iwf_bad ns root hnot _ _ (hN.le hE.leC) hlen) rfl ?_)
  rintro _ w1 ⟨rfl, he1⟩
  have hr1 := he1.bl hr.lt hr
  have hE1 := hE.next he1
  first | refine L.rd (rd_not rfl) rfl ?_ | refine L.rd (rd_notB rfl) rfl ?_
  refine L.rd (rd_move rfl) rfl ?_
  first | refine L.partG rfl rfl (fun g36 => ?_) (fun g36 => ?_) | refine L.partGB rfl rfl (fun g36 => ?_) (fun g36 => ?_)
  ·
    refine L.no rfl rfl rfl rfl ?_
    refine L.no rfl rfl rfl rfl ?_
    refine L.rd (rd_pickT rfl rfl) rfl ?_
    refine L.rd (rd_move rfl) rfl ?_
    refine L.no rfl rfl rfl rfl ?_
    refine L.no rfl rfl rfl rfl ?_
    refine L.rd (rd_pickT rfl rfl) rfl ?_
    refine L.nil ?_
    refine X.sq ?_
    refine V.condT rfl ?_
    refine V.seq ?_
    refine V.region ?_
    refine L.rd (rd_build (out := [_, _]) tok rfl rfl rfl rfl rfl) rfl ?_
    refine L.ef (e_store (vs := [_, _]) tok rfl rfl rfl rfl hr1 rfl (by simp [Value.oneCell']) (by simp) ?_)
    refine L.rd (rd_assign rfl) rfl ?_
    refine L.nil ?_
    refine X.sq ?_
    refine V.ret ?_
    refine X.sqRet ?_
    refine ret_c1 tok Yaam.results53 rfl rfl rfl rfl (Bl.cells (hr1.set _ _)) rfl ?_
    exact XPost.bad rfl (hE1.set (by omega) _ _)
  ·
    first | cases g36 | simp at g36

theorem sdiff_bad (ns : List Nd) (root : Int) (y : Int) (hnot : ¬ WF ns root) (nv : Value) (w : World) (hN : Rs w 5 nv ns.length (ns.flatMap ndE)) (hlen : ns.length ≤ 1000000000) : Ret Yaam.prog 54 [.agg #[nv, .int .i64 root], .int .i64 y] w (XPost 80 none w) := by
  obtain ⟨na, nc, rfl, hfn⟩ := id hN.form
  refine enter2 Yaam.func54 Yaam.ntmps54 (by kernel_rfl) rfl rfl ?_
  refine V.seq ?_
  refine V.region ?_
  refine L.ef (e_box (cs := [_, _]) rfl rfl (by first | (simp only [size_addB, size_setB, size_drew]; rfl) | rfl) rfl ?_)
  refine L.ef (e_alloc (cs := [_, _]) tok rfl rfl (by first | (simp only [size_addB, size_setB, size_drew]; rfl) | rfl) rfl ?_)
  refine L.rd (rd_assign rfl) rfl ?_
  refine L.nil ?_
  refine X.sq ?_
  refine V.seq ?_
  refine V.seq ?_
  have hp := (Bl.new w 34 [.slice na ns.length nc, .int .i64 root]).add 34 [.slice none 0 0, .int .i64 0]
  have hr := Bl.new' (w := addB w 34 [.slice na ns.length nc, .int .i64 root]) (b := w.heap.size + 1) (by rw [size_addB]) 34 [.slice none 0 0, .int .i64 0]
  have hE := ((Ext.refl _ w).addNew 34 [.slice na ns.length nc, .int .i64 root]).addNew 34 [.slice none 0 0, .int .i64 0]
  generalize addB (addB w 34 [.slice na ns.length nc, .int .i64 root]) 34 [.slice none 0 0, .int .i64 0] = w0 at hp hr hE ⊢
  refine V.region ?_
  refine L.rd (rd_loadN tok rfl rfl rfl hp.cells rfl) rfl ?_
  refine L.ef (e_call rfl (swf_bad ns root hnot _ _ (hN.le hE.leC) hlen) rfl ?_)
  rintro _ w1 ⟨rfl, he1⟩
  have hr1 := he1.bl hr.lt hr
  have hE1 := hE.next he1
  first | refine L.rd (rd_not rfl) rfl ?_ | refine L.rd (rd_notB rfl) rfl ?_
  refine L.rd (rd_move rfl) rfl ?_
  first | refine L.partG rfl rfl (fun g12 => ?_) (fun g12 => ?_) | refine L.partGB rfl rfl (fun g12 => ?_) (fun g12 => ?_)
  ·
    refine L.no rfl rfl rfl rfl ?_
    refine L.no rfl rfl rfl rfl ?_
    refine L.rd (rd_pickT rfl rfl) rfl ?_
    refine L.rd (rd_move rfl) rfl ?_
    refine L.no rfl rfl rfl rfl ?_
    refine L.no rfl rfl rfl rfl ?_
    refine L.rd (rd_pickT rfl rfl) rfl ?_
    refine L.nil ?_
    refine X.sq ?_
    refine V.condT rfl ?_
    refine V.seq ?_
    refine V.region ?_
    refine L.rd (rd_build (out := [_, _]) tok rfl rfl rfl rfl rfl) rfl ?_
    refine L.ef (e_store (vs := [_, _]) tok rfl rfl rfl rfl hr1 rfl (by simp [Value.oneCell']) (by simp) ?_)
    refine L.rd (rd_assign rfl) rfl ?_
    refine L.nil ?_
    refine X.sq ?_
    refine V.ret ?_
    refine X.sqRet ?_
    refine ret_c1 tok Yaam.results54 rfl rfl rfl rfl (Bl.cells (hr1.set _ _)) rfl ?_
    exact XPost.bad rfl (hE1.set (by omega) _ _)
  ·
    first | cases g12 | simp at g12
end Go.Proofs.YbxaawGreat
