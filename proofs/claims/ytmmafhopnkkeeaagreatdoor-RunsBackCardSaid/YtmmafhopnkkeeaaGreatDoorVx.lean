/- The chapter's examples: the calls that they make, run by the kernel or by their contracts. Conditions: none. -/
import Derived.Test.YtmmafhopnkkeeaaGreatDoorVj
import Derived.Test.YtmmafhopnkkeeaaGreatDoorMb
import Derived.KernelRfl
namespace Go.Proofs.YtmmafhopnkkeeaaGreatDoor
set_option maxRecDepth 20000
def tblE:Tbl:=fun f=>match f with
 | 6=>some (h6c.er,h6.rs,h6.nt)
 | f=>match Tbt f with
  | some h=>some (h.code.er,h.rs,h.nt)
  | none=>none
theorem tblE_ok:TOK Tryz.prog tblE:=by
 intro f c rs nt h
 unfold tblE at h
 split at h
 ·injection h with h;injection h with h1 h;injection h with h2 h3;subst h1;subst h2;subst h3;exact ⟨by kernel_rfl,_,Tryz.func6,Tryz.ntmps6,h6_ok,r6_ok⟩
 ·rename_i f' hf
  split at h
  ·rename_i x hx
   injection h with h;injection h with h1 h;injection h with h2 h3;subst h1;subst h2;subst h3
   exact Tb_ok (fun _ _ _=>none) f x hx
  ·cases h
def G0:Glob:=fun _=>none
def B0:CallT:=fun _ _ _=>none
theorem B0_ok {G:Glob}:CallOK Tryz.prog G B0:=fun f args hp av o' h=>by cases h
theorem qc0 {G:Glob} {f:FuncId} {args:List AV} {r:AV} (h:EV G (Tb B0) f args []=some (r,[])):QC Tryz.prog G f args r:=EV_qc (Tb_ok B0) B0_ok h
def tvi (n:Int):TV:=.one (.dc (.raw (.int .i64 n)))
def tvl (es:List (List DC)):TV:=.one (.dc (.slc es))
def tvs (l:List UInt8):TV:=.one (.dc (.raw (.string ⟨⟨l⟩⟩)))
def vs (l:List UInt8):AV:=.one (.dc (.raw (.string ⟨⟨l⟩⟩)))
def three:List (List DC):=[[ci 5,ci 3],[ci (-1),ci 2],[ci 4,ci 1]]
theorem three_q:QC Tryz.prog G0 26 [] (vl three):=QC.run tblE_ok 40 (by kernel_rfl)
theorem ex_encode:QC Tryz.prog G0 15 [vl three] (.tup [tvs [17,3,5,1,2,17,1,255,0],tvi 0]):=QC.run tblE_ok 2000 (by kernel_rfl)
theorem ex_place:QC Tryz.prog G0 27 [vl three,vi 1] (.tup [.agg [.dc (ci 6),.dc (ci 2)],tvi 0]):=QC.run tblE_ok 2000 (by kernel_rfl)
theorem cutEx:cutV [⟨5,3⟩,⟨-1,2⟩,⟨4,1⟩] 2 3=([⟨7,1⟩,⟨-1,2⟩],0):=by kernel_rfl
theorem ex_cut:QC Tryz.prog G0 28 [vl three,vi 2,vi 3] (.tup [tvl [[ci 7,ci 1],[ci (-1),ci 2]],tvi 0]):=by
 have h:=qc0 (cut_v (G:=G0) (B:=B0) [⟨5,3⟩,⟨-1,2⟩,⟨4,1⟩] 2 3 (by simp))
 rw [cutEx] at h
 exact h
theorem repEx:replacedV [⟨5,3⟩,⟨-1,2⟩,⟨4,1⟩] 3 [⟨8,2⟩]=([⟨5,5⟩,⟨4,1⟩],0):=by kernel_rfl
theorem ex_replaced:QC Tryz.prog G0 29 [vl three,vi 3,vl [[ci 8,ci 2]]] (.tup [tvl [[ci 5,ci 5],[ci 4,ci 1]],tvi 0]):=by
 have h:=qc0 (replaced_v (G:=G0) (B:=B0) [⟨5,3⟩,⟨-1,2⟩,⟨4,1⟩] [⟨8,2⟩] 3 (by simp) (by simp))
 rw [repEx] at h
 exact h
theorem freedEx:freedV [⟨5,3⟩,⟨-1,2⟩,⟨4,1⟩] [⟨6,1⟩]=([⟨4,2⟩,⟨7,1⟩],0):=by kernel_rfl
theorem ex_freed:QC Tryz.prog G0 30 [vl three,vl [[ci 6,ci 1]]] (.tup [tvl [[ci 4,ci 2],[ci 7,ci 1]],tvi 0]):=by
 have h:=qc0 (freedBy_v (G:=G0) (B:=B0) [⟨5,3⟩,⟨-1,2⟩,⟨4,1⟩] [⟨6,1⟩])
 rw [freedEx] at h
 exact h
theorem ex_f1:QC Tryz.prog G0 13 [vl [[ci 7,ci 1],[ci (-1),ci 2]]] (vs [55,43,49,32,45,43,50]):=QC.run tblE_ok 2000 (by kernel_rfl)
theorem ex_f2:QC Tryz.prog G0 13 [vl [[ci 5,ci 5],[ci 4,ci 1]]] (vs [53,43,53,32,52,43,49]):=QC.run tblE_ok 2000 (by kernel_rfl)
theorem ex_f3:QC Tryz.prog G0 13 [vl [[ci 4,ci 2],[ci 7,ci 1]]] (vs [52,43,50,32,55,43,49]):=QC.run tblE_ok 2000 (by kernel_rfl)
def exM:Memo:=[(26,[],vl three),(15,[vl three],.tup [tvs [17,3,5,1,2,17,1,255,0],tvi 0]),(27,[vl three,vi 1],.tup [.agg [.dc (ci 6),.dc (ci 2)],tvi 0]),
 (28,[vl three,vi 2,vi 3],.tup [tvl [[ci 7,ci 1],[ci (-1),ci 2]],tvi 0]),(29,[vl three,vi 3,vl [[ci 8,ci 2]]],.tup [tvl [[ci 5,ci 5],[ci 4,ci 1]],tvi 0]),
 (30,[vl three,vl [[ci 6,ci 1]]],.tup [tvl [[ci 4,ci 2],[ci 7,ci 1]],tvi 0]),(13,[vl [[ci 7,ci 1],[ci (-1),ci 2]]],vs [55,43,49,32,45,43,50]),
 (13,[vl [[ci 5,ci 5],[ci 4,ci 1]]],vs [53,43,53,32,52,43,49]),(13,[vl [[ci 4,ci 2],[ci 7,ci 1]]],vs [52,43,50,32,55,43,49])]
theorem exM_ok:∀ e∈exM,okF Tryz.prog e.1=true∧QC Tryz.prog G0 e.1 e.2.1 e.2.2:=by
 intro e he
 simp only [exM,List.mem_cons,List.not_mem_nil,or_false] at he
 rcases he with rfl | rfl | rfl | rfl | rfl | rfl | rfl | rfl | rfl
 ·exact ⟨by kernel_rfl,three_q⟩
 ·exact ⟨by kernel_rfl,ex_encode⟩
 ·exact ⟨by kernel_rfl,ex_place⟩
 ·exact ⟨by kernel_rfl,ex_cut⟩
 ·exact ⟨by kernel_rfl,ex_replaced⟩
 ·exact ⟨by kernel_rfl,ex_freed⟩
 ·exact ⟨by kernel_rfl,ex_f1⟩
 ·exact ⟨by kernel_rfl,ex_f2⟩
 ·exact ⟨by kernel_rfl,ex_f3⟩
theorem awake_q:QC Tryz.prog G0 6 [] (vb true):=QC.memo exM_ok 100 tblE_ok (f:=6) rfl (by kernel_rfl)
end Go.Proofs.YtmmafhopnkkeeaaGreatDoor
