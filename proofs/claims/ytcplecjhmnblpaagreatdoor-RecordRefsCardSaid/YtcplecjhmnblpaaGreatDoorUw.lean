/- Lists of attributes: few, copied; the attribute that has some parts, by the reference. Conditions: none. -/
import Derived.Test.YtcplecjhmnblpaaGreatDoorUh
import Derived.Test.YtcplecjhmnblpaaGreatDoorUb
import Derived.Test.YtcplecjhmnblpaaGreatDoorMb
import Derived.KernelRfl
namespace Go.Proofs.YtcplecjhmnblpaaGreatDoor
set_option linter.unusedSimpArgs false
set_option linter.unusedVariables false
set_option maxRecDepth 4000
section
variable {G:Glob} {bb:Bool}
section
variable {B:CallT}
end
theorem clone_v (l:List Run) (hl:l.length≤1000000):EV G (Tb (bs bb)) 78 [runsV l] []=some (.one (.bld 0 l.length),[.arr 0 2 (l.map Run.e)]):=by
 refine EV_base rfl ?_
 show (if allLen 2 (l.map Run.e)=true∧(l.map Run.e).length * 16≤140737488355328 then some (AV.one (.bld 0 (l.map Run.e).length),[AObj.arr 0 2 (l.map Run.e)]) else none)=_
 rw [if_pos ⟨all_run l,by rw [List.length_map];omega⟩,List.length_map]
theorem copyA_v (a:Att) (hl:a.rs.length≤1000000):EV G (Tb (bs bb)) 27 [a.v] []=some (a.v,[]):=by
 refine EV_run rfl ?_
 have q:=copyRuns_v (G:=G) (B:=bs bb) a.rs hl
 simp (disch:=omega) only [go_sem,h27c,q,take_map_len,List.length_map]
def sameB (a b:Att):Bool:=decide (a.ty=b.ty)&&(decide (a.nm=b.nm)&&(decide (a.id=b.id)&&(decide (a.fl=b.fl)&&(decide (a.res=b.res)&&(decide (a.va=b.va)&&(decide (a.fi=b.fi)&&(decide (a.rs=b.rs)&&(decide (a.al=b.al)&&(decide (a.sz=b.sz)&&(decide (a.vd=b.vd)))))))))))
theorem sameB_iff (a b:Att):sameB a b=true↔a=b:=by
 cases a;cases b
 simp [sameB]
set_option maxHeartbeats 4000000 in
theorem sameA_v (a b:Att) (ha:a.W) (hb:b.W):EV G (Tb (bs bb)) 35 [a.v,b.v] []=some (vb (sameB a b),[]):=by
 refine EV_run rfl ?_
 have e1:=str_inj ha.nm hb.nm
 have e2:=str_inj ha.va hb.va
 have q:=sameRuns_v (G:=G) (B:=bs bb) a.rs b.rs (by have:=ha.rl;omega)
 by_cases c0:a.ty=b.ty
 rotate_left
 ·simp (disch:=omega) only [go_sem,h35c,e1,e2,q,c0]
  simp [sameB,c0]
 by_cases c1:a.nm=b.nm
 rotate_left
 ·simp (disch:=omega) only [go_sem,h35c,e1,e2,q,eq_true c0,c1]
  simp [sameB,c0,c1]
 by_cases c2:a.id=b.id
 rotate_left
 ·simp (disch:=omega) only [go_sem,h35c,e1,e2,q,eq_true c0,eq_true c1,c2]
  simp [sameB,c0,c1,c2]
 by_cases c3:a.fl=b.fl
 rotate_left
 ·simp (disch:=omega) only [go_sem,h35c,e1,e2,q,eq_true c0,eq_true c1,eq_true c2,c3]
  simp [sameB,c0,c1,c2,c3]
 by_cases c4:a.res=b.res
 rotate_left
 ·have d4:(a.res==b.res)=false:=by simpa using c4
  simp (disch:=omega) only [go_sem,h35c,e1,e2,q,eq_true c0,eq_true c1,eq_true c2,eq_true c3,d4]
  simp [sameB,c0,c1,c2,c3,c4]
 have d4:(a.res==b.res)=true:=by simpa using c4
 by_cases c5:a.va=b.va
 rotate_left
 ·simp (disch:=omega) only [go_sem,h35c,e1,e2,q,eq_true c0,eq_true c1,eq_true c2,eq_true c3,d4,c5]
  simp [sameB,c0,c1,c2,c3,c4,c5]
 by_cases c6:a.fi=b.fi
 rotate_left
 ·simp (disch:=omega) only [go_sem,h35c,e1,e2,q,eq_true c0,eq_true c1,eq_true c2,eq_true c3,d4,eq_true c5,c6]
  simp [sameB,c0,c1,c2,c3,c4,c5,c6]
 by_cases c7:a.rs=b.rs
 rotate_left
 ·simp (disch:=omega) only [go_sem,h35c,e1,e2,q,eq_true c0,eq_true c1,eq_true c2,eq_true c3,d4,eq_true c5,eq_true c6,c7]
  simp [sameB,c0,c1,c2,c3,c4,c5,c6,c7]
 by_cases c8:a.al=b.al
 rotate_left
 ·simp (disch:=omega) only [go_sem,h35c,e1,e2,q,eq_true c0,eq_true c1,eq_true c2,eq_true c3,d4,eq_true c5,eq_true c6,eq_true c7,c8]
  simp [sameB,c0,c1,c2,c3,c4,c5,c6,c7,c8]
 by_cases c9:a.sz=b.sz
 rotate_left
 ·simp (disch:=omega) only [go_sem,h35c,e1,e2,q,eq_true c0,eq_true c1,eq_true c2,eq_true c3,d4,eq_true c5,eq_true c6,eq_true c7,eq_true c8,c9]
  simp [sameB,c0,c1,c2,c3,c4,c5,c6,c7,c8,c9]
 by_cases c10:a.vd=b.vd
 rotate_left
 ·simp (disch:=omega) only [go_sem,h35c,e1,e2,q,eq_true c0,eq_true c1,eq_true c2,eq_true c3,d4,eq_true c5,eq_true c6,eq_true c7,eq_true c8,eq_true c9,c10]
  simp [sameB,c0,c1,c2,c3,c4,c5,c6,c7,c8,c9,c10]
 simp (disch:=omega) only [go_sem,h35c,e1,e2,q,eq_true c0,eq_true c1,eq_true c2,eq_true c3,d4,eq_true c5,eq_true c6,eq_true c7,eq_true c8,eq_true c9,eq_true c10]
 simp [sameB,c0,c1,c2,c3,c4,c5,c6,c7,c8,c9,c10]
end
section
variable {G:Glob} {bb:Bool}
end
section
variable {G:Glob} {bb:Bool}
end
section
variable {G:Glob} {B:CallT}
end
section
variable {G:Glob} {B:CallT}
end
section
variable {G:Glob} {bb:Bool}
theorem errA_ok {a:Att} (hW:a.W) (h:errA a=0):a.Ok:=by
 unfold errA at h
 split at h
 ·exact absurd h (by decide)
 rename_i h1
 split at h
 ·exact absurd h (by decide)
 rename_i h2
 split at h
 ·exact absurd h (by decide)
 rename_i h3
 split at h
 ·rename_i h4;exact absurd h h4
 rename_i h4
 exact ⟨hW,Classical.not_not.1 h1,by simpa using h2,Classical.not_not.1 h3,Classical.not_not.1 h4⟩
theorem Att.Ok.bd {a:Att} (h:a.Ok):a.Bd:=Att.bd h.w h.ty h.nm h.rg h.e
def encA (a:Att):List Int:=if errA a=0 then encB a else []
theorem encodeA_v (a:Att) (hW:a.W):EV G (Tb (bs bb)) 102 [a.v] []=some (.tup [.one (.dc (.raw (.string (str (encA a))))),.one (.dc (ci (errA a)))],[]):=by
 refine EV_run rfl ?_
 have q:=checkA_v (G:=G) (bb:=bb) a hW
 unfold encA
 by_cases c:errA a=0
 ·have q1:=encoded_v (G:=G) (bb:=bb) a (errA_ok hW c).bd
  rw [if_pos c]
  simp (disch:=omega) only [go_sem,h102c,q,c,q1]
 ·rw [if_neg c]
  simp (disch:=omega) only [go_sem,h102c,q,c,str_nil]
theorem encA_len {a:Att} (hW:a.W):(encA a).length≤440:=by
 unfold encA
 by_cases c:errA a=0
 ·rw [if_pos c,encB_len a (errA_ok hW c).bd]
  unfold errA at c
  split at c
  ·exact absurd c (by decide)
  split at c
  ·exact absurd c (by decide)
  split at c
  ·exact absurd c (by decide)
  split at c
  ·rename_i h4;exact absurd c h4
  split at c
  ·exact absurd c (by decide)
  ·omega
 ·rw [if_neg c];simp
theorem bytesOf_v (a:Att) (hW:a.W):EV G (Tb (bs bb)) 121 [a.v] []=some (.tup [.one (.dc (ci (encA a).length)),.one (.dc (ci (errA a)))],[]):=by
 refine EV_run rfl ?_
 have q:=encodeA_v (G:=G) (bb:=bb) a hW
 have:=encA_len hW
 simp (disch:=omega) only [go_sem,h121c,q]
end
section
variable {G:Glob} {bb:Bool}
theorem key_v (a:Att):EV G (Tb (bs bb)) 80 [a.v] []=some (.agg [.dc (ci a.ty),.dc (.raw (.string (str a.nm))),.dc (ci a.fi)],[]):=by
 refine EV_run rfl ?_
 simp (disch:=omega) only [go_sem,h80c,str_nil]
end
section
variable {G:Glob} {bb:Bool}
def cmpI (a b:Int):Int:=if a < b then -1 else if a > b then 1 else 0
theorem nanI_v (a:Int):EV G (Tb (bs bb)) 202 [vi a] []=some (vb false,[]):=by
 refine EV_run rfl ?_
 simp (disch:=omega) only [go_sem,h202c]
theorem cmpI_v (a b:Int):EV G (Tb (bs bb)) 168 [vi a,vi b] []=some (vi (cmpI a b),[]):=by
 refine EV_run rfl ?_
 unfold cmpI
 by_cases c1:a < b
 ·rw [if_pos c1]
  simp (disch:=omega) only [go_sem,h168c,nanI_v,eq_true c1]
 ·rw [if_neg c1]
  by_cases c2:b < a
  ·rw [if_pos c2]
   simp (disch:=omega) only [go_sem,h168c,nanI_v,c1,eq_true c2]
  ·rw [if_neg c2]
   simp (disch:=omega) only [go_sem,h168c,nanI_v,c1,c2]
theorem numbers_v (a b:Int):EV G (Tb (bs bb)) 171 [vi a,vi b] []=some (vi (cmpI a b),[]):=by
 refine EV_run rfl ?_
 unfold cmpI
 by_cases c1:a < b
 ·rw [if_pos c1]
  simp (disch:=omega) only [go_sem,h171c,eq_true c1]
 ·rw [if_neg c1]
  by_cases c2:b < a
  ·rw [if_pos c2]
   simp (disch:=omega) only [go_sem,h171c,c1,eq_true c2]
  ·rw [if_neg c2]
   simp (disch:=omega) only [go_sem,h171c,c1,c2]
theorem nanS_v (s:ByteArray):EV G (Tb (bs bb)) 203 [.one (.dc (.raw (.string s)))] []=some (vb false,[]):=by
 refine EV_run rfl ?_
 simp (disch:=omega) only [go_sem,h203c]
def ltS (a b:List Int):Bool:=Op.bytesLess (str a).toList (str b).toList
def gtS (a b:List Int):Bool:=!(Op.bytesLess (str a).toList (str b).toList||(str a).toList==(str b).toList)
theorem binV_ltS (a b:List Int):binV .lss (sv a) (sv b)=some (vb (ltS a b)):=rfl
theorem binV_gtS (a b:List Int):binV .gtr (sv a) (sv b)=some (vb (gtS a b)):=rfl
def cmpS (a b:List Int):Int:=if ltS a b=true then -1 else if gtS a b=true then 1 else 0
theorem cmpS_v (a b:List Int):EV G (Tb (bs bb)) 169 [sv a,sv b] []=some (vi (cmpS a b),[]):=by
 refine EV_run rfl ?_
 unfold cmpS
 cases c1:ltS a b with
 | true=>
  rw [if_pos rfl]
  simp (disch:=omega) only [go_sem,h169c,nanS_v,binV_ltS,c1]
 | false=>
  rw [if_neg (by decide)]
  cases c2:gtS a b with
  | true=>
   rw [if_pos rfl]
   simp (disch:=omega) only [go_sem,h169c,nanS_v,binV_ltS,binV_gtS,c1,c2]
  | false=>
   rw [if_neg (by decide)]
   simp (disch:=omega) only [go_sem,h169c,nanS_v,binV_ltS,binV_gtS,c1,c2]
theorem or_v (l:List Int) (hl:l.length≤1000):EV G (Tb (bs bb)) 167 [vl (el l)] []=some (vi (firstE l),[]):=by
 refine EV_run rfl ?_
 simp (disch:=omega) only [go_sem,h167c,List.length_map]
 have round:∀ k (hk:k < l.length),¬ l.getD k 0≠0→rnK [3,2,0,0] 0 (EC (EV G (Tb (bs bb))) G h167l0 ⟨(jk 3 (vi 0::jk 2 (vl (el l)::vi l.length::vi k::jk 9 []))),[]⟩)=some ⟨(jk 3 (vi 0::jk 2 (vl (el l)::vi l.length::vi (k+1:Nat)::jk 9 []))),[]⟩:=fun k hk hz=>by
  rw [getD_at l k hk] at hz
  simp (disch:=omega) only [go_sem,h167l0,List.length_map,ci1]
 rcases fstN (fun k=>l.getD k 0≠0) l.length with h | ⟨j,hj,h1,h2⟩
 ·rw [EL_loop (fun k=>⟨(jk 3 (vi 0::jk 2 (vl (el l)::vi l.length::vi k::jk 9 []))),[]⟩) l.length ?_ ?_]
  ·rw [firstE_none l h]
   simp (disch:=omega) only [go_sem,h167l0]
  ·rfl
  ·exact fun k hk=>round k hk (h k hk)
 ·rw [EL_loop (fun k=>⟨(jk 3 (vi 0::jk 2 (vl (el l)::vi l.length::vi k::jk 9 []))),[]⟩) j ?_ ?_]
  ·rw [firstE_at l j hj h2 h1]
   rw [getD_at l j hj] at h1
   simp (disch:=omega) only [go_sem,h167l0,List.length_map,ci1]
  ·rfl
  ·exact fun k hk=>round k (by omega) (h2 k hk)
def cmpA (a b:Att):Int:=firstE [cmpI a.ty b.ty,cmpS a.nm b.nm,cmpI a.fi b.fi,cmpI a.id b.id]
theorem compare_v (a b:Att):EV G (Tb (bs bb)) 119 [a.v,b.v] []=some (vi (cmpA a b),[]):=by
 refine EV_run rfl ?_
 have q:=or_v (G:=G) (bb:=bb) [cmpI a.ty b.ty,cmpS a.nm b.nm,cmpI a.fi b.fi,cmpI a.id b.id] (by simp)
 simp only [el,List.map_cons,List.map_nil,ci1] at q
 simp (disch:=omega) only [go_sem,h119c,cmpI_v,cmpS_v,q]
 rfl
def keyB (a b:Att):Bool:=decide (a.ty=b.ty)&&(decide (a.nm=b.nm)&&decide (a.fi=b.fi))
theorem sameKey_v (a b:Att) (ha:Byts a.nm) (hb:Byts b.nm):EV G (Tb (bs bb)) 120 [a.v,b.v] []=some (vb (keyB a b),[]):=by
 refine EV_run rfl ?_
 have e:=str_inj ha hb
 unfold keyB
 by_cases c1:a.ty=b.ty
 ·by_cases c2:a.nm=b.nm
  ·simp (disch:=omega) only [go_sem,h120c,e,eq_true c1,eq_true c2]
  ·simp (disch:=omega) only [go_sem,h120c,e,eq_true c1,c2]
 ·simp (disch:=omega) only [go_sem,h120c,e,c1]
abbrev keyC (ty:Int) (nm:List Int) (fi:Int):List Cel:=[.dc (ci ty),.dc (.raw (.string (str nm))),.dc (ci fi)]
theorem keys_v (a b:Att):EV G (Tb (bs bb)) 170 [.agg (keyC a.ty a.nm a.fi),.agg (keyC b.ty b.nm b.fi)] []=some (vi (firstE [cmpI a.ty b.ty,cmpS a.nm b.nm,cmpI a.fi b.fi]),[]):=by
 refine EV_run rfl ?_
 have q1:=numbers_v (G:=G) (bb:=bb) a.ty b.ty
 have q2:=numbers_v (G:=G) (bb:=bb) a.fi b.fi
 by_cases c1:cmpI a.ty b.ty=0
 ·rw [c1] at q1
  rw [c1,firstE_0]
  unfold cmpS
  cases c2:ltS a.nm b.nm with
  | true=>
   rw [if_pos rfl]
   simp (disch:=omega) only [go_sem,h170c,q1,binV_ltS,c2]
   rfl
  | false=>
   rw [if_neg (by decide)]
   cases c3:gtS a.nm b.nm with
   | true=>
    rw [if_pos rfl]
    simp (disch:=omega) only [go_sem,h170c,q1,binV_ltS,binV_gtS,c2,c3]
    rfl
   | false=>
    rw [if_neg (by decide)]
    have e:firstE [0,cmpI a.fi b.fi]=cmpI a.fi b.fi:=by
     rw [firstE_0]
     by_cases h:cmpI a.fi b.fi=0
     ·rw [h];rfl
     ·rw [firstE_n _ _ h]
    rw [e]
    simp (disch:=omega) only [go_sem,h170c,q1,q2,binV_ltS,binV_gtS,c2,c3]
 ·rw [firstE_n _ _ c1]
  generalize cmpI a.ty b.ty=e at c1 q1
  simp (disch:=omega) only [go_sem,h170c,q1,c1]
theorem firstE_app (l:List Int) (e:Int):firstE (l++[e])=if firstE l≠0 then firstE l else e:=by
 induction l with
 | nil=>
  show firstE [e]=if (0:Int)≠0 then 0 else e
  rw [if_neg (by decide)]
  by_cases h:e=0
  ·rw [h];rfl
  ·rw [firstE_n _ _ h]
 | cons x l ih=>
  by_cases h:x=0
  ·rw [h,List.cons_append,firstE_0,firstE_0,ih]
  ·rw [List.cons_append,firstE_n _ _ h,firstE_n _ _ h,if_pos h]
theorem compareR_v (a b:Att):EV G (Tb (bs bb)) 123 [a.v,b.v] []=some (vi (cmpA a b),[]):=by
 refine EV_run rfl ?_
 have q1:=key_v (G:=G) (bb:=bb) a
 have q2:=key_v (G:=G) (bb:=bb) b
 have q3:=keys_v (G:=G) (bb:=bb) a b
 have q4:=numbers_v (G:=G) (bb:=bb) a.id b.id
 have e:=firstE_app [cmpI a.ty b.ty,cmpS a.nm b.nm,cmpI a.fi b.fi] (cmpI a.id b.id)
 unfold cmpA
 rw [show [cmpI a.ty b.ty,cmpS a.nm b.nm,cmpI a.fi b.fi,cmpI a.id b.id]=[cmpI a.ty b.ty,cmpS a.nm b.nm,cmpI a.fi b.fi]++[cmpI a.id b.id] from rfl,e]
 generalize firstE [cmpI a.ty b.ty,cmpS a.nm b.nm,cmpI a.fi b.fi]=x at q3 ⊢
 by_cases c:x=0
 ·rw [if_neg (fun h=>h c)]
  simp (disch:=omega) only [go_sem,h123c,q1,q2,q3,q4,eq_true c]
 ·rw [if_pos c]
  simp (disch:=omega) only [go_sem,h123c,q1,q2,q3,c]
end
section
variable {G:Glob} {bb:Bool}
theorem getDA (l:List Att) (k:Nat) (hk:k < l.length):l.getD k Att.nil=l[k]:=by simp [List.getD,hk]
theorem all_att (l:List Att):((l.map Att.e).all fun e=>decide (e.length=11))=true:=by simp [Att.e]
end
section
variable {G:Glob} {bb:Bool}
theorem ixA (l:List Att) (k:Nat) (hk:k < l.length):(l.map Att.e)[k]?=some l[k].e:=by
 rw [List.getElem?_map,List.getElem?_eq_getElem hk];rfl
noncomputable def idxV (p:Att→Bool) (l:List Att):Int:=if ix (fun k=>p (l.getD k Att.nil)=true) l.length=l.length then -1 else (ix (fun k=>p (l.getD k Att.nil)=true) l.length:Nat)
theorem isId_v (l:List Att) (i:Nat) (hi:i < l.length) (a:Att):
  EV G (Tb (bs bb)) 166 [a.v,.one (.ptr 0 0),.one (.ptr 1 0)] [.box [.dc (.slc (l.map Att.e))],.box [.dc (ci i)]]=some (vb (decide (a.id=l[i].id)),[.box [.dc (.slc (l.map Att.e))],.box [.dc (ci i)]]):=by
 refine EV_run rfl ?_
 simp (disch:=omega) only [go_sem,h166c,List.length_map,ixA,Att.e]
theorem idxI_v (l:List Att) (i:Nat) (hi:i < l.length) (m:List Att) (hm:m.length≤1000000):
  EV G (Tb (bs bb)) 64 [vl (m.map Att.e),.one (.fn 166 [.ptr 0 0,.ptr 1 0])] [.box [.dc (.slc (l.map Att.e))],.box [.dc (ci i)]]=some (vi (idxV (fun a=>decide (a.id=l[i].id)) m),[.box [.dc (.slc (l.map Att.e))],.box [.dc (ci i)]]):=by
 refine EV_run rfl ?_
 simp (disch:=omega) only [go_sem,h64c,List.length_map]
 unfold idxV
 rw [EL_fst (fun k=>⟨(vl (m.map Att.e)::.one (.fn 166 [.ptr 0 0,.ptr 1 0])::jk 5 (vi m.length::vi k::jk 10 [])),[.box [.dc (.slc (l.map Att.e))],.box [.dc (ci i)]]⟩) (fun k=>decide ((m.getD k Att.nil).id=l[i].id)=true) m.length ?_ ?_]
 rotate_left
 ·rfl
 ·intro k hk hn
  have h3:=hn k (Nat.le_refl _)
  rw [getDA m k hk] at h3
  have h4:decide (m[k].id=l[i].id)=false:=by simpa using h3
  have q:=isId_v (G:=G) (bb:=bb) l i hi m[k]
  rw [h4] at q
  simp (disch:=omega) only [go_sem,h64l0,List.length_map,ixA,Att.e,q]
 obtain ⟨hk,hp,hn⟩:=ix_spec (fun k=>decide ((m.getD k Att.nil).id=l[i].id)=true) m.length
 generalize ix (fun k=>decide ((m.getD k Att.nil).id=l[i].id)=true) m.length=k at *
 rcases hp with rfl | ⟨hk',hp⟩
 ·rw [if_pos rfl]
  simp (disch:=omega) only [go_sem,h64l0,List.length_map]
 ·rw [if_neg (by omega)]
  rw [getDA m k hk'] at hp
  have q:=isId_v (G:=G) (bb:=bb) l i hi m[k]
  rw [hp] at q
  simp (disch:=omega) only [go_sem,h64l0,List.length_map,ixA,Att.e,q]
theorem idxV_pos (p:Att→Bool) (l:List Att):decide (0≤idxV p l)=l.any p:=by
 unfold idxV
 obtain ⟨hk,hp,hn⟩:=ix_spec (fun k=>p (l.getD k Att.nil)=true) l.length
 generalize ix (fun k=>p (l.getD k Att.nil)=true) l.length=k at *
 rcases hp with rfl | ⟨hk',hp⟩
 ·rw [if_pos rfl]
  symm
  rw [show decide ((0:Int)≤-1)=false from rfl,List.any_eq_false]
  intro x hx
  obtain ⟨j,hj,rfl⟩:=List.getElem_of_mem hx
  have:=hn j hj
  rw [getDA l j hj] at this
  exact this
 ·rw [if_neg (by omega),decide_eq_true (by omega)]
  symm
  rw [List.any_eq_true]
  rw [getDA l k hk'] at hp
  exact ⟨l[k],List.getElem_mem hk',hp⟩
theorem contI_v (l:List Att) (i:Nat) (hi:i < l.length) (m:List Att) (hm:m.length≤1000000):
  EV G (Tb (bs bb)) 130 [vl (m.map Att.e),.one (.fn 166 [.ptr 0 0,.ptr 1 0])] [.box [.dc (.slc (l.map Att.e))],.box [.dc (ci i)]]=some (vb (m.any fun a=>decide (a.id=l[i].id)),[.box [.dc (.slc (l.map Att.e))],.box [.dc (ci i)]]):=by
 refine EV_run rfl ?_
 have q:=idxI_v (G:=G) (bb:=bb) l i hi m hm
 rw [← idxV_pos]
 simp (disch:=omega) only [go_sem,h130c,q]
theorem mapM2 {α β:Type} (f:α→Option β) (x y:α):[x,y].mapM f=(f x).bind fun a=>(f y).map fun b=>[a,b]:=by
 simp only [List.mapM_cons,List.mapM_nil]
 cases f x with
 | none=>rfl
 | some a=>cases f y<;>rfl
def dupA (l:List Att) (i:Nat):Bool:=(l.take i).any fun a=>decide (a.id=(l.getD i Att.nil).id)
def sngE (l:List Att) (i:Nat):Int:=firstE [errA (l.getD i Att.nil),un (!dupA l i) 23]
theorem single_v (l:List Att) (hW:∀ a∈l,a.W) (hl:l.length≤1000) (i:Nat) (hi:i < l.length):EV G (Tb (bs bb)) 116 [vl (l.map Att.e),vi i] []=some (vi (sngE l i),[]):=by
 refine EV_run rfl ?_
 have q:=contI_v (G:=G) (bb:=bb) l i hi (l.take i) (by rw [List.length_take];omega)
 have q1:=checkA_v (G:=G) (bb:=bb) l[i] (hW _ (List.getElem_mem hi))
 rw [List.map_take] at q
 unfold sngE dupA
 rw [getDA l i hi]
 simp (disch:=omega) only [go_sem,h116c,List.length_map,ixA,Att.e,q,q1,all_att,unless8_u,first8_2,mapM2,Option.map_some,Option.bind_some]
end
section
variable {G:Glob} {bb:Bool}
def ordE (l:List Att) (k:Nat):Int:=if k=0 then sngE l 0 else
 firstE [sngE l k,un (decide (cmpA (l.getD (k - 1) Att.nil) (l.getD k Att.nil)≤0)) 9,un (!keyB (l.getD (k - 1) Att.nil) (l.getD k Att.nil)||decide ((l.getD k Att.nil).ty=48)) 5]
noncomputable def ordV (l:List Att):Int × Int:=if l.length > 32 then (0,8) else
 if ix (fun k=>ordE l k≠0) l.length < l.length then ((ix (fun k=>ordE l k≠0) l.length:Nat),ordE l (ix (fun k=>ordE l k≠0) l.length)) else (0,0)
abbrev iiv (p:Int × Int):AV:=.tup [.one (.dc (ci p.1)),.one (.dc (ci p.2))]
theorem ixP (l:List Att) (k:Nat) (hk:k < l.length) (h0:0 < k):(l.map Att.e)[((k:Int) - 1).toNat]?=some l[k - 1].e:=by
 rw [show ((k:Int) - 1).toNat=k - 1 by omega]
 exact ixA l (k - 1) (by omega)
set_option maxHeartbeats 4000000 in
theorem order_v (l:List Att) (hW:∀ a∈l,a.W) (hl:l.length≤1000):EV G (Tb (bs bb)) 63 [vl (l.map Att.e)] []=some (iiv (ordV l),[]):=by
 refine EV_run rfl ?_
 unfold ordV
 by_cases c1:l.length > 32
 ·rw [if_pos c1]
  have d2:32 < (l.length:Int):=by omega
  simp (disch:=omega) only [go_sem,h63c,List.length_map,eq_true d2]
 rw [if_neg c1]
 have d2:¬ 32 < (l.length:Int):=by omega
 simp (disch:=omega) only [go_sem,h63c,List.length_map,d2]
 rw [EL_fst (fun k=>⟨(vl (l.map Att.e)::jk 10 (vl (l.map Att.e)::vi l.length::vi k::jk 37 [])),[]⟩) (fun k=>ordE l k≠0) l.length ?_ ?_]
 rotate_left
 ·rfl
 ·intro k hk hn
  have hz:=Classical.not_not.1 (hn k (Nat.le_refl _))
  have q:=single_v (G:=G) (bb:=bb) l hW hl k hk
  by_cases h0:k=0
  ·subst h0
   simp only [ordE,if_true] at hz
   rw [hz] at q
   have q0:EV G (Tb (bs bb)) 116 [vl (l.map Att.e),vi 0] []=some (vi 0,[]):=q
   have i0:(l.map Att.e)[(0:Nat)]?=some l[0].e:=ixA l 0 hk
   simp (disch:=omega) only [go_sem,h63l0,List.length_map,ixA,i0,Att.e,str_nil,q0,Int.natCast_zero,Int.lt_irrefl,decide_false,Int.toNat_zero]
   rfl
  ·have d0:0 < (k:Int):=by omega
   unfold ordE at hz
   rw [if_neg h0,getDA l (k - 1) (by omega),getDA l k hk] at hz
   have iP:=ixP l k hk (by omega)
   have q1:=compare_v (G:=G) (bb:=bb) l[k - 1] l[k]
   have q2:=sameKey_v (G:=G) (bb:=bb) l[k - 1] l[k] (hW _ (List.getElem_mem _)).nm (hW _ (List.getElem_mem _)).nm
   cases hb:keyB l[k - 1] l[k] with
   | false=>
    rw [hb] at hz q2
    simp only [Bool.not_false,Bool.true_or] at hz
    simp (disch:=omega) only [go_sem,h63l0,List.length_map,ixA,iP,Att.e,str_nil,q,eq_true d0,q1,q2,unless8_u,first8_3,hz]
   | true=>
    rw [hb] at hz q2
    simp only [Bool.not_true,Bool.false_or] at hz
    simp (disch:=omega) only [go_sem,h63l0,List.length_map,ixA,iP,Att.e,str_nil,q,eq_true d0,q1,q2,unless8_u,first8_3,hz]
 obtain ⟨hk,hp,hn⟩:=ix_spec (fun k=>ordE l k≠0) l.length
 generalize ix (fun k=>ordE l k≠0) l.length=k at *
 rcases hp with rfl | ⟨hk',hz⟩
 ·rw [if_neg (Nat.lt_irrefl _)]
  simp (disch:=omega) only [go_sem,h63l0,List.length_map]
 ·rw [if_pos hk']
  have q:=single_v (G:=G) (bb:=bb) l hW hl k hk'
  by_cases h0:k=0
  ·subst h0
   simp only [ordE,if_true] at hz ⊢
   have q0:EV G (Tb (bs bb)) 116 [vl (l.map Att.e),vi 0] []=some (vi (sngE l 0),[]):=q
   have i0:(l.map Att.e)[(0:Nat)]?=some l[0].e:=ixA l 0 hk'
   simp (disch:=omega) only [go_sem,h63l0,List.length_map,ixA,i0,Att.e,str_nil,q0,Int.natCast_zero,Int.lt_irrefl,decide_false,Int.toNat_zero,hz]
  ·have d0:0 < (k:Int):=by omega
   unfold ordE at hz ⊢
   rw [if_neg h0,getDA l (k - 1) (by omega),getDA l k hk'] at hz ⊢
   have iP:=ixP l k hk' (by omega)
   have q1:=compare_v (G:=G) (bb:=bb) l[k - 1] l[k]
   have q2:=sameKey_v (G:=G) (bb:=bb) l[k - 1] l[k] (hW _ (List.getElem_mem _)).nm (hW _ (List.getElem_mem _)).nm
   cases hb:keyB l[k - 1] l[k] with
   | false=>
    rw [hb] at hz q2
    simp only [Bool.not_false,Bool.true_or] at hz ⊢
    simp (disch:=omega) only [go_sem,h63l0,List.length_map,ixA,iP,Att.e,str_nil,q,eq_true d0,q1,q2,unless8_u,first8_3,hz]
   | true=>
    rw [hb] at hz q2
    simp only [Bool.not_true,Bool.false_or] at hz ⊢
    simp (disch:=omega) only [go_sem,h63l0,List.length_map,ixA,iP,Att.e,str_nil,q,eq_true d0,q1,q2,unless8_u,first8_3,hz]
end
section
variable {G:Glob} {bb:Bool}
theorem ordE_0 {l:List Att} {k:Nat} (h0:k≠0) (hk:k < l.length) (h:ordE l k=0):sngE l k=0∧cmpA l[k - 1] l[k]≤0∧(keyB l[k - 1] l[k]=true→l[k].ty=48):=by
 unfold ordE at h
 rw [if_neg h0,getDA l (k - 1) (by omega),getDA l k hk] at h
 by_cases c1:sngE l k=0
 ·rw [c1,firstE_0] at h
  by_cases c2:cmpA l[k - 1] l[k]≤0
  ·rw [decide_eq_true c2,un_t,firstE_0] at h
   refine ⟨c1,c2,fun hb=>?_⟩
   rw [hb] at h
   by_cases c3:l[k].ty=48
   ·exact c3
   ·rw [decide_eq_false c3] at h
    exact absurd h (by simp [un,firstE])
  ·rw [decide_eq_false c2] at h
   exact absurd h (by simp [un,firstE])
 ·rw [firstE_n _ _ c1] at h
  exact absurd h c1
theorem keyB_t {a b:Att}:keyB a b=true↔a.ty=b.ty∧a.nm=b.nm∧a.fi=b.fi:=by simp [keyB]
end
section
variable {G:Glob} {bb:Bool}
end
section
variable {G:Glob} {B:CallT}
end
section
variable {G:Glob} {bb:Bool}
end
section
variable {G:Glob} {bb:Bool}
end
section
variable {G:Glob} {bb:Bool}
theorem takeA (l:List Att) (k:Nat) (hk:k < l.length):(l.take (k+1)).map Att.e=(l.take k).map Att.e++[l[k].e]:=by
 rw [List.take_succ_eq_append_getElem hk,List.map_append];rfl
end
end Go.Proofs.YtcplecjhmnblpaaGreatDoor
