/- The base of the table for lists that are sorted. Conditions: none. -/
import Derived.Test.YthepfneloomngaaGreatDoorTe
import Derived.Test.YthepfneloomngaaGreatDoorTg
import Derived.Test.YthepfneloomngaaGreatDoorNh
import Derived.Shelf.SlSortCmp.NoneTotal
namespace Go.Proofs.YthepfneloomngaaGreatDoor
set_option linter.unusedSimpArgs false
set_option linter.unusedVariables false
set_option maxRecDepth 4000
variable {G:aE}{bb:Bool}
open Go.Sort
theorem Vd(p:Option Addr)(cap:Nat)(fv:Value)(w:World):Calls Tryz.prog 244 #[.slice p 0 cap,fv] w fun e w'=>e=.returned (.tuple #[])/\w'=w:=
 AnyF.slices_SortFunc_none Tryz.laysSlsf6_f102 p cap fv w
theorem aFz:AC Tryz.prog G 244 [.one (.dc (.slc [])),.one (.fn 245 [])] [] fun av o=>av=.tup []/\o=[]:=by
 intro F γ vs w hi hg hv;obtain⟨hz2,hv⟩:=hv;obtain⟨l⟩:=vs
 match l,hz2 with
 |[x,y],_=>
  have hx:=hv 0 _ _ rfl rfl;have hp:∃p cap,x=.slice p 0 cap:=by
   cases hx with|one _ _ hx=>cases hx with
   | dc d v h=>cases h with
    | nil A c=>exact⟨_,_,rfl⟩
    | slc b off c size es g h1 h2 h3 h4=>exact⟨_,_,rfl⟩
  obtain⟨p,cap,rfl⟩:=hp;refine (Vd p cap y w).mono ?_;rintro e w' ⟨rfl,rfl⟩;exact⟨_,.tup [],_,F,γ,rfl,⟨rfl,rfl⟩,aXF _,gU.refl _ _ _ _,hi,.tup _ _ rfl (fun i t v h=>by simp at h)⟩
def aFA(n:Nat):Option (List DC)->Option (AV×List aC)
 |some ds=>if 0<n/\ds.length=n*11/\(fE 11 n ds).all okD=true/\((fE 11 n ds).map fun e=>(lT e).2.2.2).Nodup/\n<4611686018427387904 then some (.tup [],[.box (mD (qJ Yl (fE 11 n ds)).flatten)]) else none
 |none=>none
def R4:List AV->List aC->Option (AV×List aC)
 |[.one (.bls 0 0 n 11),.one (.fn 245 [])],[.box cs]=>aFA n (dcs cs)
 |[.one (.dc (.slc [])),.one (.fn 245 [])],[]=>some (.tup [],[])
 |_,_=>none
theorem I0{s:Nat}:∀es:List (List DC),(∀e∈es,e.length=s)->fE s es.length es.flatten=es
 |[],_=>rfl
 | e::es,h=>by
  have he:=h e (aXV ..);rw[aXE,fE,aYA,aYX he,List.drop_left' he,I0 es (fun x hx=>h x (aX3 _ hx))]
theorem aKc{s n:Nat}{es:List (List DC)}(h:∀e∈es,e.length=s)(hn:es.length=n):dcs (List.take (n*s) (mD es.flatten))=some es.flatten/\es.flatten.length=n*s/\fE s n es.flatten=es:=by
 subst hn;have hf:=(pZ es h).1;refine⟨?_,hf,I0 es h⟩;rw[aYe (by rw[mD,aXC,hf];exact aXF _),Fu]
def okL(l:List aJ):Prop:=l.length<=1000/\∀a∈l,a.rs.length<=1000000
open Classical in
noncomputable def rsK:List AV->List aC->Option (AV×List aC)
 |[.one (.dc (.slc es))],[]=>if ∃l:List aJ,okL l/\es=l.map aJ.e then some (.one (.dc (.slc (qJ Yl es))),[]) else none
 |_,_=>none
noncomputable def kD(b:Bool):aO:=fun f args hp=>if f=244 then R4 args hp else if f=196 then rsK args hp else if f=241 then Hu [(241,11,120)] f args hp else bs b f args hp
theorem R5{hp0:List aC}{cs:List aT}(h:hp0.map aP=[.box cs]):hp0=[.box cs]:=by
 match hp0,h with
 |[],h=>simp at h
 |_::_::_,h=>simp at h
 |[o],h=>
  simp only[aXL,aXT,List.cons.injEq,and_true] at h;cases o<;>simp[aP] at h;rw[h]
theorem aKd{f:FuncId}{args:List AV}{av:AV}(h:QC Tryz.prog G f args av):AC Tryz.prog G f args [] fun a o=>a=av/\o.map aP=[]:=
 h.gh (fun a o ⟨h1,h2⟩ _=>⟨a,o,Gh.refl,aXX _,h1,by rw[h2];rfl⟩)
theorem aFB{b:Bool}(hA:b=true->QC Tryz.prog G 11 [] (.one (.dc (.raw (.bool true))))):cE Tryz.prog G (kD b):=by
 intro f args hp av o' h hp0 hh;unfold kD at h;split at h;rename_i hf;subst hf;refine⟨by kernel_rfl,?_⟩;unfold R4 at h;split at h
 ·rename_i n cs;cases hd:dcs cs with
  |none=>rw[hd] at h;cases h
  |some ds=>
  rw[hd] at h;simp only[aFA] at h;split at h;rename_i hc;obtain⟨h0,h4,h1,h2,h3⟩:=hc;injection h with h;injection h with g1 g2;subst g1;subst g2
  have hb:=R5 hh;subst hb;obtain⟨e1,e2,e3⟩:=kH 11 n ds h4;have q:=aFt (G:=G) (es:=fE 11 n ds) (fun e=>by rw[e] at e3;simp at e3;omega) (aY2.1 h1) h2 (by rw[e3];exact h3)
  rw[e3,e1,<- lY hd] at q;exact q.gh (fun a o ⟨h1,h2⟩ _=>⟨a,o,Gh.refl,Nat.le_of_eq (by rw[h2]<;>rfl),h1,by rw[h2]<;>rfl⟩)
  cases h
 injection h with h;injection h with g1 g2;subst g1;subst g2
 have:hp0=[]:=by simpa using hh
 subst this;exact aFz.gh (fun a o ⟨h1,h2⟩ _=>⟨a,o,Gh.refl,Nat.le_of_eq (by rw[h2]<;>rfl),h1,by rw[h2];rfl⟩)
 cases h;split at h;rename_i hf;subst hf;refine⟨by kernel_rfl,?_⟩;unfold rsK at h;split at h;split at h;rename_i hc;obtain⟨l,hl,rfl⟩:=hc;injection h with h;injection h with h1 h2;subst h1;subst h2
 have:hp0=[]:=by simpa using hh
 subst this;have q:=R0 (G:=G) (bb:=false) l hl.1 hl.2;rw[Vc];refine aKd (Qn aTI (fun f args hp av o' h hp0 hh=>?_) q)
 obtain⟨n,hn⟩:=iN h;exact qA (K5 (bs false)) (aLV (fun h=>by cases h)) n f args hp av o' hn hp0 hh
 cases h;cases h;split at h
 exact Db [(241,11,120)] (fun e he=>by
  simp only[List.mem_singleton] at he;subst he;exact⟨by kernel_rfl,_,[Zi 0,.string ⟨#[]⟩,Zi 0,Zi 0,.bool false,.string ⟨#[]⟩,Zi 0,.slice none 0 0,Zi 0,Zi 0,Zi 0],Tryz.func241,Tryz.ntmps241,h241_ok,aIh,by decide⟩) f args hp av o' h hp0 hh
 exact aLV hA f args hp av o' h hp0 hh
theorem aO9{b:Bool}(f:FuncId)(args:List AV)(hp:List aC)(r:AV×List aC)(h:bs b f args hp=some r):kD b f args hp=some r:=by
 unfold kD;split;rename_i hf;subst hf;have h:(none:Option (AV×List aC))=some r:=h;cases h;split;rename_i hf;subst hf;have h:(none:Option (AV×List aC))=some r:=h;cases h;split;rename_i hf;subst hf;have h:(none:Option (AV×List aC))=some r:=h;cases h;exact h
theorem up{b:Bool}{f:FuncId}{a:List AV}{hp:List aC}{r:AV×List aC}(h:EV G (Tb (bs b)) f a hp=some r):EV G (Tb (kD b)) f a hp=some r:=
 Yo (T:=Tb (bs b)) (T':=Tb (kD b)) (fun _=>rfl) (fun f a hp r _ h=>aO9 f a hp r h) h
theorem aPa{b:Bool}{args:List AV}{hp:List aC}:kD b 196 args hp=rsK args hp:=by
 unfold kD;rw[if_neg (by decide),if_pos rfl]
theorem Yp{b:Bool}{args:List AV}{hp:List aC}:kD b 244 args hp=R4 args hp:=by
 unfold kD;rw[if_pos rfl]
theorem aV3{b:Bool}(l:List aJ)(h:okL l):EV G (Tb (kD b)) 196 [vl (l.map aJ.e)] []=some (vl ((dD l).map aJ.e),[]):=by
 refine gP rfl ?_;show kD b 196 [vl (l.map aJ.e)] []=some (vl ((dD l).map aJ.e),[]);rw[aPa];simp only[rsK];rw[if_pos ⟨l,h,rfl⟩,Vc]
theorem aKe{b:Bool}(l:List aJ)(h:(l.map aJ.id).Nodup)(hl:l.length<=1000)(h0:0<l.length):EV G (Tb (kD b)) 244 [.one (.bls 0 0 l.length 11),.one (.fn 245 [])] [.box (mD (l.map aJ.e).flatten)]=some (.tup [],[.box (mD ((dD l).map aJ.e).flatten)]):=by
 refine gP rfl ?_;show kD b 244 [.one (.bls 0 0 l.length 11),.one (.fn 245 [])] [.box (mD (l.map aJ.e).flatten)]=some (.tup [],[.box (mD ((dD l).map aJ.e).flatten)]);rw[Yp];simp only[R4];rw[Fu];simp only[aFA];have hz:∀e∈l.map aJ.e,e.length=11:=fun e he=>by obtain⟨a,_,rfl⟩:=List.mem_map.1 he;rfl
 have hc:=I0 (l.map aJ.e) hz;rw[aXC] at hc;have hf:=(pZ (l.map aJ.e) hz).1;rw[aXC] at hf;have e:((l.map aJ.e).map fun e=>(lT e).2.2.2)=l.map aJ.id:=by rw[aX1];rfl
 rw[hc,if_pos ⟨h0,hf,by rw[aY2];intro x hx;obtain⟨a,_,rfl⟩:=List.mem_map.1 hx;rfl,by rw[e];exact h,by omega⟩,Vc]
theorem aKf{b:Bool}:EV G (Tb (kD b)) 244 [.one (.dc (.slc [])),.one (.fn 245 [])] []=some (.tup [],[]):=by
 refine gP rfl ?_;show kD b 244 [.one (.dc (.slc [])),.one (.fn 245 [])] []=some (.tup [],[]);rw[Yp];simp only[R4]
theorem aFC(l:List aJ)(hl:l.length<=1000000):EV G (Tb (kD bb)) 241 [vl (l.map aJ.e)] []=some (.one (.bld 0 l.length),[.arr 0 11 (l.map aJ.e)]):=by
 refine gP rfl ?_;show (if gE 11 (l.map aJ.e)=true/\(l.map aJ.e).length*120<=140737488355328 then some (AV.one (.bld 0 (l.map aJ.e).length),[aC.arr 0 11 (l.map aJ.e)]) else none)=_
 have h1:gE 11 (l.map aJ.e)=true:=kJ (f:=aJ.e) (fun _=>rfl) l
 rw[if_pos ⟨h1,by rw[aXC];omega⟩,aXC]
end Go.Proofs.YthepfneloomngaaGreatDoor
