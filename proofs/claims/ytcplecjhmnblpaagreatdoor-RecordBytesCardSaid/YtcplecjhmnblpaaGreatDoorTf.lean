/- The base of the table for lists that are sorted. Conditions: none. -/
import Derived.Test.YtcplecjhmnblpaaGreatDoorTe
import Derived.Test.YtcplecjhmnblpaaGreatDoorTg
import Derived.Test.YtcplecjhmnblpaaGreatDoorNh
import Derived.Shelf.SlSortCmp.NoneTotal
namespace Go.Proofs.YtcplecjhmnblpaaGreatDoor
set_option linter.unusedSimpArgs false
set_option linter.unusedVariables false
set_option maxRecDepth 4000
variable {G:aH} {bb:Bool}
open Go.Sort
theorem N5(p:Option Addr)(cap:Nat)(fv:Value)(w:World):Calls Tryz.prog 134 #[.slice p 0 cap,fv] w fun e w'=>e=.returned (.tuple #[])/\w'=w:=
 AnyF.slices_SortFunc_none Tryz.laysSlsf6_f102 p cap fv w
theorem aA5:AC Tryz.prog G 134 [.one (.dc (.slc [])),.one (.fn 119 [])] [] fun av o=>av=.tup []/\o=[]:=by
 intro F γ vs w hi hg hv;obtain⟨hz2,hv⟩:=hv;obtain⟨l⟩:=vs
 match l,hz2 with
 | [x,y],_=>
  have hx:=hv 0 _ _ rfl rfl;have hp:∃ p cap,x=.slice p 0 cap:=by
   cases hx with | one _ _ hx=>cases hx with
   | dc d v h=>cases h with
    | nil A c=>exact⟨_,_,rfl⟩
    | slc b off c size es g h1 h2 h3 h4=>exact⟨_,_,rfl⟩
  obtain⟨p,cap,rfl⟩:=hp;refine (N5 p cap y w).mono ?_;rintro e w' ⟨rfl,rfl⟩;exact⟨_,.tup [],_,F,γ,rfl,⟨rfl,rfl⟩,aQf _,gP.refl _ _ _ _,hi,.tup _ _ rfl (fun i t v h=>by simp at h)⟩
def aA6(n:Nat):Option (List DC)->Option (AV × List aC)
 | some ds=>if 0 < n/\ds.length=n * 11/\(fA 11 n ds).all okD=true/\((fA 11 n ds).map fun e=>(lL e).2.2.2).Nodup/\n < 4611686018427387904 then some (.tup [],[.box (jB (pM Re (fA 11 n ds)).flatten)]) else none
 | none=>none
def K2:List AV->List aC->Option (AV × List aC)
 | [.one (.bls 0 0 n 11),.one (.fn 119 [])],[.box cs]=>aA6 n (dcs cs)
 | [.one (.dc (.slc [])),.one (.fn 119 [])],[]=>some (.tup [],[])
 | _,_=>none
theorem Co{s:Nat}:∀ es:List (List DC),(∀ e∈es,e.length=s)->fA s es.length es.flatten=es
 | [],_=>rfl
 | e::es,h=>by
  have he:=h e (aQt ..);rw[aQd,fA,aQ5,aRo he,List.drop_left' he,Co es (fun x hx=>h x (aQE _ hx))]
theorem aFc{s n:Nat}{es:List (List DC)}(h:∀ e∈es,e.length=s)(hn:es.length=n):dcs (List.take (n * s) (jB es.flatten))=some es.flatten/\es.flatten.length=n * s/\fA s n es.flatten=es:=by
 subst hn;have hf:=(pD es h).1;refine⟨?_,hf,Co es h⟩;rw[aQM (by rw[jB,aQb,hf];exact aQf _),zW]
def okL(l:List aE):Prop:=l.length<=1000/\∀ a∈l,a.rs.length<=1000000
open Classical in
noncomputable def rsK:List AV->List aC->Option (AV × List aC)
 | [.one (.dc (.slc es))],[]=>if ∃ l:List aE,okL l/\es=l.map aE.e then some (.one (.dc (.slc (pM Re es))),[]) else none
 | _,_=>none
noncomputable def iM(b:Bool):aW:=fun f args hp=>if f=134 then K2 args hp else if f=81 then rsK args hp else if f=132 then Bq [(132,11,120)] f args hp else bs b f args hp
theorem K3{hp0:List aC}{cs:List aR}(h:hp0.map aN=[.box cs]):hp0=[.box cs]:=by
 match hp0,h with
 | [],h=>simp at h
 | _::_::_,h=>simp at h
 | [o],h=>
  simp only[aQo,aQn,List.cons.injEq,and_true] at h;cases o<;>simp[aN] at h;rw[h]
theorem aFd{f:FuncId}{args:List AV}{av:AV}(h:QC Tryz.prog G f args av):AC Tryz.prog G f args [] fun a o=>a=av/\o.map aN=[]:=
 h.gh (fun a o ⟨h1,h2⟩ _=>⟨a,o,Gh.refl,aQD _,h1,by rw[h2];rfl⟩)
theorem N6{b:Bool}(hA:b=true->QC Tryz.prog G 11 [] (.one (.dc (.raw (.bool true))))):cE Tryz.prog G (iM b):=by
 intro f args hp av o' h hp0 hh;unfold iM at h;split at h
 ·rename_i hf;subst hf;refine⟨by kernel_rfl, ?_⟩;unfold K2 at h;split at h
  ·rename_i n cs;cases hd:dcs cs with
   | none=>rw[hd] at h;cases h
   | some ds=>
   rw[hd] at h;simp only[aA6] at h;split at h
   ·rename_i hc;obtain⟨h0,h4,h1,h2,h3⟩:=hc;injection h with h;injection h with g1 g2;subst g1;subst g2
    have hb:=K3 hh;subst hb;obtain⟨e1,e2,e3⟩:=jX 11 n ds h4;have q:=aAY (G:=G) (es:=fA 11 n ds) (fun e=>by rw[e] at e3;simp at e3;omega) (aRl.1 h1) h2 (by rw[e3];exact h3)
    rw[e3,e1,<- lO hd] at q;exact q.gh (fun a o ⟨h1,h2⟩ _=>⟨a,o,Gh.refl,Nat.le_of_eq (by rw[h2]<;>rfl),h1,by rw[h2]<;>rfl⟩)
   ·cases h
  ·injection h with h;injection h with g1 g2;subst g1;subst g2
   have:hp0=[]:=by simpa using hh
   subst this;exact aA5.gh (fun a o ⟨h1,h2⟩ _=>⟨a,o,Gh.refl,Nat.le_of_eq (by rw[h2]<;>rfl),h1,by rw[h2];rfl⟩)
  ·cases h
 ·split at h
  ·rename_i hf;subst hf;refine⟨by kernel_rfl, ?_⟩;unfold rsK at h;split at h
   ·split at h
    ·rename_i hc;obtain⟨l,hl,rfl⟩:=hc;injection h with h;injection h with h1 h2;subst h1;subst h2
     have:hp0=[]:=by simpa using hh
     subst this;have q:=K0 (G:=G) (bb:=false) l hl.1 hl.2;rw[aA2];refine aFd (Qq aMP (fun f args hp av o' h hp0 hh=>?_) q)
     obtain⟨n,hn⟩:=jM h;exact vM (J0 (bs false)) (aGx (fun h=>by cases h)) n f args hp av o' hn hp0 hh
    ·cases h
   ·cases h
  ·split at h
   ·exact xF [(132,11,120)] (fun e he=>by
     simp only[List.mem_singleton] at he;subst he;exact⟨by kernel_rfl,_,[Zi 0,.string ⟨#[]⟩,Zi 0,Zi 0,.bool false,.string ⟨#[]⟩,Zi 0,.slice none 0 0,Zi 0,Zi 0,Zi 0],Tryz.func132,Tryz.ntmps132,h132_ok,aDr,by decide⟩) f args hp av o' h hp0 hh
   ·exact aGx hA f args hp av o' h hp0 hh
theorem aJj{b:Bool}(f:FuncId)(args:List AV)(hp:List aC)(r:AV × List aC)(h:bs b f args hp=some r):iM b f args hp=some r:=by
 unfold iM;split
 ·rename_i hf;subst hf;have h:(none:Option (AV × List aC))=some r:=h;cases h
 ·split
  ·rename_i hf;subst hf;have h:(none:Option (AV × List aC))=some r:=h;cases h
  ·split
   ·rename_i hf;subst hf;have h:(none:Option (AV × List aC))=some r:=h;cases h
   ·exact h
theorem up{b:Bool}{f:FuncId}{a:List AV}{hp:List aC}{r:AV × List aC}(h:EV G (Tb (bs b)) f a hp=some r):EV G (Tb (iM b)) f a hp=some r:=
 aGJ (T:=Tb (bs b)) (T':=Tb (iM b)) (fun _=>rfl) (fun f a hp r _ h=>aJj f a hp r h) h
theorem Rh{b:Bool}{args:List AV}{hp:List aC}:iM b 134 args hp=K2 args hp:=by
 unfold iM;rw[if_pos rfl]
theorem aFe{b:Bool}(l:List aE)(h:(l.map aE.id).Nodup)(hl:l.length<=1000)(h0:0 < l.length):EV G (Tb (iM b)) 134 [.one (.bls 0 0 l.length 11),.one (.fn 119 [])] [.box (jB (l.map aE.e).flatten)]=some (.tup [],[.box (jB ((dL l).map aE.e).flatten)]):=by
 refine jE rfl ?_;show iM b 134 [.one (.bls 0 0 l.length 11),.one (.fn 119 [])] [.box (jB (l.map aE.e).flatten)]=some (.tup [],[.box (jB ((dL l).map aE.e).flatten)]);rw[Rh];simp only[K2];rw[zW];simp only[aA6];have hz:∀ e∈l.map aE.e,e.length=11:=fun e he=>by obtain⟨a,_,rfl⟩:=List.mem_map.1 he;rfl
 have hc:=Co (l.map aE.e) hz;rw[aQb] at hc;have hf:=(pD (l.map aE.e) hz).1;rw[aQb] at hf;have e:((l.map aE.e).map fun e=>(lL e).2.2.2)=l.map aE.id:=by rw[aQC];rfl
 rw[hc,if_pos ⟨h0,hf,by rw[aRl];intro x hx;obtain⟨a,_,rfl⟩:=List.mem_map.1 hx;rfl,by rw[e];exact h,by omega⟩,aA2]
theorem aFf{b:Bool}:EV G (Tb (iM b)) 134 [.one (.dc (.slc [])),.one (.fn 119 [])] []=some (.tup [],[]):=by
 refine jE rfl ?_;show iM b 134 [.one (.dc (.slc [])),.one (.fn 119 [])] []=some (.tup [],[]);rw[Rh];simp only[K2]
theorem aA7(l:List aE)(hl:l.length<=1000000):EV G (Tb (iM bb)) 132 [vl (l.map aE.e)] []=some (.one (.bld 0 l.length),[.arr 0 11 (l.map aE.e)]):=by
 refine jE rfl ?_;show (if fZ 11 (l.map aE.e)=true/\(l.map aE.e).length * 120<=140737488355328 then some (AV.one (.bld 0 (l.map aE.e).length),[aC.arr 0 11 (l.map aE.e)]) else none)=_
 have h1:fZ 11 (l.map aE.e)=true:=iV (f:=aE.e) (fun _=>rfl) l
 rw[if_pos ⟨h1,by rw[aQb];omega⟩,aQb]
end Go.Proofs.YtcplecjhmnblpaaGreatDoor
