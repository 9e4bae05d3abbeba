/- Part. Conditions: none. -/
import Derived.Test.YtgdjbbnicgfohabGreatDoorTe
import Derived.Test.YtgdjbbnicgfohabGreatDoorTg
import Derived.Test.YtgdjbbnicgfohabGreatDoorNh
import Derived.Shelf.SlSortCmp.NoneTotal
namespace Go.Proofs.YtgdjbbnicgfohabGreatDoor
set_option linter.unusedSimpArgs false
set_option linter.unusedVariables false
set_option maxRecDepth 4000
variable {G:aF}{bb:Bool}
open Go.Sort
theorem Yi(p:Option Addr)(cap:Nat)(a:Value)(w:World):Calls Tryz.prog 161 #[.slice p 0 cap,a] w fun e w'=>e=.returned (.tuple #[])/\w'=w:=
 AnyF.slices_SortFunc_none Tryz.laysSlsf6_f102 p cap a w
theorem aHj:AC Tryz.prog G 161 [.one (.dc (.slc [])),.one (.fn 162 [])] [] fun k o=>k=.tup []/\o=[]:=by
 intro F γ vs w m r a;obtain⟨j,a⟩:=a;obtain⟨l⟩:=vs
 match l,j with
 |[x,y],_=>
  have f:=a 0 _ _ rfl rfl;have hp:∃p cap,x=.slice p 0 cap:=by
   cases f with|one _ _ f=>cases f with
   | dc d v h=>cases h with
    | nil A c=>exact⟨_,_,rfl⟩
    | slc b off c size es g n q h3 h4=>exact⟨_,_,rfl⟩
  obtain⟨p,cap,rfl⟩:=hp;refine (Yi p cap y w).mono ?_;rintro e w' ⟨rfl,rfl⟩;exact⟨_,.tup [],_,F,γ,rfl,⟨rfl,rfl⟩,aZE _,iK.refl _ _ _ _,m,.tup _ _ rfl (fun i t v h=>by simp at h)⟩
def aHk(n:Nat):Option (L DC)->Option (AV×L aD)
 |some a=>if 0<n/\a.length=n*11/\(gD 11 n a).all okD=true/\((gD 11 n a).map fun e=>(mV e).2.2.2).Nodup/\n<4611686018427387904 then some (.tup [],[.box (kP (Ha cmD (gD 11 n a)).flatten)]) else none
 |none=>none
def Un:L AV->L aD->Option (AV×L aD)
 |[.one (.bls 0 0 n 11),.one (.fn 162 [])],[.box cs]=>aHk n (dcs cs)
 |[.one (.dc (.slc [])),.one (.fn 162 [])],[]=>some (.tup [],[])
 |_,_=>none
theorem Ko{s:Nat}:∀es:L (L DC),(∀e∈es,e.length=s)->gD s es.length es.flatten=es
 |[],_=>rfl
 | e::es,h=>by
  have a:=h e (aZV ..);rw[aZC,gD,bAw,bAT a,List.drop_left' a,Ko es (fun x b=>h x (aZ2 _ b))]
theorem aL8{s n:Nat}{es:L (L DC)}(h:∀e∈es,e.length=s)(a:es.length=n):dcs (List.take (n*s) (kP es.flatten))=some es.flatten/\es.flatten.length=n*s/\gD s n es.flatten=es:=by
 subst a;have hf:=(rK es h).1;refine⟨?_,hf,Ko es h⟩;rw[bAc (by rw[kP,aZA,hf];exact aZE _),Ht]
noncomputable def lA(b:Bool):aO:=fun f a hp=>if f=161 then Un a hp else if f=157 then Jt [(157,11,120)] f a hp else bs b f a hp
theorem Uo{a:L aD}{cs:L aU}(h:a.map aQ=[.box cs]):a=[.box cs]:=by
 match a,h with
 |[],h=>simp at h
 |_::_::_,h=>simp at h
 |[o],h=>
  simp only[aZM,aZN,List.cons.injEq,and_true] at h;cases o<;>simp[aQ] at h;rw[h]
theorem aQS{b:Bool}(w:b=true->QC Tryz.prog G 4 [] (.one (.dc (.raw (.bool true))))):cH Tryz.prog G (lA b):=by
 intro f c hp r u h g k;unfold lA at h;split at h;rename_i hf;subst hf;refine⟨by kernel_rfl,?_⟩;unfold Un at h;split at h
 ·rename_i n cs;cases p:dcs cs with
  |none=>rw[p] at h;cases h
  |some s=>
  rw[p] at h;simp only[aHk] at h;split at h;rename_i y;obtain⟨A,h4,i,d,h3⟩:=y;injection h with h;injection h with l m;subst l;subst m
  have x:=Uo k;subst x;obtain⟨v,z,j⟩:=lF 11 n s h4;have q:=aHc (G:=G) (es:=gD 11 n s) (fun e=>by rw[e] at j;simp at j;omega) (bAW.1 i) d (by rw[j];exact h3)
  rw[j,v,<- mY p] at q;exact q.gh (fun a o ⟨i,d⟩ _=>⟨a,o,Gh.refl,Nat.le_of_eq (by rw[d]<;>rfl),i,by rw[d]<;>rfl⟩)
  cases h
 injection h with h;injection h with l m;subst l;subst m
 have:g=[]:=by simpa using k
 subst this;exact aHj.gh (fun a o ⟨i,d⟩ _=>⟨a,o,Gh.refl,Nat.le_of_eq (by rw[d]<;>rfl),i,by rw[d];rfl⟩)
 cases h;split at h
 exact E5 [(157,11,120)] (fun e t=>by
  simp only[List.mem_singleton] at t;subst t;exact⟨by kernel_rfl,_,[Zi 0,.string ⟨#[]⟩,Zi 0,Zi 0,.bool false,.string ⟨#[]⟩,Zi 0,.slice none 0 0,Zi 0,Zi 0,Zi 0],Tryz.func157,Tryz.ntmps157,h157_ok,aKn,by decide⟩) f c hp r u h g k
 exact aU6 w f c hp r u h g k
theorem aQT{b:Bool}(f:FuncId)(a:L AV)(hp:L aD)(r:AV×L aD)(h:bs b f a hp=some r):lA b f a hp=some r:=by
 unfold lA;split;rename_i hf;subst hf;have h:(none:Option (AV×L aD))=some r:=h;cases h;split;rename_i hf;subst hf;have h:(none:Option (AV×L aD))=some r:=h;cases h;exact h
theorem up{b:Bool}{f:FuncId}{a:L AV}{hp:L aD}{r:AV×L aD}(h:EV G (Tb (bs b)) f a hp=some r):EV G (Tb (lA b)) f a hp=some r:=
 aHi (T:=Tb (bs b)) (T':=Tb (lA b)) (fun _=>rfl) (fun f a hp r _ h=>aQT f a hp r h) h
theorem aA3{b:Bool}{a:L AV}{hp:L aD}:lA b 161 a hp=Un a hp:=by
 unfold lA;rw[if_pos rfl]
theorem aL9{b:Bool}(l:L aJ)(h:(l.map aJ.id).Nodup)(j:l.length<=1000)(f:0<l.length):EV G (Tb (lA b)) 161 [.one (.bls 0 0 l.length 11),.one (.fn 162 [])] [.box (kP (l.map aJ.e).flatten)]=some (.tup [],[.box (kP ((fK l).map aJ.e).flatten)]):=by
 refine jF rfl ?_;show lA b 161 [.one (.bls 0 0 l.length 11),.one (.fn 162 [])] [.box (kP (l.map aJ.e).flatten)]=some (.tup [],[.box (kP ((fK l).map aJ.e).flatten)]);rw[aA3];simp only[Un];rw[Ht];simp only[aHk];have d:∀e∈l.map aJ.e,e.length=11:=fun e g=>by obtain⟨a,_,rfl⟩:=List.mem_map.1 g;rfl
 have c:=Ko (l.map aJ.e) d;rw[aZA] at c;have hf:=(rK (l.map aJ.e) d).1;rw[aZA] at hf;have e:((l.map aJ.e).map fun e=>(mV e).2.2.2)=l.map aJ.id:=by rw[aZ4];rfl
 rw[c,if_pos ⟨f,hf,by rw[bAW];intro x i;obtain⟨a,_,rfl⟩:=List.mem_map.1 i;rfl,by rw[e];exact h,by omega⟩,aQQ]
theorem aMa{b:Bool}:EV G (Tb (lA b)) 161 [.one (.dc (.slc [])),.one (.fn 162 [])] []=some (.tup [],[]):=by
 refine jF rfl ?_;show lA b 161 [.one (.dc (.slc [])),.one (.fn 162 [])] []=some (.tup [],[]);rw[aA3];simp only[Un]
theorem aHl(l:L aJ)(b:l.length<=1000000):EV G (Tb (lA bb)) 157 [vl (l.map aJ.e)] []=some (.one (.bld 0 l.length),[.arr 0 11 (l.map aJ.e)]):=by
 refine jF rfl ?_;show (if gG 11 (l.map aJ.e)=true/\(l.map aJ.e).length*120<=140737488355328 then some (AV.one (.bld 0 (l.map aJ.e).length),[aD.arr 0 11 (l.map aJ.e)]) else none)=_
 have a:gG 11 (l.map aJ.e)=true:=jG (f:=aJ.e) (fun _=>rfl) l
 rw[if_pos ⟨a,by rw[aZA];omega⟩,aZA]
