/- Part. Conditions: none. -/
import Derived.Test.YtalhnjjchkmfeaaGreatDoorTe
import Derived.Test.YtalhnjjchkmfeaaGreatDoorTg
import Derived.Test.YtalhnjjchkmfeaaGreatDoorNh
import Derived.Shelf.SlSortCmp.NoneTotal
namespace Go.Proofs.YtalhnjjchkmfeaaGreatDoor
set_option linter.unusedSimpArgs false
set_option linter.unusedVariables false
set_option maxRecDepth 4000
variable {G:aF}{bb:Bool}
open Go.Sort
theorem Yh(p:Option Addr)(cap:Nat)(a:Value)(w:World):Calls Tryz.prog 174 #[.slice p 0 cap,a] w fun e w'=>e=.returned (.tuple #[])/\w'=w:=
 AnyF.slices_SortFunc_none Tryz.laysSlsf6_f102 p cap a w
theorem aHp:AC Tryz.prog G 174 [.one (.dc (.slc [])),.one (.fn 175 [])] [] fun k o=>k=.tup []/\o=[]:=by
 intro F γ vs w m r a;obtain⟨j,a⟩:=a;obtain⟨l⟩:=vs
 match l,j with
 |[x,y],_=>
  have f:=a 0 _ _ rfl rfl;have hp:∃p cap,x=.slice p 0 cap:=by
   cases f with|one _ _ f=>cases f with
   | dc d v h=>cases h with
    | nil A c=>exact⟨_,_,rfl⟩
    | slc b off c size es g n q h3 h4=>exact⟨_,_,rfl⟩
  obtain⟨p,cap,rfl⟩:=hp;refine (Yh p cap y w).mono ?_;rintro e w' ⟨rfl,rfl⟩;exact⟨_,.tup [],_,F,γ,rfl,⟨rfl,rfl⟩,aZE _,iL.refl _ _ _ _,m,.tup _ _ rfl (fun i t v h=>by simp at h)⟩
def aHq(n:Nat):Option (L DC)->Option (AV×L aD)
 |some a=>if 0<n/\a.length=n*11/\(gD 11 n a).all okD=true/\((gD 11 n a).map fun e=>(mW e).2.2.2).Nodup/\n<4611686018427387904 then some (.tup [],[.box (kY (Hf cmD (gD 11 n a)).flatten)]) else none
 |none=>none
def Ul:L AV->L aD->Option (AV×L aD)
 |[.one (.bls 0 0 n 11),.one (.fn 175 [])],[.box cs]=>aHq n (dcs cs)
 |[.one (.dc (.slc [])),.one (.fn 175 [])],[]=>some (.tup [],[])
 |_,_=>none
theorem Kn{s:Nat}:∀es:L (L DC),(∀e∈es,e.length=s)->gD s es.length es.flatten=es
 |[],_=>rfl
 | e::es,h=>by
  have a:=h e (aZT ..);rw[aZB,gD,bAx,bAW a,List.drop_left' a,Kn es (fun x b=>h x (aZ3 _ b))]
theorem aMc{s n:Nat}{es:L (L DC)}(h:∀e∈es,e.length=s)(a:es.length=n):dcs (List.take (n*s) (kY es.flatten))=some es.flatten/\es.flatten.length=n*s/\gD s n es.flatten=es:=by
 subst a;have hf:=(rK es h).1;refine⟨?_,hf,Kn es h⟩;rw[aZ6 (by rw[kY,aZz,hf];exact aZE _),Hv]
noncomputable def lA(b:Bool):aO:=fun f a hp=>if f=174 then Ul a hp else if f=170 then Js [(170,11,120)] f a hp else bs b f a hp
theorem Um{a:L aD}{cs:L aV}(h:a.map aP=[.box cs]):a=[.box cs]:=by
 match a,h with
 |[],h=>simp at h
 |_::_::_,h=>simp at h
 |[o],h=>
  simp only[aZL,aZM,List.cons.injEq,and_true] at h;cases o<;>simp[aP] at h;rw[h]
theorem aQR{b:Bool}(w:b=true->QC Tryz.prog G 4 [] (.one (.dc (.raw (.bool true))))):cI Tryz.prog G (lA b):=by
 intro f c hp r u h g k;unfold lA at h;split at h;rename_i hf;subst hf;refine⟨by kernel_rfl,?_⟩;unfold Ul at h;split at h
 ·rename_i n cs;cases p:dcs cs with
  |none=>rw[p] at h;cases h
  |some s=>
  rw[p] at h;simp only[aHq] at h;split at h;rename_i y;obtain⟨A,h4,i,d,h3⟩:=y;injection h with h;injection h with l m;subst l;subst m
  have x:=Um k;subst x;obtain⟨v,z,j⟩:=lF 11 n s h4;have q:=aHi (G:=G) (es:=gD 11 n s) (fun e=>by rw[e] at j;simp at j;omega) (bA0.1 i) d (by rw[j];exact h3)
  rw[j,v,<- mZ p] at q;exact q.gh (fun a o ⟨i,d⟩ _=>⟨a,o,Gh.refl,Nat.le_of_eq (by rw[d]<;>rfl),i,by rw[d]<;>rfl⟩)
  cases h
 injection h with h;injection h with l m;subst l;subst m
 have:g=[]:=by simpa using k
 subst this;exact aHp.gh (fun a o ⟨i,d⟩ _=>⟨a,o,Gh.refl,Nat.le_of_eq (by rw[d]<;>rfl),i,by rw[d];rfl⟩)
 cases h;split at h
 exact Fb [(170,11,120)] (fun e t=>by
  simp only[List.mem_singleton] at t;subst t;exact⟨by kernel_rfl,_,[Zi 0,.string ⟨#[]⟩,Zi 0,Zi 0,.bool false,.string ⟨#[]⟩,Zi 0,.slice none 0 0,Zi 0,Zi 0,Zi 0],Tryz.func170,Tryz.ntmps170,h170_ok,aKr,by decide⟩) f c hp r u h g k
 exact aU2 w f c hp r u h g k
theorem aQS{b:Bool}(f:FuncId)(a:L AV)(hp:L aD)(r:AV×L aD)(h:bs b f a hp=some r):lA b f a hp=some r:=by
 unfold lA;split;rename_i hf;subst hf;have h:(none:Option (AV×L aD))=some r:=h;cases h;split;rename_i hf;subst hf;have h:(none:Option (AV×L aD))=some r:=h;cases h;exact h
theorem up{b:Bool}{f:FuncId}{a:L AV}{hp:L aD}{r:AV×L aD}(h:EV G (Tb (bs b)) f a hp=some r):EV G (Tb (lA b)) f a hp=some r:=
 aHo (T:=Tb (bs b)) (T':=Tb (lA b)) (fun _=>rfl) (fun f a hp r _ h=>aQS f a hp r h) h
theorem aA1{b:Bool}{a:L AV}{hp:L aD}:lA b 174 a hp=Ul a hp:=by
 unfold lA;rw[if_pos rfl]
theorem aMd{b:Bool}(l:L aI)(h:(l.map aI.id).Nodup)(j:l.length<=1000)(f:0<l.length):EV G (Tb (lA b)) 174 [.one (.bls 0 0 l.length 11),.one (.fn 175 [])] [.box (kY (l.map aI.e).flatten)]=some (.tup [],[.box (kY ((fJ l).map aI.e).flatten)]):=by
 refine jG rfl ?_;show lA b 174 [.one (.bls 0 0 l.length 11),.one (.fn 175 [])] [.box (kY (l.map aI.e).flatten)]=some (.tup [],[.box (kY ((fJ l).map aI.e).flatten)]);rw[aA1];simp only[Ul];rw[Hv];simp only[aHq];have d:∀e∈l.map aI.e,e.length=11:=fun e g=>by obtain⟨a,_,rfl⟩:=List.mem_map.1 g;rfl
 have c:=Kn (l.map aI.e) d;rw[aZz] at c;have hf:=(rK (l.map aI.e) d).1;rw[aZz] at hf;have e:((l.map aI.e).map fun e=>(mW e).2.2.2)=l.map aI.id:=by rw[aZ5];rfl
 rw[c,if_pos ⟨f,hf,by rw[bA0];intro x i;obtain⟨a,_,rfl⟩:=List.mem_map.1 i;rfl,by rw[e];exact h,by omega⟩,aQP]
theorem aMe{b:Bool}:EV G (Tb (lA b)) 174 [.one (.dc (.slc [])),.one (.fn 175 [])] []=some (.tup [],[]):=by
 refine jG rfl ?_;show lA b 174 [.one (.dc (.slc [])),.one (.fn 175 [])] []=some (.tup [],[]);rw[aA1];simp only[Ul]
theorem aHr(l:L aI)(b:l.length<=1000000):EV G (Tb (lA bb)) 170 [vl (l.map aI.e)] []=some (.one (.bld 0 l.length),[.arr 0 11 (l.map aI.e)]):=by
 refine jG rfl ?_;show (if gG 11 (l.map aI.e)=true/\(l.map aI.e).length*120<=140737488355328 then some (AV.one (.bld 0 (l.map aI.e).length),[aD.arr 0 11 (l.map aI.e)]) else none)=_
 have a:gG 11 (l.map aI.e)=true:=jH (f:=aI.e) (fun _=>rfl) l
 rw[if_pos ⟨a,by rw[aZz];omega⟩,aZz]
