/- Part. Conditions: none. -/
import Derived.Test.YtgdjbbnicgfohacGreatDoorTe
import Derived.Test.YtgdjbbnicgfohacGreatDoorTg
import Derived.Test.YtgdjbbnicgfohacGreatDoorNh
import Derived.Shelf.SlSortCmp.NoneTotal
namespace Go.Proofs.YtgdjbbnicgfohacGreatDoor
set_option linter.unusedSimpArgs false
set_option linter.unusedVariables false
set_option maxRecDepth 4000
variable {G:aF}{bb:Bool}
open Go.Sort
theorem X7(p:Option Addr)(cap:Nat)(a:Value)(w:World):Calls Tryz.prog 177 #[.slice p 0 cap,a] w fun e w'=>e=.returned (.tuple #[])/\w'=w:=
 AnyF.slices_SortFunc_none Tryz.laysSlsf6_f102 p cap a w
theorem aHm:AC Tryz.prog G 177 [.one (.dc (.slc [])),.one (.fn 178 [])] [] fun k o=>k=.tup []/\o=[]:=by
 intro F γ vs w m r a;obtain⟨j,a⟩:=a;obtain⟨l⟩:=vs
 match l,j with
 |[x,y],_=>
  have f:=a 0 _ _ rfl rfl;have hp:∃p cap,x=.slice p 0 cap:=by
   cases f with|one _ _ f=>cases f with
   | dc d v h=>cases h with
    | nil A c=>exact⟨_,_,rfl⟩
    | slc b off c size es g n q h3 h4=>exact⟨_,_,rfl⟩
  obtain⟨p,cap,rfl⟩:=hp;refine (X7 p cap y w).mono ?_;rintro e w' ⟨rfl,rfl⟩;exact⟨_,.tup [],_,F,γ,rfl,⟨rfl,rfl⟩,aZe _,iH.refl _ _ _ _,m,.tup _ _ rfl (fun i t v h=>by simp at h)⟩
def aHn(n:Nat):Option (L DC)->Option (AV×L aD)
 |some a=>if 0<n/\a.length=n*11/\(fY 11 n a).all okD=true/\((fY 11 n a).map fun e=>(mU e).2.2.2).Nodup/\n<4611686018427387904 then some (.tup [],[.box (kV (G3 cmD (fY 11 n a)).flatten)]) else none
 |none=>none
def Ud:L AV->L aD->Option (AV×L aD)
 |[.one (.bls 0 0 n 11),.one (.fn 178 [])],[.box cs]=>aHn n (dcs cs)
 |[.one (.dc (.slc [])),.one (.fn 178 [])],[]=>some (.tup [],[])
 |_,_=>none
theorem Kl{s:Nat}:∀es:L (L DC),(∀e∈es,e.length=s)->fY s es.length es.flatten=es
 |[],_=>rfl
 | e::es,h=>by
  have a:=h e (aZu ..);rw[aZc,fY,aZ6,bAs a,List.drop_left' a,Kl es (fun x b=>h x (aZC _ b))]
theorem aLU{s n:Nat}{es:L (L DC)}(h:∀e∈es,e.length=s)(a:es.length=n):dcs (List.take (n*s) (kV es.flatten))=some es.flatten/\es.flatten.length=n*s/\fY s n es.flatten=es:=by
 subst a;have hf:=(rG es h).1;refine⟨?_,hf,Kl es h⟩;rw[aZM (by rw[kV,aZa,hf];exact aZe _),Hm]
noncomputable def lJ(b:Bool):aO:=fun f a hp=>if f=177 then Ud a hp else if f=173 then Jl [(173,11,120)] f a hp else bs b f a hp
theorem Ue{a:L aD}{cs:L aU}(h:a.map aP=[.box cs]):a=[.box cs]:=by
 match a,h with
 |[],h=>simp at h
 |_::_::_,h=>simp at h
 |[o],h=>
  simp only[aZl,aZm,List.cons.injEq,and_true] at h;cases o<;>simp[aP] at h;rw[h]
theorem aQu{b:Bool}(w:b=true->QC Tryz.prog G 4 [] (.one (.dc (.raw (.bool true))))):cH Tryz.prog G (lJ b):=by
 intro f c hp r u h g k;unfold lJ at h;split at h;rename_i hf;subst hf;refine⟨by kernel_rfl,?_⟩;unfold Ud at h;split at h
 ·rename_i n cs;cases p:dcs cs with
  |none=>rw[p] at h;cases h
  |some s=>
  rw[p] at h;simp only[aHn] at h;split at h;rename_i y;obtain⟨h0,h4,i,d,h3⟩:=y;injection h with h;injection h with l m;subst l;subst m
  have x:=Ue k;subst x;obtain⟨v,z,j⟩:=lB 11 n s h4;have q:=aHf (G:=G) (es:=fY 11 n s) (fun e=>by rw[e] at j;simp at j;omega) (bAw.1 i) d (by rw[j];exact h3)
  rw[j,v,<- mW p] at q;exact q.gh (fun a o ⟨i,d⟩ _=>⟨a,o,Gh.refl,Nat.le_of_eq (by rw[d]<;>rfl),i,by rw[d]<;>rfl⟩)
  cases h
 injection h with h;injection h with l m;subst l;subst m
 have:g=[]:=by simpa using k
 subst this;exact aHm.gh (fun a o ⟨i,d⟩ _=>⟨a,o,Gh.refl,Nat.le_of_eq (by rw[d]<;>rfl),i,by rw[d];rfl⟩)
 cases h;split at h
 exact E1 [(173,11,120)] (fun e t=>by
  simp only[List.mem_singleton] at t;subst t;exact⟨by kernel_rfl,_,[Zi 0,.string ⟨#[]⟩,Zi 0,Zi 0,.bool false,.string ⟨#[]⟩,Zi 0,.slice none 0 0,Zi 0,Zi 0,Zi 0],Tryz.func173,Tryz.ntmps173,h173_ok,aJ0,by decide⟩) f c hp r u h g k
 exact aUH w f c hp r u h g k
theorem aQv{b:Bool}(f:FuncId)(a:L AV)(hp:L aD)(r:AV×L aD)(h:bs b f a hp=some r):lJ b f a hp=some r:=by
 unfold lJ;split;rename_i hf;subst hf;have h:(none:Option (AV×L aD))=some r:=h;cases h;split;rename_i hf;subst hf;have h:(none:Option (AV×L aD))=some r:=h;cases h;exact h
theorem up{b:Bool}{f:FuncId}{a:L AV}{hp:L aD}{r:AV×L aD}(h:EV G (Tb (bs b)) f a hp=some r):EV G (Tb (lJ b)) f a hp=some r:=
 aHl (T:=Tb (bs b)) (T':=Tb (lJ b)) (fun _=>rfl) (fun f a hp r _ h=>aQv f a hp r h) h
theorem aAT{b:Bool}{a:L AV}{hp:L aD}:lJ b 177 a hp=Ud a hp:=by
 unfold lJ;rw[if_pos rfl]
theorem aLV{b:Bool}(l:L aJ)(h:(l.map aJ.id).Nodup)(i:l.length<=1000)(h0:0<l.length):EV G (Tb (lJ b)) 177 [.one (.bls 0 0 l.length 11),.one (.fn 178 [])] [.box (kV (l.map aJ.e).flatten)]=some (.tup [],[.box (kV ((fA l).map aJ.e).flatten)]):=by
 refine jC rfl ?_;show lJ b 177 [.one (.bls 0 0 l.length 11),.one (.fn 178 [])] [.box (kV (l.map aJ.e).flatten)]=some (.tup [],[.box (kV ((fA l).map aJ.e).flatten)]);rw[aAT];simp only[Ud];rw[Hm];simp only[aHn];have d:∀e∈l.map aJ.e,e.length=11:=fun e f=>by obtain⟨a,_,rfl⟩:=List.mem_map.1 f;rfl
 have c:=Kl (l.map aJ.e) d;rw[aZa] at c;have hf:=(rG (l.map aJ.e) d).1;rw[aZa] at hf;have e:((l.map aJ.e).map fun e=>(mU e).2.2.2)=l.map aJ.id:=by rw[aZE];rfl
 rw[c,if_pos ⟨h0,hf,by rw[bAw];intro x g;obtain⟨a,_,rfl⟩:=List.mem_map.1 g;rfl,by rw[e];exact h,by omega⟩,aQs]
theorem aLW{b:Bool}:EV G (Tb (lJ b)) 177 [.one (.dc (.slc [])),.one (.fn 178 [])] []=some (.tup [],[]):=by
 refine jC rfl ?_;show lJ b 177 [.one (.dc (.slc [])),.one (.fn 178 [])] []=some (.tup [],[]);rw[aAT];simp only[Ud]
theorem aHo(l:L aJ)(b:l.length<=1000000):EV G (Tb (lJ bb)) 173 [vl (l.map aJ.e)] []=some (.one (.bld 0 l.length),[.arr 0 11 (l.map aJ.e)]):=by
 refine jC rfl ?_;show (if gC 11 (l.map aJ.e)=true/\(l.map aJ.e).length*120<=140737488355328 then some (AV.one (.bld 0 (l.map aJ.e).length),[aD.arr 0 11 (l.map aJ.e)]) else none)=_
 have a:gC 11 (l.map aJ.e)=true:=jD (f:=aJ.e) (fun _=>rfl) l
 rw[if_pos ⟨a,by rw[aZa];omega⟩,aZa]
