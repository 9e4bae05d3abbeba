/- Part. Conditions: none. -/
import Derived.Test.YtgdjbbnicgfohabGreatDoorTa
import Derived.Test.YtgdjbbnicgfohabGreatDoorVi
namespace Go.Proofs.YtgdjbbnicgfohabGreatDoor
set_option linter.unusedSimpArgs false
set_option linter.unusedVariables false
set_option maxRecDepth 4000
section
variable {G:aF}{bb:Bool}
structure aJ where
 ty:Int
 nm:List Int
 id:Int
 fl:Int
 res:Bool
 va:List Int
 fi:Int
 rs:List aW
 al:Int
 sz:Int
 vd:Int
abbrev aJ.e(a:aJ):L DC:=[ci a.ty,.raw (.string (dO a.nm)),ci a.id,ci a.fl,.raw (.bool a.res),.raw (.string (dO a.va)),ci a.fi,.slc (a.rs.map aW.e),ci a.al,ci a.sz,ci a.vd]
abbrev aJ.c(a:aJ):L aU:=[.dc (ci a.ty),.dc (.raw (.string (dO a.nm))),.dc (ci a.id),.dc (ci a.fl),.dc (.raw (.bool a.res)),.dc (.raw (.string (dO a.va))),.dc (ci a.fi),.dc (.slc (a.rs.map aW.e)),.dc (ci a.al),.dc (ci a.sz),.dc (ci a.vd)]
abbrev aJ.v(a:aJ):AV:=.agg a.c
abbrev aJ.t(a:aJ):TV:=.agg a.c
def aJ.nil:aJ:=⟨0,[],0,0,false,[],0,[],0,0,0⟩
theorem bZ(n a b:Int):EV G (Tb (bs bb)) 151 [vi n,vi a,vi b] []=some (vb (decide (a<=n/\n<=b)),[]):=by
 refine aB rfl ?_;by_cases h:a<=n;all_goals simp (disch:=omega) only[go_sem,h151c]
 all_goals simp[h]
theorem iB(b:Bool)(e:Int):EV G (Tb (bs bb)) 148 [vb b,vi e] []=some (vi (if b=true then 0 else e),[]):=by
 refine aB rfl ?_;cases b;all_goals simp (disch:=omega) only[go_sem,h148c]
 all_goals rfl
theorem aDa(b:Bool)(e:Int):EV G (Tb (bs bb)) 242 [vb b,vi e] []=some (vi (if b=true then 0 else e),[]):=by
 refine aB rfl ?_;cases b;all_goals simp (disch:=omega) only[go_sem,h242c]
 all_goals rfl
theorem J5(l:L Int)(g:l.length<=1000):EV G (Tb (bs bb)) 147 [vl (el l)] []=some (vi (aT l),[]):=by
 refine aB rfl ?_;simp (disch:=omega) only[go_sem,h147c,aZA];have a:∀ k (b:k < l.length),¬ l.getD k 0≠0->Ls [5,0,0] 0 (EC (EV G (Tb (bs bb))) G h147l0 ⟨(jk 5 (vl (el l)::vi l.length::vi k::jk 7 [])),[]⟩)=some ⟨(jk 5 (vl (el l)::vi l.length::vi (k+1:Nat)::jk 7 [])),[]⟩:=fun k b f=>by
  rw[cE l k b] at f;simp (disch:=omega) only[go_sem,h147l0,aZA,tL]
 rcases Pv (fun k=>l.getD k 0≠0) l.length with h|⟨j,e,c,d⟩
 rw[aR (fun k=>⟨(jk 5 (vl (el l)::vi l.length::vi k::jk 7 [])),[]⟩) l.length ?_ ?_]
 rw[iH l h];simp (disch:=omega) only[go_sem,h147l0];rfl;exact fun k b=>a k b (h k b)
 rw[aR (fun k=>⟨(jk 5 (vl (el l)::vi l.length::vi k::jk 7 [])),[]⟩) j ?_ ?_]
 rw[kH l j e d c];rw[cE l j e] at c;simp (disch:=omega) only[go_sem,h147l0,aZA,tL];rfl;exact fun k b=>a k (by omega) (d k b)
theorem aGS(l:L Int)(g:l.length<=1000):EV G (Tb (bs bb)) 241 [vl (el l)] []=some (vi (aT l),[]):=by
 refine aB rfl ?_;simp (disch:=omega) only[go_sem,h241c,aZA];have a:∀ k (b:k < l.length),¬ l.getD k 0≠0->Ls [5,0,0] 0 (EC (EV G (Tb (bs bb))) G h241l0 ⟨(jk 5 (vl (el l)::vi l.length::vi k::jk 7 [])),[]⟩)=some ⟨(jk 5 (vl (el l)::vi l.length::vi (k+1:Nat)::jk 7 [])),[]⟩:=fun k b f=>by
  rw[cE l k b] at f;simp (disch:=omega) only[go_sem,h241l0,aZA,tL]
 rcases Pv (fun k=>l.getD k 0≠0) l.length with h|⟨j,e,c,d⟩
 rw[aR (fun k=>⟨(jk 5 (vl (el l)::vi l.length::vi k::jk 7 [])),[]⟩) l.length ?_ ?_]
 rw[iH l h];simp (disch:=omega) only[go_sem,h241l0];rfl;exact fun k b=>a k b (h k b)
 rw[aR (fun k=>⟨(jk 5 (vl (el l)::vi l.length::vi k::jk 7 [])),[]⟩) j ?_ ?_]
 rw[kH l j e d c];rw[cE l j e] at c;simp (disch:=omega) only[go_sem,h241l0,aZA,tL];rfl;exact fun k b=>a k (by omega) (d k b)
theorem aLN(a b:Int):EV G (Tb (bs bb)) 241 [vl [[ci a],[ci b]]] []=some (vi (aT [a,b]),[]):=aGS [a,b] (by simp)
theorem nJ(a b:Int):EV G (Tb (bs bb)) 147 [vl [[ci a],[ci b]]] []=some (vi (aT [a,b]),[]):=J5 [a,b] (by simp)
theorem cB(a b c:Int):EV G (Tb (bs bb)) 147 [vl [[ci a],[ci b],[ci c]]] []=some (vi (aT [a,b,c]),[]):=J5 [a,b,c] (by simp)
theorem jK(a b c d e:Int):EV G (Tb (bs bb)) 147 [vl [[ci a],[ci b],[ci c],[ci d],[ci e]]] []=some (vi (aT [a,b,c,d,e]),[]):=J5 [a,b,c,d,e] (by simp)
def Ni:L Int:=[16,32,48,64,96,112,128,144,160,176,192]
def G7:L Int:=[16,48,96,112,144]
theorem gW:EV G (Tb (bs bb)) 204 [] []=some (.one (.mpc tyL),[]):=jF rfl rfl
theorem Tu(n:Int):Bu tyL n=if n∈Ni then some (.bool (decide (n∈G7))) else none:=by
 unfold tyL Ni G7;simp only[Bu,bAL,bA6,or_false];split<;>rename_i a;subst a;simp;split<;>rename_i b;subst b;simp;split<;>rename_i h3;subst h3;simp;split<;>rename_i h4;subst h4;simp;split<;>rename_i h5;subst h5;simp;split<;>rename_i h6;subst h6;simp;split<;>rename_i h7;subst h7;simp;split<;>rename_i h8;subst h8;simp;split<;>rename_i h9;subst h9;simp;split<;>rename_i h10;subst h10;simp;split<;>rename_i h11;subst h11;simp;rw[if_neg (by omega)]
theorem aGT(n:Int):EV G (Tb (bs bb)) 149 [vi n] []=some (vb (decide (n∈Ni)),[]):=by
 refine aB rfl ?_;have a:=Tu n;by_cases h:n∈Ni;rw[if_pos h] at a;simp (disch:=omega) only[go_sem,h149c,gW,Rl,mpR,a,h];rw[if_neg h] at a;simp (disch:=omega) only[go_sem,h149c,gW,Rl,mpR,a,h]
theorem Gi(a:aJ)(d:a.rs.length<=1000000):EV G (Tb (bs bb)) 207 [a.v] []=some (vi (gQ a.rs),[]):=by
 refine aB rfl ?_;simp (disch:=omega) only[go_sem,h207c,aZA];rw[aR (fun k=>⟨(jk 3 (vi (gQ (a.rs.take k))::jk 3 (cQ a.rs::vi a.rs.length::vi k::jk 9 []))),[.box a.c]⟩) a.rs.length ?_ ?_]
 simp (disch:=omega) only[go_sem,h207l0,bAj];rfl;intro k b;rw[E7 a.rs k b];simp (disch:=omega) only[go_sem,h207l0,aZA,aW.e]
theorem Ci(b:Bool):EV G (Tb (bs bb)) 209 [vb b] []=some (vi (if b=true then 24 else 40),[]):=by
 refine aB rfl ?_;cases b;all_goals simp (disch:=omega) only[go_sem,h209c]
 all_goals rfl
def al8(n:Int):Int:=(n+7) / 8*8
theorem Ay(n:Int)(h:0<=n/\n<=1000000000):EV G (Tb (bs bb)) 210 [vi n] []=some (vi (al8 n),[]):=by
 refine aB rfl ?_;have e:n+8-1=n+7:=by omega
 simp (disch:=omega) only[go_sem,h210c,mZ,al8,e]
end
section
variable {G:aF}{bb:Bool}
def uT:L Int:=[34,42,47,58,60,62,63,92,124]
def nK(c:Int):Bool:=decide (32<=c/\c<=126/\c∉uT)
theorem aLO:∀n:_root_.Fin 256,(Lib.indexByte (ByteArray.mk #[34,42,47,58,60,62,63,92,124]).data.toList ((n.val:Int).toNat.toUInt8)<0)↔((n.val:Int)∉uT):=by decide
theorem aLP(c:Int)(h:0<=c/\c<=255):(Lib.indexByte (ByteArray.mk #[34,42,47,58,60,62,63,92,124]).data.toList c.toNat.toUInt8<0)=(c∉uT):=by
 have:=aLO ⟨c.toNat,by omega⟩;simp only[show ((c.toNat:Nat):Int)=c by omega] at this;exact propext this
theorem aVi(s:ByteArray)(c:Int):EV G (Tb (bs bb)) 301 [.one (.dc (.raw (.string s))),vu c] []=some (vi (Lib.indexByte s.data.toList c.toNat.toUInt8),[]):=jF rfl rfl
theorem X3(s:ByteArray)(c:Int):EV G (Tb (bs bb)) 294 [.one (.dc (.raw (.string s))),vu c] []=some (vi (Lib.indexByte s.data.toList c.toNat.toUInt8),[]):=by
 refine aB rfl ?_;simp (disch:=omega) only[go_sem,h294c,aVi]
theorem aQz(c:Int)(h:0<=c/\c<=255):EV G (Tb (bs bb)) 279 [vu c] []=some (vb (nK c),[]):=by
 refine aB rfl ?_;have d:=aLP c h;unfold nK;by_cases a:32<=c;by_cases b:c<=126;simp (disch:=omega) only[go_sem,h279c,X3,a,b];simp only[d,true_and];simp (disch:=omega) only[go_sem,h279c,X3,a,b];simp (disch:=omega) only[go_sem,h279c,X3,a]
theorem aQA{id:Nat}:lD [] id=true:=rfl
theorem aQB{j id:Nat}{J:L Nat}:lD (j::J) id=(!nq id j&&lD J id):=by
 simp only[lD,jJ,List.contains_cons,Bool.not_or]
attribute [go_sem] aQA aQB
theorem Tv(c:Int)(h:0<=c/\c<=255):EV G (Tb (bs bb)) 293 [vu c,.one (.ptr 0 0)] [.box [.fn 279 []]]=some (vb (!nK c),[.box [.fn 279 []]]):=by
 refine aB rfl ?_;have a:=aQz (G:=G) (bb:=bb) c h;simp (disch:=omega) only[go_sem,h293c,a]
theorem tH(l:L Int)(k:Nat)(h:k<l.length):l.getD k 0=l[k]:=cE l k h
theorem aLQ(l:L Int)(f:aI l)(h:l.length<=1000000):EV G (Tb (bs bb)) 300 [vl (bl l),.one (.fn 293 [.ptr 0 0])] [.box [.fn 279 []]]=some (vi (if ix (fun k=>¬ nK (l.getD k 0)=true) l.length=l.length then -1 else (ix (fun k=>¬ nK (l.getD k 0)=true) l.length:Nat)),[.box [.fn 279 []]]):=by
 refine aB rfl ?_;simp (disch:=omega) only[go_sem,h300c,aZA];rw[dE (fun k=>⟨(vl (bl l)::.one (.fn 293 [.ptr 0 0])::jk 5 (vi l.length::vi k::jk 10 [])),[.box [.fn 279 []]]⟩) (fun k=>¬ nK (l.getD k 0)=true) l.length ?_ ?_]
 rotate_left
 rfl;intro k d g;have e:=g k (aZE _);rw[tH l k d] at e;have b:=f _ (aZK d);have c:=Tv (G:=G) (bb:=bb) l[k] b;have h3:nK l[k]=true:=Classical.not_not.1 e;simp (disch:=omega) only[go_sem,h300l0,aZA,Aw,c,h3];obtain⟨d,hp,g⟩:=bD (fun k=>¬ nK (l.getD k 0)=true) l.length
 generalize ix (fun k=>¬ nK (l.getD k 0)=true) l.length=k at *
 rcases hp with rfl|⟨a,hp⟩;simp (disch:=omega) only[go_sem,h300l0,aZA];rw[tH l k a] at hp;have b:=f _ (aZK a);have c:=Tv (G:=G) (bb:=bb) l[k] b;have h3:nK l[k]=false:=by simpa using hp
 rw[if_neg (by omega)];simp (disch:=omega) only[go_sem,h300l0,aZA,Aw,c,h3]
def G8(l:L Int):Bool:=l.all nK
theorem aLR(l:L Int):(if ix (fun k=>¬ nK (l.getD k 0)=true) l.length=l.length then (-1:Int) else (ix (fun k=>¬ nK (l.getD k 0)=true) l.length:Nat))<0↔G8 l=true:=by
 obtain⟨e,hp,c⟩:=bD (fun k=>¬ nK (l.getD k 0)=true) l.length
 generalize ix (fun k=>¬ nK (l.getD k 0)=true) l.length=k at *
 rcases hp with rfl|⟨a,hp⟩;rw[if_pos rfl];refine⟨fun _=>?_,fun _=>by decide⟩
 unfold G8;rw[bAW];intro x d;obtain⟨j,b,rfl⟩:=List.mem_iff_getElem.1 d;have:=c j b;rw[tH l j b] at this;exact Classical.not_not.1 this;rw[if_neg (by omega)];refine⟨fun h=>by omega,fun h=>?_⟩
 rw[tH l k a] at hp;exact absurd (bAW.1 h _ (aZK a)) hp
theorem X4(l:L Int)(a:aI l):hZ (dO l)=l.map Aw:=by
 unfold hZ;rw[Tq,aZ4];refine aZZ (fun b c=>?_)
 simp only[Function.comp_apply,Aw,iA b (a b c)]
theorem aLS(l:L Int)(d:aI l)(e:l.length<=1000000):EV G (Tb (bs bb)) 292 [vl (bl l),.one (.fn 293 [.ptr 0 0])] [.box [.fn 279 []]]=some (vb (!G8 l),[.box [.fn 279 []]]):=by
 refine aB rfl ?_;have a:=aLQ (G:=G) (bb:=bb) l d e;have b:=aLR l;generalize (if ix (fun k=>¬ nK (l.getD k 0)=true) l.length=l.length then (-1:Int) else (ix (fun k=>¬ nK (l.getD k 0)=true) l.length:Nat))=z at a b
 cases c:G8 l with
 |true=>
  have h3:=b.2 c;simp (disch:=omega) only[go_sem,h292c,a];simp;omega
 |false=>
  have h3:¬ z<0:=fun h=>by rw[b.1 h] at c;cases c
  simp (disch:=omega) only[go_sem,h292c,a];simp;omega
theorem aN1{α a:Type}(f:α->Option a)(x:α):[x].mapM f=(f x).map fun c=>[c]:=by
 cases h:f x<;>simp[bAz,h]
theorem X5(l:L Int)(b:aI l)(e:l.length<=1000000):EV G (Tb (bs bb)) 278 [sv l,.one (.fn 279 [])] []=some (vb (G8 l),[]):=by
 refine aB rfl ?_;have a:=aLS (G:=G) (bb:=bb) l b e;have c:=X4 l b;cases d:G8 l;all_goals rw[d] at a
 all_goals simp (disch:=omega) only[go_sem,h278c,a,c,aN1,jE]
theorem aVj(l:L Int)(c:Int)(i:aI l)(j:0<=c/\c<=255)(m:l.length<=1000000):EV G (Tb (bs bb)) 295 [sv l,sv [c]] []=some (vb (decide (l≠[]/\l.getLast?=some c)),[]):=by
 refine aB rfl ?_;by_cases h:l=[];subst h;simp (disch:=omega) only[go_sem,h295c,aZC,aZD];have hp:1<=l.length:=by have:=List.length_pos_iff.2 h;omega
 have k:l.drop (l.length-1)=[l[l.length-1]]:=by
  rw[bAv (by omega),List.drop_eq_nil_of_le (by omega)]
 have a:aI [l[l.length-1]]:=fun b f=>by rw[List.mem_singleton.1 f];exact i _ (aZK _)
 have d:aI [c]:=fun b f=>by rw[List.mem_singleton.1 f];exact j
 have e:=cR a d;have g:l.getLast?=some l[l.length-1]:=by rw[List.getLast?_eq_getElem?,aZJ (by omega)]
 simp (disch:=omega) only[go_sem,h295c,aZC,aZD,k,e,g];simp[h]
theorem aGU(l:L Int)(c:Int)(b:aI l)(d:0<=c/\c<=255)(e:l.length<=1000000):EV G (Tb (bs bb)) 280 [sv l,sv [c]] []=some (vb (decide (l≠[]/\l.getLast?=some c)),[]):=by
 refine aB rfl ?_;have a:=aVj (G:=G) (bb:=bb) l c b d e;simp (disch:=omega) only[go_sem,h280c,a]
theorem aGV(l:L Int)(a:aI l)(k:Nat)(h:k<l.length):l[k]?=some l[k]/\((u8 l[k]).toNat:Int)=l[k]:=⟨aZJ h,iA _ (a _ (aZK h))⟩
def qT(l:L Int):Prop:=l≠[]/\l.length<=32/\G8 l=true/\l≠[46,46]/\l.getLast?≠some 32/\l.getLast?≠some 46
instance (l:List Int):Decidable (qT l):=by unfold qT;infer_instance
theorem s46:(⟨#[46,46]⟩:ByteArray)=dO [46,46]:=rfl
theorem rO:(⟨#[46]⟩:ByteArray)=dO [46]:=rfl
theorem J6:(⟨#[32]⟩:ByteArray)=dO [32]:=rfl
theorem J7(l:L Int)(h:(l.all fun b=>decide (0<=b/\b<=255))=true):aI l:=fun b a=>by simpa using bAW.1 h b a
theorem jL:aI []:=fun b a=>by cases a
theorem aDc(l:L Int)(i:aI l)(n:l.length<=1000000):EV G (Tb (bs bb)) 243 [sv l] []=some (vb (decide (qT l)),[]):=by
 refine aB rfl ?_;have d:=cR i jL;have e:=cR i (J7 [46,46] (by decide));have f:=X5 (G:=G) (bb:=bb) l i n;have g:=aGU (G:=G) (bb:=bb) l 32 i (by omega) n;have h3:=aGU (G:=G) (bb:=bb) l 46 i (by omega) n;by_cases a:l=[];rw[decide_eq_false (fun h:qT l=>h.1 a)]
 simp (disch:=omega) only[go_sem,h243c,aG,s46,rO,J6,d,e,a];by_cases b:l.length<=32;by_cases j:G8 l=true;rw[j] at f;by_cases c:l=[46,46];rw[decide_eq_false (fun h:qT l=>h.2.2.2.1 c)]
 replace c:=eq_true c;simp (disch:=omega) only[go_sem,h243c,aG,s46,rO,J6,d,e,a,b,f,c];by_cases k:l.getLast?=some 32;rw[decide_eq_false (fun h:qT l=>h.2.2.2.2.1 k)]
 rw[decide_eq_true (⟨a,k⟩:l≠[]/\l.getLast?=some 32)] at g;simp (disch:=omega) only[go_sem,h243c,aG,s46,rO,J6,d,e,a,b,f,c,g];rw[decide_eq_false (fun h:l≠[]/\l.getLast?=some 32=>k h.2)] at g
 by_cases m:l.getLast?=some 46;rw[decide_eq_false (fun h:qT l=>h.2.2.2.2.2 m)]
 rw[decide_eq_true (⟨a,m⟩:l≠[]/\l.getLast?=some 46)] at h3;simp (disch:=omega) only[go_sem,h243c,aG,s46,rO,J6,d,e,a,b,f,c,g,h3];rw[show decide (qT l)=true from decide_eq_true ⟨a,b,j,c,k,m⟩]
 rw[decide_eq_false (fun h:l≠[]/\l.getLast?=some 46=>m h.2)] at h3
 simp (disch:=omega) only[go_sem,h243c,aG,s46,rO,J6,d,e,a,b,f,c,g,h3];rw[decide_eq_false (fun h:qT l=>j h.2.2.1)]
 rw[bA0.2 j] at f;simp (disch:=omega) only[go_sem,h243c,aG,s46,rO,J6,d,e,a,b,f];rw[decide_eq_false (fun h:qT l=>b h.2.1)]
 simp (disch:=omega) only[go_sem,h243c,aG,s46,rO,J6,d,e,a,b]
theorem Tw(l:L Int)(b:aI l)(c:l.length<=1000000):EV G (Tb (bs bb)) 205 [sv l] []=some (vi (aT [if l.length<=32 then 0 else 8,if qT l then 0 else 4]),[]):=by
 refine aB rfl ?_;have a:=aDc (G:=G) (bb:=bb) l b c;have e:((l.length:Int)<=32)=(l.length<=32):=by apply propext;omega
 simp (disch:=omega) only[go_sem,h205c,a,aDa,aLN,decide_eq_true_eq,e]
def P0(l:L Int):Bool:=decide (l=[]\/qT l)
theorem aDd(l:L Int)(f:aI l)(g:l.length<=1000000):EV G (Tb (bs bb)) 150 [sv l] []=some (vi (if P0 l=true then 0 else 4),[]):=by
 refine aB rfl ?_;have e:=cR f jL;have a:=Tw (G:=G) (bb:=bb) l f g;by_cases b:l=[];rw[show P0 l=true from decide_eq_true (.inl b)]
 simp (disch:=omega) only[go_sem,h150c,aG,e,b,iB];by_cases c:qT l;rw[show P0 l=true from decide_eq_true (.inr c)]
 have d:=c.2.1;rw[if_pos c,if_pos d,show aT [0,0]=0 from rfl] at a
 simp (disch:=omega) only[go_sem,h150c,aG,e,b,a,iB];rw[show P0 l=false from decide_eq_false (fun h=>h.elim b c)]
 rw[if_neg c] at a;by_cases d:l.length<=32;rw[if_pos d,show aT [0,4]=4 from rfl] at a
 simp (disch:=omega) only[go_sem,h150c,aG,e,b,a,iB];rw[if_neg d,show aT [8,4]=8 from rfl] at a
 simp (disch:=omega) only[go_sem,h150c,aG,e,b,a,iB]
theorem aAR(c:Int):EV G (Tb (bs bb)) 271 [vu c] []=some (vb (nK c),[]):=by
 refine aB rfl ?_;by_cases i:c<32;rw[show nK c=false from decide_eq_false (fun h=>by omega)]
 simp (disch:=omega) only[go_sem,h271c,i];by_cases n:c > 126;rw[show nK c=false from decide_eq_false (fun h=>by omega)]
 simp (disch:=omega) only[go_sem,h271c,i,n]
 ·have g:(⟨#[34,42,47,58,60,62,63,92,124]⟩:ByteArray)=dO uT:=rfl;have b:aI uT:=J7 uT (by decide);simp (disch:=omega) only[go_sem,h271c,i,n,g];rw[dE (fun k=>⟨(vu c::jk 2 (vi k::jk 14 [])),[]⟩) (fun k=>uT.getD k 0=c) 9 ?_ ?_]
  rotate_left
  rfl;intro k l m;have o:=m k (aZE _);obtain⟨f,h3⟩:=aGV uT b k l;rw[tH uT k l] at o;simp (disch:=omega) only[go_sem,h271l0,g,f,h3,o,aZG];obtain⟨l,hp,m⟩:=bD (fun k=>uT.getD k 0=c) 9
  generalize ix (fun k=>uT.getD k 0=c) 9=k at *
  rcases hp with rfl|⟨a,hp⟩;have d:c∉uT:=by
   intro d;obtain⟨j,p,e⟩:=List.mem_iff_getElem.1 d;exact m j p (by rw[tH uT j p];exact e)
  rw[show nK c=true from decide_eq_true ⟨by omega,by omega,d⟩]
  simp (disch:=omega) only[go_sem,h271l0,g];have d:c∈uT:=by
   rw[tH uT k a] at hp;rw[<- hp];exact aZK _
  obtain⟨f,h3⟩:=aGV uT b k a;rw[tH uT k a] at hp;rw[hp] at f h3;rw[show nK c=false from decide_eq_false (fun h=>h.2.2 d)]
  simp (disch:=omega) only[go_sem,h271l0,g,f,h3,aZG]
theorem aLT(l:L Int)(m:aI l)(B:l.length<=1000000):EV G (Tb (bs bb)) 225 [sv l] []=some (vi (if l.length > 32 then 8 else if qT l then 0 else 4),[]):=by
 refine aB rfl ?_;have i:=cR m jL;have t:=cR m (J7 [46,46] (by decide));have o:=cR m (J7 [46] (by decide));by_cases b:l.length > 32;rw[if_pos b];simp (disch:=omega) only[go_sem,h225c,b];rw[if_neg b];by_cases c:l=[];rw[if_neg (fun h:qT l=>h.1 c)]
 simp (disch:=omega) only[go_sem,h225c,b,aG,s46,rO,i,c];have hp:1<=l.length:=by have:=List.length_pos_iff.2 c;omega
 have u:l.getLast?=some l[l.length-1]:=by rw[List.getLast?_eq_getElem?,aZJ (by omega)]
 obtain⟨g,a⟩:=aGV l m (l.length-1) (by omega);by_cases e:l=[46];rw[if_neg (fun h:qT l=>h.2.2.2.2.2 (by rw[e];rfl))]
 replace e:=eq_true e;simp (disch:=omega) only[go_sem,h225c,b,aG,s46,rO,i,c,o,e];by_cases f:l=[46,46];rw[if_neg (fun h:qT l=>h.2.2.2.1 f)]
 replace f:=eq_true f;simp (disch:=omega) only[go_sem,h225c,b,aG,s46,rO,i,c,o,e,t,f];by_cases r:l[l.length-1]=32;rw[if_neg (fun h:qT l=>h.2.2.2.2.1 (by rw[u,r]))]
 rw[r] at g a;simp (disch:=omega) only[go_sem,h225c,b,aG,s46,rO,i,c,o,e,t,f,Ce,g,a,aZG];by_cases s:l[l.length-1]=46;rw[if_neg (fun h:qT l=>h.2.2.2.2.2 (by rw[u,s]))]
 rw[s] at g a;simp (disch:=omega) only[go_sem,h225c,b,aG,s46,rO,i,c,o,e,t,f,Ce,g,a,aZG]
 ·have q:qT l↔G8 l=true:=by
   exact⟨fun h=>h.2.2.1,fun h=>⟨c,by omega,h,f,by rw[u];simpa using r,by rw[u];simpa using s⟩⟩
  simp (disch:=omega) only[go_sem,h225c,b,aG,s46,rO,i,c,o,e,t,f,g,a,aZG,r,s];rw[dE (fun k=>⟨(sv l::jk 2 (vi k::jk 40 [])),[]⟩) (fun k=>¬ nK (l.getD k 0)=true) l.length ?_ ?_]
  rotate_left
  rfl;intro k w y;have z:=y k (aZE _);obtain⟨v,h4⟩:=aGV l m k w;rw[tH l k w] at z;have h3:=aAR (G:=G) (bb:=bb) l[k];rw[Classical.not_not.1 z] at h3;simp (disch:=omega) only[go_sem,h225l0,v,h3,h4,aZG];obtain⟨w,n,y⟩:=bD (fun k=>¬ nK (l.getD k 0)=true) l.length
  generalize ix (fun k=>¬ nK (l.getD k 0)=true) l.length=k at *
  rcases n with rfl|⟨d,n⟩;have p:G8 l=true:=by
   unfold G8;rw[bAW];intro x g;obtain⟨j,A,rfl⟩:=List.mem_iff_getElem.1 g;have:=y j A;rw[tH l j A] at this;exact Classical.not_not.1 this
  rw[if_pos (q.2 p)];simp (disch:=omega) only[go_sem,h225l0];have p:¬ G8 l=true:=by
   intro p;rw[tH l k d] at n;exact n (bAW.1 p _ (aZK d))
  obtain⟨v,h4⟩:=aGV l m k d;rw[tH l k d] at n;have h3:=aAR (G:=G) (bb:=bb) l[k];rw[(by simpa using n:nK l[k]=false)] at h3;rw[if_neg (fun h=>p (q.1 h))]
  simp (disch:=omega) only[go_sem,h225l0,v,h3,h4,aZG]
theorem aGW(l:L Int)(f:aI l)(g:l.length<=1000000):EV G (Tb (bs bb)) 186 [sv l] []=some (vb (P0 l),[]):=by
 refine aB rfl ?_;have d:=cR f jL;have a:=aLT (G:=G) (bb:=bb) l f g;by_cases b:l=[];rw[show P0 l=true from decide_eq_true (.inl b)]
 simp (disch:=omega) only[go_sem,h186c,aG,d,b];by_cases c:qT l;rw[show P0 l=true from decide_eq_true (.inr c)]
 have e:=c.2.1;rw[if_pos c,if_neg (by omega)] at a;simp (disch:=omega) only[go_sem,h186c,aG,d,b,a];rw[show P0 l=false from decide_eq_false (fun h=>h.elim b c)]
 rw[if_neg c] at a;by_cases e:l.length > 32;rw[if_pos e] at a;simp (disch:=omega) only[go_sem,h186c,aG,d,b,a];rfl;rw[if_neg e] at a;simp (disch:=omega) only[go_sem,h186c,aG,d,b,a];rfl
end
section
variable {G:aF}{bb:Bool}
def yC(b:Int):aU:=cI (.int .u8 b)
abbrev yb(l:L Int):aD:=.box (l.map yC)
theorem P1(p:Nat->Bool)(l:L Int):(l.map yC).map (cL p)=l.map yC:=by rw[aZ4];rfl
theorem kT(m:Nat)(l:L Int):G4 m (l.map yC)=l.map yC:=by rw[Di,P1]
theorem pK(m:Nat)(l:L Int):Pj m (l.map yC)=l.map yC:=by rw[Hp,P1]
theorem aQC(l:L Int):idsL (l.map yC)=[]:=by
 induction l with
 |nil=>rfl
 |cons b l a=>rw[aZM,idsL,a];rfl
theorem aVk(J:L Nat)(l:L Int):Dk J (l.map yC)=true:=by
 induction l with
 |nil=>rfl
 |cons b l a=>rw[aZM,Dk,a];rfl
theorem B7(ρ:Nat->Nat)(l:L Int):(l.map yC).map (jV ρ)=l.map yC:=by
 induction l with
 |nil=>rfl
 |cons b l a=>rw[aZM,aZM,a];rfl
theorem aLU(p:Nat->Bool)(l:L Int):keepL p (l.map yC)=true:=by
 induction l with
 |nil=>rfl
 |cons b l a=>rw[aZM,keepL,a];rfl
theorem aQD(id:Nat)(es:L (L DC))(l:L Int):(l.map yC).map (Ca id es)=l.map yC:=by
 induction l with
 |nil=>rfl
 |cons b l a=>rw[aZM,aZM,a];rfl
theorem aGX(l:L Int)(k:Nat)(b:Int)(h:k<l.length):cZ (l.map yC) k [.dc (.raw (.int .u8 b))]=(l.set k b).map yC:=by
 unfold cZ;apply List.ext_getElem?;intro i;simp only[bAe];by_cases a:i<k;rw[aZS,aZW (by simp;omega),List.getElem?_take_of_lt a,aZY (by omega)];by_cases c:i=k;subst c;rw[aZS,aZ1 (by simp;omega),aZ7 (by simpa using h)];simp[Nat.min_eq_left (Nat.le_of_lt h)];rfl;rw[aZ1 (by simp;omega),aZY (by omega),aZ9];congr 1;simp;omega
attribute [go_sem] P1 kT pK aQC aVk B7 aLU aQD
theorem aQE{d:Option Nat}{st:AS}{id:Nat}{cs:L aU}:aFp d id st (some (.tup [],[.box cs]))=bif keepL (fun _=>true) cs then some (⟨aP st.sl d (.tup []),st.hp.set id (.box cs)⟩,[id],[id]) else none:=q_
attribute [go_sem] aQE
def aZ(l:L Int)(a:Nat)(n:Int):Nat->L Int
 |0=>l
 |k+1=>(aZ l a n k).set (a+k) (Gg n k % 256)
theorem dI(l:L Int)(a:Nat)(n:Int)(k:Nat):(aZ l a n k).length=l.length:=by
 induction k with
 |zero=>rfl
 |succ k b=>simp[aZ,b]
theorem aVl(l:L Int)(a k:Nat)(n:Int)(h:a+k<=l.length)(f:l.length<=1000000)(c:-9223372036854775808<=n/\n<=9223372036854775807):EV G (Tb (bs bb)) 211 [.one (.bls 0 0 l.length 1),vi a,vi k,vi n] [yb l]=some (.tup [],[yb (aZ l a n k)]):=by
 refine aB rfl ?_;simp (disch:=omega) only[go_sem,h211c];rw[aR (fun j=>⟨(.one (.bls 0 0 l.length 1)::vi a::jk 1 (vi (Gg n j)::jk 5 (vi k::vi j::jk 12 []))),[yb (aZ l a n j)]⟩) k ?_ ?_]
 simp (disch:=omega) only[go_sem,h211l0];rfl;intro j e;have b:=dI l a n j;have d:=Xz n c j;have h3:=aGX (aZ l a n j) (a+j) (Gg n j % 256) (by omega);simp (disch:=omega) only[go_sem,h211l0,aZA,b,wu8,Int.reduceToNat,Int.reducePow,Hw,Gg,aZ,h3]
theorem aAS(l:L Int)(a k:Nat)(n:Int)(N:Nat)(b:l.length=N)(h:a+k<=N)(c:N<=1000000)(d:-9223372036854775808<=n/\n<=9223372036854775807):EV G (Tb (bs bb)) 211 [.one (.bls 0 0 N 1),vi a,vi k,vi n] [yb l]=some (.tup [],[yb (aZ l a n k)]):=by
 subst b;exact aVl l a k n h c d
theorem aN2(l:L Int)(n:Int)(N:Nat)(a:l.length=N)(h:4<=N)(b:N<=1000000)(c:-9223372036854775808<=n/\n<=9223372036854775807):EV G (Tb (bs bb)) 211 [.one (.bls 0 0 N 1),vi 0,vi 4,vi n] [yb l]=some (.tup [],[yb (aZ l 0 n 4)]):=aAS l 0 4 n N a h b c
theorem aN3(l:L Int)(a:Int)(n:Int)(N:Nat)(b:l.length=N)(c:0<=a)(h:a+4<=N)(d:N<=1000000)(e:-9223372036854775808<=n/\n<=9223372036854775807):EV G (Tb (bs bb)) 211 [.one (.bls 0 0 N 1),vi a,vi 4,vi n] [yb l]=some (.tup [],[yb (aZ l a.toNat n 4)]):=by
 have:=aAS (G:=G) (bb:=bb) l a.toNat 4 n N b (by omega) d e;rwa[Int.toNat_of_nonneg c] at this
theorem aN4(l:L Int)(a:Int)(n:Int)(N:Nat)(b:l.length=N)(c:0<=a)(h:a+2<=N)(d:N<=1000000)(e:-9223372036854775808<=n/\n<=9223372036854775807):EV G (Tb (bs bb)) 211 [.one (.bls 0 0 N 1),vi a,vi 2,vi n] [yb l]=some (.tup [],[yb (aZ l a.toNat n 2)]):=by
 have:=aAS (G:=G) (bb:=bb) l a.toNat 2 n N b (by omega) d e;rwa[Int.toNat_of_nonneg c] at this
theorem aN5(l:L Int)(a:Int)(n:Int)(N:Nat)(b:l.length=N)(c:0<=a)(h:a+1<=N)(d:N<=1000000)(e:-9223372036854775808<=n/\n<=9223372036854775807):EV G (Tb (bs bb)) 211 [.one (.bls 0 0 N 1),vi a,vi 1,vi n] [yb l]=some (.tup [],[yb (aZ l a.toNat n 1)]):=by
 have:=aAS (G:=G) (bb:=bb) l a.toNat 1 n N b (by omega) d e;rwa[Int.toNat_of_nonneg c] at this
def iZ(b:L Int)(k:Nat)(s:L Int):L Int:=b.take k++s++b.drop (k+s.length)
theorem cY{b:L Int}{k:Nat}{s:L Int}(h:k+s.length<=b.length):(iZ b k s).length=b.length:=by simp[iZ];omega
theorem Tx(s:L Int)(a:aI s):fH (s.map u8)=s.map yC:=by
 unfold fH;rw[aZ4];exact aZZ (fun b c=>by simp only[Function.comp_apply,yC,iA b (a b c)])
theorem pL(b s:L Int)(k n:Nat)(a:aI s)(h:s.length<=n):cZ (b.map yC) k (fH ((s.map u8).take n))=(iZ b k s).map yC:=by
 rw[bAc (by simpa using h),Tx s a];simp[cZ,iZ,bAh,bAp,bAR]
def zl(n:Nat):L Int:=List.replicate n 0
theorem aS(n:Nat):(zl n).length=n:=aZI
theorem P2(n:Nat):List.replicate n (aU.dc (.raw (.int .u8 0)))=(zl n).map yC:=by rw[zl,List.map_replicate];rfl
theorem lM(l:L Int):jO (l.map yC)=some (l.map u8):=by
 induction l with
 |nil=>rfl
 |cons b l a=>simp only[aZM,yC,cI,jO,u8] at a ⊢;rw[a];rfl
theorem Dw(l:L Int)(n:Nat)(h:l.length<=n):(l.map yC).take n=l.map yC:=bAc (by simpa using h)
def sS(a:aJ):Nat:=if a.res=true then 24 else 40
def qU(a:aJ):L Int:=if a.res=true then a.va else (Ch a.rs).1
def cX(a:aJ):Nat:=(sS a+a.nm.length+7) / 8*8
def fA(a:aJ):Nat:=(cX a+(qU a).length+7) / 8*8
def Tz(a:aJ):L Int:=aZ (aZ (aZ (aZ (aZ (aZ (zl (fA a)) 0 a.ty 4) 4 (fA a) 4) 9 a.nm.length 1) 10 (sS a) 2) 12 a.fl 2) 14 a.id 2
def T0(a:aJ):L Int:=if a.res=true then aZ (aZ (Tz a) 16 (qU a).length 4) 20 (cX a) 4
 else aZ (aZ (aZ (aZ (aZ (aZ (aZ (Tz a) 8 1 1) 16 a.fi 4) 20 (a.fi+gQ a.rs-1) 4) 24 (cX a) 2) 28 a.al 4) 32 a.sz 4) 36 a.vd 4
def tP(a:aJ):L Int:=iZ (iZ (T0 a) (sS a) a.nm) (cX a) (qU a)
structure aJ.Bd (a:aJ):Prop where
 nm:aI a.nm
 va:aI a.va
 nl:a.nm.length<=1000
 vl:a.va.length<=1000
 rl:a.rs.length<=1000
 ty:-1000000000000<=a.ty/\a.ty<=1000000000000
 id:-1000000000000<=a.id/\a.id<=1000000000000
 fl:-1000000000000<=a.fl/\a.fl<=1000000000000
 fi:-1000000000000<=a.fi/\a.fi<=1000000000000
 al:-1000000000000<=a.al/\a.al<=1000000000000
 sz:-1000000000000<=a.sz/\a.sz<=1000000000000
 vd:-1000000000000<=a.vd/\a.vd<=1000000000000
 lw:-1000000000000<=gQ a.rs/\gQ a.rs<=1000000000000
theorem Nj(l:L aW):aI (Ch l).1/\(Ch l).1.length<=5*64+1:=by
 unfold Ch;by_cases c:Dn [l]=0;have f:(mT l).2=0:=by rw[Nd] at c;exact c
 have i:=Hx f;have g:=oH f;obtain⟨h,j,e⟩:=Ax l (fun r d=>(i r d).1) l.length (aZE _)
 rw[Dv] at h e;rw[if_neg (by simpa using c)];refine⟨fun b a=>?_,by simp;omega⟩
 rcases bAV.1 a with a|a;exact e b a;have:=List.mem_singleton.1 a;omega;rw[if_pos c];exact⟨jL,by simp⟩
