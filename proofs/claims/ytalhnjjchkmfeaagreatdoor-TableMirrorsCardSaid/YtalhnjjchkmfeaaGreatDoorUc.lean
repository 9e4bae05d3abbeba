/- Part. Conditions: none. -/
import Derived.Test.YtalhnjjchkmfeaaGreatDoorTa
import Derived.Test.YtalhnjjchkmfeaaGreatDoorVi
namespace Go.Proofs.YtalhnjjchkmfeaaGreatDoor
set_option linter.unusedSimpArgs false
set_option linter.unusedVariables false
set_option maxRecDepth 4000
section
variable {G:aF}{bb:Bool}
structure aI where
 ty:Int
 nm:List Int
 id:Int
 fl:Int
 res:Bool
 va:List Int
 fi:Int
 rs:List aX
 al:Int
 sz:Int
 vd:Int
abbrev aI.e(a:aI):L DC:=[ci a.ty,.raw (.string (dI a.nm)),ci a.id,ci a.fl,.raw (.bool a.res),.raw (.string (dI a.va)),ci a.fi,.slc (a.rs.map aX.e),ci a.al,ci a.sz,ci a.vd]
abbrev aI.c(a:aI):L aV:=[.dc (ci a.ty),.dc (.raw (.string (dI a.nm))),.dc (ci a.id),.dc (ci a.fl),.dc (.raw (.bool a.res)),.dc (.raw (.string (dI a.va))),.dc (ci a.fi),.dc (.slc (a.rs.map aX.e)),.dc (ci a.al),.dc (ci a.sz),.dc (ci a.vd)]
abbrev aI.v(a:aI):AV:=.agg a.c
abbrev aI.t(a:aI):TV:=.agg a.c
def aI.nil:aI:=⟨0,[],0,0,false,[],0,[],0,0,0⟩
theorem cC(n a b:Int):EV G (Tb (bs bb)) 164 [vi n,vi a,vi b] []=some (vb (decide (a<=n/\n<=b)),[]):=by
 refine aB rfl ?_;by_cases h:a<=n;all_goals simp (disch:=omega) only[go_sem,h164c]
 all_goals simp[h]
theorem iC(b:Bool)(e:Int):EV G (Tb (bs bb)) 161 [vb b,vi e] []=some (vi (if b=true then 0 else e),[]):=by
 refine aB rfl ?_;cases b;all_goals simp (disch:=omega) only[go_sem,h161c]
 all_goals rfl
theorem aDa(b:Bool)(e:Int):EV G (Tb (bs bb)) 244 [vb b,vi e] []=some (vi (if b=true then 0 else e),[]):=by
 refine aB rfl ?_;cases b;all_goals simp (disch:=omega) only[go_sem,h244c]
 all_goals rfl
theorem J4(l:L Int)(g:l.length<=1000):EV G (Tb (bs bb)) 160 [vl (el l)] []=some (vi (aU l),[]):=by
 refine aB rfl ?_;simp (disch:=omega) only[go_sem,h160c,aZz];have a:∀ k (b:k < l.length),¬ l.getD k 0≠0->Lt [5,0,0] 0 (EC (EV G (Tb (bs bb))) G h160l0 ⟨(jk 5 (vl (el l)::vi l.length::vi k::jk 7 [])),[]⟩)=some ⟨(jk 5 (vl (el l)::vi l.length::vi (k+1:Nat)::jk 7 [])),[]⟩:=fun k b f=>by
  rw[bU l k b] at f;simp (disch:=omega) only[go_sem,h160l0,aZz,uC]
 rcases Py (fun k=>l.getD k 0≠0) l.length with h|⟨j,e,c,d⟩
 rw[aT (fun k=>⟨(jk 5 (vl (el l)::vi l.length::vi k::jk 7 [])),[]⟩) l.length ?_ ?_]
 rw[iI l h];simp (disch:=omega) only[go_sem,h160l0];rfl;exact fun k b=>a k b (h k b)
 rw[aT (fun k=>⟨(jk 5 (vl (el l)::vi l.length::vi k::jk 7 [])),[]⟩) j ?_ ?_]
 rw[kH l j e d c];rw[bU l j e] at c;simp (disch:=omega) only[go_sem,h160l0,aZz,uC];rfl;exact fun k b=>a k (by omega) (d k b)
theorem aGX(l:L Int)(g:l.length<=1000):EV G (Tb (bs bb)) 243 [vl (el l)] []=some (vi (aU l),[]):=by
 refine aB rfl ?_;simp (disch:=omega) only[go_sem,h243c,aZz];have a:∀ k (b:k < l.length),¬ l.getD k 0≠0->Lt [5,0,0] 0 (EC (EV G (Tb (bs bb))) G h243l0 ⟨(jk 5 (vl (el l)::vi l.length::vi k::jk 7 [])),[]⟩)=some ⟨(jk 5 (vl (el l)::vi l.length::vi (k+1:Nat)::jk 7 [])),[]⟩:=fun k b f=>by
  rw[bU l k b] at f;simp (disch:=omega) only[go_sem,h243l0,aZz,uC]
 rcases Py (fun k=>l.getD k 0≠0) l.length with h|⟨j,e,c,d⟩
 rw[aT (fun k=>⟨(jk 5 (vl (el l)::vi l.length::vi k::jk 7 [])),[]⟩) l.length ?_ ?_]
 rw[iI l h];simp (disch:=omega) only[go_sem,h243l0];rfl;exact fun k b=>a k b (h k b)
 rw[aT (fun k=>⟨(jk 5 (vl (el l)::vi l.length::vi k::jk 7 [])),[]⟩) j ?_ ?_]
 rw[kH l j e d c];rw[bU l j e] at c;simp (disch:=omega) only[go_sem,h243l0,aZz,uC];rfl;exact fun k b=>a k (by omega) (d k b)
theorem aLR(a b:Int):EV G (Tb (bs bb)) 243 [vl [[ci a],[ci b]]] []=some (vi (aU [a,b]),[]):=aGX [a,b] (by simp)
theorem nK(a b:Int):EV G (Tb (bs bb)) 160 [vl [[ci a],[ci b]]] []=some (vi (aU [a,b]),[]):=J4 [a,b] (by simp)
theorem cD(a b c:Int):EV G (Tb (bs bb)) 160 [vl [[ci a],[ci b],[ci c]]] []=some (vi (aU [a,b,c]),[]):=J4 [a,b,c] (by simp)
theorem jL(a b c d e:Int):EV G (Tb (bs bb)) 160 [vl [[ci a],[ci b],[ci c],[ci d],[ci e]]] []=some (vi (aU [a,b,c,d,e]),[]):=J4 [a,b,c,d,e] (by simp)
def Nj:L Int:=[16,32,48,64,96,112,128,144,160,176,192]
def Hd:L Int:=[16,48,96,112,144]
theorem gW:EV G (Tb (bs bb)) 211 [] []=some (.one (.mpc tyL),[]):=jG rfl rfl
theorem Ts(n:Int):By tyL n=if n∈Nj then some (.bool (decide (n∈Hd))) else none:=by
 unfold tyL Nj Hd;simp only[By,bAQ,bA8,or_false];split<;>rename_i a;subst a;simp;split<;>rename_i b;subst b;simp;split<;>rename_i h3;subst h3;simp;split<;>rename_i h4;subst h4;simp;split<;>rename_i h5;subst h5;simp;split<;>rename_i h6;subst h6;simp;split<;>rename_i h7;subst h7;simp;split<;>rename_i h8;subst h8;simp;split<;>rename_i h9;subst h9;simp;split<;>rename_i h10;subst h10;simp;split<;>rename_i h11;subst h11;simp;rw[if_neg (by omega)]
theorem aGY(n:Int):EV G (Tb (bs bb)) 162 [vi n] []=some (vb (decide (n∈Nj)),[]):=by
 refine aB rfl ?_;have a:=Ts n;by_cases h:n∈Nj;rw[if_pos h] at a;simp (disch:=omega) only[go_sem,h162c,gW,Ri,mpR,a,h];rw[if_neg h] at a;simp (disch:=omega) only[go_sem,h162c,gW,Ri,mpR,a,h]
theorem Gn(a:aI)(d:a.rs.length<=1000000):EV G (Tb (bs bb)) 214 [a.v] []=some (vi (gP a.rs),[]):=by
 refine aB rfl ?_;simp (disch:=omega) only[go_sem,h214c,aZz];rw[aT (fun k=>⟨(jk 3 (vi (gP (a.rs.take k))::jk 3 (cW a.rs::vi a.rs.length::vi k::jk 9 []))),[.box a.c]⟩) a.rs.length ?_ ?_]
 simp (disch:=omega) only[go_sem,h214l0,bAi];rfl;intro k b;rw[Fd a.rs k b];simp (disch:=omega) only[go_sem,h214l0,aZz,aX.e]
theorem Ck(b:Bool):EV G (Tb (bs bb)) 216 [vb b] []=some (vi (if b=true then 24 else 40),[]):=by
 refine aB rfl ?_;cases b;all_goals simp (disch:=omega) only[go_sem,h216c]
 all_goals rfl
def al8(n:Int):Int:=(n+7) / 8*8
theorem A6(n:Int)(h:0<=n/\n<=1000000000):EV G (Tb (bs bb)) 217 [vi n] []=some (vi (al8 n),[]):=by
 refine aB rfl ?_;have e:n+8-1=n+7:=by omega
 simp (disch:=omega) only[go_sem,h217c,nA,al8,e]
end
section
variable {G:aF}{bb:Bool}
def uZ:L Int:=[34,42,47,58,60,62,63,92,124]
def nL(c:Int):Bool:=decide (32<=c/\c<=126/\c∉uZ)
theorem aLS:∀n:_root_.Fin 256,(Lib.indexByte (ByteArray.mk #[34,42,47,58,60,62,63,92,124]).data.toList ((n.val:Int).toNat.toUInt8)<0)↔((n.val:Int)∉uZ):=by decide
theorem aLT(c:Int)(h:0<=c/\c<=255):(Lib.indexByte (ByteArray.mk #[34,42,47,58,60,62,63,92,124]).data.toList c.toNat.toUInt8<0)=(c∉uZ):=by
 have:=aLS ⟨c.toNat,by omega⟩;simp only[show ((c.toNat:Nat):Int)=c by omega] at this;exact propext this
theorem aVe(s:ByteArray)(c:Int):EV G (Tb (bs bb)) 289 [.one (.dc (.raw (.string s))),vu c] []=some (vi (Lib.indexByte s.data.toList c.toNat.toUInt8),[]):=jG rfl rfl
theorem X0(s:ByteArray)(c:Int):EV G (Tb (bs bb)) 274 [.one (.dc (.raw (.string s))),vu c] []=some (vi (Lib.indexByte s.data.toList c.toNat.toUInt8),[]):=by
 refine aB rfl ?_;simp (disch:=omega) only[go_sem,h274c,aVe]
theorem aQy(c:Int)(h:0<=c/\c<=255):EV G (Tb (bs bb)) 279 [vu c] []=some (vb (nL c),[]):=by
 refine aB rfl ?_;have d:=aLT c h;unfold nL;by_cases a:32<=c;by_cases b:c<=126;simp (disch:=omega) only[go_sem,h279c,X0,a,b];simp only[d,true_and];simp (disch:=omega) only[go_sem,h279c,X0,a,b];simp (disch:=omega) only[go_sem,h279c,X0,a]
theorem aQz{id:Nat}:lD [] id=true:=rfl
theorem aQA{j id:Nat}{J:L Nat}:lD (j::J) id=(!nq id j&&lD J id):=by
 simp only[lD,jK,List.contains_cons,Bool.not_or]
attribute [go_sem] aQz aQA
theorem Tt(c:Int)(h:0<=c/\c<=255):EV G (Tb (bs bb)) 291 [vu c,.one (.ptr 0 0)] [.box [.fn 279 []]]=some (vb (!nL c),[.box [.fn 279 []]]):=by
 refine aB rfl ?_;have a:=aQy (G:=G) (bb:=bb) c h;simp (disch:=omega) only[go_sem,h291c,a]
theorem tO(l:L Int)(k:Nat)(h:k<l.length):l.getD k 0=l[k]:=bU l k h
theorem aLU(l:L Int)(f:aJ l)(h:l.length<=1000000):EV G (Tb (bs bb)) 295 [vl (bl l),.one (.fn 291 [.ptr 0 0])] [.box [.fn 279 []]]=some (vi (if ix (fun k=>¬ nL (l.getD k 0)=true) l.length=l.length then -1 else (ix (fun k=>¬ nL (l.getD k 0)=true) l.length:Nat)),[.box [.fn 279 []]]):=by
 refine aB rfl ?_;simp (disch:=omega) only[go_sem,h295c,aZz];rw[dQ (fun k=>⟨(vl (bl l)::.one (.fn 291 [.ptr 0 0])::jk 5 (vi l.length::vi k::jk 10 [])),[.box [.fn 279 []]]⟩) (fun k=>¬ nL (l.getD k 0)=true) l.length ?_ ?_]
 rotate_left
 rfl;intro k d g;have e:=g k (aZE _);rw[tO l k d] at e;have b:=f _ (aZG d);have c:=Tt (G:=G) (bb:=bb) l[k] b;have h3:nL l[k]=true:=Classical.not_not.1 e;simp (disch:=omega) only[go_sem,h295l0,aZz,A4,c,h3];obtain⟨d,hp,g⟩:=bF (fun k=>¬ nL (l.getD k 0)=true) l.length
 generalize ix (fun k=>¬ nL (l.getD k 0)=true) l.length=k at *
 rcases hp with rfl|⟨a,hp⟩;simp (disch:=omega) only[go_sem,h295l0,aZz];rw[tO l k a] at hp;have b:=f _ (aZG a);have c:=Tt (G:=G) (bb:=bb) l[k] b;have h3:nL l[k]=false:=by simpa using hp
 rw[if_neg (by omega)];simp (disch:=omega) only[go_sem,h295l0,aZz,A4,c,h3]
def He(l:L Int):Bool:=l.all nL
theorem aLV(l:L Int):(if ix (fun k=>¬ nL (l.getD k 0)=true) l.length=l.length then (-1:Int) else (ix (fun k=>¬ nL (l.getD k 0)=true) l.length:Nat))<0↔He l=true:=by
 obtain⟨e,hp,c⟩:=bF (fun k=>¬ nL (l.getD k 0)=true) l.length
 generalize ix (fun k=>¬ nL (l.getD k 0)=true) l.length=k at *
 rcases hp with rfl|⟨a,hp⟩;rw[if_pos rfl];refine⟨fun _=>?_,fun _=>by decide⟩
 unfold He;rw[bA0];intro x d;obtain⟨j,b,rfl⟩:=List.mem_iff_getElem.1 d;have:=c j b;rw[tO l j b] at this;exact Classical.not_not.1 this;rw[if_neg (by omega)];refine⟨fun h=>by omega,fun h=>?_⟩
 rw[tO l k a] at hp;exact absurd (bA0.1 h _ (aZG a)) hp
theorem X3(l:L Int)(a:aJ l):iA (dI l)=l.map A4:=by
 unfold iA;rw[Tp,aZ5];refine aZ1 (fun b c=>?_)
 simp only[Function.comp_apply,A4,iB b (a b c)]
theorem aLW(l:L Int)(d:aJ l)(e:l.length<=1000000):EV G (Tb (bs bb)) 290 [vl (bl l),.one (.fn 291 [.ptr 0 0])] [.box [.fn 279 []]]=some (vb (!He l),[.box [.fn 279 []]]):=by
 refine aB rfl ?_;have a:=aLU (G:=G) (bb:=bb) l d e;have b:=aLV l;generalize (if ix (fun k=>¬ nL (l.getD k 0)=true) l.length=l.length then (-1:Int) else (ix (fun k=>¬ nL (l.getD k 0)=true) l.length:Nat))=z at a b
 cases c:He l with
 |true=>
  have h3:=b.2 c;simp (disch:=omega) only[go_sem,h290c,a];simp;omega
 |false=>
  have h3:¬ z<0:=fun h=>by rw[b.1 h] at c;cases c
  simp (disch:=omega) only[go_sem,h290c,a];simp;omega
theorem aN4{α a:Type}(f:α->Option a)(x:α):[x].mapM f=(f x).map fun c=>[c]:=by
 cases h:f x<;>simp[bAA,h]
theorem X4(l:L Int)(b:aJ l)(e:l.length<=1000000):EV G (Tb (bs bb)) 278 [sv l,.one (.fn 279 [])] []=some (vb (He l),[]):=by
 refine aB rfl ?_;have a:=aLW (G:=G) (bb:=bb) l b e;have c:=X3 l b;cases d:He l;all_goals rw[d] at a
 all_goals simp (disch:=omega) only[go_sem,h278c,a,c,aN4,jF]
theorem aVf(l:L Int)(c:Int)(i:aJ l)(j:0<=c/\c<=255)(m:l.length<=1000000):EV G (Tb (bs bb)) 292 [sv l,sv [c]] []=some (vb (decide (l≠[]/\l.getLast?=some c)),[]):=by
 refine aB rfl ?_;by_cases h:l=[];subst h;simp (disch:=omega) only[go_sem,h292c,aZB,aZC];have hp:1<=l.length:=by have:=List.length_pos_iff.2 h;omega
 have k:l.drop (l.length-1)=[l[l.length-1]]:=by
  rw[bAv (by omega),List.drop_eq_nil_of_le (by omega)]
 have a:aJ [l[l.length-1]]:=fun b f=>by rw[List.mem_singleton.1 f];exact i _ (aZG _)
 have d:aJ [c]:=fun b f=>by rw[List.mem_singleton.1 f];exact j
 have e:=cR a d;have g:l.getLast?=some l[l.length-1]:=by rw[List.getLast?_eq_getElem?,aZJ (by omega)]
 simp (disch:=omega) only[go_sem,h292c,aZB,aZC,k,e,g];simp[h]
theorem aGZ(l:L Int)(c:Int)(b:aJ l)(d:0<=c/\c<=255)(e:l.length<=1000000):EV G (Tb (bs bb)) 280 [sv l,sv [c]] []=some (vb (decide (l≠[]/\l.getLast?=some c)),[]):=by
 refine aB rfl ?_;have a:=aVf (G:=G) (bb:=bb) l c b d e;simp (disch:=omega) only[go_sem,h280c,a]
theorem aG0(l:L Int)(a:aJ l)(k:Nat)(h:k<l.length):l[k]?=some l[k]/\((u8 l[k]).toNat:Int)=l[k]:=⟨aZJ h,iB _ (a _ (aZG h))⟩
def qT(l:L Int):Prop:=l≠[]/\l.length<=32/\He l=true/\l≠[46,46]/\l.getLast?≠some 32/\l.getLast?≠some 46
instance (l:List Int):Decidable (qT l):=by unfold qT;infer_instance
theorem s46:(⟨#[46,46]⟩:ByteArray)=dI [46,46]:=rfl
theorem rO:(⟨#[46]⟩:ByteArray)=dI [46]:=rfl
theorem J5:(⟨#[32]⟩:ByteArray)=dI [32]:=rfl
theorem J6(l:L Int)(h:(l.all fun b=>decide (0<=b/\b<=255))=true):aJ l:=fun b a=>by simpa using bA0.1 h b a
theorem jM:aJ []:=fun b a=>by cases a
theorem aDc(l:L Int)(i:aJ l)(n:l.length<=1000000):EV G (Tb (bs bb)) 245 [sv l] []=some (vb (decide (qT l)),[]):=by
 refine aB rfl ?_;have d:=cR i jM;have e:=cR i (J6 [46,46] (by decide));have f:=X4 (G:=G) (bb:=bb) l i n;have g:=aGZ (G:=G) (bb:=bb) l 32 i (by omega) n;have h3:=aGZ (G:=G) (bb:=bb) l 46 i (by omega) n;by_cases a:l=[];rw[decide_eq_false (fun h:qT l=>h.1 a)]
 simp (disch:=omega) only[go_sem,h245c,aG,s46,rO,J5,d,e,a];by_cases b:l.length<=32;by_cases j:He l=true;rw[j] at f;by_cases c:l=[46,46];rw[decide_eq_false (fun h:qT l=>h.2.2.2.1 c)]
 replace c:=eq_true c;simp (disch:=omega) only[go_sem,h245c,aG,s46,rO,J5,d,e,a,b,f,c];by_cases k:l.getLast?=some 32;rw[decide_eq_false (fun h:qT l=>h.2.2.2.2.1 k)]
 rw[decide_eq_true (⟨a,k⟩:l≠[]/\l.getLast?=some 32)] at g;simp (disch:=omega) only[go_sem,h245c,aG,s46,rO,J5,d,e,a,b,f,c,g];rw[decide_eq_false (fun h:l≠[]/\l.getLast?=some 32=>k h.2)] at g
 by_cases m:l.getLast?=some 46;rw[decide_eq_false (fun h:qT l=>h.2.2.2.2.2 m)]
 rw[decide_eq_true (⟨a,m⟩:l≠[]/\l.getLast?=some 46)] at h3;simp (disch:=omega) only[go_sem,h245c,aG,s46,rO,J5,d,e,a,b,f,c,g,h3];rw[show decide (qT l)=true from decide_eq_true ⟨a,b,j,c,k,m⟩]
 rw[decide_eq_false (fun h:l≠[]/\l.getLast?=some 46=>m h.2)] at h3
 simp (disch:=omega) only[go_sem,h245c,aG,s46,rO,J5,d,e,a,b,f,c,g,h3];rw[decide_eq_false (fun h:qT l=>j h.2.2.1)]
 rw[bA2.2 j] at f;simp (disch:=omega) only[go_sem,h245c,aG,s46,rO,J5,d,e,a,b,f];rw[decide_eq_false (fun h:qT l=>b h.2.1)]
 simp (disch:=omega) only[go_sem,h245c,aG,s46,rO,J5,d,e,a,b]
theorem Tu(l:L Int)(b:aJ l)(c:l.length<=1000000):EV G (Tb (bs bb)) 212 [sv l] []=some (vi (aU [if l.length<=32 then 0 else 8,if qT l then 0 else 4]),[]):=by
 refine aB rfl ?_;have a:=aDc (G:=G) (bb:=bb) l b c;have e:((l.length:Int)<=32)=(l.length<=32):=by apply propext;omega
 simp (disch:=omega) only[go_sem,h212c,a,aDa,aLR,decide_eq_true_eq,e]
def P3(l:L Int):Bool:=decide (l=[]\/qT l)
theorem aDd(l:L Int)(f:aJ l)(g:l.length<=1000000):EV G (Tb (bs bb)) 163 [sv l] []=some (vi (if P3 l=true then 0 else 4),[]):=by
 refine aB rfl ?_;have e:=cR f jM;have a:=Tu (G:=G) (bb:=bb) l f g;by_cases b:l=[];rw[show P3 l=true from decide_eq_true (.inl b)]
 simp (disch:=omega) only[go_sem,h163c,aG,e,b,iC];by_cases c:qT l;rw[show P3 l=true from decide_eq_true (.inr c)]
 have d:=c.2.1;rw[if_pos c,if_pos d,show aU [0,0]=0 from rfl] at a
 simp (disch:=omega) only[go_sem,h163c,aG,e,b,a,iC];rw[show P3 l=false from decide_eq_false (fun h=>h.elim b c)]
 rw[if_neg c] at a;by_cases d:l.length<=32;rw[if_pos d,show aU [0,4]=4 from rfl] at a
 simp (disch:=omega) only[go_sem,h163c,aG,e,b,a,iC];rw[if_neg d,show aU [8,4]=8 from rfl] at a
 simp (disch:=omega) only[go_sem,h163c,aG,e,b,a,iC]
theorem aAQ(c:Int):EV G (Tb (bs bb)) 270 [vu c] []=some (vb (nL c),[]):=by
 refine aB rfl ?_;by_cases i:c<32;rw[show nL c=false from decide_eq_false (fun h=>by omega)]
 simp (disch:=omega) only[go_sem,h270c,i];by_cases n:c > 126;rw[show nL c=false from decide_eq_false (fun h=>by omega)]
 simp (disch:=omega) only[go_sem,h270c,i,n]
 ·have g:(⟨#[34,42,47,58,60,62,63,92,124]⟩:ByteArray)=dI uZ:=rfl;have b:aJ uZ:=J6 uZ (by decide);simp (disch:=omega) only[go_sem,h270c,i,n,g];rw[dQ (fun k=>⟨(vu c::jk 2 (vi k::jk 14 [])),[]⟩) (fun k=>uZ.getD k 0=c) 9 ?_ ?_]
  rotate_left
  rfl;intro k l m;have o:=m k (aZE _);obtain⟨f,h3⟩:=aG0 uZ b k l;rw[tO uZ k l] at o;simp (disch:=omega) only[go_sem,h270l0,g,f,h3,o,aZF];obtain⟨l,hp,m⟩:=bF (fun k=>uZ.getD k 0=c) 9
  generalize ix (fun k=>uZ.getD k 0=c) 9=k at *
  rcases hp with rfl|⟨a,hp⟩;have d:c∉uZ:=by
   intro d;obtain⟨j,p,e⟩:=List.mem_iff_getElem.1 d;exact m j p (by rw[tO uZ j p];exact e)
  rw[show nL c=true from decide_eq_true ⟨by omega,by omega,d⟩]
  simp (disch:=omega) only[go_sem,h270l0,g];have d:c∈uZ:=by
   rw[tO uZ k a] at hp;rw[<- hp];exact aZG _
  obtain⟨f,h3⟩:=aG0 uZ b k a;rw[tO uZ k a] at hp;rw[hp] at f h3;rw[show nL c=false from decide_eq_false (fun h=>h.2.2 d)]
  simp (disch:=omega) only[go_sem,h270l0,g,f,h3,aZF]
theorem aLX(l:L Int)(m:aJ l)(B:l.length<=1000000):EV G (Tb (bs bb)) 228 [sv l] []=some (vi (if l.length > 32 then 8 else if qT l then 0 else 4),[]):=by
 refine aB rfl ?_;have i:=cR m jM;have t:=cR m (J6 [46,46] (by decide));have o:=cR m (J6 [46] (by decide));by_cases b:l.length > 32;rw[if_pos b];simp (disch:=omega) only[go_sem,h228c,b];rw[if_neg b];by_cases c:l=[];rw[if_neg (fun h:qT l=>h.1 c)]
 simp (disch:=omega) only[go_sem,h228c,b,aG,s46,rO,i,c];have hp:1<=l.length:=by have:=List.length_pos_iff.2 c;omega
 have u:l.getLast?=some l[l.length-1]:=by rw[List.getLast?_eq_getElem?,aZJ (by omega)]
 obtain⟨g,a⟩:=aG0 l m (l.length-1) (by omega);by_cases e:l=[46];rw[if_neg (fun h:qT l=>h.2.2.2.2.2 (by rw[e];rfl))]
 replace e:=eq_true e;simp (disch:=omega) only[go_sem,h228c,b,aG,s46,rO,i,c,o,e];by_cases f:l=[46,46];rw[if_neg (fun h:qT l=>h.2.2.2.1 f)]
 replace f:=eq_true f;simp (disch:=omega) only[go_sem,h228c,b,aG,s46,rO,i,c,o,e,t,f];by_cases r:l[l.length-1]=32;rw[if_neg (fun h:qT l=>h.2.2.2.2.1 (by rw[u,r]))]
 rw[r] at g a;simp (disch:=omega) only[go_sem,h228c,b,aG,s46,rO,i,c,o,e,t,f,Cg,g,a,aZF];by_cases s:l[l.length-1]=46;rw[if_neg (fun h:qT l=>h.2.2.2.2.2 (by rw[u,s]))]
 rw[s] at g a;simp (disch:=omega) only[go_sem,h228c,b,aG,s46,rO,i,c,o,e,t,f,Cg,g,a,aZF]
 ·have q:qT l↔He l=true:=by
   exact⟨fun h=>h.2.2.1,fun h=>⟨c,by omega,h,f,by rw[u];simpa using r,by rw[u];simpa using s⟩⟩
  simp (disch:=omega) only[go_sem,h228c,b,aG,s46,rO,i,c,o,e,t,f,g,a,aZF,r,s];rw[dQ (fun k=>⟨(sv l::jk 2 (vi k::jk 40 [])),[]⟩) (fun k=>¬ nL (l.getD k 0)=true) l.length ?_ ?_]
  rotate_left
  rfl;intro k w y;have z:=y k (aZE _);obtain⟨v,h4⟩:=aG0 l m k w;rw[tO l k w] at z;have h3:=aAQ (G:=G) (bb:=bb) l[k];rw[Classical.not_not.1 z] at h3;simp (disch:=omega) only[go_sem,h228l0,v,h3,h4,aZF];obtain⟨w,n,y⟩:=bF (fun k=>¬ nL (l.getD k 0)=true) l.length
  generalize ix (fun k=>¬ nL (l.getD k 0)=true) l.length=k at *
  rcases n with rfl|⟨d,n⟩;have p:He l=true:=by
   unfold He;rw[bA0];intro x g;obtain⟨j,A,rfl⟩:=List.mem_iff_getElem.1 g;have:=y j A;rw[tO l j A] at this;exact Classical.not_not.1 this
  rw[if_pos (q.2 p)];simp (disch:=omega) only[go_sem,h228l0];have p:¬ He l=true:=by
   intro p;rw[tO l k d] at n;exact n (bA0.1 p _ (aZG d))
  obtain⟨v,h4⟩:=aG0 l m k d;rw[tO l k d] at n;have h3:=aAQ (G:=G) (bb:=bb) l[k];rw[(by simpa using n:nL l[k]=false)] at h3;rw[if_neg (fun h=>p (q.1 h))]
  simp (disch:=omega) only[go_sem,h228l0,v,h3,h4,aZF]
theorem aG1(l:L Int)(f:aJ l)(g:l.length<=1000000):EV G (Tb (bs bb)) 184 [sv l] []=some (vb (P3 l),[]):=by
 refine aB rfl ?_;have d:=cR f jM;have a:=aLX (G:=G) (bb:=bb) l f g;by_cases b:l=[];rw[show P3 l=true from decide_eq_true (.inl b)]
 simp (disch:=omega) only[go_sem,h184c,aG,d,b];by_cases c:qT l;rw[show P3 l=true from decide_eq_true (.inr c)]
 have e:=c.2.1;rw[if_pos c,if_neg (by omega)] at a;simp (disch:=omega) only[go_sem,h184c,aG,d,b,a];rw[show P3 l=false from decide_eq_false (fun h=>h.elim b c)]
 rw[if_neg c] at a;by_cases e:l.length > 32;rw[if_pos e] at a;simp (disch:=omega) only[go_sem,h184c,aG,d,b,a];rfl;rw[if_neg e] at a;simp (disch:=omega) only[go_sem,h184c,aG,d,b,a];rfl
end
section
variable {G:aF}{bb:Bool}
def yC(b:Int):aV:=cK (.int .u8 b)
abbrev yb(l:L Int):aD:=.box (l.map yC)
theorem P4(p:Nat->Bool)(l:L Int):(l.map yC).map (cN p)=l.map yC:=by rw[aZ5];rfl
theorem kS(m:Nat)(l:L Int):Ha m (l.map yC)=l.map yC:=by rw[Dm,P4]
theorem pJ(m:Nat)(l:L Int):Pm m (l.map yC)=l.map yC:=by rw[Hr,P4]
theorem aQB(l:L Int):idsL (l.map yC)=[]:=by
 induction l with
 |nil=>rfl
 |cons b l a=>rw[aZL,idsL,a];rfl
theorem aVg(J:L Nat)(l:L Int):Do J (l.map yC)=true:=by
 induction l with
 |nil=>rfl
 |cons b l a=>rw[aZL,Do,a];rfl
theorem B9(ρ:Nat->Nat)(l:L Int):(l.map yC).map (kD ρ)=l.map yC:=by
 induction l with
 |nil=>rfl
 |cons b l a=>rw[aZL,aZL,a];rfl
theorem aLY(p:Nat->Bool)(l:L Int):keepL p (l.map yC)=true:=by
 induction l with
 |nil=>rfl
 |cons b l a=>rw[aZL,keepL,a];rfl
theorem aQC(id:Nat)(es:L (L DC))(l:L Int):(l.map yC).map (Cc id es)=l.map yC:=by
 induction l with
 |nil=>rfl
 |cons b l a=>rw[aZL,aZL,a];rfl
theorem aG2(l:L Int)(k:Nat)(b:Int)(h:k<l.length):dA (l.map yC) k [.dc (.raw (.int .u8 b))]=(l.set k b).map yC:=by
 unfold dA;apply List.ext_getElem?;intro i;simp only[bAd];by_cases a:i<k;rw[aZP,aZU (by simp;omega),bBh a,aZY (by omega)];by_cases c:i=k;subst c;rw[aZP,aZ0 (by simp;omega),aZ7 (by simpa using h)];simp[bAt (Nat.le_of_lt h)];rfl;rw[aZ0 (by simp;omega),aZY (by omega),aZ9];congr 1;simp;omega
attribute [go_sem] P4 kS pJ aQB aVg B9 aLY aQC
theorem aQD{d:Option Nat}{st:AS}{id:Nat}{cs:L aV}:aFt d id st (some (.tup [],[.box cs]))=bif keepL (fun _=>true) cs then some (⟨aR st.sl d (.tup []),st.hp.set id (.box cs)⟩,[id],[id]) else none:=q_
attribute [go_sem] aQD
def bB(l:L Int)(a:Nat)(n:Int):Nat->L Int
 |0=>l
 |k+1=>(bB l a n k).set (a+k) (Fe n k % 256)
theorem dJ(l:L Int)(a:Nat)(n:Int)(k:Nat):(bB l a n k).length=l.length:=by
 induction k with
 |zero=>rfl
 |succ k b=>simp[bB,b]
theorem aVh(l:L Int)(a k:Nat)(n:Int)(h:a+k<=l.length)(f:l.length<=1000000)(c:-9223372036854775808<=n/\n<=9223372036854775807):EV G (Tb (bs bb)) 218 [.one (.bls 0 0 l.length 1),vi a,vi k,vi n] [yb l]=some (.tup [],[yb (bB l a n k)]):=by
 refine aB rfl ?_;simp (disch:=omega) only[go_sem,h218c];rw[aT (fun j=>⟨(.one (.bls 0 0 l.length 1)::vi a::jk 1 (vi (Fe n j)::jk 5 (vi k::vi j::jk 12 []))),[yb (bB l a n j)]⟩) k ?_ ?_]
 simp (disch:=omega) only[go_sem,h218l0];rfl;intro j e;have b:=dJ l a n j;have d:=Xy n c j;have h3:=aG2 (bB l a n j) (a+j) (Fe n j % 256) (by omega);simp (disch:=omega) only[go_sem,h218l0,aZz,b,wu8,Int.reduceToNat,Int.reducePow,Hy,Fe,bB,h3]
theorem aAR(l:L Int)(a k:Nat)(n:Int)(N:Nat)(b:l.length=N)(h:a+k<=N)(c:N<=1000000)(d:-9223372036854775808<=n/\n<=9223372036854775807):EV G (Tb (bs bb)) 218 [.one (.bls 0 0 N 1),vi a,vi k,vi n] [yb l]=some (.tup [],[yb (bB l a n k)]):=by
 subst b;exact aVh l a k n h c d
theorem aN5(l:L Int)(n:Int)(N:Nat)(a:l.length=N)(h:4<=N)(b:N<=1000000)(c:-9223372036854775808<=n/\n<=9223372036854775807):EV G (Tb (bs bb)) 218 [.one (.bls 0 0 N 1),vi 0,vi 4,vi n] [yb l]=some (.tup [],[yb (bB l 0 n 4)]):=aAR l 0 4 n N a h b c
theorem aN6(l:L Int)(a:Int)(n:Int)(N:Nat)(b:l.length=N)(c:0<=a)(h:a+4<=N)(d:N<=1000000)(e:-9223372036854775808<=n/\n<=9223372036854775807):EV G (Tb (bs bb)) 218 [.one (.bls 0 0 N 1),vi a,vi 4,vi n] [yb l]=some (.tup [],[yb (bB l a.toNat n 4)]):=by
 have:=aAR (G:=G) (bb:=bb) l a.toNat 4 n N b (by omega) d e;rwa[Int.toNat_of_nonneg c] at this
theorem aN7(l:L Int)(a:Int)(n:Int)(N:Nat)(b:l.length=N)(c:0<=a)(h:a+2<=N)(d:N<=1000000)(e:-9223372036854775808<=n/\n<=9223372036854775807):EV G (Tb (bs bb)) 218 [.one (.bls 0 0 N 1),vi a,vi 2,vi n] [yb l]=some (.tup [],[yb (bB l a.toNat n 2)]):=by
 have:=aAR (G:=G) (bb:=bb) l a.toNat 2 n N b (by omega) d e;rwa[Int.toNat_of_nonneg c] at this
theorem aN8(l:L Int)(a:Int)(n:Int)(N:Nat)(b:l.length=N)(c:0<=a)(h:a+1<=N)(d:N<=1000000)(e:-9223372036854775808<=n/\n<=9223372036854775807):EV G (Tb (bs bb)) 218 [.one (.bls 0 0 N 1),vi a,vi 1,vi n] [yb l]=some (.tup [],[yb (bB l a.toNat n 1)]):=by
 have:=aAR (G:=G) (bb:=bb) l a.toNat 1 n N b (by omega) d e;rwa[Int.toNat_of_nonneg c] at this
def fE(b:L Int)(k:Nat)(s:L Int):L Int:=b.take k++s++b.drop (k+s.length)
theorem cJ{b:L Int}{k:Nat}{s:L Int}(h:k+s.length<=b.length):(fE b k s).length=b.length:=by simp[fE];omega
theorem Tv(s:L Int)(a:aJ s):fG (s.map u8)=s.map yC:=by
 unfold fG;rw[aZ5];exact aZ1 (fun b c=>by simp only[Function.comp_apply,yC,iB b (a b c)])
theorem pK(b s:L Int)(k n:Nat)(a:aJ s)(h:s.length<=n):dA (b.map yC) k (fG ((s.map u8).take n))=(fE b k s).map yC:=by
 rw[aZ6 (by simpa using h),Tv s a];simp[dA,fE,bAg,bAo,bAV]
def zl(n:Nat):L Int:=List.replicate n 0
theorem aS(n:Nat):(zl n).length=n:=aZH
theorem P5(n:Nat):List.replicate n (aV.dc (.raw (.int .u8 0)))=(zl n).map yC:=by rw[zl,List.map_replicate];rfl
theorem lL(l:L Int):jO (l.map yC)=some (l.map u8):=by
 induction l with
 |nil=>rfl
 |cons b l a=>simp only[aZL,yC,cK,jO,u8] at a ⊢;rw[a];rfl
theorem D0(l:L Int)(n:Nat)(h:l.length<=n):(l.map yC).take n=l.map yC:=aZ6 (by simpa using h)
def sU(a:aI):Nat:=if a.res=true then 24 else 40
def qU(a:aI):L Int:=if a.res=true then a.va else (Cj a.rs).1
def cZ(a:aI):Nat:=(sU a+a.nm.length+7) / 8*8
def eY(a:aI):Nat:=(cZ a+(qU a).length+7) / 8*8
def Tw(a:aI):L Int:=bB (bB (bB (bB (bB (bB (zl (eY a)) 0 a.ty 4) 4 (eY a) 4) 9 a.nm.length 1) 10 (sU a) 2) 12 a.fl 2) 14 a.id 2
def Tx(a:aI):L Int:=if a.res=true then bB (bB (Tw a) 16 (qU a).length 4) 20 (cZ a) 4
 else bB (bB (bB (bB (bB (bB (bB (Tw a) 8 1 1) 16 a.fi 4) 20 (a.fi+gP a.rs-1) 4) 24 (cZ a) 2) 28 a.al 4) 32 a.sz 4) 36 a.vd 4
def tV(a:aI):L Int:=fE (fE (Tx a) (sU a) a.nm) (cZ a) (qU a)
structure aI.Bd (a:aI):Prop where
 nm:aJ a.nm
 va:aJ a.va
 nl:a.nm.length<=1000
 vl:a.va.length<=1000
 rl:a.rs.length<=1000
 ty:-1000000000000<=a.ty/\a.ty<=1000000000000
 id:-1000000000000<=a.id/\a.id<=1000000000000
 fl:-1000000000000<=a.fl/\a.fl<=1000000000000
 fi:-1000000000000<=a.fi/\a.fi<=1000000000000
 al:-1000000000000<=a.al/\a.al<=1000000000000
 sz:-1000000000000<=a.sz/\a.sz<=1000000000000
 vd:-1000000000000<=a.vd/\a.vd<=1000000000000
 lw:-1000000000000<=gP a.rs/\gP a.rs<=1000000000000
theorem Nk(l:L aX):aJ (Cj l).1/\(Cj l).1.length<=5*64+1:=by
 unfold Cj;by_cases c:Dr [l]=0;have f:(mU l).2=0:=by rw[Ng] at c;exact c
 have i:=Hz f;have g:=oH f;obtain⟨h,j,e⟩:=A5 l (fun r d=>(i r d).1) l.length (aZE _)
 rw[Dz] at h e;rw[if_neg (by simpa using c)];refine⟨fun b a=>?_,by simp;omega⟩
 rcases bAY.1 a with a|a;exact e b a;have:=List.mem_singleton.1 a;omega;rw[if_pos c];exact⟨jM,by simp⟩
