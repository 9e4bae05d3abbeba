/- Part. Conditions: none. -/
import Derived.Test.YtalhnjjchkmfeabGreatDoorTa
import Derived.Test.YtalhnjjchkmfeabGreatDoorVi
namespace Go.Proofs.YtalhnjjchkmfeabGreatDoor
set_option linter.unusedSimpArgs false
set_option linter.unusedVariables false
set_option maxRecDepth 4000
section
variable {G:aE}{bb:Bool}
structure aK where
 ty:Int
 nm:List Int
 id:Int
 fl:Int
 res:Bool
 va:List Int
 fi:Int
 rs:List aV
 al:Int
 sz:Int
 vd:Int
abbrev aK.e(a:aK):L DC:=[ci a.ty,.raw (.string (fF a.nm)),ci a.id,ci a.fl,.raw (.bool a.res),.raw (.string (fF a.va)),ci a.fi,.slc (a.rs.map aV.e),ci a.al,ci a.sz,ci a.vd]
abbrev aK.c(a:aK):L aU:=[.dc (ci a.ty),.dc (.raw (.string (fF a.nm))),.dc (ci a.id),.dc (ci a.fl),.dc (.raw (.bool a.res)),.dc (.raw (.string (fF a.va))),.dc (ci a.fi),.dc (.slc (a.rs.map aV.e)),.dc (ci a.al),.dc (ci a.sz),.dc (ci a.vd)]
abbrev aK.v(a:aK):AV:=.agg a.c
abbrev aK.t(a:aK):TV:=.agg a.c
def aK.nil:aK:=⟨0,[],0,0,false,[],0,[],0,0,0⟩
theorem cC(n a b:Int):EV G (Tb (bs bb)) 193 [vi n,vi a,vi b] []=some (vb (decide (a<=n/\n<=b)),[]):=by
 refine aA rfl ?_;by_cases h:a<=n;all_goals simp (disch:=omega) only[go_sem,h193c]
 all_goals simp[h]
theorem iC(b:Bool)(e:Int):EV G (Tb (bs bb)) 151 [vb b,vi e] []=some (vi (if b=true then 0 else e),[]):=by
 refine aA rfl ?_;cases b;all_goals simp (disch:=omega) only[go_sem,h151c]
 all_goals rfl
theorem aCx(b:Bool)(e:Int):EV G (Tb (bs bb)) 260 [vb b,vi e] []=some (vi (if b=true then 0 else e),[]):=by
 refine aA rfl ?_;cases b;all_goals simp (disch:=omega) only[go_sem,h260c]
 all_goals rfl
theorem Jl(l:L Int)(g:l.length<=1000):EV G (Tb (bs bb)) 150 [vl (el l)] []=some (vi (aT l),[]):=by
 refine aA rfl ?_;simp (disch:=omega) only[go_sem,h150c,aY9];have a:∀ k (b:k < l.length),¬ l.getD k 0≠0->K7 [5,0,0] 0 (EC (EV G (Tb (bs bb))) G h150l0 ⟨(jk 5 (vl (el l)::vi l.length::vi k::jk 7 [])),[]⟩)=some ⟨(jk 5 (vl (el l)::vi l.length::vi (k+1:Nat)::jk 7 [])),[]⟩:=fun k b f=>by
  rw[bW l k b] at f;simp (disch:=omega) only[go_sem,h150l0,aY9,tX]
 rcases O3 (fun k=>l.getD k 0≠0) l.length with h|⟨j,e,c,d⟩
 rw[aQ (fun k=>⟨(jk 5 (vl (el l)::vi l.length::vi k::jk 7 [])),[]⟩) l.length ?_ ?_]
 rw[iK l h];simp (disch:=omega) only[go_sem,h150l0];rfl;exact fun k b=>a k b (h k b)
 rw[aQ (fun k=>⟨(jk 5 (vl (el l)::vi l.length::vi k::jk 7 [])),[]⟩) j ?_ ?_]
 rw[kM l j e d c];rw[bW l j e] at c;simp (disch:=omega) only[go_sem,h150l0,aY9,tX];rfl;exact fun k b=>a k (by omega) (d k b)
theorem aGj(l:L Int)(g:l.length<=1000):EV G (Tb (bs bb)) 259 [vl (el l)] []=some (vi (aT l),[]):=by
 refine aA rfl ?_;simp (disch:=omega) only[go_sem,h259c,aY9];have a:∀ k (b:k < l.length),¬ l.getD k 0≠0->K7 [5,0,0] 0 (EC (EV G (Tb (bs bb))) G h259l0 ⟨(jk 5 (vl (el l)::vi l.length::vi k::jk 7 [])),[]⟩)=some ⟨(jk 5 (vl (el l)::vi l.length::vi (k+1:Nat)::jk 7 [])),[]⟩:=fun k b f=>by
  rw[bW l k b] at f;simp (disch:=omega) only[go_sem,h259l0,aY9,tX]
 rcases O3 (fun k=>l.getD k 0≠0) l.length with h|⟨j,e,c,d⟩
 rw[aQ (fun k=>⟨(jk 5 (vl (el l)::vi l.length::vi k::jk 7 [])),[]⟩) l.length ?_ ?_]
 rw[iK l h];simp (disch:=omega) only[go_sem,h259l0];rfl;exact fun k b=>a k b (h k b)
 rw[aQ (fun k=>⟨(jk 5 (vl (el l)::vi l.length::vi k::jk 7 [])),[]⟩) j ?_ ?_]
 rw[kM l j e d c];rw[bW l j e] at c;simp (disch:=omega) only[go_sem,h259l0,aY9,tX];rfl;exact fun k b=>a k (by omega) (d k b)
theorem aLo(a b:Int):EV G (Tb (bs bb)) 259 [vl [[ci a],[ci b]]] []=some (vi (aT [a,b]),[]):=aGj [a,b] (by simp)
theorem nR(a b:Int):EV G (Tb (bs bb)) 150 [vl [[ci a],[ci b]]] []=some (vi (aT [a,b]),[]):=Jl [a,b] (by simp)
theorem cD(a b c:Int):EV G (Tb (bs bb)) 150 [vl [[ci a],[ci b],[ci c]]] []=some (vi (aT [a,b,c]),[]):=Jl [a,b,c] (by simp)
theorem jU(a b c d e:Int):EV G (Tb (bs bb)) 150 [vl [[ci a],[ci b],[ci c],[ci d],[ci e]]] []=some (vi (aT [a,b,c,d,e]),[]):=Jl [a,b,c,d,e] (by simp)
def Mr:L Int:=[16,32,48,64,96,112,128,144,160,176,192]
def Gu:L Int:=[16,48,96,112,144]
theorem gX:EV G (Tb (bs bb)) 233 [] []=some (.one (.mpc tyL),[]):=jO rfl rfl
theorem S9(n:Int):Bo tyL n=if n∈Mr then some (.bool (decide (n∈Gu))) else none:=by
 unfold tyL Mr Gu;simp only[Bo,bAl,bAF,or_false];split<;>rename_i a;subst a;simp;split<;>rename_i b;subst b;simp;split<;>rename_i h3;subst h3;simp;split<;>rename_i h4;subst h4;simp;split<;>rename_i h5;subst h5;simp;split<;>rename_i h6;subst h6;simp;split<;>rename_i h7;subst h7;simp;split<;>rename_i h8;subst h8;simp;split<;>rename_i h9;subst h9;simp;split<;>rename_i h10;subst h10;simp;split<;>rename_i h11;subst h11;simp;rw[if_neg (by omega)]
theorem aGk(n:Int):EV G (Tb (bs bb)) 191 [vi n] []=some (vb (decide (n∈Mr)),[]):=by
 refine aA rfl ?_;have a:=S9 n;by_cases h:n∈Mr;rw[if_pos h] at a;simp (disch:=omega) only[go_sem,h191c,gX,Qz,mpR,a,h];rw[if_neg h] at a;simp (disch:=omega) only[go_sem,h191c,gX,Qz,mpR,a,h]
theorem F9(a:aK)(d:a.rs.length<=1000000):EV G (Tb (bs bb)) 224 [a.v] []=some (vi (gP a.rs),[]):=by
 refine aA rfl ?_;simp (disch:=omega) only[go_sem,h224c,aY9];rw[aQ (fun k=>⟨(jk 3 (vi (gP (a.rs.take k))::jk 3 (cV a.rs::vi a.rs.length::vi k::jk 9 []))),[.box a.c]⟩) a.rs.length ?_ ?_]
 simp (disch:=omega) only[go_sem,h224l0,aZO];rfl;intro k b;rw[E4 a.rs k b];simp (disch:=omega) only[go_sem,h224l0,aY9,aV.e]
theorem Cb(b:Bool):EV G (Tb (bs bb)) 218 [vb b] []=some (vi (if b=true then 24 else 40),[]):=by
 refine aA rfl ?_;cases b;all_goals simp (disch:=omega) only[go_sem,h218c]
 all_goals rfl
def al8(n:Int):Int:=(n+7) / 8*8
theorem A1(n:Int)(h:0<=n/\n<=1000000000):EV G (Tb (bs bb)) 219 [vi n] []=some (vi (al8 n),[]):=by
 refine aA rfl ?_;have e:n+8-1=n+7:=by omega
 simp (disch:=omega) only[go_sem,h219c,nH,al8,e]
end
section
variable {G:aE}{bb:Bool}
def zZ:L Int:=[34,42,47,58,60,62,63,92,124]
def nS(c:Int):Bool:=decide (32<=c/\c<=126/\c∉zZ)
theorem aLp:∀n:_root_.Fin 256,(Lib.indexByte (ByteArray.mk #[34,42,47,58,60,62,63,92,124]).data.toList ((n.val:Int).toNat.toUInt8)<0)↔((n.val:Int)∉zZ):=by decide
theorem aLq(c:Int)(h:0<=c/\c<=255):(Lib.indexByte (ByteArray.mk #[34,42,47,58,60,62,63,92,124]).data.toList c.toNat.toUInt8<0)=(c∉zZ):=by
 have:=aLp ⟨c.toNat,by omega⟩;simp only[show ((c.toNat:Nat):Int)=c by omega] at this;exact propext this
theorem aUL(s:ByteArray)(c:Int):EV G (Tb (bs bb)) 306 [.one (.dc (.raw (.string s))),vu c] []=some (vi (Lib.indexByte s.data.toList c.toNat.toUInt8),[]):=jO rfl rfl
theorem Wy(s:ByteArray)(c:Int):EV G (Tb (bs bb)) 299 [.one (.dc (.raw (.string s))),vu c] []=some (vi (Lib.indexByte s.data.toList c.toNat.toUInt8),[]):=by
 refine aA rfl ?_;simp (disch:=omega) only[go_sem,h299c,aUL]
theorem aP6(c:Int)(h:0<=c/\c<=255):EV G (Tb (bs bb)) 287 [vu c] []=some (vb (nS c),[]):=by
 refine aA rfl ?_;have d:=aLq c h;unfold nS;by_cases a:32<=c;by_cases b:c<=126;simp (disch:=omega) only[go_sem,h287c,Wy,a,b];simp only[d,true_and];simp (disch:=omega) only[go_sem,h287c,Wy,a,b];simp (disch:=omega) only[go_sem,h287c,Wy,a]
theorem aP7{id:Nat}:lL [] id=true:=rfl
theorem aP8{j id:Nat}{J:L Nat}:lL (j::J) id=(!nq id j&&lL J id):=by
 simp only[lL,jT,List.contains_cons,Bool.not_or]
attribute [go_sem] aP7 aP8
theorem Ta(c:Int)(h:0<=c/\c<=255):EV G (Tb (bs bb)) 298 [vu c,.one (.ptr 0 0)] [.box [.fn 287 []]]=some (vb (!nS c),[.box [.fn 287 []]]):=by
 refine aA rfl ?_;have a:=aP6 (G:=G) (bb:=bb) c h;simp (disch:=omega) only[go_sem,h298c,a]
theorem tZ(l:L Int)(k:Nat)(h:k<l.length):l.getD k 0=l[k]:=bW l k h
theorem aLr(l:L Int)(f:aH l)(h:l.length<=1000000):EV G (Tb (bs bb)) 305 [vl (bl l),.one (.fn 298 [.ptr 0 0])] [.box [.fn 287 []]]=some (vi (if ix (fun k=>¬ nS (l.getD k 0)=true) l.length=l.length then -1 else (ix (fun k=>¬ nS (l.getD k 0)=true) l.length:Nat)),[.box [.fn 287 []]]):=by
 refine aA rfl ?_;simp (disch:=omega) only[go_sem,h305c,aY9];rw[dP (fun k=>⟨(vl (bl l)::.one (.fn 298 [.ptr 0 0])::jk 5 (vi l.length::vi k::jk 10 [])),[.box [.fn 287 []]]⟩) (fun k=>¬ nS (l.getD k 0)=true) l.length ?_ ?_]
 rotate_left
 rfl;intro k d g;have e:=g k (aZe _);rw[tZ l k d] at e;have b:=f _ (aZk d);have c:=Ta (G:=G) (bb:=bb) l[k] b;have h3:nS l[k]=true:=Classical.not_not.1 e;simp (disch:=omega) only[go_sem,h305l0,aY9,Az,c,h3];obtain⟨d,hp,g⟩:=bI (fun k=>¬ nS (l.getD k 0)=true) l.length
 generalize ix (fun k=>¬ nS (l.getD k 0)=true) l.length=k at *
 rcases hp with rfl|⟨a,hp⟩;simp (disch:=omega) only[go_sem,h305l0,aY9];rw[tZ l k a] at hp;have b:=f _ (aZk a);have c:=Ta (G:=G) (bb:=bb) l[k] b;have h3:nS l[k]=false:=by simpa using hp
 rw[if_neg (by omega)];simp (disch:=omega) only[go_sem,h305l0,aY9,Az,c,h3]
def Gv(l:L Int):Bool:=l.all nS
theorem aLs(l:L Int):(if ix (fun k=>¬ nS (l.getD k 0)=true) l.length=l.length then (-1:Int) else (ix (fun k=>¬ nS (l.getD k 0)=true) l.length:Nat))<0↔Gv l=true:=by
 obtain⟨e,hp,c⟩:=bI (fun k=>¬ nS (l.getD k 0)=true) l.length
 generalize ix (fun k=>¬ nS (l.getD k 0)=true) l.length=k at *
 rcases hp with rfl|⟨a,hp⟩;rw[if_pos rfl];refine⟨fun _=>?_,fun _=>by decide⟩
 unfold Gv;rw[bAr];intro x d;obtain⟨j,b,rfl⟩:=List.mem_iff_getElem.1 d;have:=c j b;rw[tZ l j b] at this;exact Classical.not_not.1 this;rw[if_neg (by omega)];refine⟨fun h=>by omega,fun h=>?_⟩
 rw[tZ l k a] at hp;exact absurd (bAr.1 h _ (aZk a)) hp
theorem Wz(l:L Int)(a:aH l):iA (fF l)=l.map Az:=by
 unfold iA;rw[S6,aZG];refine aZC (fun b c=>?_)
 simp only[Function.comp_apply,Az,iB b (a b c)]
theorem aLt(l:L Int)(d:aH l)(e:l.length<=1000000):EV G (Tb (bs bb)) 297 [vl (bl l),.one (.fn 298 [.ptr 0 0])] [.box [.fn 287 []]]=some (vb (!Gv l),[.box [.fn 287 []]]):=by
 refine aA rfl ?_;have a:=aLr (G:=G) (bb:=bb) l d e;have b:=aLs l;generalize (if ix (fun k=>¬ nS (l.getD k 0)=true) l.length=l.length then (-1:Int) else (ix (fun k=>¬ nS (l.getD k 0)=true) l.length:Nat))=z at a b
 cases c:Gv l with
 |true=>
  have h3:=b.2 c;simp (disch:=omega) only[go_sem,h297c,a];simp;omega
 |false=>
  have h3:¬ z<0:=fun h=>by rw[b.1 h] at c;cases c
  simp (disch:=omega) only[go_sem,h297c,a];simp;omega
theorem aNA{α a:Type}(f:α->Option a)(x:α):[x].mapM f=(f x).map fun c=>[c]:=by
 cases h:f x<;>simp[aZ8,h]
theorem W0(l:L Int)(b:aH l)(e:l.length<=1000000):EV G (Tb (bs bb)) 286 [sv l,.one (.fn 287 [])] []=some (vb (Gv l),[]):=by
 refine aA rfl ?_;have a:=aLt (G:=G) (bb:=bb) l b e;have c:=Wz l b;cases d:Gv l;all_goals rw[d] at a
 all_goals simp (disch:=omega) only[go_sem,h286c,a,c,aNA,jM]
theorem aUM(l:L Int)(c:Int)(i:aH l)(j:0<=c/\c<=255)(m:l.length<=1000000):EV G (Tb (bs bb)) 300 [sv l,sv [c]] []=some (vb (decide (l≠[]/\l.getLast?=some c)),[]):=by
 refine aA rfl ?_;by_cases h:l=[];subst h;simp (disch:=omega) only[go_sem,h300c,aZb,aZc];have hp:1<=l.length:=by have:=List.length_pos_iff.2 h;omega
 have k:l.drop (l.length-1)=[l[l.length-1]]:=by
  rw[aZ4 (by omega),List.drop_eq_nil_of_le (by omega)]
 have a:aH [l[l.length-1]]:=fun b f=>by rw[List.mem_singleton.1 f];exact i _ (aZk _)
 have d:aH [c]:=fun b f=>by rw[List.mem_singleton.1 f];exact j
 have e:=dA a d;have g:l.getLast?=some l[l.length-1]:=by rw[List.getLast?_eq_getElem?,aZi (by omega)]
 simp (disch:=omega) only[go_sem,h300c,aZb,aZc,k,e,g];simp[h]
theorem aGl(l:L Int)(c:Int)(b:aH l)(d:0<=c/\c<=255)(e:l.length<=1000000):EV G (Tb (bs bb)) 288 [sv l,sv [c]] []=some (vb (decide (l≠[]/\l.getLast?=some c)),[]):=by
 refine aA rfl ?_;have a:=aUM (G:=G) (bb:=bb) l c b d e;simp (disch:=omega) only[go_sem,h288c,a]
theorem aGm(l:L Int)(a:aH l)(k:Nat)(h:k<l.length):l[k]?=some l[k]/\((u8 l[k]).toNat:Int)=l[k]:=⟨aZi h,iB _ (a _ (aZk h))⟩
def rF(l:L Int):Prop:=l≠[]/\l.length<=32/\Gv l=true/\l≠[46,46]/\l.getLast?≠some 32/\l.getLast?≠some 46
instance (l:List Int):Decidable (rF l):=by unfold rF;infer_instance
theorem s46:(⟨#[46,46]⟩:ByteArray)=fF [46,46]:=rfl
theorem sD:(⟨#[46]⟩:ByteArray)=fF [46]:=rfl
theorem Jm:(⟨#[32]⟩:ByteArray)=fF [32]:=rfl
theorem Jn(l:L Int)(h:(l.all fun b=>decide (0<=b/\b<=255))=true):aH l:=fun b a=>by simpa using bAr.1 h b a
theorem jV:aH []:=fun b a=>by cases a
theorem aCz(l:L Int)(i:aH l)(n:l.length<=1000000):EV G (Tb (bs bb)) 261 [sv l] []=some (vb (decide (rF l)),[]):=by
 refine aA rfl ?_;have d:=dA i jV;have e:=dA i (Jn [46,46] (by decide));have f:=W0 (G:=G) (bb:=bb) l i n;have g:=aGl (G:=G) (bb:=bb) l 32 i (by omega) n;have h3:=aGl (G:=G) (bb:=bb) l 46 i (by omega) n;by_cases a:l=[];rw[decide_eq_false (fun h:rF l=>h.1 a)]
 simp (disch:=omega) only[go_sem,h261c,aG,s46,sD,Jm,d,e,a];by_cases b:l.length<=32;by_cases j:Gv l=true;rw[j] at f;by_cases c:l=[46,46];rw[decide_eq_false (fun h:rF l=>h.2.2.2.1 c)]
 replace c:=eq_true c;simp (disch:=omega) only[go_sem,h261c,aG,s46,sD,Jm,d,e,a,b,f,c];by_cases k:l.getLast?=some 32;rw[decide_eq_false (fun h:rF l=>h.2.2.2.2.1 k)]
 rw[decide_eq_true (⟨a,k⟩:l≠[]/\l.getLast?=some 32)] at g;simp (disch:=omega) only[go_sem,h261c,aG,s46,sD,Jm,d,e,a,b,f,c,g];rw[decide_eq_false (fun h:l≠[]/\l.getLast?=some 32=>k h.2)] at g
 by_cases m:l.getLast?=some 46;rw[decide_eq_false (fun h:rF l=>h.2.2.2.2.2 m)]
 rw[decide_eq_true (⟨a,m⟩:l≠[]/\l.getLast?=some 46)] at h3;simp (disch:=omega) only[go_sem,h261c,aG,s46,sD,Jm,d,e,a,b,f,c,g,h3];rw[show decide (rF l)=true from decide_eq_true ⟨a,b,j,c,k,m⟩]
 rw[decide_eq_false (fun h:l≠[]/\l.getLast?=some 46=>m h.2)] at h3
 simp (disch:=omega) only[go_sem,h261c,aG,s46,sD,Jm,d,e,a,b,f,c,g,h3];rw[decide_eq_false (fun h:rF l=>j h.2.2.1)]
 rw[bAw.2 j] at f;simp (disch:=omega) only[go_sem,h261c,aG,s46,sD,Jm,d,e,a,b,f];rw[decide_eq_false (fun h:rF l=>b h.2.1)]
 simp (disch:=omega) only[go_sem,h261c,aG,s46,sD,Jm,d,e,a,b]
theorem Tc(l:L Int)(b:aH l)(c:l.length<=1000000):EV G (Tb (bs bb)) 234 [sv l] []=some (vi (aT [if l.length<=32 then 0 else 8,if rF l then 0 else 4]),[]):=by
 refine aA rfl ?_;have a:=aCz (G:=G) (bb:=bb) l b c;have e:((l.length:Int)<=32)=(l.length<=32):=by apply propext;omega
 simp (disch:=omega) only[go_sem,h234c,a,aCx,aLo,decide_eq_true_eq,e]
def O9(l:L Int):Bool:=decide (l=[]\/rF l)
theorem aCA(l:L Int)(f:aH l)(g:l.length<=1000000):EV G (Tb (bs bb)) 192 [sv l] []=some (vi (if O9 l=true then 0 else 4),[]):=by
 refine aA rfl ?_;have e:=dA f jV;have a:=Tc (G:=G) (bb:=bb) l f g;by_cases b:l=[];rw[show O9 l=true from decide_eq_true (.inl b)]
 simp (disch:=omega) only[go_sem,h192c,aG,e,b,iC];by_cases c:rF l;rw[show O9 l=true from decide_eq_true (.inr c)]
 have d:=c.2.1;rw[if_pos c,if_pos d,show aT [0,0]=0 from rfl] at a
 simp (disch:=omega) only[go_sem,h192c,aG,e,b,a,iC];rw[show O9 l=false from decide_eq_false (fun h=>h.elim b c)]
 rw[if_neg c] at a;by_cases d:l.length<=32;rw[if_pos d,show aT [0,4]=4 from rfl] at a
 simp (disch:=omega) only[go_sem,h192c,aG,e,b,a,iC];rw[if_neg d,show aT [8,4]=8 from rfl] at a
 simp (disch:=omega) only[go_sem,h192c,aG,e,b,a,iC]
theorem aAc(c:Int):EV G (Tb (bs bb)) 258 [vu c] []=some (vb (nS c),[]):=by
 refine aA rfl ?_;by_cases i:c<32;rw[show nS c=false from decide_eq_false (fun h=>by omega)]
 simp (disch:=omega) only[go_sem,h258c,i];by_cases n:c > 126;rw[show nS c=false from decide_eq_false (fun h=>by omega)]
 simp (disch:=omega) only[go_sem,h258c,i,n]
 ·have g:(⟨#[34,42,47,58,60,62,63,92,124]⟩:ByteArray)=fF zZ:=rfl;have b:aH zZ:=Jn zZ (by decide);simp (disch:=omega) only[go_sem,h258c,i,n,g];rw[dP (fun k=>⟨(vu c::jk 2 (vi k::jk 14 [])),[]⟩) (fun k=>zZ.getD k 0=c) 9 ?_ ?_]
  rotate_left
  rfl;intro k l m;have o:=m k (aZe _);obtain⟨f,h3⟩:=aGm zZ b k l;rw[tZ zZ k l] at o;simp (disch:=omega) only[go_sem,h258l0,g,f,h3,o,aZf];obtain⟨l,hp,m⟩:=bI (fun k=>zZ.getD k 0=c) 9
  generalize ix (fun k=>zZ.getD k 0=c) 9=k at *
  rcases hp with rfl|⟨a,hp⟩;have d:c∉zZ:=by
   intro d;obtain⟨j,p,e⟩:=List.mem_iff_getElem.1 d;exact m j p (by rw[tZ zZ j p];exact e)
  rw[show nS c=true from decide_eq_true ⟨by omega,by omega,d⟩]
  simp (disch:=omega) only[go_sem,h258l0,g];have d:c∈zZ:=by
   rw[tZ zZ k a] at hp;rw[<- hp];exact aZk _
  obtain⟨f,h3⟩:=aGm zZ b k a;rw[tZ zZ k a] at hp;rw[hp] at f h3;rw[show nS c=false from decide_eq_false (fun h=>h.2.2 d)]
  simp (disch:=omega) only[go_sem,h258l0,g,f,h3,aZf]
theorem aLu(l:L Int)(m:aH l)(B:l.length<=1000000):EV G (Tb (bs bb)) 229 [sv l] []=some (vi (if l.length > 32 then 8 else if rF l then 0 else 4),[]):=by
 refine aA rfl ?_;have i:=dA m jV;have t:=dA m (Jn [46,46] (by decide));have o:=dA m (Jn [46] (by decide));by_cases b:l.length > 32;rw[if_pos b];simp (disch:=omega) only[go_sem,h229c,b];rw[if_neg b];by_cases c:l=[];rw[if_neg (fun h:rF l=>h.1 c)]
 simp (disch:=omega) only[go_sem,h229c,b,aG,s46,sD,i,c];have hp:1<=l.length:=by have:=List.length_pos_iff.2 c;omega
 have u:l.getLast?=some l[l.length-1]:=by rw[List.getLast?_eq_getElem?,aZi (by omega)]
 obtain⟨g,a⟩:=aGm l m (l.length-1) (by omega);by_cases e:l=[46];rw[if_neg (fun h:rF l=>h.2.2.2.2.2 (by rw[e];rfl))]
 replace e:=eq_true e;simp (disch:=omega) only[go_sem,h229c,b,aG,s46,sD,i,c,o,e];by_cases f:l=[46,46];rw[if_neg (fun h:rF l=>h.2.2.2.1 f)]
 replace f:=eq_true f;simp (disch:=omega) only[go_sem,h229c,b,aG,s46,sD,i,c,o,e,t,f];by_cases r:l[l.length-1]=32;rw[if_neg (fun h:rF l=>h.2.2.2.2.1 (by rw[u,r]))]
 rw[r] at g a;simp (disch:=omega) only[go_sem,h229c,b,aG,s46,sD,i,c,o,e,t,f,B7,g,a,aZf];by_cases s:l[l.length-1]=46;rw[if_neg (fun h:rF l=>h.2.2.2.2.2 (by rw[u,s]))]
 rw[s] at g a;simp (disch:=omega) only[go_sem,h229c,b,aG,s46,sD,i,c,o,e,t,f,B7,g,a,aZf]
 ·have q:rF l↔Gv l=true:=by
   exact⟨fun h=>h.2.2.1,fun h=>⟨c,by omega,h,f,by rw[u];simpa using r,by rw[u];simpa using s⟩⟩
  simp (disch:=omega) only[go_sem,h229c,b,aG,s46,sD,i,c,o,e,t,f,g,a,aZf,r,s];rw[dP (fun k=>⟨(sv l::jk 2 (vi k::jk 40 [])),[]⟩) (fun k=>¬ nS (l.getD k 0)=true) l.length ?_ ?_]
  rotate_left
  rfl;intro k w y;have z:=y k (aZe _);obtain⟨v,h4⟩:=aGm l m k w;rw[tZ l k w] at z;have h3:=aAc (G:=G) (bb:=bb) l[k];rw[Classical.not_not.1 z] at h3;simp (disch:=omega) only[go_sem,h229l0,v,h3,h4,aZf];obtain⟨w,n,y⟩:=bI (fun k=>¬ nS (l.getD k 0)=true) l.length
  generalize ix (fun k=>¬ nS (l.getD k 0)=true) l.length=k at *
  rcases n with rfl|⟨d,n⟩;have p:Gv l=true:=by
   unfold Gv;rw[bAr];intro x g;obtain⟨j,A,rfl⟩:=List.mem_iff_getElem.1 g;have:=y j A;rw[tZ l j A] at this;exact Classical.not_not.1 this
  rw[if_pos (q.2 p)];simp (disch:=omega) only[go_sem,h229l0];have p:¬ Gv l=true:=by
   intro p;rw[tZ l k d] at n;exact n (bAr.1 p _ (aZk d))
  obtain⟨v,h4⟩:=aGm l m k d;rw[tZ l k d] at n;have h3:=aAc (G:=G) (bb:=bb) l[k];rw[(by simpa using n:nS l[k]=false)] at h3;rw[if_neg (fun h=>p (q.1 h))]
  simp (disch:=omega) only[go_sem,h229l0,v,h3,h4,aZf]
theorem aGn(l:L Int)(f:aH l)(g:l.length<=1000000):EV G (Tb (bs bb)) 178 [sv l] []=some (vb (O9 l),[]):=by
 refine aA rfl ?_;have d:=dA f jV;have a:=aLu (G:=G) (bb:=bb) l f g;by_cases b:l=[];rw[show O9 l=true from decide_eq_true (.inl b)]
 simp (disch:=omega) only[go_sem,h178c,aG,d,b];by_cases c:rF l;rw[show O9 l=true from decide_eq_true (.inr c)]
 have e:=c.2.1;rw[if_pos c,if_neg (by omega)] at a;simp (disch:=omega) only[go_sem,h178c,aG,d,b,a];rw[show O9 l=false from decide_eq_false (fun h=>h.elim b c)]
 rw[if_neg c] at a;by_cases e:l.length > 32;rw[if_pos e] at a;simp (disch:=omega) only[go_sem,h178c,aG,d,b,a];rfl;rw[if_neg e] at a;simp (disch:=omega) only[go_sem,h178c,aG,d,b,a];rfl
end
section
variable {G:aE}{bb:Bool}
def yC(b:Int):aU:=cN (.int .u8 b)
abbrev yb(l:L Int):aD:=.box (l.map yC)
theorem Pa(p:Nat->Bool)(l:L Int):(l.map yC).map (cO p)=l.map yC:=by rw[aZG];rfl
theorem iX(m:Nat)(l:L Int):Gq m (l.map yC)=l.map yC:=by rw[Dg,Pa]
theorem pV(m:Nat)(l:L Int):Om m (l.map yC)=l.map yC:=by rw[G5,Pa]
theorem aP9(l:L Int):idsL (l.map yC)=[]:=by
 induction l with
 |nil=>rfl
 |cons b l a=>rw[aZl,idsL,a];rfl
theorem aUN(J:L Nat)(l:L Int):Gr J (l.map yC)=true:=by
 induction l with
 |nil=>rfl
 |cons b l a=>rw[aZl,Gr,a];rfl
theorem sF(ρ:Nat->Nat)(l:L Int):(l.map yC).map (kT ρ)=l.map yC:=by
 induction l with
 |nil=>rfl
 |cons b l a=>rw[aZl,aZl,a];rfl
theorem aLv(p:Nat->Bool)(l:L Int):keepL p (l.map yC)=true:=by
 induction l with
 |nil=>rfl
 |cons b l a=>rw[aZl,keepL,a];rfl
theorem aQa(id:Nat)(es:L (L DC))(l:L Int):(l.map yC).map (B3 id es)=l.map yC:=by
 induction l with
 |nil=>rfl
 |cons b l a=>rw[aZl,aZl,a];rfl
theorem aGo(l:L Int)(k:Nat)(b:Int)(h:k<l.length):dB (l.map yC) k [.dc (.raw (.int .u8 b))]=(l.set k b).map yC:=by
 unfold dB;apply List.ext_getElem?;intro i;simp only[aZN];by_cases a:i<k;rw[aZr,aZv (by simp;omega),List.getElem?_take_of_lt a,aZw (by omega)];by_cases c:i=k;subst c;rw[aZr,aZD (by simp;omega),aZH (by simpa using h)];simp[bAA (Nat.le_of_lt h)];rfl;rw[aZD (by simp;omega),aZw (by omega),aZK];congr 1;simp;omega
attribute [go_sem] Pa iX pV aP9 aUN sF aLv aQa
theorem aQb{d:Option Nat}{st:AS}{id:Nat}{cs:L aU}:aEQ d id st (some (.tup [],[.box cs]))=bif keepL (fun _=>true) cs then some (⟨aS st.sl d (.tup []),st.hp.set id (.box cs)⟩,[id],[id]) else none:=q_
attribute [go_sem] aQb
def aY(l:L Int)(a:Nat)(n:Int):Nat->L Int
 |0=>l
 |k+1=>(aY l a n k).set (a+k) (F8 n k % 256)
theorem dI(l:L Int)(a:Nat)(n:Int)(k:Nat):(aY l a n k).length=l.length:=by
 induction k with
 |zero=>rfl
 |succ k b=>simp[aY,b]
theorem aUO(l:L Int)(a k:Nat)(n:Int)(h:a+k<=l.length)(f:l.length<=1000000)(c:-9223372036854775808<=n/\n<=9223372036854775807):EV G (Tb (bs bb)) 223 [.one (.bls 0 0 l.length 1),vi a,vi k,vi n] [yb l]=some (.tup [],[yb (aY l a n k)]):=by
 refine aA rfl ?_;simp (disch:=omega) only[go_sem,h223c];rw[aQ (fun j=>⟨(.one (.bls 0 0 l.length 1)::vi a::jk 1 (vi (F8 n j)::jk 5 (vi k::vi j::jk 12 []))),[yb (aY l a n j)]⟩) k ?_ ?_]
 simp (disch:=omega) only[go_sem,h223l0];rfl;intro j e;have b:=dI l a n j;have d:=Wv n c j;have h3:=aGo (aY l a n j) (a+j) (F8 n j % 256) (by omega);simp (disch:=omega) only[go_sem,h223l0,aY9,b,wu8,Int.reduceToNat,Int.reducePow,Hc,F8,aY,h3]
theorem aAd(l:L Int)(a k:Nat)(n:Int)(N:Nat)(b:l.length=N)(h:a+k<=N)(c:N<=1000000)(d:-9223372036854775808<=n/\n<=9223372036854775807):EV G (Tb (bs bb)) 223 [.one (.bls 0 0 N 1),vi a,vi k,vi n] [yb l]=some (.tup [],[yb (aY l a n k)]):=by
 subst b;exact aUO l a k n h c d
theorem aNB(l:L Int)(n:Int)(N:Nat)(a:l.length=N)(h:4<=N)(b:N<=1000000)(c:-9223372036854775808<=n/\n<=9223372036854775807):EV G (Tb (bs bb)) 223 [.one (.bls 0 0 N 1),vi 0,vi 4,vi n] [yb l]=some (.tup [],[yb (aY l 0 n 4)]):=aAd l 0 4 n N a h b c
theorem aNC(l:L Int)(a:Int)(n:Int)(N:Nat)(b:l.length=N)(c:0<=a)(h:a+4<=N)(d:N<=1000000)(e:-9223372036854775808<=n/\n<=9223372036854775807):EV G (Tb (bs bb)) 223 [.one (.bls 0 0 N 1),vi a,vi 4,vi n] [yb l]=some (.tup [],[yb (aY l a.toNat n 4)]):=by
 have:=aAd (G:=G) (bb:=bb) l a.toNat 4 n N b (by omega) d e;rwa[Int.toNat_of_nonneg c] at this
theorem aND(l:L Int)(a:Int)(n:Int)(N:Nat)(b:l.length=N)(c:0<=a)(h:a+2<=N)(d:N<=1000000)(e:-9223372036854775808<=n/\n<=9223372036854775807):EV G (Tb (bs bb)) 223 [.one (.bls 0 0 N 1),vi a,vi 2,vi n] [yb l]=some (.tup [],[yb (aY l a.toNat n 2)]):=by
 have:=aAd (G:=G) (bb:=bb) l a.toNat 2 n N b (by omega) d e;rwa[Int.toNat_of_nonneg c] at this
theorem aNE(l:L Int)(a:Int)(n:Int)(N:Nat)(b:l.length=N)(c:0<=a)(h:a+1<=N)(d:N<=1000000)(e:-9223372036854775808<=n/\n<=9223372036854775807):EV G (Tb (bs bb)) 223 [.one (.bls 0 0 N 1),vi a,vi 1,vi n] [yb l]=some (.tup [],[yb (aY l a.toNat n 1)]):=by
 have:=aAd (G:=G) (bb:=bb) l a.toNat 1 n N b (by omega) d e;rwa[Int.toNat_of_nonneg c] at this
def gI(b:L Int)(k:Nat)(s:L Int):L Int:=b.take k++s++b.drop (k+s.length)
theorem cR{b:L Int}{k:Nat}{s:L Int}(h:k+s.length<=b.length):(gI b k s).length=b.length:=by simp[gI];omega
theorem Td(s:L Int)(a:aH s):fH (s.map u8)=s.map yC:=by
 unfold fH;rw[aZG];exact aZC (fun b c=>by simp only[Function.comp_apply,yC,iB b (a b c)])
theorem pW(b s:L Int)(k n:Nat)(a:aH s)(h:s.length<=n):dB (b.map yC) k (fH ((s.map u8).take n))=(gI b k s).map yC:=by
 rw[aZI (by simpa using h),Td s a];simp[dB,gI,aZQ,aZZ,bAu]
def zl(n:Nat):L Int:=List.replicate n 0
theorem aP(n:Nat):(zl n).length=n:=aZg
theorem Pb(n:Nat):List.replicate n (aU.dc (.raw (.int .u8 0)))=(zl n).map yC:=by rw[zl,List.map_replicate];rfl
theorem kN(l:L Int):jN (l.map yC)=some (l.map u8):=by
 induction l with
 |nil=>rfl
 |cons b l a=>simp only[aZl,yC,cN,jN,u8] at a ⊢;rw[a];rfl
theorem Dt(l:L Int)(n:Nat)(h:l.length<=n):(l.map yC).take n=l.map yC:=aZI (by simpa using h)
def tH(a:aK):Nat:=if a.res=true then 24 else 40
def rG(a:aK):L Int:=if a.res=true then a.va else (Ca a.rs).1
def cZ(a:aK):Nat:=(tH a+a.nm.length+7) / 8*8
def fA(a:aK):Nat:=(cZ a+(rG a).length+7) / 8*8
def Te(a:aK):L Int:=aY (aY (aY (aY (aY (aY (zl (fA a)) 0 a.ty 4) 4 (fA a) 4) 9 a.nm.length 1) 10 (tH a) 2) 12 a.fl 2) 14 a.id 2
def Tf(a:aK):L Int:=if a.res=true then aY (aY (Te a) 16 (rG a).length 4) 20 (cZ a) 4
 else aY (aY (aY (aY (aY (aY (aY (Te a) 8 1 1) 16 a.fi 4) 20 (a.fi+gP a.rs-1) 4) 24 (cZ a) 2) 28 a.al 4) 32 a.sz 4) 36 a.vd 4
def uE(a:aK):L Int:=gI (gI (Tf a) (tH a) a.nm) (cZ a) (rG a)
structure aK.Bd (a:aK):Prop where
 nm:aH a.nm
 va:aH a.va
 nl:a.nm.length<=1000
 vl:a.va.length<=1000
 rl:a.rs.length<=1000
 ty:-1000000000000<=a.ty/\a.ty<=1000000000000
 id:-1000000000000<=a.id/\a.id<=1000000000000
 fl:-1000000000000<=a.fl/\a.fl<=1000000000000
 fi:-1000000000000<=a.fi/\a.fi<=1000000000000
 al:-1000000000000<=a.al/\a.al<=1000000000000
 sz:-1000000000000<=a.sz/\a.sz<=1000000000000
 vd:-1000000000000<=a.vd/\a.vd<=1000000000000
 lw:-1000000000000<=gP a.rs/\gP a.rs<=1000000000000
theorem Ms(l:L aV):aH (Ca l).1/\(Ca l).1.length<=5*64+1:=by
 unfold Ca;by_cases c:Dk [l]=0;have f:(nC l).2=0:=by rw[Mn] at c;exact c
 have i:=Hd f;have g:=oW f;obtain⟨h,j,e⟩:=A0 l (fun r d=>(i r d).1) l.length (aZe _)
 rw[Ds] at h e;rw[if_neg (by simpa using c)];refine⟨fun b a=>?_,by simp;omega⟩
 rcases bAB.1 a with a|a;exact e b a;have:=List.mem_singleton.1 a;omega;rw[if_pos c];exact⟨jV,by simp⟩
