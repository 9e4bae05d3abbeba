/- Part. Conditions: none. -/
import Derived.Test.YtgdjbbnicgfohacGreatDoorTa
import Derived.Test.YtgdjbbnicgfohacGreatDoorVi
namespace Go.Proofs.YtgdjbbnicgfohacGreatDoor
set_option linter.unusedSimpArgs false
set_option linter.unusedVariables false
set_option maxRecDepth 4000
section
variable {G:aF}{bb:Bool}
structure aJ where
 ty:Int
 nm:List Int
 id:Int
 fl:Int
 res:Bool
 va:List Int
 fi:Int
 rs:List aV
 al:Int
 sz:Int
 vd:Int
abbrev aJ.e(a:aJ):L DC:=[ci a.ty,.raw (.string (dB a.nm)),ci a.id,ci a.fl,.raw (.bool a.res),.raw (.string (dB a.va)),ci a.fi,.slc (a.rs.map aV.e),ci a.al,ci a.sz,ci a.vd]
abbrev aJ.c(a:aJ):L aU:=[.dc (ci a.ty),.dc (.raw (.string (dB a.nm))),.dc (ci a.id),.dc (ci a.fl),.dc (.raw (.bool a.res)),.dc (.raw (.string (dB a.va))),.dc (ci a.fi),.dc (.slc (a.rs.map aV.e)),.dc (ci a.al),.dc (ci a.sz),.dc (ci a.vd)]
abbrev aJ.v(a:aJ):AV:=.agg a.c
abbrev aJ.t(a:aJ):TV:=.agg a.c
def aJ.nil:aJ:=⟨0,[],0,0,false,[],0,[],0,0,0⟩
theorem bZ(n a b:Int):EV G (Tb (bs bb)) 167 [vi n,vi a,vi b] []=some (vb (decide (a<=n/\n<=b)),[]):=by
 refine aB rfl ?_;by_cases h:a<=n;all_goals simp (disch:=omega) only[go_sem,h167c]
 all_goals simp[h]
theorem gZ(b:Bool)(e:Int):EV G (Tb (bs bb)) 164 [vb b,vi e] []=some (vi (if b=true then 0 else e),[]):=by
 refine aB rfl ?_;cases b;all_goals simp (disch:=omega) only[go_sem,h164c]
 all_goals rfl
theorem aCU(b:Bool)(e:Int):EV G (Tb (bs bb)) 246 [vb b,vi e] []=some (vi (if b=true then 0 else e),[]):=by
 refine aB rfl ?_;cases b;all_goals simp (disch:=omega) only[go_sem,h246c]
 all_goals rfl
theorem Jx(l:L Int)(g:l.length<=1000):EV G (Tb (bs bb)) 163 [vl (el l)] []=some (vi (aT l),[]):=by
 refine aB rfl ?_;simp (disch:=omega) only[go_sem,h163c,aZa];have a:∀ k (b:k < l.length),¬ l.getD k 0≠0->Lf [5,0,0] 0 (EC (EV G (Tb (bs bb))) G h163l0 ⟨(jk 5 (vl (el l)::vi l.length::vi k::jk 7 [])),[]⟩)=some ⟨(jk 5 (vl (el l)::vi l.length::vi (k+1:Nat)::jk 7 [])),[]⟩:=fun k b f=>by
  rw[cD l k b] at f;simp (disch:=omega) only[go_sem,h163l0,aZa,tD]
 rcases Ph (fun k=>l.getD k 0≠0) l.length with h|⟨j,e,c,d⟩
 rw[aR (fun k=>⟨(jk 5 (vl (el l)::vi l.length::vi k::jk 7 [])),[]⟩) l.length ?_ ?_]
 rw[iD l h];simp (disch:=omega) only[go_sem,h163l0];rfl;exact fun k b=>a k b (h k b)
 rw[aR (fun k=>⟨(jk 5 (vl (el l)::vi l.length::vi k::jk 7 [])),[]⟩) j ?_ ?_]
 rw[kE l j e d c];rw[cD l j e] at c;simp (disch:=omega) only[go_sem,h163l0,aZa,tD];rfl;exact fun k b=>a k (by omega) (d k b)
theorem aGE(l:L Int)(g:l.length<=1000):EV G (Tb (bs bb)) 245 [vl (el l)] []=some (vi (aT l),[]):=by
 refine aB rfl ?_;simp (disch:=omega) only[go_sem,h245c,aZa];have a:∀ k (b:k < l.length),¬ l.getD k 0≠0->Lf [5,0,0] 0 (EC (EV G (Tb (bs bb))) G h245l0 ⟨(jk 5 (vl (el l)::vi l.length::vi k::jk 7 [])),[]⟩)=some ⟨(jk 5 (vl (el l)::vi l.length::vi (k+1:Nat)::jk 7 [])),[]⟩:=fun k b f=>by
  rw[cD l k b] at f;simp (disch:=omega) only[go_sem,h245l0,aZa,tD]
 rcases Ph (fun k=>l.getD k 0≠0) l.length with h|⟨j,e,c,d⟩
 rw[aR (fun k=>⟨(jk 5 (vl (el l)::vi l.length::vi k::jk 7 [])),[]⟩) l.length ?_ ?_]
 rw[iD l h];simp (disch:=omega) only[go_sem,h245l0];rfl;exact fun k b=>a k b (h k b)
 rw[aR (fun k=>⟨(jk 5 (vl (el l)::vi l.length::vi k::jk 7 [])),[]⟩) j ?_ ?_]
 rw[kE l j e d c];rw[cD l j e] at c;simp (disch:=omega) only[go_sem,h245l0,aZa,tD];rfl;exact fun k b=>a k (by omega) (d k b)
theorem aLq(a b:Int):EV G (Tb (bs bb)) 245 [vl [[ci a],[ci b]]] []=some (vi (aT [a,b]),[]):=aGE [a,b] (by simp)
theorem nH(a b:Int):EV G (Tb (bs bb)) 163 [vl [[ci a],[ci b]]] []=some (vi (aT [a,b]),[]):=Jx [a,b] (by simp)
theorem cB(a b c:Int):EV G (Tb (bs bb)) 163 [vl [[ci a],[ci b],[ci c]]] []=some (vi (aT [a,b,c]),[]):=Jx [a,b,c] (by simp)
theorem jH(a b c d e:Int):EV G (Tb (bs bb)) 163 [vl [[ci a],[ci b],[ci c],[ci d],[ci e]]] []=some (vi (aT [a,b,c,d,e]),[]):=Jx [a,b,c,d,e] (by simp)
def M6:L Int:=[16,32,48,64,96,112,128,144,160,176,192]
def G0:L Int:=[16,48,96,112,144]
theorem gS:EV G (Tb (bs bb)) 210 [] []=some (.one (.mpc tyL),[]):=jC rfl rfl
theorem Tc(n:Int):Bp tyL n=if n∈M6 then some (.bool (decide (n∈G0))) else none:=by
 unfold tyL M6 G0;simp only[Bp,bAl,bAG,or_false];split<;>rename_i a;subst a;simp;split<;>rename_i b;subst b;simp;split<;>rename_i h3;subst h3;simp;split<;>rename_i h4;subst h4;simp;split<;>rename_i h5;subst h5;simp;split<;>rename_i h6;subst h6;simp;split<;>rename_i h7;subst h7;simp;split<;>rename_i h8;subst h8;simp;split<;>rename_i h9;subst h9;simp;split<;>rename_i h10;subst h10;simp;split<;>rename_i h11;subst h11;simp;rw[if_neg (by omega)]
theorem aGF(n:Int):EV G (Tb (bs bb)) 165 [vi n] []=some (vb (decide (n∈M6)),[]):=by
 refine aB rfl ?_;have a:=Tc n;by_cases h:n∈M6;rw[if_pos h] at a;simp (disch:=omega) only[go_sem,h165c,gS,Q4,mpR,a,h];rw[if_neg h] at a;simp (disch:=omega) only[go_sem,h165c,gS,Q4,mpR,a,h]
theorem Ga(a:aJ)(d:a.rs.length<=1000000):EV G (Tb (bs bb)) 213 [a.v] []=some (vi (gI a.rs),[]):=by
 refine aB rfl ?_;simp (disch:=omega) only[go_sem,h213c,aZa];rw[aR (fun k=>⟨(jk 3 (vi (gI (a.rs.take k))::jk 3 (cP a.rs::vi a.rs.length::vi k::jk 9 []))),[.box a.c]⟩) a.rs.length ?_ ?_]
 simp (disch:=omega) only[go_sem,h213l0,aZT];rfl;intro k b;rw[E3 a.rs k b];simp (disch:=omega) only[go_sem,h213l0,aZa,aV.e]
theorem Cc(b:Bool):EV G (Tb (bs bb)) 215 [vb b] []=some (vi (if b=true then 24 else 40),[]):=by
 refine aB rfl ?_;cases b;all_goals simp (disch:=omega) only[go_sem,h215c]
 all_goals rfl
def al8(n:Int):Int:=(n+7) / 8*8
theorem Ax(n:Int)(h:0<=n/\n<=1000000000):EV G (Tb (bs bb)) 216 [vi n] []=some (vi (al8 n),[]):=by
 refine aB rfl ?_;have e:n+8-1=n+7:=by omega
 simp (disch:=omega) only[go_sem,h216c,mX,al8,e]
end
section
variable {G:aF}{bb:Bool}
def uR:L Int:=[34,42,47,58,60,62,63,92,124]
def nI(c:Int):Bool:=decide (32<=c/\c<=126/\c∉uR)
theorem aLr:∀n:_root_.Fin 256,(Lib.indexByte (ByteArray.mk #[34,42,47,58,60,62,63,92,124]).data.toList ((n.val:Int).toNat.toUInt8)<0)↔((n.val:Int)∉uR):=by decide
theorem aLs(c:Int)(h:0<=c/\c<=255):(Lib.indexByte (ByteArray.mk #[34,42,47,58,60,62,63,92,124]).data.toList c.toNat.toUInt8<0)=(c∉uR):=by
 have:=aLr ⟨c.toNat,by omega⟩;simp only[show ((c.toNat:Nat):Int)=c by omega] at this;exact propext this
theorem aUT(s:ByteArray)(c:Int):EV G (Tb (bs bb)) 297 [.one (.dc (.raw (.string s))),vu c] []=some (vi (Lib.indexByte s.data.toList c.toNat.toUInt8),[]):=jC rfl rfl
theorem Xf(s:ByteArray)(c:Int):EV G (Tb (bs bb)) 290 [.one (.dc (.raw (.string s))),vu c] []=some (vi (Lib.indexByte s.data.toList c.toNat.toUInt8),[]):=by
 refine aB rfl ?_;simp (disch:=omega) only[go_sem,h290c,aUT]
theorem aP6(c:Int)(h:0<=c/\c<=255):EV G (Tb (bs bb)) 276 [vu c] []=some (vb (nI c),[]):=by
 refine aB rfl ?_;have d:=aLs c h;unfold nI;by_cases a:32<=c;by_cases b:c<=126;simp (disch:=omega) only[go_sem,h276c,Xf,a,b];simp only[d,true_and];simp (disch:=omega) only[go_sem,h276c,Xf,a,b];simp (disch:=omega) only[go_sem,h276c,Xf,a]
theorem aP7{id:Nat}:kZ [] id=true:=rfl
theorem aP8{j id:Nat}{J:L Nat}:kZ (j::J) id=(!nq id j&&kZ J id):=by
 simp only[kZ,jG,List.contains_cons,Bool.not_or]
attribute [go_sem] aP7 aP8
theorem Td(c:Int)(h:0<=c/\c<=255):EV G (Tb (bs bb)) 289 [vu c,.one (.ptr 0 0)] [.box [.fn 276 []]]=some (vb (!nI c),[.box [.fn 276 []]]):=by
 refine aB rfl ?_;have a:=aP6 (G:=G) (bb:=bb) c h;simp (disch:=omega) only[go_sem,h289c,a]
theorem tG(l:L Int)(k:Nat)(h:k<l.length):l.getD k 0=l[k]:=cD l k h
theorem aLt(l:L Int)(e:aK l)(g:l.length<=1000000):EV G (Tb (bs bb)) 296 [vl (bl l),.one (.fn 289 [.ptr 0 0])] [.box [.fn 276 []]]=some (vi (if ix (fun k=>¬ nI (l.getD k 0)=true) l.length=l.length then -1 else (ix (fun k=>¬ nI (l.getD k 0)=true) l.length:Nat)),[.box [.fn 276 []]]):=by
 refine aB rfl ?_;simp (disch:=omega) only[go_sem,h296c,aZa];rw[dN (fun k=>⟨(vl (bl l)::.one (.fn 289 [.ptr 0 0])::jk 5 (vi l.length::vi k::jk 10 [])),[.box [.fn 276 []]]⟩) (fun k=>¬ nI (l.getD k 0)=true) l.length ?_ ?_]
 rotate_left
 rfl;intro k c f;have d:=f k (aZe _);rw[tG l k c] at d;have h0:=e _ (aZk c);have b:=Td (G:=G) (bb:=bb) l[k] h0;have h3:nI l[k]=true:=Classical.not_not.1 d;simp (disch:=omega) only[go_sem,h296l0,aZa,Av,b,h3];obtain⟨c,hp,f⟩:=bE (fun k=>¬ nI (l.getD k 0)=true) l.length
 generalize ix (fun k=>¬ nI (l.getD k 0)=true) l.length=k at *
 rcases hp with rfl|⟨a,hp⟩;simp (disch:=omega) only[go_sem,h296l0,aZa];rw[tG l k a] at hp;have h0:=e _ (aZk a);have b:=Td (G:=G) (bb:=bb) l[k] h0;have h3:nI l[k]=false:=by simpa using hp
 rw[if_neg (by omega)];simp (disch:=omega) only[go_sem,h296l0,aZa,Av,b,h3]
def G1(l:L Int):Bool:=l.all nI
theorem aLu(l:L Int):(if ix (fun k=>¬ nI (l.getD k 0)=true) l.length=l.length then (-1:Int) else (ix (fun k=>¬ nI (l.getD k 0)=true) l.length:Nat))<0↔G1 l=true:=by
 obtain⟨e,hp,c⟩:=bE (fun k=>¬ nI (l.getD k 0)=true) l.length
 generalize ix (fun k=>¬ nI (l.getD k 0)=true) l.length=k at *
 rcases hp with rfl|⟨a,hp⟩;rw[if_pos rfl];refine⟨fun _=>?_,fun _=>by decide⟩
 unfold G1;rw[bAw];intro x d;obtain⟨j,b,rfl⟩:=List.mem_iff_getElem.1 d;have:=c j b;rw[tG l j b] at this;exact Classical.not_not.1 this;rw[if_neg (by omega)];refine⟨fun h=>by omega,fun h=>?_⟩
 rw[tG l k a] at hp;exact absurd (bAw.1 h _ (aZk a)) hp
theorem Xg(l:L Int)(a:aK l):gX (dB l)=l.map Av:=by
 unfold gX;rw[S8,aZE];refine aZz (fun b c=>?_)
 simp only[Function.comp_apply,Av,gY b (a b c)]
theorem aLv(l:L Int)(d:aK l)(e:l.length<=1000000):EV G (Tb (bs bb)) 288 [vl (bl l),.one (.fn 289 [.ptr 0 0])] [.box [.fn 276 []]]=some (vb (!G1 l),[.box [.fn 276 []]]):=by
 refine aB rfl ?_;have a:=aLt (G:=G) (bb:=bb) l d e;have b:=aLu l;generalize (if ix (fun k=>¬ nI (l.getD k 0)=true) l.length=l.length then (-1:Int) else (ix (fun k=>¬ nI (l.getD k 0)=true) l.length:Nat))=z at a b
 cases c:G1 l with
 |true=>
  have h3:=b.2 c;simp (disch:=omega) only[go_sem,h288c,a];simp;omega
 |false=>
  have h3:¬ z<0:=fun h=>by rw[b.1 h] at c;cases c
  simp (disch:=omega) only[go_sem,h288c,a];simp;omega
theorem aNB{α a:Type}(f:α->Option a)(x:α):[x].mapM f=(f x).map fun c=>[c]:=by
 cases h:f x<;>simp[aZ9,h]
theorem Xh(l:L Int)(b:aK l)(e:l.length<=1000000):EV G (Tb (bs bb)) 275 [sv l,.one (.fn 276 [])] []=some (vb (G1 l),[]):=by
 refine aB rfl ?_;have a:=aLv (G:=G) (bb:=bb) l b e;have c:=Xg l b;cases d:G1 l;all_goals rw[d] at a
 all_goals simp (disch:=omega) only[go_sem,h275c,a,c,aNB,jB]
theorem aUU(l:L Int)(c:Int)(i:aK l)(j:0<=c/\c<=255)(m:l.length<=1000000):EV G (Tb (bs bb)) 291 [sv l,sv [c]] []=some (vb (decide (l≠[]/\l.getLast?=some c)),[]):=by
 refine aB rfl ?_;by_cases h:l=[];subst h;simp (disch:=omega) only[go_sem,h291c,aZc,aZd];have hp:1<=l.length:=by have:=List.length_pos_iff.2 h;omega
 have k:l.drop (l.length-1)=[l[l.length-1]]:=by
  rw[aZ5 (by omega),List.drop_eq_nil_of_le (by omega)]
 have a:aK [l[l.length-1]]:=fun b f=>by rw[List.mem_singleton.1 f];exact i _ (aZk _)
 have d:aK [c]:=fun b f=>by rw[List.mem_singleton.1 f];exact j
 have e:=cQ a d;have g:l.getLast?=some l[l.length-1]:=by rw[List.getLast?_eq_getElem?,aZj (by omega)]
 simp (disch:=omega) only[go_sem,h291c,aZc,aZd,k,e,g];simp[h]
theorem aGG(l:L Int)(c:Int)(b:aK l)(d:0<=c/\c<=255)(e:l.length<=1000000):EV G (Tb (bs bb)) 277 [sv l,sv [c]] []=some (vb (decide (l≠[]/\l.getLast?=some c)),[]):=by
 refine aB rfl ?_;have a:=aUU (G:=G) (bb:=bb) l c b d e;simp (disch:=omega) only[go_sem,h277c,a]
theorem aGH(l:L Int)(a:aK l)(k:Nat)(h:k<l.length):l[k]?=some l[k]/\((u8 l[k]).toNat:Int)=l[k]:=⟨aZj h,gY _ (a _ (aZk h))⟩
def qP(l:L Int):Prop:=l≠[]/\l.length<=32/\G1 l=true/\l≠[46,46]/\l.getLast?≠some 32/\l.getLast?≠some 46
instance (l:List Int):Decidable (qP l):=by unfold qP;infer_instance
theorem s46:(⟨#[46,46]⟩:ByteArray)=dB [46,46]:=rfl
theorem rK:(⟨#[46]⟩:ByteArray)=dB [46]:=rfl
theorem Jy:(⟨#[32]⟩:ByteArray)=dB [32]:=rfl
theorem Jz(l:L Int)(h:(l.all fun b=>decide (0<=b/\b<=255))=true):aK l:=fun b a=>by simpa using bAw.1 h b a
theorem jI:aK []:=fun b a=>by cases a
theorem aCW(l:L Int)(i:aK l)(n:l.length<=1000000):EV G (Tb (bs bb)) 247 [sv l] []=some (vb (decide (qP l)),[]):=by
 refine aB rfl ?_;have d:=cQ i jI;have e:=cQ i (Jz [46,46] (by decide));have f:=Xh (G:=G) (bb:=bb) l i n;have g:=aGG (G:=G) (bb:=bb) l 32 i (by omega) n;have h3:=aGG (G:=G) (bb:=bb) l 46 i (by omega) n;by_cases a:l=[];rw[decide_eq_false (fun h:qP l=>h.1 a)]
 simp (disch:=omega) only[go_sem,h247c,aG,s46,rK,Jy,d,e,a];by_cases b:l.length<=32;by_cases j:G1 l=true;rw[j] at f;by_cases c:l=[46,46];rw[decide_eq_false (fun h:qP l=>h.2.2.2.1 c)]
 replace c:=eq_true c;simp (disch:=omega) only[go_sem,h247c,aG,s46,rK,Jy,d,e,a,b,f,c];by_cases k:l.getLast?=some 32;rw[decide_eq_false (fun h:qP l=>h.2.2.2.2.1 k)]
 rw[decide_eq_true (⟨a,k⟩:l≠[]/\l.getLast?=some 32)] at g;simp (disch:=omega) only[go_sem,h247c,aG,s46,rK,Jy,d,e,a,b,f,c,g];rw[decide_eq_false (fun h:l≠[]/\l.getLast?=some 32=>k h.2)] at g
 by_cases m:l.getLast?=some 46;rw[decide_eq_false (fun h:qP l=>h.2.2.2.2.2 m)]
 rw[decide_eq_true (⟨a,m⟩:l≠[]/\l.getLast?=some 46)] at h3;simp (disch:=omega) only[go_sem,h247c,aG,s46,rK,Jy,d,e,a,b,f,c,g,h3];rw[show decide (qP l)=true from decide_eq_true ⟨a,b,j,c,k,m⟩]
 rw[decide_eq_false (fun h:l≠[]/\l.getLast?=some 46=>m h.2)] at h3
 simp (disch:=omega) only[go_sem,h247c,aG,s46,rK,Jy,d,e,a,b,f,c,g,h3];rw[decide_eq_false (fun h:qP l=>j h.2.2.1)]
 rw[bAA.2 j] at f;simp (disch:=omega) only[go_sem,h247c,aG,s46,rK,Jy,d,e,a,b,f];rw[decide_eq_false (fun h:qP l=>b h.2.1)]
 simp (disch:=omega) only[go_sem,h247c,aG,s46,rK,Jy,d,e,a,b]
theorem Te(l:L Int)(b:aK l)(c:l.length<=1000000):EV G (Tb (bs bb)) 211 [sv l] []=some (vi (aT [if l.length<=32 then 0 else 8,if qP l then 0 else 4]),[]):=by
 refine aB rfl ?_;have a:=aCW (G:=G) (bb:=bb) l b c;have e:((l.length:Int)<=32)=(l.length<=32):=by apply propext;omega
 simp (disch:=omega) only[go_sem,h211c,a,aCU,aLq,decide_eq_true_eq,e]
def Pn(l:L Int):Bool:=decide (l=[]\/qP l)
theorem aCX(l:L Int)(f:aK l)(g:l.length<=1000000):EV G (Tb (bs bb)) 166 [sv l] []=some (vi (if Pn l=true then 0 else 4),[]):=by
 refine aB rfl ?_;have e:=cQ f jI;have a:=Te (G:=G) (bb:=bb) l f g;by_cases b:l=[];rw[show Pn l=true from decide_eq_true (.inl b)]
 simp (disch:=omega) only[go_sem,h166c,aG,e,b,gZ];by_cases c:qP l;rw[show Pn l=true from decide_eq_true (.inr c)]
 have d:=c.2.1;rw[if_pos c,if_pos d,show aT [0,0]=0 from rfl] at a
 simp (disch:=omega) only[go_sem,h166c,aG,e,b,a,gZ];rw[show Pn l=false from decide_eq_false (fun h=>h.elim b c)]
 rw[if_neg c] at a;by_cases d:l.length<=32;rw[if_pos d,show aT [0,4]=4 from rfl] at a
 simp (disch:=omega) only[go_sem,h166c,aG,e,b,a,gZ];rw[if_neg d,show aT [8,4]=8 from rfl] at a
 simp (disch:=omega) only[go_sem,h166c,aG,e,b,a,gZ]
theorem aAy(c:Int):EV G (Tb (bs bb)) 239 [vu c] []=some (vb (nI c),[]):=by
 refine aB rfl ?_;by_cases i:c<32;rw[show nI c=false from decide_eq_false (fun h=>by omega)]
 simp (disch:=omega) only[go_sem,h239c,i];by_cases n:c > 126;rw[show nI c=false from decide_eq_false (fun h=>by omega)]
 simp (disch:=omega) only[go_sem,h239c,i,n]
 ·have g:(⟨#[34,42,47,58,60,62,63,92,124]⟩:ByteArray)=dB uR:=rfl;have b:aK uR:=Jz uR (by decide);simp (disch:=omega) only[go_sem,h239c,i,n,g];rw[dN (fun k=>⟨(vu c::jk 2 (vi k::jk 14 [])),[]⟩) (fun k=>uR.getD k 0=c) 9 ?_ ?_]
  rotate_left
  rfl;intro k l m;have o:=m k (aZe _);obtain⟨f,h3⟩:=aGH uR b k l;rw[tG uR k l] at o;simp (disch:=omega) only[go_sem,h239l0,g,f,h3,o,aZg];obtain⟨l,hp,m⟩:=bE (fun k=>uR.getD k 0=c) 9
  generalize ix (fun k=>uR.getD k 0=c) 9=k at *
  rcases hp with rfl|⟨a,hp⟩;have d:c∉uR:=by
   intro d;obtain⟨j,p,e⟩:=List.mem_iff_getElem.1 d;exact m j p (by rw[tG uR j p];exact e)
  rw[show nI c=true from decide_eq_true ⟨by omega,by omega,d⟩]
  simp (disch:=omega) only[go_sem,h239l0,g];have d:c∈uR:=by
   rw[tG uR k a] at hp;rw[<- hp];exact aZk _
  obtain⟨f,h3⟩:=aGH uR b k a;rw[tG uR k a] at hp;rw[hp] at f h3;rw[show nI c=false from decide_eq_false (fun h=>h.2.2 d)]
  simp (disch:=omega) only[go_sem,h239l0,g,f,h3,aZg]
theorem aLw(l:L Int)(m:aK l)(B:l.length<=1000000):EV G (Tb (bs bb)) 195 [sv l] []=some (vi (if l.length > 32 then 8 else if qP l then 0 else 4),[]):=by
 refine aB rfl ?_;have i:=cQ m jI;have t:=cQ m (Jz [46,46] (by decide));have o:=cQ m (Jz [46] (by decide));by_cases b:l.length > 32;rw[if_pos b];simp (disch:=omega) only[go_sem,h195c,b];rw[if_neg b];by_cases c:l=[];rw[if_neg (fun h:qP l=>h.1 c)]
 simp (disch:=omega) only[go_sem,h195c,b,aG,s46,rK,i,c];have hp:1<=l.length:=by have:=List.length_pos_iff.2 c;omega
 have u:l.getLast?=some l[l.length-1]:=by rw[List.getLast?_eq_getElem?,aZj (by omega)]
 obtain⟨g,a⟩:=aGH l m (l.length-1) (by omega);by_cases e:l=[46];rw[if_neg (fun h:qP l=>h.2.2.2.2.2 (by rw[e];rfl))]
 replace e:=eq_true e;simp (disch:=omega) only[go_sem,h195c,b,aG,s46,rK,i,c,o,e];by_cases f:l=[46,46];rw[if_neg (fun h:qP l=>h.2.2.2.1 f)]
 replace f:=eq_true f;simp (disch:=omega) only[go_sem,h195c,b,aG,s46,rK,i,c,o,e,t,f];by_cases r:l[l.length-1]=32;rw[if_neg (fun h:qP l=>h.2.2.2.2.1 (by rw[u,r]))]
 rw[r] at g a;simp (disch:=omega) only[go_sem,h195c,b,aG,s46,rK,i,c,o,e,t,f,B8,g,a,aZg];by_cases s:l[l.length-1]=46;rw[if_neg (fun h:qP l=>h.2.2.2.2.2 (by rw[u,s]))]
 rw[s] at g a;simp (disch:=omega) only[go_sem,h195c,b,aG,s46,rK,i,c,o,e,t,f,B8,g,a,aZg]
 ·have q:qP l↔G1 l=true:=by
   exact⟨fun h=>h.2.2.1,fun h=>⟨c,by omega,h,f,by rw[u];simpa using r,by rw[u];simpa using s⟩⟩
  simp (disch:=omega) only[go_sem,h195c,b,aG,s46,rK,i,c,o,e,t,f,g,a,aZg,r,s];rw[dN (fun k=>⟨(sv l::jk 2 (vi k::jk 40 [])),[]⟩) (fun k=>¬ nI (l.getD k 0)=true) l.length ?_ ?_]
  rotate_left
  rfl;intro k w y;have z:=y k (aZe _);obtain⟨v,h4⟩:=aGH l m k w;rw[tG l k w] at z;have h3:=aAy (G:=G) (bb:=bb) l[k];rw[Classical.not_not.1 z] at h3;simp (disch:=omega) only[go_sem,h195l0,v,h3,h4,aZg];obtain⟨w,n,y⟩:=bE (fun k=>¬ nI (l.getD k 0)=true) l.length
  generalize ix (fun k=>¬ nI (l.getD k 0)=true) l.length=k at *
  rcases n with rfl|⟨d,n⟩;have p:G1 l=true:=by
   unfold G1;rw[bAw];intro x g;obtain⟨j,A,rfl⟩:=List.mem_iff_getElem.1 g;have:=y j A;rw[tG l j A] at this;exact Classical.not_not.1 this
  rw[if_pos (q.2 p)];simp (disch:=omega) only[go_sem,h195l0];have p:¬ G1 l=true:=by
   intro p;rw[tG l k d] at n;exact n (bAw.1 p _ (aZk d))
  obtain⟨v,h4⟩:=aGH l m k d;rw[tG l k d] at n;have h3:=aAy (G:=G) (bb:=bb) l[k];rw[(by simpa using n:nI l[k]=false)] at h3;rw[if_neg (fun h=>p (q.1 h))]
  simp (disch:=omega) only[go_sem,h195l0,v,h3,h4,aZg]
theorem aGI(l:L Int)(f:aK l)(g:l.length<=1000000):EV G (Tb (bs bb)) 142 [sv l] []=some (vb (Pn l),[]):=by
 refine aB rfl ?_;have d:=cQ f jI;have a:=aLw (G:=G) (bb:=bb) l f g;by_cases b:l=[];rw[show Pn l=true from decide_eq_true (.inl b)]
 simp (disch:=omega) only[go_sem,h142c,aG,d,b];by_cases c:qP l;rw[show Pn l=true from decide_eq_true (.inr c)]
 have e:=c.2.1;rw[if_pos c,if_neg (by omega)] at a;simp (disch:=omega) only[go_sem,h142c,aG,d,b,a];rw[show Pn l=false from decide_eq_false (fun h=>h.elim b c)]
 rw[if_neg c] at a;by_cases e:l.length > 32;rw[if_pos e] at a;simp (disch:=omega) only[go_sem,h142c,aG,d,b,a];rfl;rw[if_neg e] at a;simp (disch:=omega) only[go_sem,h142c,aG,d,b,a];rfl
end
section
variable {G:aF}{bb:Bool}
def yC(b:Int):aU:=cI (.int .u8 b)
abbrev yb(l:L Int):aD:=.box (l.map yC)
theorem Po(p:Nat->Bool)(l:L Int):(l.map yC).map (cJ p)=l.map yC:=by rw[aZE];rfl
theorem jJ(m:Nat)(l:L Int):Gx m (l.map yC)=l.map yC:=by rw[Dd,Po]
theorem mL(m:Nat)(l:L Int):O6 m (l.map yC)=l.map yC:=by rw[Hi,Po]
theorem aP9(l:L Int):idsL (l.map yC)=[]:=by
 induction l with
 |nil=>rfl
 |cons b l a=>rw[aZl,idsL,a];rfl
theorem aUV(J:L Nat)(l:L Int):Df J (l.map yC)=true:=by
 induction l with
 |nil=>rfl
 |cons b l a=>rw[aZl,Df,a];rfl
theorem pG(ρ:Nat->Nat)(l:L Int):(l.map yC).map (kA ρ)=l.map yC:=by
 induction l with
 |nil=>rfl
 |cons b l a=>rw[aZl,aZl,a];rfl
theorem aLx(p:Nat->Bool)(l:L Int):keepL p (l.map yC)=true:=by
 induction l with
 |nil=>rfl
 |cons b l a=>rw[aZl,keepL,a];rfl
theorem aQa(id:Nat)(es:L (L DC))(l:L Int):(l.map yC).map (B4 id es)=l.map yC:=by
 induction l with
 |nil=>rfl
 |cons b l a=>rw[aZl,aZl,a];rfl
theorem aGJ(l:L Int)(k:Nat)(b:Int)(h:k<l.length):cY (l.map yC) k [.dc (.raw (.int .u8 b))]=(l.set k b).map yC:=by
 unfold cY;apply List.ext_getElem?;intro i;simp only[aZO];by_cases a:i<k;rw[aZr,aZw (by simp;omega),List.getElem?_take_of_lt a,aZy (by omega)];by_cases c:i=k;subst c;rw[aZr,aZB (by simp;omega),aZH (by simpa using h)];simp[Nat.min_eq_left (Nat.le_of_lt h)];rfl;rw[aZB (by simp;omega),aZy (by omega),aZJ];congr 1;simp;omega
attribute [go_sem] Po jJ mL aP9 aUV pG aLx aQa
theorem aQb{d:Option Nat}{st:AS}{id:Nat}{cs:L aU}:aFb d id st (some (.tup [],[.box cs]))=bif keepL (fun _=>true) cs then some (⟨aQ st.sl d (.tup []),st.hp.set id (.box cs)⟩,[id],[id]) else none:=q_
attribute [go_sem] aQb
def bA(l:L Int)(a:Nat)(n:Int):Nat->L Int
 |0=>l
 |k+1=>(bA l a n k).set (a+k) (F9 n k % 256)
theorem dG(l:L Int)(a:Nat)(n:Int)(k:Nat):(bA l a n k).length=l.length:=by
 induction k with
 |zero=>rfl
 |succ k b=>simp[bA,b]
theorem aUW(l:L Int)(a k:Nat)(n:Int)(h:a+k<=l.length)(f:l.length<=1000000)(c:-9223372036854775808<=n/\n<=9223372036854775807):EV G (Tb (bs bb)) 217 [.one (.bls 0 0 l.length 1),vi a,vi k,vi n] [yb l]=some (.tup [],[yb (bA l a n k)]):=by
 refine aB rfl ?_;simp (disch:=omega) only[go_sem,h217c];rw[aR (fun j=>⟨(.one (.bls 0 0 l.length 1)::vi a::jk 1 (vi (F9 n j)::jk 5 (vi k::vi j::jk 12 []))),[yb (bA l a n j)]⟩) k ?_ ?_]
 simp (disch:=omega) only[go_sem,h217l0];rfl;intro j e;have b:=dG l a n j;have d:=Xd n c j;have h3:=aGJ (bA l a n j) (a+j) (F9 n j % 256) (by omega);simp (disch:=omega) only[go_sem,h217l0,aZa,b,wu8,Int.reduceToNat,Int.reducePow,Hp,F9,bA,h3]
theorem aAz(l:L Int)(a k:Nat)(n:Int)(N:Nat)(b:l.length=N)(h:a+k<=N)(c:N<=1000000)(d:-9223372036854775808<=n/\n<=9223372036854775807):EV G (Tb (bs bb)) 217 [.one (.bls 0 0 N 1),vi a,vi k,vi n] [yb l]=some (.tup [],[yb (bA l a n k)]):=by
 subst b;exact aUW l a k n h c d
theorem aNC(l:L Int)(n:Int)(N:Nat)(a:l.length=N)(h:4<=N)(b:N<=1000000)(c:-9223372036854775808<=n/\n<=9223372036854775807):EV G (Tb (bs bb)) 217 [.one (.bls 0 0 N 1),vi 0,vi 4,vi n] [yb l]=some (.tup [],[yb (bA l 0 n 4)]):=aAz l 0 4 n N a h b c
theorem aND(l:L Int)(a:Int)(n:Int)(N:Nat)(b:l.length=N)(c:0<=a)(h:a+4<=N)(d:N<=1000000)(e:-9223372036854775808<=n/\n<=9223372036854775807):EV G (Tb (bs bb)) 217 [.one (.bls 0 0 N 1),vi a,vi 4,vi n] [yb l]=some (.tup [],[yb (bA l a.toNat n 4)]):=by
 have:=aAz (G:=G) (bb:=bb) l a.toNat 4 n N b (by omega) d e;rwa[Int.toNat_of_nonneg c] at this
theorem aNE(l:L Int)(a:Int)(n:Int)(N:Nat)(b:l.length=N)(c:0<=a)(h:a+2<=N)(d:N<=1000000)(e:-9223372036854775808<=n/\n<=9223372036854775807):EV G (Tb (bs bb)) 217 [.one (.bls 0 0 N 1),vi a,vi 2,vi n] [yb l]=some (.tup [],[yb (bA l a.toNat n 2)]):=by
 have:=aAz (G:=G) (bb:=bb) l a.toNat 2 n N b (by omega) d e;rwa[Int.toNat_of_nonneg c] at this
theorem aNF(l:L Int)(a:Int)(n:Int)(N:Nat)(b:l.length=N)(c:0<=a)(h:a+1<=N)(d:N<=1000000)(e:-9223372036854775808<=n/\n<=9223372036854775807):EV G (Tb (bs bb)) 217 [.one (.bls 0 0 N 1),vi a,vi 1,vi n] [yb l]=some (.tup [],[yb (bA l a.toNat n 1)]):=by
 have:=aAz (G:=G) (bb:=bb) l a.toNat 1 n N b (by omega) d e;rwa[Int.toNat_of_nonneg c] at this
def iW(b:L Int)(k:Nat)(s:L Int):L Int:=b.take k++s++b.drop (k+s.length)
theorem cX{b:L Int}{k:Nat}{s:L Int}(h:k+s.length<=b.length):(iW b k s).length=b.length:=by simp[iW];omega
theorem Tf(s:L Int)(a:aK s):eU (s.map u8)=s.map yC:=by
 unfold eU;rw[aZE];exact aZz (fun b c=>by simp only[Function.comp_apply,yC,gY b (a b c)])
theorem pH(b s:L Int)(k n:Nat)(a:aK s)(h:s.length<=n):cY (b.map yC) k (eU ((s.map u8).take n))=(iW b k s).map yC:=by
 rw[aZM (by simpa using h),Tf s a];simp[cY,iW,aZR,aZZ,bAq]
def zl(n:Nat):L Int:=List.replicate n 0
theorem aS(n:Nat):(zl n).length=n:=aZh
theorem Pp(n:Nat):List.replicate n (aU.dc (.raw (.int .u8 0)))=(zl n).map yC:=by rw[zl,List.map_replicate];rfl
theorem lI(l:L Int):jM (l.map yC)=some (l.map u8):=by
 induction l with
 |nil=>rfl
 |cons b l a=>simp only[aZl,yC,cI,jM,u8] at a ⊢;rw[a];rfl
theorem Dr(l:L Int)(n:Nat)(h:l.length<=n):(l.map yC).take n=l.map yC:=aZM (by simpa using h)
def sN(a:aJ):Nat:=if a.res=true then 24 else 40
def qQ(a:aJ):L Int:=if a.res=true then a.va else (Cb a.rs).1
def cW(a:aJ):Nat:=(sN a+a.nm.length+7) / 8*8
def eO(a:aJ):Nat:=(cW a+(qQ a).length+7) / 8*8
def Tg(a:aJ):L Int:=bA (bA (bA (bA (bA (bA (zl (eO a)) 0 a.ty 4) 4 (eO a) 4) 9 a.nm.length 1) 10 (sN a) 2) 12 a.fl 2) 14 a.id 2
def Th(a:aJ):L Int:=if a.res=true then bA (bA (Tg a) 16 (qQ a).length 4) 20 (cW a) 4
 else bA (bA (bA (bA (bA (bA (bA (Tg a) 8 1 1) 16 a.fi 4) 20 (a.fi+gI a.rs-1) 4) 24 (cW a) 2) 28 a.al 4) 32 a.sz 4) 36 a.vd 4
def tL(a:aJ):L Int:=iW (iW (Th a) (sN a) a.nm) (cW a) (qQ a)
structure aJ.Bd (a:aJ):Prop where
 nm:aK a.nm
 va:aK a.va
 nl:a.nm.length<=1000
 vl:a.va.length<=1000
 rl:a.rs.length<=1000
 ty:-1000000000000<=a.ty/\a.ty<=1000000000000
 id:-1000000000000<=a.id/\a.id<=1000000000000
 fl:-1000000000000<=a.fl/\a.fl<=1000000000000
 fi:-1000000000000<=a.fi/\a.fi<=1000000000000
 al:-1000000000000<=a.al/\a.al<=1000000000000
 sz:-1000000000000<=a.sz/\a.sz<=1000000000000
 vd:-1000000000000<=a.vd/\a.vd<=1000000000000
 lw:-1000000000000<=gI a.rs/\gI a.rs<=1000000000000
theorem M7(l:L aV):aK (Cb l).1/\(Cb l).1.length<=5*64+1:=by
 unfold Cb;by_cases c:Di [l]=0;have f:(mS l).2=0:=by rw[Mz] at c;exact c
 have i:=Hq f;have g:=nZ f;obtain⟨h,j,e⟩:=Aw l (fun r d=>(i r d).1) l.length (aZe _)
 rw[Dq] at h e;rw[if_neg (by simpa using c)];refine⟨fun b a=>?_,by simp;omega⟩
 rcases bAv.1 a with a|a;exact e b a;have:=List.mem_singleton.1 a;omega;rw[if_pos c];exact⟨jI,by simp⟩
