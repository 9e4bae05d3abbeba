/- The bytes of an attribute, by the program. Conditions: none. -/
import Derived.Test.YthepfneloomngaaGreatDoorUa
namespace Go.Proofs.YthepfneloomngaaGreatDoor
set_option linter.unusedSimpArgs false
set_option linter.unusedVariables false
set_option maxRecDepth 4000
section
variable {G:aE}{bb:Bool}
def tH:List Int:=[34,42,47,58,60,62,63,92,124]
def mH(c:Int):Bool:=decide (32<=c/\c<=126/\c∉tH)
theorem aJG:∀n:_root_.Fin 256,(Lib.indexByte (ByteArray.mk #[34,42,47,58,60,62,63,92,124]).data.toList ((n.val:Int).toNat.toUInt8)<0)↔((n.val:Int)∉tH):=by decide
theorem aJH(c:Int)(h:0<=c/\c<=255):(Lib.indexByte (ByteArray.mk #[34,42,47,58,60,62,63,92,124]).data.toList c.toNat.toUInt8<0)=(c∉tH):=by
 have:=aJG ⟨c.toNat,by omega⟩;simp only[show ((c.toNat:Nat):Int)=c by omega] at this;exact propext this
theorem aTj(s:ByteArray)(c:Int):EV G (Tb (bs bb)) 312 [.one (.dc (.raw (.string s))),vu c] []=some (vi (Lib.indexByte s.data.toList c.toNat.toUInt8),[]):=gP rfl rfl
theorem Ur(s:ByteArray)(c:Int):EV G (Tb (bs bb)) 275 [.one (.dc (.raw (.string s))),vu c] []=some (vi (Lib.indexByte s.data.toList c.toNat.toUInt8),[]):=by
 refine aA rfl ?_;simp (disch:=omega) only[go_sem,h275c,aTj]
theorem aOI(c:Int)(h:0<=c/\c<=255):EV G (Tb (bs bb)) 338 [vu c] []=some (vb (mH c),[]):=by
 refine aA rfl ?_;have h1:=aJH c h;unfold mH;by_cases c1:32<=c;by_cases c2:c<=126;simp (disch:=omega) only[go_sem,h338c,Ur,c1,c2];simp only[h1,true_and];simp (disch:=omega) only[go_sem,h338c,Ur,c1,c2];simp (disch:=omega) only[go_sem,h338c,Ur,c1]
theorem aOJ{id:Nat}:kF [] id=true:=rfl
theorem aOK{j id:Nat}{J:List Nat}:kF (j::J) id=(!nq id j&&kF J id):=by
 simp only[kF,iM,List.contains_cons,Bool.not_or]
attribute [go_sem] aOJ aOK
theorem Q8(c:Int)(h:0<=c/\c<=255):EV G (Tb (bs bb)) 348 [vu c,.one (.ptr 0 0)] [.box [.fn 338 []]]=some (vb (!mH c),[.box [.fn 338 []]]):=by
 refine aA rfl ?_;have h1:=aOI (G:=G) (bb:=bb) c h;simp (disch:=omega) only[go_sem,h348c,h1]
theorem rT(l:List Int)(k:Nat)(h:k<l.length):l.getD k 0=l[k]:=cL l k h
theorem aJI(l:List Int)(hB:aM l)(hl:l.length<=1000000):
  EV G (Tb (bs bb)) 351 [vl (bl l),.one (.fn 348 [.ptr 0 0])] [.box [.fn 338 []]]=some (vi (if ix (fun k=>¬ mH (l.getD k 0)=true) l.length=l.length then -1 else (ix (fun k=>¬ mH (l.getD k 0)=true) l.length:Nat)),[.box [.fn 338 []]]):=by
 refine aA rfl ?_;simp (disch:=omega) only[go_sem,h351c,aXC];rw[gF (fun k=>⟨(vl (bl l)::.one (.fn 348 [.ptr 0 0])::jk 5 (vi l.length::vi k::jk 10 [])),[.box [.fn 338 []]]⟩) (fun k=>¬ mH (l.getD k 0)=true) l.length ?_ ?_]
 rotate_left
 rfl;intro k hk hn;have h1:=hn k (aXF _);rw[rT l k hk] at h1;have h0:=hB _ (aXM hk);have h2:=Q8 (G:=G) (bb:=bb) l[k] h0;have h3:mH l[k]=true:=Classical.not_not.1 h1;simp (disch:=omega) only[go_sem,h351l0,aXC,uL,h2,h3];obtain⟨hk,hp,hn⟩:=bT (fun k=>¬ mH (l.getD k 0)=true) l.length
 generalize ix (fun k=>¬ mH (l.getD k 0)=true) l.length=k at *
 rcases hp with rfl|⟨hk',hp⟩;simp (disch:=omega) only[go_sem,h351l0,aXC];rw[rT l k hk'] at hp;have h0:=hB _ (aXM hk');have h2:=Q8 (G:=G) (bb:=bb) l[k] h0;have h3:mH l[k]=false:=by simpa using hp
 rw[if_neg (by omega)];simp (disch:=omega) only[go_sem,h351l0,aXC,uL,h2,h3]
def E8(l:List Int):Bool:=l.all mH
theorem aJJ(l:List Int):(if ix (fun k=>¬ mH (l.getD k 0)=true) l.length=l.length then (-1:Int) else (ix (fun k=>¬ mH (l.getD k 0)=true) l.length:Nat))<0↔E8 l=true:=by
 obtain⟨hk,hp,hn⟩:=bT (fun k=>¬ mH (l.getD k 0)=true) l.length
 generalize ix (fun k=>¬ mH (l.getD k 0)=true) l.length=k at *
 rcases hp with rfl|⟨hk',hp⟩;rw[if_pos rfl];refine⟨fun _=>?_,fun _=>by decide⟩
 unfold E8;rw[aY2];intro x hx;obtain⟨j,hj,rfl⟩:=List.mem_iff_getElem.1 hx;have:=hn j hj;rw[rT l j hj] at this;exact Classical.not_not.1 this;rw[if_neg (by omega)];refine⟨fun h=>by omega,fun h=>?_⟩
 rw[rT l k hk'] at hp;exact absurd (aY2.1 h _ (aXM hk')) hp
theorem Us(l:List Int)(hB:aM l):gD (dL l)=l.map uL:=by
 unfold gD;rw[Q3,aX1];refine aXZ (fun b hb=>?_)
 simp only[Function.comp_apply,uL,iW b (hB b hb)]
theorem aJK(l:List Int)(hB:aM l)(hl:l.length<=1000000):
  EV G (Tb (bs bb)) 347 [vl (bl l),.one (.fn 348 [.ptr 0 0])] [.box [.fn 338 []]]=some (vb (!E8 l),[.box [.fn 338 []]]):=by
 refine aA rfl ?_;have h1:=aJI (G:=G) (bb:=bb) l hB hl;have h2:=aJJ l;generalize (if ix (fun k=>¬ mH (l.getD k 0)=true) l.length=l.length then (-1:Int) else (ix (fun k=>¬ mH (l.getD k 0)=true) l.length:Nat))=z at h1 h2
 cases ha:E8 l with
 |true=>
  have h3:=h2.2 ha;simp (disch:=omega) only[go_sem,h347c,h1];simp;omega
 |false=>
  have h3:¬ z<0:=fun h=>by rw[h2.1 h] at ha;cases ha
  simp (disch:=omega) only[go_sem,h347c,h1];simp;omega
theorem aL0{α β:Type}(f:α->Option β)(x:α):[x].mapM f=(f x).map fun c=>[c]:=by
 cases h:f x<;>simp[aYw,h]
theorem Ut(l:List Int)(hB:aM l)(hl:l.length<=1000000):EV G (Tb (bs bb)) 337 [sv l,.one (.fn 338 [])] []=some (vb (E8 l),[]):=by
 refine aA rfl ?_;have h1:=aJK (G:=G) (bb:=bb) l hB hl;have h2:=Us l hB;cases ha:E8 l;all_goals rw[ha] at h1
 all_goals simp (disch:=omega) only[go_sem,h337c,h1,h2,aL0,hP]
theorem aTk(l:List Int)(c:Int)(hB:aM l)(hc:0<=c/\c<=255)(hl:l.length<=1000000):EV G (Tb (bs bb)) 349 [sv l,sv [c]] []=some (vb (decide (l≠[]/\l.getLast?=some c)),[]):=by
 refine aA rfl ?_;by_cases h:l=[];subst h;simp (disch:=omega) only[go_sem,h349c,aXE,aXH];have hp:1<=l.length:=by have:=List.length_pos_iff.2 h;omega
 have hd:l.drop (l.length-1)=[l[l.length-1]]:=by
  rw[aYF (by omega),List.drop_eq_nil_of_le (by omega)]
 have hB1:aM [l[l.length-1]]:=fun b hb=>by rw[List.mem_singleton.1 hb];exact hB _ (aXM _)
 have hB2:aM [c]:=fun b hb=>by rw[List.mem_singleton.1 hb];exact hc
 have e:=dR hB1 hB2;have e2:l.getLast?=some l[l.length-1]:=by rw[List.getLast?_eq_getElem?,aXJ (by omega)]
 simp (disch:=omega) only[go_sem,h349c,aXE,aXH,hd,e,e2];simp[h]
theorem aEW(l:List Int)(c:Int)(hB:aM l)(hc:0<=c/\c<=255)(hl:l.length<=1000000):EV G (Tb (bs bb)) 339 [sv l,sv [c]] []=some (vb (decide (l≠[]/\l.getLast?=some c)),[]):=by
 refine aA rfl ?_;have h1:=aTk (G:=G) (bb:=bb) l c hB hc hl;simp (disch:=omega) only[go_sem,h339c,h1]
theorem aEX(l:List Int)(hB:aM l)(k:Nat)(h:k<l.length):l[k]?=some l[k]/\((u8 l[k]).toNat:Int)=l[k]:=⟨aXJ h,iW _ (hB _ (aXM h))⟩
def pN(l:List Int):Prop:=l≠[]/\l.length<=32/\E8 l=true/\l≠[46,46]/\l.getLast?≠some 32/\l.getLast?≠some 46
instance (l:List Int):Decidable (pN l):=by unfold pN;infer_instance
theorem s46:(⟨#[46,46]⟩:ByteArray)=dL [46,46]:=rfl
theorem qC:(⟨#[46]⟩:ByteArray)=dL [46]:=rfl
theorem Ib:(⟨#[32]⟩:ByteArray)=dL [32]:=rfl
theorem Ic(l:List Int)(h:(l.all fun b=>decide (0<=b/\b<=255))=true):aM l:=fun b hb=>by simpa using aY2.1 h b hb
theorem jI:aM []:=fun b hb=>by cases hb
theorem aBj(l:List Int)(hB:aM l)(hl:l.length<=1000000):EV G (Tb (bs bb)) 315 [sv l] []=some (vb (decide (pN l)),[]):=by
 refine aA rfl ?_;have e0:=dR hB jI;have e1:=dR hB (Ic [46,46] (by decide));have h1:=Ut (G:=G) (bb:=bb) l hB hl;have h2:=aEW (G:=G) (bb:=bb) l 32 hB (by omega) hl;have h3:=aEW (G:=G) (bb:=bb) l 46 hB (by omega) hl;by_cases c0:l=[];rw[decide_eq_false (fun h:pN l=>h.1 c0)]
 simp (disch:=omega) only[go_sem,h315c,aL,s46,qC,Ib,e0,e1,c0];by_cases c1:l.length<=32;by_cases c2:E8 l=true;rw[c2] at h1;by_cases c3:l=[46,46];rw[decide_eq_false (fun h:pN l=>h.2.2.2.1 c3)]
 replace c3:=eq_true c3;simp (disch:=omega) only[go_sem,h315c,aL,s46,qC,Ib,e0,e1,c0,c1,h1,c3];by_cases c4:l.getLast?=some 32;rw[decide_eq_false (fun h:pN l=>h.2.2.2.2.1 c4)]
 rw[decide_eq_true (⟨c0,c4⟩:l≠[]/\l.getLast?=some 32)] at h2;simp (disch:=omega) only[go_sem,h315c,aL,s46,qC,Ib,e0,e1,c0,c1,h1,c3,h2];rw[decide_eq_false (fun h:l≠[]/\l.getLast?=some 32=>c4 h.2)] at h2
 by_cases c5:l.getLast?=some 46;rw[decide_eq_false (fun h:pN l=>h.2.2.2.2.2 c5)]
 rw[decide_eq_true (⟨c0,c5⟩:l≠[]/\l.getLast?=some 46)] at h3;simp (disch:=omega) only[go_sem,h315c,aL,s46,qC,Ib,e0,e1,c0,c1,h1,c3,h2,h3];rw[show decide (pN l)=true from decide_eq_true ⟨c0,c1,c2,c3,c4,c5⟩]
 rw[decide_eq_false (fun h:l≠[]/\l.getLast?=some 46=>c5 h.2)] at h3
 simp (disch:=omega) only[go_sem,h315c,aL,s46,qC,Ib,e0,e1,c0,c1,h1,c3,h2,h3];rw[decide_eq_false (fun h:pN l=>c2 h.2.2.1)]
 rw[aYY.2 c2] at h1;simp (disch:=omega) only[go_sem,h315c,aL,s46,qC,Ib,e0,e1,c0,c1,h1];rw[decide_eq_false (fun h:pN l=>c1 h.2.1)]
 simp (disch:=omega) only[go_sem,h315c,aL,s46,qC,Ib,e0,e1,c0,c1]
theorem Q9(l:List Int)(hB:aM l)(hl:l.length<=1000000):EV G (Tb (bs bb)) 282 [sv l] []=some (vi (aS [if l.length<=32 then 0 else 8,if pN l then 0 else 4]),[]):=by
 refine aA rfl ?_;have h1:=aBj (G:=G) (bb:=bb) l hB hl;have e:((l.length:Int)<=32)=(l.length<=32):=by apply propext;omega
 simp (disch:=omega) only[go_sem,h282c,h1,aBh,aJF,decide_eq_true_eq,e]
def Nd(l:List Int):Bool:=decide (l=[]\/pN l)
theorem aBk(l:List Int)(hB:aM l)(hl:l.length<=1000000):EV G (Tb (bs bb)) 234 [sv l] []=some (vi (if Nd l=true then 0 else 4),[]):=by
 refine aA rfl ?_;have e0:=dR hB jI;have h1:=Q9 (G:=G) (bb:=bb) l hB hl;by_cases c0:l=[];rw[show Nd l=true from decide_eq_true (.inl c0)]
 simp (disch:=omega) only[go_sem,h234c,aL,e0,c0,gH];by_cases c1:pN l;rw[show Nd l=true from decide_eq_true (.inr c1)]
 have c2:=c1.2.1;rw[if_pos c1,if_pos c2,show aS [0,0]=0 from rfl] at h1
 simp (disch:=omega) only[go_sem,h234c,aL,e0,c0,h1,gH];rw[show Nd l=false from decide_eq_false (fun h=>h.elim c0 c1)]
 rw[if_neg c1] at h1;by_cases c2:l.length<=32;rw[if_pos c2,show aS [0,4]=4 from rfl] at h1
 simp (disch:=omega) only[go_sem,h234c,aL,e0,c0,h1,gH];rw[if_neg c2,show aS [8,4]=8 from rfl] at h1
 simp (disch:=omega) only[go_sem,h234c,aL,e0,c0,h1,gH]
theorem X8(c:Int):EV G (Tb (bs bb)) 331 [vu c] []=some (vb (mH c),[]):=by
 refine aA rfl ?_;by_cases c1:c<32;rw[show mH c=false from decide_eq_false (fun h=>by omega)]
 simp (disch:=omega) only[go_sem,h331c,c1];by_cases c2:c > 126;rw[show mH c=false from decide_eq_false (fun h=>by omega)]
 simp (disch:=omega) only[go_sem,h331c,c1,c2]
 ·have hr:(⟨#[34,42,47,58,60,62,63,92,124]⟩:ByteArray)=dL tH:=rfl;have hBr:aM tH:=Ic tH (by decide);simp (disch:=omega) only[go_sem,h331c,c1,c2,hr];rw[gF (fun k=>⟨(vu c::jk 2 (vi k::jk 14 [])),[]⟩) (fun k=>tH.getD k 0=c) 9 ?_ ?_]
  rotate_left
  rfl;intro k hk hn;have h1:=hn k (aXF _);obtain⟨h2,h3⟩:=aEX tH hBr k hk;rw[rT tH k hk] at h1;simp (disch:=omega) only[go_sem,h331l0,hr,h2,h3,h1,aXG];obtain⟨hk,hp,hn⟩:=bT (fun k=>tH.getD k 0=c) 9
  generalize ix (fun k=>tH.getD k 0=c) 9=k at *
  rcases hp with rfl|⟨hk',hp⟩;have hm:c∉tH:=by
   intro hm;obtain⟨j,hj,e⟩:=List.mem_iff_getElem.1 hm;exact hn j hj (by rw[rT tH j hj];exact e)
  rw[show mH c=true from decide_eq_true ⟨by omega,by omega,hm⟩]
  simp (disch:=omega) only[go_sem,h331l0,hr];have hm:c∈tH:=by
   rw[rT tH k hk'] at hp;rw[<- hp];exact aXM _
  obtain⟨h2,h3⟩:=aEX tH hBr k hk';rw[rT tH k hk'] at hp;rw[hp] at h2 h3;rw[show mH c=false from decide_eq_false (fun h=>h.2.2 hm)]
  simp (disch:=omega) only[go_sem,h331l0,hr,h2,h3,aXG]
theorem aJL(l:List Int)(hB:aM l)(hl:l.length<=1000000):EV G (Tb (bs bb)) 294 [sv l] []=some (vi (if l.length > 32 then 8 else if pN l then 0 else 4),[]):=by
 refine aA rfl ?_;have e0:=dR hB jI;have e1:=dR hB (Ic [46,46] (by decide));have e2:=dR hB (Ic [46] (by decide));by_cases c0:l.length > 32;rw[if_pos c0];simp (disch:=omega) only[go_sem,h294c,c0];rw[if_neg c0];by_cases c1:l=[];rw[if_neg (fun h:pN l=>h.1 c1)]
 simp (disch:=omega) only[go_sem,h294c,c0,aL,s46,qC,e0,c1];have hp:1<=l.length:=by have:=List.length_pos_iff.2 c1;omega
 have eg:l.getLast?=some l[l.length-1]:=by rw[List.getLast?_eq_getElem?,aXJ (by omega)]
 obtain⟨hx,hx2⟩:=aEX l hB (l.length-1) (by omega);by_cases c2:l=[46];rw[if_neg (fun h:pN l=>h.2.2.2.2.2 (by rw[c2];rfl))]
 replace c2:=eq_true c2;simp (disch:=omega) only[go_sem,h294c,c0,aL,s46,qC,e0,c1,e2,c2];by_cases c3:l=[46,46];rw[if_neg (fun h:pN l=>h.2.2.2.1 c3)]
 replace c3:=eq_true c3;simp (disch:=omega) only[go_sem,h294c,c0,aL,s46,qC,e0,c1,e2,c2,e1,c3];by_cases c4:l[l.length-1]=32;rw[if_neg (fun h:pN l=>h.2.2.2.2.1 (by rw[eg,c4]))]
 rw[c4] at hx hx2;simp (disch:=omega) only[go_sem,h294c,c0,aL,s46,qC,e0,c1,e2,c2,e1,c3,Ai,hx,hx2,aXG];by_cases c5:l[l.length-1]=46;rw[if_neg (fun h:pN l=>h.2.2.2.2.2 (by rw[eg,c5]))]
 rw[c5] at hx hx2;simp (disch:=omega) only[go_sem,h294c,c0,aL,s46,qC,e0,c1,e2,c2,e1,c3,Ai,hx,hx2,aXG]
 ·have hnm:pN l↔E8 l=true:=by
   exact⟨fun h=>h.2.2.1,fun h=>⟨c1,by omega,h,c3,by rw[eg];simpa using c4,by rw[eg];simpa using c5⟩⟩
  simp (disch:=omega) only[go_sem,h294c,c0,aL,s46,qC,e0,c1,e2,c2,e1,c3,hx,hx2,aXG,c4,c5];rw[gF (fun k=>⟨(sv l::jk 2 (vi k::jk 40 [])),[]⟩) (fun k=>¬ mH (l.getD k 0)=true) l.length ?_ ?_]
  rotate_left
  rfl;intro k hk hn;have h1:=hn k (aXF _);obtain⟨h2,h4⟩:=aEX l hB k hk;rw[rT l k hk] at h1;have h3:=X8 (G:=G) (bb:=bb) l[k];rw[Classical.not_not.1 h1] at h3;simp (disch:=omega) only[go_sem,h294l0,h2,h3,h4,aXG];obtain⟨hk,hq,hn⟩:=bT (fun k=>¬ mH (l.getD k 0)=true) l.length
  generalize ix (fun k=>¬ mH (l.getD k 0)=true) l.length=k at *
  rcases hq with rfl|⟨hk',hq⟩;have ha:E8 l=true:=by
   unfold E8;rw[aY2];intro x hx;obtain⟨j,hj,rfl⟩:=List.mem_iff_getElem.1 hx;have:=hn j hj;rw[rT l j hj] at this;exact Classical.not_not.1 this
  rw[if_pos (hnm.2 ha)];simp (disch:=omega) only[go_sem,h294l0];have ha:¬ E8 l=true:=by
   intro ha;rw[rT l k hk'] at hq;exact hq (aY2.1 ha _ (aXM hk'))
  obtain⟨h2,h4⟩:=aEX l hB k hk';rw[rT l k hk'] at hq;have h3:=X8 (G:=G) (bb:=bb) l[k];rw[(by simpa using hq:mH l[k]=false)] at h3;rw[if_neg (fun h=>ha (hnm.1 h))]
  simp (disch:=omega) only[go_sem,h294l0,h2,h3,h4,aXG]
theorem aEY(l:List Int)(hB:aM l)(hl:l.length<=1000000):EV G (Tb (bs bb)) 248 [sv l] []=some (vb (Nd l),[]):=by
 refine aA rfl ?_;have e0:=dR hB jI;have h1:=aJL (G:=G) (bb:=bb) l hB hl;by_cases c0:l=[];rw[show Nd l=true from decide_eq_true (.inl c0)]
 simp (disch:=omega) only[go_sem,h248c,aL,e0,c0];by_cases c1:pN l;rw[show Nd l=true from decide_eq_true (.inr c1)]
 have c2:=c1.2.1;rw[if_pos c1,if_neg (by omega)] at h1;simp (disch:=omega) only[go_sem,h248c,aL,e0,c0,h1];rw[show Nd l=false from decide_eq_false (fun h=>h.elim c0 c1)]
 rw[if_neg c1] at h1;by_cases c2:l.length > 32;rw[if_pos c2] at h1;simp (disch:=omega) only[go_sem,h248c,aL,e0,c0,h1];rfl;rw[if_neg c2] at h1;simp (disch:=omega) only[go_sem,h248c,aL,e0,c0,h1];rfl
end
section
variable {G:aE}{bb:Bool}
def yC(b:Int):aT:=dA (.int .u8 b)
abbrev yb(l:List Int):aC:=.box (l.map yC)
theorem Nf(p:Nat->Bool)(l:List Int):(l.map yC).map (cG p)=l.map yC:=by rw[aX1];rfl
theorem iQ(m:Nat)(l:List Int):Jz m (l.map yC)=l.map yC:=by rw[Bk,Nf]
theorem lM(m:Nat)(l:List Int):Tz m (l.map yC)=l.map yC:=by rw[Fq,Nf]
theorem aOL(l:List Int):idsL (l.map yC)=[]:=by
 induction l with
 |nil=>rfl
 |cons b l ih=>rw[aXL,idsL,ih];rfl
theorem aTl(J:List Nat)(l:List Int):Bm J (l.map yC)=true:=by
 induction l with
 |nil=>rfl
 |cons b l ih=>rw[aXL,Bm,ih];rfl
theorem oH(ρ:Nat->Nat)(l:List Int):(l.map yC).map (jN ρ)=l.map yC:=by
 induction l with
 |nil=>rfl
 |cons b l ih=>rw[aXL,aXL,ih];rfl
theorem aJM(p:Nat->Bool)(l:List Int):keepL p (l.map yC)=true:=by
 induction l with
 |nil=>rfl
 |cons b l ih=>rw[aXL,keepL,ih];rfl
theorem aOM(id:Nat)(es:List (List DC))(l:List Int):(l.map yC).map (Ae id es)=l.map yC:=by
 induction l with
 |nil=>rfl
 |cons b l ih=>rw[aXL,aXL,ih];rfl
theorem aEZ(l:List Int)(k:Nat)(b:Int)(h:k<l.length):cQ (l.map yC) k [.dc (.raw (.int .u8 b))]=(l.set k b).map yC:=by
 unfold cQ;apply aY5;intro i;simp only[aYa];by_cases h1:i<k;rw[aXR,aXU (by simp;omega),aZd h1,aXW (by omega)];by_cases h2:i=k;subst h2;rw[aXR,aXY (by simp;omega),aX7 (by simpa using h)];simp[aY1 (Nat.le_of_lt h)];rfl;rw[aXY (by simp;omega),aXW (by omega),aX9];congr 1;simp;omega
attribute [go_sem] Nf iQ lM aOL aTl oH aJM aOM
theorem aON{d:Option Nat}{st:AS}{id:Nat}{cs:List aT}:aDt d id st (some (.tup [],[.box cs]))=bif keepL (fun _=>true) cs then some (⟨aQ st.sl d (.tup []),st.hp.set id (.box cs)⟩,[id],[id]) else none:=Eq.trans rfl rfl
attribute [go_sem] aON
def aW(l:List Int)(a:Nat)(n:Int):Nat->List Int
 |0=>l
 |k+1=>(aW l a n k).set (a+k) (Ee n k % 256)
theorem cW(l:List Int)(a:Nat)(n:Int)(k:Nat):(aW l a n k).length=l.length:=by
 induction k with
 |zero=>rfl
 |succ k ih=>simp[aW,ih]
theorem aTm(l:List Int)(a k:Nat)(n:Int)(h:a+k<=l.length)(hl:l.length<=1000000)(hn:-9223372036854775808<=n/\n<=9223372036854775807):
  EV G (Tb (bs bb)) 287 [.one (.bls 0 0 l.length 1),vi a,vi k,vi n] [yb l]=some (.tup [],[yb (aW l a n k)]):=by
 refine aA rfl ?_;simp (disch:=omega) only[go_sem,h287c];rw[aR (fun j=>⟨(.one (.bls 0 0 l.length 1)::vi a::jk 1 (vi (Ee n j)::jk 5 (vi k::vi j::jk 12 []))),[yb (aW l a n j)]⟩) k ?_ ?_]
 simp (disch:=omega) only[go_sem,h287l0];rfl;intro j hj;have h1:=cW l a n j;have h2:=Uo n hn j;have h3:=aEZ (aW l a n j) (a+j) (Ee n j % 256) (by omega);simp (disch:=omega) only[go_sem,h287l0,aXC,h1,wu8,Int.reduceToNat,Int.reducePow,Fx,Ee,aW,h3]
theorem X9(l:List Int)(a k:Nat)(n:Int)(N:Nat)(hN:l.length=N)(h:a+k<=N)(hl:N<=1000000)(hn:-9223372036854775808<=n/\n<=9223372036854775807):
  EV G (Tb (bs bb)) 287 [.one (.bls 0 0 N 1),vi a,vi k,vi n] [yb l]=some (.tup [],[yb (aW l a n k)]):=by
 subst hN;exact aTm l a k n h hl hn
theorem aL1(l:List Int)(n:Int)(N:Nat)(hN:l.length=N)(h:4<=N)(hl:N<=1000000)(hn:-9223372036854775808<=n/\n<=9223372036854775807):EV G (Tb (bs bb)) 287 [.one (.bls 0 0 N 1),vi 0,vi 4,vi n] [yb l]=some (.tup [],[yb (aW l 0 n 4)]):=X9 l 0 4 n N hN h hl hn
theorem aL2(l:List Int)(a:Int)(n:Int)(N:Nat)(hN:l.length=N)(ha:0<=a)(h:a+4<=N)(hl:N<=1000000)(hn:-9223372036854775808<=n/\n<=9223372036854775807):EV G (Tb (bs bb)) 287 [.one (.bls 0 0 N 1),vi a,vi 4,vi n] [yb l]=some (.tup [],[yb (aW l a.toNat n 4)]):=by
 have:=X9 (G:=G) (bb:=bb) l a.toNat 4 n N hN (by omega) hl hn;rwa[Int.toNat_of_nonneg ha] at this
theorem aL3(l:List Int)(a:Int)(n:Int)(N:Nat)(hN:l.length=N)(ha:0<=a)(h:a+2<=N)(hl:N<=1000000)(hn:-9223372036854775808<=n/\n<=9223372036854775807):EV G (Tb (bs bb)) 287 [.one (.bls 0 0 N 1),vi a,vi 2,vi n] [yb l]=some (.tup [],[yb (aW l a.toNat n 2)]):=by
 have:=X9 (G:=G) (bb:=bb) l a.toNat 2 n N hN (by omega) hl hn;rwa[Int.toNat_of_nonneg ha] at this
theorem aL4(l:List Int)(a:Int)(n:Int)(N:Nat)(hN:l.length=N)(ha:0<=a)(h:a+1<=N)(hl:N<=1000000)(hn:-9223372036854775808<=n/\n<=9223372036854775807):EV G (Tb (bs bb)) 287 [.one (.bls 0 0 N 1),vi a,vi 1,vi n] [yb l]=some (.tup [],[yb (aW l a.toNat n 1)]):=by
 have:=X9 (G:=G) (bb:=bb) l a.toNat 1 n N hN (by omega) hl hn;rwa[Int.toNat_of_nonneg ha] at this
def fG(b:List Int)(k:Nat)(s:List Int):List Int:=b.take k++s++b.drop (k+s.length)
theorem cP{b:List Int}{k:Nat}{s:List Int}(h:k+s.length<=b.length):(fG b k s).length=b.length:=by simp[fG];omega
theorem Ra(s:List Int)(hB:aM s):dZ (s.map u8)=s.map yC:=by
 unfold dZ;rw[aX1];exact aXZ (fun b hb=>by simp only[Function.comp_apply,yC,iW b (hB b hb)])
theorem oO(b s:List Int)(k n:Nat)(hB:aM s)(h:s.length<=n):cQ (b.map yC) k (dZ ((s.map u8).take n))=(fG b k s).map yC:=by
 rw[aYe (by simpa using h),Ra s hB];simp[cQ,fG,aYg,aYr,aYS]
def zl(n:Nat):List Int:=List.replicate n 0
theorem bF(n:Nat):(zl n).length=n:=aXO
theorem Ng(n:Nat):List.replicate n (aT.dc (.raw (.int .u8 0)))=(zl n).map yC:=by rw[zl,List.map_replicate];rfl
theorem kN(l:List Int):iV (l.map yC)=some (l.map u8):=by
 induction l with
 |nil=>rfl
 |cons b l ih=>simp only[aXL,yC,dA,iV,u8] at ih ⊢;rw[ih];rfl
theorem B3(l:List Int)(n:Nat)(h:l.length<=n):(l.map yC).take n=l.map yC:=aYe (by simpa using h)
def tJ(a:aJ):Nat:=if a.res=true then 24 else 40
def rU(a:aJ):List Int:=if a.res=true then a.va else (Al a.rs).1
def eC(a:aJ):Nat:=(tJ a+a.nm.length+7) / 8*8
def fQ(a:aJ):Nat:=(eC a+(rU a).length+7) / 8*8
def Rb(a:aJ):List Int:=aW (aW (aW (aW (aW (aW (zl (fQ a)) 0 a.ty 4) 4 (fQ a) 4) 9 a.nm.length 1) 10 (tJ a) 2) 12 a.fl 2) 14 a.id 2
def Rc(a:aJ):List Int:=if a.res=true then aW (aW (Rb a) 16 (rU a).length 4) 20 (eC a) 4
 else aW (aW (aW (aW (aW (aW (aW (Rb a) 8 1 1) 16 a.fi 4) 20 (a.fi+iF a.rs-1) 4) 24 (eC a) 2) 28 a.al 4) 32 a.sz 4) 36 a.vd 4
def uZ(a:aJ):List Int:=fG (fG (Rc a) (tJ a) a.nm) (eC a) (rU a)
structure aJ.Bd (a:aJ):Prop where
 nm:aM a.nm
 va:aM a.va
 nl:a.nm.length<=1000
 vl:a.va.length<=1000
 rl:a.rs.length<=1000
 ty:-1000000000000<=a.ty/\a.ty<=1000000000000
 id:-1000000000000<=a.id/\a.id<=1000000000000
 fl:-1000000000000<=a.fl/\a.fl<=1000000000000
 fi:-1000000000000<=a.fi/\a.fi<=1000000000000
 al:-1000000000000<=a.al/\a.al<=1000000000000
 sz:-1000000000000<=a.sz/\a.sz<=1000000000000
 vd:-1000000000000<=a.vd/\a.vd<=1000000000000
 lw:-1000000000000<=iF a.rs/\iF a.rs<=1000000000000
theorem Lc(l:List aY):aM (Al l).1/\(Al l).1.length<=5*64+1:=by
 unfold Al;by_cases c:Bp [l]=0;have hc:(nA l).2=0:=by rw[K8] at c;exact c
 have hr:=Fy hc;have hlen:=nC hc;obtain⟨g1,g2,g3⟩:=uM l (fun r hr'=>(hr r hr').1) l.length (aXF _)
 rw[B0] at g1 g3;rw[if_neg (by simpa using c)];refine⟨fun b hb=>?_,by simp;omega⟩
 rcases aYV.1 hb with hb|hb;exact g3 b hb;have:=List.mem_singleton.1 hb;omega;rw[if_pos c];exact⟨jI,by simp⟩
end
section
variable {G:aE}{bb:Bool}
theorem Rd(l:List Int)(n:Nat)(h:l.length<=n):iV ((l.map yC).take n)=some (l.map u8):=by rw[B3 l n h,kN]
theorem Ie(a:aJ):(Rb a).length=fQ a:=by simp only[Rb,cW,bF]
set_option maxHeartbeats 4000000 in
theorem aBl(a:aJ)(h:a.Bd)(hr:a.res=true):EV G (Tb (bs bb)) 238 [a.v] []=some (sv (uZ a),[]):=by
 refine aA rfl ?_;obtain⟨hnm,hva,hnl,hvl,hrl,hty,hid,hfl,hfi,hal,hsz,hvd,hlw⟩:=h;have eh:tJ a=24:=by simp[tJ,hr]
 have eb:rU a=a.va:=by simp[rU,hr]
 have eA:X7 (24+(a.nm.length:Int))=((eC a:Nat):Int):=by simp only[X7,eC,eh];omega
 have eN:X7 (((eC a:Nat):Int)+(a.va.length:Int))=((fQ a:Nat):Int):=by simp only[X7,fQ,eb];omega
 have hA:24+a.nm.length<=eC a/\eC a<=2000:=by simp only[eC,eh];omega
 have hN:eC a+a.va.length<=fQ a/\fQ a<=4000:=by simp only[fQ,eb];omega
 unfold uZ Rc;rw[if_pos hr];have h6:=Ie a;unfold Rb at h6 ⊢;rw[eh,eb] at *;generalize eC a=A at *;generalize fQ a=N at *;have hc1:=oO (aW (aW (aW (aW (aW (aW (aW (aW (zl N) 0 a.ty 4) 4 N 4) 9 a.nm.length 1) 10 24 2) 12 a.fl 2) 14 a.id 2) 16 a.va.length 4) 20 A 4) a.nm 24 (N-24) hnm (by omega);have hc2:=oO (fG (aW (aW (aW (aW (aW (aW (aW (aW (zl N) 0 a.ty 4) 4 N 4) 9 a.nm.length 1) 10 24 2) 12 a.fl 2) 14 a.id 2) 16 a.va.length 4) 20 A 4) 24 a.nm) a.va A (N-A) hva (by omega);have hl1:(fG (aW (aW (aW (aW (aW (aW (aW (aW (zl N) 0 a.ty 4) 4 N 4) 9 a.nm.length 1) 10 24 2) 12 a.fl 2) 14 a.id 2) 16 a.va.length 4) 20 A 4) 24 a.nm).length=N:=by
  rw[cP (by simp only[cW,bF];omega)];simp only[cW,bF]
 have hl2:=cP (b:=fG (aW (aW (aW (aW (aW (aW (aW (aW (zl N) 0 a.ty 4) 4 N 4) 9 a.nm.length 1) 10 24 2) 12 a.fl 2) 14 a.id 2) 16 a.va.length 4) 20 A 4) 24 a.nm) (k:=A) (s:=a.va) (by omega);rw[hl1] at hl2;have e3:(A+(N-A)<=N)=True:=eq_true (by omega);simp (disch:=first|omega|(simp only[aXC,cW,bF]<;>omega)) only[go_sem,h238c,hr,Am,uO,eA,eN,Ng,aXC,aL1,aL4,aL3,aL2,Int.reduceToNat,aYm,cW,bF,hc1,hc2,hl1,e3,if_true,Rd,aYq,Option.toList_some,Option.toList_none,aYd,aX4]
set_option maxHeartbeats 4000000 in
theorem aBm(a:aJ)(h:a.Bd)(hr:a.res=false):EV G (Tb (bs bb)) 238 [a.v] []=some (sv (uZ a),[]):=by
 refine aA rfl ?_;obtain⟨hnm,hva,hnl,hvl,hrl,hty,hid,hfl,hfi,hal,hsz,hvd,hlw⟩:=h;have hr':¬ a.res=true:=by rw[hr];decide
 have eh:tJ a=40:=by simp[tJ,hr]
 have eb:rU a=(Al a.rs).1:=by simp[rU,hr]
 obtain⟨hby,hbl⟩:=Lc a.rs;have q1:=aET (G:=G) (B:=bs bb) a.rs;have q2:=Eg (G:=G) (bb:=bb) a (by omega);simp only[aJ.v,aJ.c,hr] at q2;have eA:X7 (40+(a.nm.length:Int))=((eC a:Nat):Int):=by simp only[X7,eC,eh];omega
 have eN:X7 (((eC a:Nat):Int)+((Al a.rs).1.length:Int))=((fQ a:Nat):Int):=by simp only[X7,fQ,eb];omega
 have hA:40+a.nm.length<=eC a/\eC a<=2000:=by simp only[eC,eh];omega
 have hN:eC a+(Al a.rs).1.length<=fQ a/\fQ a<=4000:=by simp only[fQ,eb];omega
 unfold uZ Rc;rw[if_neg hr'];have h6:=Ie a;unfold Rb at h6 ⊢;rw[eh,eb] at *;generalize eC a=A at *;generalize fQ a=N at *;generalize (Al a.rs).1=C at *;have hc1:=oO (aW (aW (aW (aW (aW (aW (aW (aW (aW (aW (aW (aW (aW (zl N) 0 a.ty 4) 4 N 4) 9 a.nm.length 1) 10 40 2) 12 a.fl 2) 14 a.id 2) 8 1 1) 16 a.fi 4) 20 (a.fi+iF a.rs-1) 4) 24 A 2) 28 a.al 4) 32 a.sz 4) 36 a.vd 4) a.nm 40 (N-40) hnm (by omega);have hl1:(fG (aW (aW (aW (aW (aW (aW (aW (aW (aW (aW (aW (aW (aW (zl N) 0 a.ty 4) 4 N 4) 9 a.nm.length 1) 10 40 2) 12 a.fl 2) 14 a.id 2) 8 1 1) 16 a.fi 4) 20 (a.fi+iF a.rs-1) 4) 24 A 2) 28 a.al 4) 32 a.sz 4) 36 a.vd 4) 40 a.nm).length=N:=by
  rw[cP (by simp only[cW,bF];omega)];simp only[cW,bF]
 have hc2:=oO (fG (aW (aW (aW (aW (aW (aW (aW (aW (aW (aW (aW (aW (aW (zl N) 0 a.ty 4) 4 N 4) 9 a.nm.length 1) 10 40 2) 12 a.fl 2) 14 a.id 2) 8 1 1) 16 a.fi 4) 20 (a.fi+iF a.rs-1) 4) 24 A 2) 28 a.al 4) 32 a.sz 4) 36 a.vd 4) 40 a.nm) C A (N-A) hby (by omega);have hl2:=cP (b:=fG (aW (aW (aW (aW (aW (aW (aW (aW (aW (aW (aW (aW (aW (zl N) 0 a.ty 4) 4 N 4) 9 a.nm.length 1) 10 40 2) 12 a.fl 2) 14 a.id 2) 8 1 1) 16 a.fi 4) 20 (a.fi+iF a.rs-1) 4) 24 A 2) 28 a.al 4) 32 a.sz 4) 36 a.vd 4) 40 a.nm) (k:=A) (s:=C) (by omega);rw[hl1] at hl2;have e3:(A+(N-A)<=N)=True:=eq_true (by omega);simp (disch:=first|omega|(simp only[aXC,cW,bF]<;>omega)) only[go_sem,h238c,hr,Am,uO,eA,eN,q1,q2,Ng,aXC,aL1,aL4,aL3,aL2,Int.reduceToNat,aYm,cW,bF,hc1,hc2,hl1,e3,if_true,Rd,aYq,Option.toList_some,Option.toList_none,aYd,aX4]
theorem Dg(a:aJ)(h:a.Bd):EV G (Tb (bs bb)) 238 [a.v] []=some (sv (uZ a),[]):=by
 cases hr:a.res with
 |true=>exact aBl a h hr
 |false=>exact aBm a h hr
theorem mI(a:aJ)(h:a.Bd):(uZ a).length=fQ a:=by
 have hbl:(rU a).length<=1000:=by
  unfold rU;split;exact h.vl;have:=(Lc a.rs).2;omega
 have h7:(Rc a).length=fQ a:=by
  unfold Rc;split<;>simp only[cW,Ie]
 have hA:tJ a+a.nm.length<=eC a:=by unfold eC;omega
 have hN:eC a+(rU a).length<=fQ a:=by unfold fQ;omega
 have h8:(fG (Rc a) (tJ a) a.nm).length=fQ a:=by rw[cP (by omega),h7]
 rw[uZ,cP (by omega),h8]
end
end Go.Proofs.YthepfneloomngaaGreatDoor
