/- Bytes in a box; the bytes of an attribute. Conditions: none. -/
import Derived.Test.YtcplecjhmnblpaaGreatDoorTa
import Derived.Test.YtcplecjhmnblpaaGreatDoorVi
namespace Go.Proofs.YtcplecjhmnblpaaGreatDoor
set_option linter.unusedSimpArgs false
set_option linter.unusedVariables false
set_option maxRecDepth 4000
section
variable {G:aH} {bb:Bool}
structure aE where
 ty:Int
 nm:List Int
 id:Int
 fl:Int
 res:Bool
 va:List Int
 fi:Int
 rs:List bI
 al:Int
 sz:Int
 vd:Int
abbrev aE.e(a:aE):List DC:=[ci a.ty,.raw (.string (eG a.nm)),ci a.id,ci a.fl,.raw (.bool a.res),.raw (.string (eG a.va)),ci a.fi,.slc (a.rs.map bI.e),ci a.al,ci a.sz,ci a.vd]
abbrev aE.c(a:aE):List aR:=[.dc (ci a.ty),.dc (.raw (.string (eG a.nm))),.dc (ci a.id),.dc (ci a.fl),.dc (.raw (.bool a.res)),.dc (.raw (.string (eG a.va))),.dc (ci a.fi),.dc (.slc (a.rs.map bI.e)),.dc (ci a.al),.dc (ci a.sz),.dc (ci a.vd)]
abbrev aE.v(a:aE):AV:=.agg a.c
abbrev aE.t(a:aE):TV:=.agg a.c
def aE.nil:aE:=⟨0,[],0,0,false,[],0,[],0,0,0⟩
theorem bV(n lo hi:Int):EV G (Tb (bs bb)) 126 [vi n,vi lo,vi hi] []=some (vb (decide (lo<=n/\n<=hi)),[]):=by
 refine aB rfl ?_;by_cases h:lo<=n
 all_goals simp (disch:=omega) only[go_sem,h126c]
 all_goals simp[h]
theorem gF(b:Bool)(e:Int):EV G (Tb (bs bb)) 118 [vb b,vi e] []=some (vi (if b=true then 0 else e),[]):=by
 refine aB rfl ?_;cases b
 all_goals simp (disch:=omega) only[go_sem,h118c]
 all_goals rfl
theorem U3(b:Bool)(e:Int):EV G (Tb (bs bb)) 205 [vb b,vi e] []=some (vi (if b=true then 0 else e),[]):=by
 refine aB rfl ?_;cases b
 all_goals simp (disch:=omega) only[go_sem,h205c]
 all_goals rfl
theorem B3(l:List Int)(hl:l.length<=1000):EV G (Tb (bs bb)) 117 [vl (el l)] []=some (vi (aS l),[]):=by
 refine aB rfl ?_;simp (disch:=omega) only[go_sem,h117c,aQb];have round:∀ k (hk:k < l.length),¬ l.getD k 0≠0->Ua [5,0,0] 0 (EC (EV G (Tb (bs bb))) G h117l0 ⟨(jk 5 (vl (el l)::vi l.length::vi k::jk 7 [])),[]⟩)=some ⟨(jk 5 (vl (el l)::vi l.length::vi (k+1:Nat)::jk 7 [])),[]⟩:=fun k hk hz=>by
  rw[eY l k hk] at hz;simp (disch:=omega) only[go_sem,h117l0,aQb,Qu]
 rcases Uz (fun k=>l.getD k 0≠0) l.length with h | ⟨j,hj,h1,h2⟩
 ·rw[bG (fun k=>⟨(jk 5 (vl (el l)::vi l.length::vi k::jk 7 [])),[]⟩) l.length ?_ ?_]
  ·rw[kF l h];simp (disch:=omega) only[go_sem,h117l0]
  ·rfl
  ·exact fun k hk=>round k hk (h k hk)
 ·rw[bG (fun k=>⟨(jk 5 (vl (el l)::vi l.length::vi k::jk 7 [])),[]⟩) j ?_ ?_]
  ·rw[mV l j hj h2 h1];rw[eY l j hj] at h1;simp (disch:=omega) only[go_sem,h117l0,aQb,Qu]
  ·rfl
  ·exact fun k hk=>round k (by omega) (h2 k hk)
theorem aAG(l:List Int)(hl:l.length<=1000):EV G (Tb (bs bb)) 204 [vl (el l)] []=some (vi (aS l),[]):=by
 refine aB rfl ?_;simp (disch:=omega) only[go_sem,h204c,aQb];have round:∀ k (hk:k < l.length),¬ l.getD k 0≠0->Ua [5,0,0] 0 (EC (EV G (Tb (bs bb))) G h204l0 ⟨(jk 5 (vl (el l)::vi l.length::vi k::jk 7 [])),[]⟩)=some ⟨(jk 5 (vl (el l)::vi l.length::vi (k+1:Nat)::jk 7 [])),[]⟩:=fun k hk hz=>by
  rw[eY l k hk] at hz;simp (disch:=omega) only[go_sem,h204l0,aQb,Qu]
 rcases Uz (fun k=>l.getD k 0≠0) l.length with h | ⟨j,hj,h1,h2⟩
 ·rw[bG (fun k=>⟨(jk 5 (vl (el l)::vi l.length::vi k::jk 7 [])),[]⟩) l.length ?_ ?_]
  ·rw[kF l h];simp (disch:=omega) only[go_sem,h204l0]
  ·rfl
  ·exact fun k hk=>round k hk (h k hk)
 ·rw[bG (fun k=>⟨(jk 5 (vl (el l)::vi l.length::vi k::jk 7 [])),[]⟩) j ?_ ?_]
  ·rw[mV l j hj h2 h1];rw[eY l j hj] at h1;simp (disch:=omega) only[go_sem,h204l0,aQb,Qu]
  ·rfl
  ·exact fun k hk=>round k (by omega) (h2 k hk)
theorem aEP(a b:Int):EV G (Tb (bs bb)) 204 [vl [[ci a],[ci b]]] []=some (vi (aS [a,b]),[]):=aAG [a,b] (by simp)
theorem lW(a b:Int):EV G (Tb (bs bb)) 117 [vl [[ci a],[ci b]]] []=some (vi (aS [a,b]),[]):=B3 [a,b] (by simp)
theorem bX(a b c:Int):EV G (Tb (bs bb)) 117 [vl [[ci a],[ci b],[ci c]]] []=some (vi (aS [a,b,c]),[]):=B3 [a,b,c] (by simp)
theorem iK(a b c d e:Int):EV G (Tb (bs bb)) 117 [vl [[ci a],[ci b],[ci c],[ci d],[ci e]]] []=some (vi (aS [a,b,c,d,e]),[]):=B3 [a,b,c,d,e] (by simp)
def H3:List Int:=[16,32,48,64,96,112,128,144,160,176,192]
def B4:List Int:=[16,48,96,112,144]
theorem gB:EV G (Tb (bs bb)) 172 [] []=some (.one (.mpc tyL),[]):=jE rfl rfl
theorem Kk(n:Int):tI tyL n=if n∈H3 then some (.bool (decide (n∈B4))) else none:=by
 unfold tyL H3 B4;simp only[tI,List.mem_cons,List.not_mem_nil,or_false];split<;>rename_i h1
 ·subst h1;simp
 split<;>rename_i h2
 ·subst h2;simp
 split<;>rename_i h3
 ·subst h3;simp
 split<;>rename_i h4
 ·subst h4;simp
 split<;>rename_i h5
 ·subst h5;simp
 split<;>rename_i h6
 ·subst h6;simp
 split<;>rename_i h7
 ·subst h7;simp
 split<;>rename_i h8
 ·subst h8;simp
 split<;>rename_i h9
 ·subst h9;simp
 split<;>rename_i h10
 ·subst h10;simp
 split<;>rename_i h11
 ·subst h11;simp
 rw[if_neg (by omega)]
theorem aAH(n:Int):EV G (Tb (bs bb)) 124 [vi n] []=some (vb (decide (n∈H3)),[]):=by
 refine aB rfl ?_;have hm:=Kk n;by_cases h:n∈H3
 ·rw[if_pos h] at hm;simp (disch:=omega) only[go_sem,h124c,gB,H9,mpR,hm,h]
 ·rw[if_neg h] at hm;simp (disch:=omega) only[go_sem,h124c,gB,H9,mpR,hm,h]
theorem yO(a:aE)(hl:a.rs.length<=1000000):EV G (Tb (bs bb)) 175 [a.v] []=some (vi (gZ a.rs),[]):=by
 refine aB rfl ?_;simp (disch:=omega) only[go_sem,h175c,aQb];rw[bG (fun k=>⟨(jk 3 (vi (gZ (a.rs.take k))::jk 3 (iW a.rs::vi a.rs.length::vi k::jk 9 []))),[.box a.c]⟩) a.rs.length ?_ ?_]
 ·simp (disch:=omega) only[go_sem,h175l0,aQR]
 ·rfl
 ·intro k hk;rw[xH a.rs k hk];simp (disch:=omega) only[go_sem,h175l0,aQb,bI.e]
theorem uA(b:Bool):EV G (Tb (bs bb)) 177 [vb b] []=some (vi (if b=true then 24 else 40),[]):=by
 refine aB rfl ?_;cases b
 all_goals simp (disch:=omega) only[go_sem,h177c]
 all_goals rfl
def Q4(n:Int):Int:=(n+7) / 8 * 8
theorem sP(n:Int)(h:0<=n/\n<=1000000000):EV G (Tb (bs bb)) 178 [vi n] []=some (vi (Q4 n),[]):=by
 refine aB rfl ?_;have e:n+8 - 1=n+7:=by omega
 simp (disch:=omega) only[go_sem,h178c,lQ,Q4,e]
end
section
variable {G:aH} {bb:Bool}
def rT:List Int:=[34,42,47,58,60,62,63,92,124]
def lX(c:Int):Bool:=decide (32<=c/\c<=126/\c∉rT)
theorem aEQ:∀ n:_root_.Fin 256,(Lib.indexByte (ByteArray.mk #[34,42,47,58,60,62,63,92,124]).data.toList ((n.val:Int).toNat.toUInt8) < 0)↔((n.val:Int)∉rT):=by decide
theorem aER(c:Int)(h:0<=c/\c<=255):(Lib.indexByte (ByteArray.mk #[34,42,47,58,60,62,63,92,124]).data.toList c.toNat.toUInt8 < 0)=(c∉rT):=by
 have:=aEQ ⟨c.toNat,by omega⟩;simp only[show ((c.toNat:Nat):Int)=c by omega] at this;exact propext this
theorem aMx(s:ByteArray)(c:Int):EV G (Tb (bs bb)) 240 [.one (.dc (.raw (.string s))),vu c] []=some (vi (Lib.indexByte s.data.toList c.toNat.toUInt8),[]):=jE rfl rfl
theorem Nn(s:ByteArray)(c:Int):EV G (Tb (bs bb)) 274 [.one (.dc (.raw (.string s))),vu c] []=some (vi (Lib.indexByte s.data.toList c.toNat.toUInt8),[]):=by
 refine aB rfl ?_;simp (disch:=omega) only[go_sem,h274c,aMx]
theorem aI0(c:Int)(h:0<=c/\c<=255):EV G (Tb (bs bb)) 250 [vu c] []=some (vb (lX c),[]):=by
 refine aB rfl ?_;have h1:=aER c h;unfold lX;by_cases c1:32<=c
 ·by_cases c2:c<=126
  ·simp (disch:=omega) only[go_sem,h250c,Nn,c1,c2];simp only[h1,true_and]
  ·simp (disch:=omega) only[go_sem,h250c,Nn,c1,c2]
 ·simp (disch:=omega) only[go_sem,h250c,Nn,c1]
theorem aI1{id:Nat}:jV [] id=true:=rfl
theorem aI2{j id:Nat}{J:List Nat}:jV (j::J) id=(!nq id j&&jV J id):=by
 simp only[jV,iI,List.contains_cons,Bool.not_or]
attribute [go_sem] aI1 aI2
theorem Kl(c:Int)(h:0<=c/\c<=255):EV G (Tb (bs bb)) 273 [vu c,.one (.ptr 0 0)] [.box [.fn 250 []]]=some (vb (!lX c),[.box [.fn 250 []]]):=by
 refine aB rfl ?_;have h1:=aI0 (G:=G) (bb:=bb) c h;simp (disch:=omega) only[go_sem,h273c,h1]
theorem qK(l:List Int)(k:Nat)(h:k < l.length):l.getD k 0=l[k]:=eY l k h
theorem aES(l:List Int)(hB:aM l)(hl:l.length<=1000000):
  EV G (Tb (bs bb)) 282 [vl (bl l),.one (.fn 273 [.ptr 0 0])] [.box [.fn 250 []]]=some (vi (if ix (fun k=>¬ lX (l.getD k 0)=true) l.length=l.length then -1 else (ix (fun k=>¬ lX (l.getD k 0)=true) l.length:Nat)),[.box [.fn 250 []]]):=by
 refine aB rfl ?_;simp (disch:=omega) only[go_sem,h282c,aQb];rw[gA (fun k=>⟨(vl (bl l)::.one (.fn 273 [.ptr 0 0])::jk 5 (vi l.length::vi k::jk 10 [])),[.box [.fn 250 []]]⟩) (fun k=>¬ lX (l.getD k 0)=true) l.length ?_ ?_]
 rotate_left
 ·rfl
 ·intro k hk hn;have h1:=hn k (aQf _);rw[qK l k hk] at h1;have h0:=hB _ (aQm hk);have h2:=Kl (G:=G) (bb:=bb) l[k] h0;have h3:lX l[k]=true:=Classical.not_not.1 h1;simp (disch:=omega) only[go_sem,h282l0,aQb,tR,h2,h3]
 obtain⟨hk,hp,hn⟩:=bW (fun k=>¬ lX (l.getD k 0)=true) l.length
 generalize ix (fun k=>¬ lX (l.getD k 0)=true) l.length=k at *
 rcases hp with rfl | ⟨hk',hp⟩
 ·simp (disch:=omega) only[go_sem,h282l0,aQb]
 ·rw[qK l k hk'] at hp;have h0:=hB _ (aQm hk');have h2:=Kl (G:=G) (bb:=bb) l[k] h0;have h3:lX l[k]=false:=by simpa using hp
  rw[if_neg (by omega)];simp (disch:=omega) only[go_sem,h282l0,aQb,tR,h2,h3]
def zE(l:List Int):Bool:=l.all lX
theorem aET(l:List Int):(if ix (fun k=>¬ lX (l.getD k 0)=true) l.length=l.length then (-1:Int) else (ix (fun k=>¬ lX (l.getD k 0)=true) l.length:Nat)) < 0↔zE l=true:=by
 obtain⟨hk,hp,hn⟩:=bW (fun k=>¬ lX (l.getD k 0)=true) l.length
 generalize ix (fun k=>¬ lX (l.getD k 0)=true) l.length=k at *
 rcases hp with rfl | ⟨hk',hp⟩
 ·rw[if_pos rfl];refine⟨fun _=>?_,fun _=>by decide⟩
  unfold zE;rw[aRl];intro x hx;obtain⟨j,hj,rfl⟩:=List.mem_iff_getElem.1 hx;have:=hn j hj;rw[qK l j hj] at this;exact Classical.not_not.1 this
 ·rw[if_neg (by omega)];refine⟨fun h=>by omega,fun h=>?_⟩
  rw[qK l k hk'] at hp;exact absurd (aRl.1 h _ (aQm hk')) hp
theorem Np(l:List Int)(hB:aM l):gE (eG l)=l.map tR:=by
 unfold gE;rw[Kg,aQC];refine aQz (fun b hb=>?_)
 simp only[Function.comp_apply,tR,jJ b (hB b hb)]
theorem aEU(l:List Int)(hB:aM l)(hl:l.length<=1000000):
  EV G (Tb (bs bb)) 272 [vl (bl l),.one (.fn 273 [.ptr 0 0])] [.box [.fn 250 []]]=some (vb (!zE l),[.box [.fn 250 []]]):=by
 refine aB rfl ?_;have h1:=aES (G:=G) (bb:=bb) l hB hl;have h2:=aET l;generalize (if ix (fun k=>¬ lX (l.getD k 0)=true) l.length=l.length then (-1:Int) else (ix (fun k=>¬ lX (l.getD k 0)=true) l.length:Nat))=z at h1 h2
 cases ha:zE l with
 | true=>
  have h3:=h2.2 ha;simp (disch:=omega) only[go_sem,h272c,h1];simp;omega
 | false=>
  have h3:¬ z < 0:=fun h=>by rw[h2.1 h] at ha;cases ha
  simp (disch:=omega) only[go_sem,h272c,h1];simp;omega
theorem aGC{α β:Type}(f:α->Option β)(x:α):[x].mapM f=(f x).map fun c=>[c]:=by
 cases h:f x<;>simp[aQ2,h]
theorem Nq(l:List Int)(hB:aM l)(hl:l.length<=1000000):EV G (Tb (bs bb)) 249 [sv l,.one (.fn 250 [])] []=some (vb (zE l),[]):=by
 refine aB rfl ?_;have h1:=aEU (G:=G) (bb:=bb) l hB hl;have h2:=Np l hB;cases ha:zE l
 all_goals rw[ha] at h1
 all_goals simp (disch:=omega) only[go_sem,h249c,h1,h2,aGC,qV]
theorem aMy(l:List Int)(c:Int)(hB:aM l)(hc:0<=c/\c<=255)(hl:l.length<=1000000):EV G (Tb (bs bb)) 275 [sv l,sv [c]] []=some (vb (decide (l≠[]/\l.getLast?=some c)),[]):=by
 refine aB rfl ?_;by_cases h:l=[]
 ·subst h;simp (disch:=omega) only[go_sem,h275c,aQd,aQe]
 ·have hp:1<=l.length:=by have:=List.length_pos_iff.2 h;omega
  have hd:l.drop (l.length - 1)=[l[l.length - 1]]:=by
   rw[aQ1 (by omega),List.drop_eq_nil_of_le (by omega)]
  have hB1:aM [l[l.length - 1]]:=fun b hb=>by rw[List.mem_singleton.1 hb];exact hB _ (aQm _)
  have hB2:aM [c]:=fun b hb=>by rw[List.mem_singleton.1 hb];exact hc
  have e:=cW hB1 hB2;have e2:l.getLast?=some l[l.length - 1]:=by rw[List.getLast?_eq_getElem?,aQi (by omega)]
  simp (disch:=omega) only[go_sem,h275c,aQd,aQe,hd,e,e2];simp[h]
theorem aAI(l:List Int)(c:Int)(hB:aM l)(hc:0<=c/\c<=255)(hl:l.length<=1000000):EV G (Tb (bs bb)) 251 [sv l,sv [c]] []=some (vb (decide (l≠[]/\l.getLast?=some c)),[]):=by
 refine aB rfl ?_;have h1:=aMy (G:=G) (bb:=bb) l c hB hc hl;simp (disch:=omega) only[go_sem,h251c,h1]
theorem aAJ(l:List Int)(hB:aM l)(k:Nat)(h:k < l.length):l[k]?=some l[k]/\((u8 l[k]).toNat:Int)=l[k]:=⟨aQi h,jJ _ (hB _ (aQm h))⟩
def oP(l:List Int):Prop:=l≠[]/\l.length<=32/\zE l=true/\l≠[46,46]/\l.getLast?≠some 32/\l.getLast?≠some 46
instance (l:List Int):Decidable (oP l):=by unfold oP;infer_instance
theorem U4:(⟨#[46,46]⟩:ByteArray)=eG [46,46]:=rfl
theorem pF:(⟨#[46]⟩:ByteArray)=eG [46]:=rfl
theorem B5:(⟨#[32]⟩:ByteArray)=eG [32]:=rfl
theorem B6(l:List Int)(h:(l.all fun b=>decide (0<=b/\b<=255))=true):aM l:=fun b hb=>by simpa using aRl.1 h b hb
theorem iL:aM []:=fun b hb=>by cases hb
theorem U5(l:List Int)(hB:aM l)(hl:l.length<=1000000):EV G (Tb (bs bb)) 206 [sv l] []=some (vb (decide (oP l)),[]):=by
 refine aB rfl ?_;have e0:=cW hB iL;have e1:=cW hB (B6 [46,46] (by decide));have h1:=Nq (G:=G) (bb:=bb) l hB hl;have h2:=aAI (G:=G) (bb:=bb) l 32 hB (by omega) hl;have h3:=aAI (G:=G) (bb:=bb) l 46 hB (by omega) hl;by_cases c0:l=[]
 ·rw[decide_eq_false (fun h:oP l=>h.1 c0)]
  simp (disch:=omega) only[go_sem,h206c,aF,U4,pF,B5,e0,e1,c0]
 ·by_cases c1:l.length<=32
  ·by_cases c2:zE l=true
   ·rw[c2] at h1;by_cases c3:l=[46,46]
    ·rw[decide_eq_false (fun h:oP l=>h.2.2.2.1 c3)]
     replace c3:=eq_true c3;simp (disch:=omega) only[go_sem,h206c,aF,U4,pF,B5,e0,e1,c0,c1,h1,c3]
    ·by_cases c4:l.getLast?=some 32
     ·rw[decide_eq_false (fun h:oP l=>h.2.2.2.2.1 c4)]
      rw[decide_eq_true (⟨c0,c4⟩:l≠[]/\l.getLast?=some 32)] at h2;simp (disch:=omega) only[go_sem,h206c,aF,U4,pF,B5,e0,e1,c0,c1,h1,c3,h2]
     ·rw[decide_eq_false (fun h:l≠[]/\l.getLast?=some 32=>c4 h.2)] at h2
      by_cases c5:l.getLast?=some 46
      ·rw[decide_eq_false (fun h:oP l=>h.2.2.2.2.2 c5)]
       rw[decide_eq_true (⟨c0,c5⟩:l≠[]/\l.getLast?=some 46)] at h3;simp (disch:=omega) only[go_sem,h206c,aF,U4,pF,B5,e0,e1,c0,c1,h1,c3,h2,h3]
      ·rw[show decide (oP l)=true from decide_eq_true ⟨c0,c1,c2,c3,c4,c5⟩]
       rw[decide_eq_false (fun h:l≠[]/\l.getLast?=some 46=>c5 h.2)] at h3
       simp (disch:=omega) only[go_sem,h206c,aF,U4,pF,B5,e0,e1,c0,c1,h1,c3,h2,h3]
   ·rw[decide_eq_false (fun h:oP l=>c2 h.2.2.1)]
    rw[Bool.eq_false_iff.2 c2] at h1;simp (disch:=omega) only[go_sem,h206c,aF,U4,pF,B5,e0,e1,c0,c1,h1]
  ·rw[decide_eq_false (fun h:oP l=>c1 h.2.1)]
   simp (disch:=omega) only[go_sem,h206c,aF,U4,pF,B5,e0,e1,c0,c1]
theorem Km(l:List Int)(hB:aM l)(hl:l.length<=1000000):EV G (Tb (bs bb)) 173 [sv l] []=some (vi (aS [if l.length<=32 then 0 else 8,if oP l then 0 else 4]),[]):=by
 refine aB rfl ?_;have h1:=U5 (G:=G) (bb:=bb) l hB hl;have e:((l.length:Int)<=32)=(l.length<=32):=by apply propext;omega
 simp (disch:=omega) only[go_sem,h173c,h1,U3,aEP,decide_eq_true_eq,e]
def Nr(l:List Int):Bool:=decide (l=[]\/oP l)
theorem U6(l:List Int)(hB:aM l)(hl:l.length<=1000000):EV G (Tb (bs bb)) 125 [sv l] []=some (vi (if Nr l=true then 0 else 4),[]):=by
 refine aB rfl ?_;have e0:=cW hB iL;have h1:=Km (G:=G) (bb:=bb) l hB hl;by_cases c0:l=[]
 ·rw[show Nr l=true from decide_eq_true (.inl c0)]
  simp (disch:=omega) only[go_sem,h125c,aF,e0,c0,gF]
 ·by_cases c1:oP l
  ·rw[show Nr l=true from decide_eq_true (.inr c1)]
   have c2:=c1.2.1;rw[if_pos c1,if_pos c2,show aS [0,0]=0 from rfl] at h1
   simp (disch:=omega) only[go_sem,h125c,aF,e0,c0,h1,gF]
  ·rw[show Nr l=false from decide_eq_false (fun h=>h.elim c0 c1)]
   rw[if_neg c1] at h1;by_cases c2:l.length<=32
   ·rw[if_pos c2,show aS [0,4]=4 from rfl] at h1
    simp (disch:=omega) only[go_sem,h125c,aF,e0,c0,h1,gF]
   ·rw[if_neg c2,show aS [8,4]=8 from rfl] at h1
    simp (disch:=omega) only[go_sem,h125c,aF,e0,c0,h1,gF]
theorem Q5(c:Int):EV G (Tb (bs bb)) 182 [vu c] []=some (vb (lX c),[]):=by
 refine aB rfl ?_;by_cases c1:c < 32
 ·rw[show lX c=false from decide_eq_false (fun h=>by omega)]
  simp (disch:=omega) only[go_sem,h182c,c1]
 ·by_cases c2:c > 126
  ·rw[show lX c=false from decide_eq_false (fun h=>by omega)]
   simp (disch:=omega) only[go_sem,h182c,c1,c2]
  ·have hr:(⟨#[34,42,47,58,60,62,63,92,124]⟩:ByteArray)=eG rT:=rfl;have hBr:aM rT:=B6 rT (by decide);simp (disch:=omega) only[go_sem,h182c,c1,c2,hr];rw[gA (fun k=>⟨(vu c::jk 2 (vi k::jk 14 [])),[]⟩) (fun k=>rT.getD k 0=c) 9 ?_ ?_]
   rotate_left
   ·rfl
   ·intro k hk hn;have h1:=hn k (aQf _);obtain⟨h2,h3⟩:=aAJ rT hBr k hk;rw[qK rT k hk] at h1;simp (disch:=omega) only[go_sem,h182l0,hr,h2,h3,h1,aQg]
   obtain⟨hk,hp,hn⟩:=bW (fun k=>rT.getD k 0=c) 9
   generalize ix (fun k=>rT.getD k 0=c) 9=k at *
   rcases hp with rfl | ⟨hk',hp⟩
   ·have hm:c∉rT:=by
     intro hm;obtain⟨j,hj,e⟩:=List.mem_iff_getElem.1 hm;exact hn j hj (by rw[qK rT j hj];exact e)
    rw[show lX c=true from decide_eq_true ⟨by omega,by omega,hm⟩]
    simp (disch:=omega) only[go_sem,h182l0,hr]
   ·have hm:c∈rT:=by
     rw[qK rT k hk'] at hp;rw[<- hp];exact aQm _
    obtain⟨h2,h3⟩:=aAJ rT hBr k hk';rw[qK rT k hk'] at hp;rw[hp] at h2 h3;rw[show lX c=false from decide_eq_false (fun h=>h.2.2 hm)]
    simp (disch:=omega) only[go_sem,h182l0,hr,h2,h3,aQg]
theorem aEV(l:List Int)(hB:aM l)(hl:l.length<=1000000):EV G (Tb (bs bb)) 137 [sv l] []=some (vi (if l.length > 32 then 8 else if oP l then 0 else 4),[]):=by
 refine aB rfl ?_;have e0:=cW hB iL;have e1:=cW hB (B6 [46,46] (by decide));have e2:=cW hB (B6 [46] (by decide));by_cases c0:l.length > 32
 ·rw[if_pos c0];simp (disch:=omega) only[go_sem,h137c,c0]
 ·rw[if_neg c0];by_cases c1:l=[]
  ·rw[if_neg (fun h:oP l=>h.1 c1)]
   simp (disch:=omega) only[go_sem,h137c,c0,aF,U4,pF,e0,c1]
  ·have hp:1<=l.length:=by have:=List.length_pos_iff.2 c1;omega
   have eg:l.getLast?=some l[l.length - 1]:=by rw[List.getLast?_eq_getElem?,aQi (by omega)]
   obtain⟨hx,hx2⟩:=aAJ l hB (l.length - 1) (by omega);by_cases c2:l=[46]
   ·rw[if_neg (fun h:oP l=>h.2.2.2.2.2 (by rw[c2];rfl))]
    replace c2:=eq_true c2;simp (disch:=omega) only[go_sem,h137c,c0,aF,U4,pF,e0,c1,e2,c2]
   ·by_cases c3:l=[46,46]
    ·rw[if_neg (fun h:oP l=>h.2.2.2.1 c3)]
     replace c3:=eq_true c3;simp (disch:=omega) only[go_sem,h137c,c0,aF,U4,pF,e0,c1,e2,c2,e1,c3]
    ·by_cases c4:l[l.length - 1]=32
     ·rw[if_neg (fun h:oP l=>h.2.2.2.2.1 (by rw[eg,c4]))]
      rw[c4] at hx hx2;simp (disch:=omega) only[go_sem,h137c,c0,aF,U4,pF,e0,c1,e2,c2,e1,c3,tX,hx,hx2,aQg]
     ·by_cases c5:l[l.length - 1]=46
      ·rw[if_neg (fun h:oP l=>h.2.2.2.2.2 (by rw[eg,c5]))]
       rw[c5] at hx hx2;simp (disch:=omega) only[go_sem,h137c,c0,aF,U4,pF,e0,c1,e2,c2,e1,c3,tX,hx,hx2,aQg]
      ·have hnm:oP l↔zE l=true:=by
        exact⟨fun h=>h.2.2.1,fun h=>⟨c1,by omega,h,c3,by rw[eg];simpa using c4,by rw[eg];simpa using c5⟩⟩
       simp (disch:=omega) only[go_sem,h137c,c0,aF,U4,pF,e0,c1,e2,c2,e1,c3,hx,hx2,aQg,c4,c5];rw[gA (fun k=>⟨(sv l::jk 2 (vi k::jk 40 [])),[]⟩) (fun k=>¬ lX (l.getD k 0)=true) l.length ?_ ?_]
       rotate_left
       ·rfl
       ·intro k hk hn;have h1:=hn k (aQf _);obtain⟨h2,h4⟩:=aAJ l hB k hk;rw[qK l k hk] at h1;have h3:=Q5 (G:=G) (bb:=bb) l[k];rw[Classical.not_not.1 h1] at h3;simp (disch:=omega) only[go_sem,h137l0,h2,h3,h4,aQg]
       obtain⟨hk,hq,hn⟩:=bW (fun k=>¬ lX (l.getD k 0)=true) l.length
       generalize ix (fun k=>¬ lX (l.getD k 0)=true) l.length=k at *
       rcases hq with rfl | ⟨hk',hq⟩
       ·have ha:zE l=true:=by
         unfold zE;rw[aRl];intro x hx;obtain⟨j,hj,rfl⟩:=List.mem_iff_getElem.1 hx;have:=hn j hj;rw[qK l j hj] at this;exact Classical.not_not.1 this
        rw[if_pos (hnm.2 ha)];simp (disch:=omega) only[go_sem,h137l0]
       ·have ha:¬ zE l=true:=by
         intro ha;rw[qK l k hk'] at hq;exact hq (aRl.1 ha _ (aQm hk'))
        obtain⟨h2,h4⟩:=aAJ l hB k hk';rw[qK l k hk'] at hq;have h3:=Q5 (G:=G) (bb:=bb) l[k];rw[(by simpa using hq:lX l[k]=false)] at h3;rw[if_neg (fun h=>ha (hnm.1 h))]
        simp (disch:=omega) only[go_sem,h137l0,h2,h3,h4,aQg]
theorem aAK(l:List Int)(hB:aM l)(hl:l.length<=1000000):EV G (Tb (bs bb)) 85 [sv l] []=some (vb (Nr l),[]):=by
 refine aB rfl ?_;have e0:=cW hB iL;have h1:=aEV (G:=G) (bb:=bb) l hB hl;by_cases c0:l=[]
 ·rw[show Nr l=true from decide_eq_true (.inl c0)]
  simp (disch:=omega) only[go_sem,h85c,aF,e0,c0]
 ·by_cases c1:oP l
  ·rw[show Nr l=true from decide_eq_true (.inr c1)]
   have c2:=c1.2.1;rw[if_pos c1,if_neg (by omega)] at h1;simp (disch:=omega) only[go_sem,h85c,aF,e0,c0,h1]
  ·rw[show Nr l=false from decide_eq_false (fun h=>h.elim c0 c1)]
   rw[if_neg c1] at h1;by_cases c2:l.length > 32
   ·rw[if_pos c2] at h1;simp (disch:=omega) only[go_sem,h85c,aF,e0,c0,h1];rfl
   ·rw[if_neg c2] at h1;simp (disch:=omega) only[go_sem,h85c,aF,e0,c0,h1];rfl
end
section
variable {G:aH} {bb:Bool}
def yC(b:Int):aR:=cI (.int .u8 b)
abbrev yb(l:List Int):aC:=.box (l.map yC)
theorem Q6(p:Nat->Bool)(l:List Int):(l.map yC).map (cF p)=l.map yC:=by rw[aQC];rfl
theorem aMz(m:Nat)(l:List Int):zA m (l.map yC)=l.map yC:=by rw[vL,Q6]
theorem aI3(l:List Int):idsL (l.map yC)=[]:=by
 induction l with
 | nil=>rfl
 | cons b l ih=>rw[aQo,idsL,ih];rfl
theorem aMA(J:List Nat)(l:List Int):vO J (l.map yC)=true:=by
 induction l with
 | nil=>rfl
 | cons b l ih=>rw[aQo,vO,ih];rfl
theorem aMB(ρ:Nat->Nat)(l:List Int):(l.map yC).map (jC ρ)=l.map yC:=by
 induction l with
 | nil=>rfl
 | cons b l ih=>rw[aQo,aQo,ih];rfl
theorem aEW(p:Nat->Bool)(l:List Int):keepL p (l.map yC)=true:=by
 induction l with
 | nil=>rfl
 | cons b l ih=>rw[aQo,keepL,ih];rfl
theorem aAL(l:List Int)(k:Nat)(b:Int)(h:k < l.length):cN (l.map yC) k [.dc (.raw (.int .u8 b))]=(l.set k b).map yC:=by
 unfold cN;apply aRB;intro i;simp only[aQH];by_cases h1:i < k
 ·rw[aQs,aQu (by simp;omega),aRI h1,aQx (by omega)]
 ·by_cases h2:i=k
  ·subst h2;rw[aQs,aQA (by simp;omega),aQF (by simpa using h)];simp[Nat.min_eq_left (Nat.le_of_lt h)];rfl
  ·rw[aQA (by simp;omega),aQx (by omega),aQJ];congr 1;simp;omega
attribute [go_sem] Q6 aMz aI3 aMA aMB aEW
theorem aI4{d:Option Nat}{st:AS}{id:Nat}{cs:List aR}:Yj d id st (some (.tup [],[.box cs]))=bif keepL (fun _=>true) cs then some (⟨aO st.sl d (.tup []),st.hp.set id (.box cs)⟩,[id],[id]) else none:=Eq.trans rfl rfl
attribute [go_sem] aI4
def aT(l:List Int)(a:Nat)(n:Int):Nat->List Int
 | 0=>l
 | k+1=>(aT l a n k).set (a+k) (B0 n k % 256)
theorem cR(l:List Int)(a:Nat)(n:Int)(k:Nat):(aT l a n k).length=l.length:=by
 induction k with
 | zero=>rfl
 | succ k ih=>simp[aT,ih]
theorem aMC(l:List Int)(a k:Nat)(n:Int)(h:a+k<=l.length)(hl:l.length<=1000000)(hn:-9223372036854775808<=n/\n<=9223372036854775807):
  EV G (Tb (bs bb)) 179 [.one (.bls 0 0 l.length 1),vi a,vi k,vi n] [yb l]=some (.tup [],[yb (aT l a n k)]):=by
 refine aB rfl ?_;simp (disch:=omega) only[go_sem,h179c];rw[bG (fun j=>⟨(.one (.bls 0 0 l.length 1)::vi a::jk 1 (vi (B0 n j)::jk 5 (vi k::vi j::jk 12 []))),[yb (aT l a n j)]⟩) k ?_ ?_]
 ·simp (disch:=omega) only[go_sem,h179l0]
 ·rfl
 ·intro j hj;have h1:=cR l a n j;have h2:=Nj n hn j;have h3:=aAL (aT l a n j) (a+j) (B0 n j % 256) (by omega);simp (disch:=omega) only[go_sem,h179l0,aQb,h1,wu8,Int.reduceToNat,Int.reducePow,Aa,B0,aT,h3]
theorem Q7(l:List Int)(a k:Nat)(n:Int)(N:Nat)(hN:l.length=N)(h:a+k<=N)(hl:N<=1000000)(hn:-9223372036854775808<=n/\n<=9223372036854775807):
  EV G (Tb (bs bb)) 179 [.one (.bls 0 0 N 1),vi a,vi k,vi n] [yb l]=some (.tup [],[yb (aT l a n k)]):=by
 subst hN;exact aMC l a k n h hl hn
theorem aGD(l:List Int)(n:Int)(N:Nat)(hN:l.length=N)(h:4<=N)(hl:N<=1000000)(hn:-9223372036854775808<=n/\n<=9223372036854775807):EV G (Tb (bs bb)) 179 [.one (.bls 0 0 N 1),vi 0,vi 4,vi n] [yb l]=some (.tup [],[yb (aT l 0 n 4)]):=Q7 l 0 4 n N hN h hl hn
theorem aGE(l:List Int)(a:Int)(n:Int)(N:Nat)(hN:l.length=N)(ha:0<=a)(h:a+4<=N)(hl:N<=1000000)(hn:-9223372036854775808<=n/\n<=9223372036854775807):EV G (Tb (bs bb)) 179 [.one (.bls 0 0 N 1),vi a,vi 4,vi n] [yb l]=some (.tup [],[yb (aT l a.toNat n 4)]):=by
 have:=Q7 (G:=G) (bb:=bb) l a.toNat 4 n N hN (by omega) hl hn;rwa[Int.toNat_of_nonneg ha] at this
theorem aGF(l:List Int)(a:Int)(n:Int)(N:Nat)(hN:l.length=N)(ha:0<=a)(h:a+2<=N)(hl:N<=1000000)(hn:-9223372036854775808<=n/\n<=9223372036854775807):EV G (Tb (bs bb)) 179 [.one (.bls 0 0 N 1),vi a,vi 2,vi n] [yb l]=some (.tup [],[yb (aT l a.toNat n 2)]):=by
 have:=Q7 (G:=G) (bb:=bb) l a.toNat 2 n N hN (by omega) hl hn;rwa[Int.toNat_of_nonneg ha] at this
theorem aGG(l:List Int)(a:Int)(n:Int)(N:Nat)(hN:l.length=N)(ha:0<=a)(h:a+1<=N)(hl:N<=1000000)(hn:-9223372036854775808<=n/\n<=9223372036854775807):EV G (Tb (bs bb)) 179 [.one (.bls 0 0 N 1),vi a,vi 1,vi n] [yb l]=some (.tup [],[yb (aT l a.toNat n 1)]):=by
 have:=Q7 (G:=G) (bb:=bb) l a.toNat 1 n N hN (by omega) hl hn;rwa[Int.toNat_of_nonneg ha] at this
def kH(b:List Int)(k:Nat)(s:List Int):List Int:=b.take k++s++b.drop (k+s.length)
theorem fK{b:List Int}{k:Nat}{s:List Int}(h:k+s.length<=b.length):(kH b k s).length=b.length:=by simp[kH];omega
theorem Kn(s:List Int)(hB:aM s):dS (s.map u8)=s.map yC:=by
 unfold dS;rw[aQC];exact aQz (fun b hb=>by simp only[Function.comp_apply,yC,jJ b (hB b hb)])
theorem uB(b s:List Int)(k n:Nat)(hB:aM s)(h:s.length<=n):cN (b.map yC) k (dS ((s.map u8).take n))=(kH b k s).map yC:=by
 rw[aQM (by simpa using h),Kn s hB];simp[cN,kH,aQL,aQY,List.map_drop]
def zl(n:Nat):List Int:=List.replicate n 0
theorem bD(n:Nat):(zl n).length=n:=aQk
theorem G0(n:Nat):List.replicate n (aR.dc (.raw (.int .u8 0)))=(zl n).map yC:=by rw[zl,List.map_replicate];rfl
theorem pG(l:List Int):jT (l.map yC)=some (l.map u8):=by
 induction l with
 | nil=>rfl
 | cons b l ih=>simp only[aQo,yC,cI,jT,u8] at ih ⊢;rw[ih];rfl
theorem vY(l:List Int)(n:Nat)(h:l.length<=n):(l.map yC).take n=l.map yC:=aQM (by simpa using h)
def qN(a:aE):Nat:=if a.res=true then 24 else 40
def pH(a:aE):List Int:=if a.res=true then a.va else (xI a.rs).1
def cM(a:aE):Nat:=(qN a+a.nm.length+7) / 8 * 8
def dX(a:aE):Nat:=(cM a+(pH a).length+7) / 8 * 8
def Ko(a:aE):List Int:=aT (aT (aT (aT (aT (aT (zl (dX a)) 0 a.ty 4) 4 (dX a) 4) 9 a.nm.length 1) 10 (qN a) 2) 12 a.fl 2) 14 a.id 2
def Kp(a:aE):List Int:=if a.res=true then aT (aT (Ko a) 16 (pH a).length 4) 20 (cM a) 4
 else aT (aT (aT (aT (aT (aT (aT (Ko a) 8 1 1) 16 a.fi 4) 20 (a.fi+gZ a.rs - 1) 4) 24 (cM a) 2) 28 a.al 4) 32 a.sz 4) 36 a.vd 4
def qO(a:aE):List Int:=kH (kH (Kp a) (qN a) a.nm) (cM a) (pH a)
structure aE.Bd (a:aE):Prop where
 nm:aM a.nm
 va:aM a.va
 nl:a.nm.length<=1000
 vl:a.va.length<=1000
 rl:a.rs.length<=1000
 ty:-1000000000000<=a.ty/\a.ty<=1000000000000
 id:-1000000000000<=a.id/\a.id<=1000000000000
 fl:-1000000000000<=a.fl/\a.fl<=1000000000000
 fi:-1000000000000<=a.fi/\a.fi<=1000000000000
 al:-1000000000000<=a.al/\a.al<=1000000000000
 sz:-1000000000000<=a.sz/\a.sz<=1000000000000
 vd:-1000000000000<=a.vd/\a.vd<=1000000000000
 lw:-1000000000000<=gZ a.rs/\gZ a.rs<=1000000000000
theorem E0(l:List bI):aM (xI l).1/\(xI l).1.length<=5 * 64+1:=by
 unfold xI;by_cases c:vQ [l]=0
 ·have hc:(mU l).2=0:=by rw[Ke] at c;exact c
  have hr:=Ab hc;have hlen:=mL hc;obtain⟨g1,g2,g3⟩:=sO l (fun r hr'=>(hr r hr').1) l.length (aQf _)
  rw[vX] at g1 g3;rw[if_neg (by simpa using c)];refine⟨fun b hb=>?_,by simp;omega⟩
  rcases List.mem_append.1 hb with hb | hb
  ·exact g3 b hb
  ·have:=List.mem_singleton.1 hb;omega
 ·rw[if_pos c];exact⟨iL,by simp⟩
end
end Go.Proofs.YtcplecjhmnblpaaGreatDoor
