/- An attribute is decoded, by the reference. Conditions: none. -/
import Derived.Test.YtcplecjhmnblpaaGreatDoorVq
import Derived.Test.YtcplecjhmnblpaaGreatDoorUy
namespace Go.Proofs.YtcplecjhmnblpaaGreatDoor
set_option linter.unusedSimpArgs false
set_option linter.unusedVariables false
set_option maxRecDepth 4000
section
variable {G:aH} {B:aW}
theorem aBf:EV G (Tb B) 46 [vi 7] []=some (vi 128,[]):=by
 refine aB rfl ?_;simp (disch:=first | omega | (simp only[aQc,aQd,aQe,aQb,aA];omega)) only[go_sem,h46c,Int.reduceMul,Int.reduceToNat,Int.reducePow]
theorem N7:EV G (Tb B) 46 [vi 8] []=some (vi 256,[]):=by
 refine aB rfl ?_;simp (disch:=first | omega | (simp only[aQc,aQd,aQe,aQb,aA];omega)) only[go_sem,h46c,Int.reduceMul,Int.reduceToNat,Int.reducePow]
theorem Rj:EV G (Tb B) 46 [vi 15] []=some (vi 32768,[]):=by
 refine aB rfl ?_;simp (disch:=first | omega | (simp only[aQc,aQd,aQe,aQb,aA];omega)) only[go_sem,h46c,Int.reduceMul,Int.reduceToNat,Int.reducePow]
theorem Rk:EV G (Tb B) 46 [vi 16] []=some (vi 65536,[]):=by
 refine aB rfl ?_;simp (disch:=first | omega | (simp only[aQc,aQd,aQe,aQb,aA];omega)) only[go_sem,h46c,Int.reduceMul,Int.reduceToNat,Int.reducePow]
theorem K8(l:List Int)(hB:aM l)(a:Nat)(ha:a+1<=l.length)(hl:l.length<=1000000):EV G (Tb B) 57 [sv l,vi a,vi 1] []=some (vi (l[a]'(by omega)),[]):=by
 refine aB rfl ?_;have hx:=hB _ (aQm (show a < l.length by omega));simp (disch:=first | omega | (simp only[aQc,aQd,aQe,aQb,aA];omega)) only[go_sem,h57c,Int.reduceSub]
 rw[bG (fun k=>⟨(sv l::vi a::jk 5 (vi (tb3 0 (l[a]'(by omega)) 0 k)::vi (tb3 0 (-1) (-1) k)::jk 16 [])),[]⟩) 1 ?_ ?_]
 ·simp (disch:=first | omega | (simp only[aQc,aQd,aQe,aQb,aA];omega)) only[go_sem,h57l0,wF]
 ·rfl
 ·intro k hk;have hk0:k=0:=by omega
  subst hk0;simp (disch:=first | omega | (simp only[aQc,aQd,aQe,aQb,aA];omega)) only[go_sem,h57l0,Ri,wF,Int.reduceMul,Int.reduceSub,aQw,Int.add_zero,Int.zero_add]
theorem K9(l:List Int)(hB:aM l)(a:Nat)(ha:a+2<=l.length)(hl:l.length<=1000000):EV G (Tb B) 57 [sv l,vi a,vi 2] []=some (vi ((l[a+1]'(by omega)) * 256+l[a]'(by omega)),[]):=by
 refine aB rfl ?_;have hx:=hB _ (aQm (show a < l.length by omega));have hy:=hB _ (aQm (show a+1 < l.length by omega));simp (disch:=first | omega | (simp only[aQc,aQd,aQe,aQb,aA];omega)) only[go_sem,h57c,Int.reduceSub]
 rw[bG (fun k=>⟨(sv l::vi a::jk 5 (vi (tb3 0 (l[a+1]'(by omega)) ((l[a+1]'(by omega)) * 256+l[a]'(by omega)) k)::vi (tb3 1 0 (-1) k)::jk 16 [])),[]⟩) 2 ?_ ?_]
 ·simp (disch:=first | omega | (simp only[aQc,aQd,aQe,aQb,aA];omega)) only[go_sem,h57l0,K4]
 ·rfl
 ·intro k hk;rcases (show k=0\/k=1 by omega) with rfl | rfl
  ·simp (disch:=first | omega | (simp only[aQc,aQd,aQe,aQb,aA];omega)) only[go_sem,h57l0,Ri,wF,Int.reduceMul,Int.reduceSub,aQw,Int.add_zero,Int.zero_add,Int.zero_mul]
  ·simp (disch:=first | omega | (simp only[aQc,aQd,aQe,aQb,aA];omega)) only[go_sem,h57l0,wF,K4,Int.reduceMul,Int.reduceSub,aQw,Int.add_zero,Int.zero_add]
theorem qF(l:List Int)(hB:aM l)(at' a:Nat)(ha:a=1\/a=2)(h:at'+a<=l.length)(hl:l.length<=1000000):
  EV G (Tb B) 197 [sv l,vi at',vi a] []=some (.tup [.one (.dc (ci (cP (l.drop at') a).1)),.one (bC (cP (l.drop at') a).2.1)],[]):=by
 refine aB rfl ?_;have hx:=hB _ (aQm (show at' < l.length by omega));rcases ha with rfl | rfl
 ·have s1:=K8 (G:=G) (B:=B) l hB at' h hl;rw[aQ1 (show at' < l.length by omega)];generalize l[at']=x at *;have hv:cP (x::List.drop (at'+1) l) 1=(mB [x],decide (sz (mB [x])=1),List.drop (at'+1) l):=by rw[cP,if_neg (by simp)];rfl
  rw[hv];simp only[mB];by_cases c:128<=x
  ·have s2:=mW (G:=G) (B:=B) (x - 256) (by omega);have z:=qJ (x - 256);have q:(((sz (x - 256)).toNat:Nat):Int)=sz (x - 256):=by omega
   simp (disch:=first | omega | (simp only[aQc,aQd,aQe,aQb,aA];omega)) only[go_sem,h197c,s1,s2,c,aBf,N7,Int.reduceMul,Int.reduceSub,Int.natCast_one,bC,aA,q]
  ·have s2:=mW (G:=G) (B:=B) x (by omega);have z:=qJ x;have q:(((sz x).toNat:Nat):Int)=sz x:=by omega
   simp (disch:=first | omega | (simp only[aQc,aQd,aQe,aQb,aA];omega)) only[go_sem,h197c,s1,s2,c,aBf,N7,Int.reduceMul,Int.reduceSub,Int.natCast_one,bC,aA,q]
 ·have s1:=K9 (G:=G) (B:=B) l hB at' h hl;have hy:=hB _ (aQm (show at'+1 < l.length by omega));rw[aQ1 (show at' < l.length by omega),aQ1 (show at'+1 < l.length by omega)];generalize l[at']=x at *;generalize l[at'+1]=y at *;have hv:cP (x::y::List.drop (at'+1+1) l) 2=(mB [x,y],decide (sz (mB [x,y])=2),List.drop (at'+1+1) l):=by rw[cP,if_neg (by simp)];rfl
  rw[hv];simp only[mB];rw[show ((2:Nat):Int)=2 from rfl]
  by_cases c:32768<=y * 256+x
  ·have s2:=mW (G:=G) (B:=B) (y * 256+x - 65536) (by omega);have z:=qJ (y * 256+x - 65536);have q:(((sz (y * 256+x - 65536)).toNat:Nat):Int)=sz (y * 256+x - 65536):=by omega
   simp (disch:=first | omega | (simp only[aQc,aQd,aQe,aQb,aA];omega)) only[go_sem,h197c,s1,s2,c,Rj,Rk,Int.reduceMul,Int.reduceSub,bC,aA,q]
  ·have s2:=mW (G:=G) (B:=B) (y * 256+x) (by omega);have z:=qJ (y * 256+x);have q:(((sz (y * 256+x)).toNat:Nat):Int)=sz (y * 256+x):=by omega
   simp (disch:=first | omega | (simp only[aQc,aQd,aQe,aQb,aA];omega)) only[go_sem,h197c,s1,s2,c,Rj,Rk,Int.reduceMul,Int.reduceSub,bC,aA,q]
theorem Vk(last h:Int)(t:List Int)(c:¬ ((1<=h % 16/\h % 16<=2)/\h / 16<=2)):(gU last h t).2.1=false:=by
 rw[gU,if_neg c]
theorem Cq{bs:List Int}{a:Nat}(h:bs.length < a):cP bs a=(0,false,bs):=if_pos h
theorem sU{bs:List Int}{a:Nat}(h:a<=bs.length):(cP bs a).2.2=bs.drop a:=by rw[cP,if_neg (by omega)]
theorem Hc(last h:Int)(t:List Int)(c:(cP t (h % 16).toNat).2.1=false):(gU last h t).2.1=false:=by
 rw[gU];split
 ·rw[if_pos (Or.inl c)];exact c
 ·rfl
theorem N8(last h:Int)(t:List Int)(c:(1<=h % 16/\h % 16<=2)/\(0<=h / 16/\h / 16<=2))(c2:(t.length:Int) < h % 16+h / 16):(gU last h t).2.1=false:=by
 by_cases c3:t.length < (h % 16).toNat
 ·exact Hc _ _ _ (by rw[Cq c3])
 ·by_cases c4:(cP t (h % 16).toNat).2.1=false
  ·exact Hc _ _ _ c4
  ·rw[gU,if_pos ⟨c.1,c.2.2⟩,if_neg (by
    rintro (h1 | h1)
    ·exact c4 h1
    ·omega)]
   rw[sU (by omega),Cq (bs:=t.drop (h % 16).toNat) (by rw[aQr];omega)];rfl
theorem Rl(last h:Int)(t:List Int)(c:1<=h % 16/\h % 16<=2)(c2:h / 16=0)(c3:(h % 16).toNat<=t.length):
  gU last h t=(⟨-1,(cP t (h % 16).toNat).1⟩,(cP t (h % 16).toNat).2.1,t.drop (h % 16).toNat):=by
 rw[gU,if_pos ⟨c,by omega⟩,if_pos (Or.inr c2),sU c3]
theorem aBg(last h:Int)(t:List Int)(c:(1<=h % 16/\h % 16<=2)/\(1<=h / 16/\h / 16<=2))(c3:(h % 16).toNat+(h / 16).toNat<=t.length)(c4:(cP t (h % 16).toNat).2.1=true):
  gU last h t=(⟨last+(cP (t.drop (h % 16).toNat) (h / 16).toNat).1,(cP t (h % 16).toNat).1⟩,(cP (t.drop (h % 16).toNat) (h / 16).toNat).2.1&&!decide (last+(cP (t.drop (h % 16).toNat) (h / 16).toNat).1=-1),t.drop ((h % 16).toNat+(h / 16).toNat)):=by
 rw[gU,if_pos ⟨c.1,c.2.2⟩,if_neg (by rw[c4];simp;omega),sU (by omega),sU (bs:=t.drop (h % 16).toNat) (by rw[aQr];omega),aRt]
theorem Cr(bs:List Int)(a:Nat):(cP bs a).2.2 <:+ bs:=by
 unfold cP;split
 ·exact List.suffix_refl _
 ·exact List.drop_suffix _ _
theorem aBh(last h:Int)(t:List Int):(gU last h t).2.2 <:+ t:=by
 unfold gU;split
 ·split
  ·exact Cr _ _
  ·exact (Cr _ _).trans (Cr _ _)
 ·exact List.suffix_refl _
theorem N9(s:List Int):∀ k,(dK s k).bs <:+ s
 | 0=>List.suffix_refl _
 | k+1=>by
  have ih:=N9 s k;simp only[dK];generalize dK s k=z at ih ⊢;obtain⟨bs,last,out⟩:=z;cases bs with
  | nil=>simp[fM]
  | cons h t=>
   simp only[fM];split
   ·exact ih
   ·split
    ·exact (aBh last h t).trans ((List.suffix_cons h t).trans ih)
    ·exact ih
theorem aFh{s bs:List Int}(h:bs <:+ s):s.drop (s.length - bs.length)=bs:=(List.suffix_iff_eq_drop.1 h).symm
theorem La{s t:List Int}{h:Int}(sfx:(h::t) <:+ s):∃ a,s.length=a+(t.length+1)/\s.length - (h::t).length=a/\s.drop (a+1)=t/\∃ ha:a < s.length,s[a]=h:=by
 have hl:=sfx.length_le;simp only[aQd] at hl;refine⟨s.length - (t.length+1),by omega,rfl, ?_,by omega, ?_⟩
 all_goals
  have hd:=aFh sfx;rw[aQd,aQ1 (by omega)] at hd
 ·exact (List.cons.inj hd).2
 ·exact (List.cons.inj hd).1
set_option maxHeartbeats 2000000 in
theorem D0(s:List Int)(hB:aM s)(c0:¬ (s.length:Int) > 400)(k:Nat)(hn:∀ j,j<=k->¬ fM (dK s j)=none):
  Ua [0,3,0,0] 1 (EC (EV G (Tb B)) G h162l0 ⟨(sv s::jk 3 (.one (.bld 0 (dK s k).out.length)::vi ((s.length - (dK s k).bs.length:Nat))::vi (dK s k).last::jk 106 [])),[.arr 0 2 ((dK s k).out.map bI.e)]⟩)=
  some ⟨(sv s::jk 3 (.one (.bld 0 (dK s (k+1)).out.length)::vi ((s.length - (dK s (k+1)).bs.length:Nat))::vi (dK s (k+1)).last::jk 106 [])),[.arr 0 2 ((dK s (k+1)).out.map bI.e)]⟩:=by
 obtain⟨g1,g2,g3,g4⟩:=K6 s hB k (fun j hj=>hn j (by omega))
 have e2:=hn k (aQf _);have sfx:=N9 s k;rw[show dK s (k+1)=(fM (dK s k)).getD (dK s k) from rfl]
 generalize dK s k=z at *;obtain⟨bs,last,out⟩:=z;simp only at e2 g1 g2 g3 g4 sfx ⊢;cases bs with
 | nil=>exact absurd rfl e2
 | cons h t=>
  obtain⟨hh,ht⟩:=iN g4;obtain⟨a,ha,hat,hd,hlt,he⟩:=La sfx;rw[hat];by_cases c:h=0
  ·simp[fM,c] at e2
  ·simp only[fM,if_neg c] at e2 ⊢;by_cases c1:(1<=h % 16/\h % 16<=2)/\h / 16<=2
   ·by_cases c3:(t.length:Int) < h % 16+h / 16
    ·rw[N8 last h t ⟨c1.1,by omega⟩ c3] at e2;simp at e2
    ·have s1:=qF (G:=G) (B:=B) s hB (a+1) (h % 16).toNat (by omega) (by omega) (by omega);rw[hd,show ((a+1:Nat):Int)=(a:Int)+1 by omega,show (((h % 16).toNat:Nat):Int)=h % 16 by omega] at s1;cases ok1:(cP t (h % 16).toNat).2.1 with
     | false=>rw[Hc last h t ok1] at e2;simp at e2
     | true=>
      rw[ok1] at s1;by_cases c4:h / 16=0
      ·rw[Rl last h t c1.1 c4 (by omega),ok1] at e2 ⊢;have hq:(((s.length - (t.drop (h % 16).toNat).length:Nat)):Int)=(a:Int)+1+h % 16:=by rw[aQr];omega
       generalize (cP t (h % 16).toNat).1=n1 at *;simp only[if_true,aQP];rw[hq];simp (disch:=first | omega | (simp only[aQc,aQd,aQe,aQb,aA];omega)) only[go_sem,h162l0,he,c,c1,c4,mM,lQ,bQ,s1,bC,aQw,vU,aQc,Int.add_zero]
      ·have s2:=qF (G:=G) (B:=B) s hB (a+1+(h % 16).toNat) (h / 16).toNat (by omega) (by omega) (by omega);rw[<- aRt,hd,show ((a+1+(h % 16).toNat:Nat):Int)=(a:Int)+1+h % 16 by omega,show (((h / 16).toNat:Nat):Int)=h / 16 by omega] at s2;rw[aBg last h t ⟨c1.1,by omega⟩ (by omega) ok1] at e2 ⊢;have hq:(((s.length - (t.drop ((h % 16).toNat+(h / 16).toNat)).length:Nat)):Int)=(a:Int)+1+h % 16+h / 16:=by rw[aQr];omega
       have k2:=wH (wG ht (fun x hx=>aQS hx):aM (t.drop (h % 16).toNat)) (h / 16).toNat
       generalize (cP t (h % 16).toNat).1=n1 at *;generalize (cP (t.drop (h % 16).toNat) (h / 16).toNat)=N2 at *;obtain⟨n2,ok2,t2⟩:=N2;simp only at e2 s2 k2 ⊢;cases ok2
       ·simp at e2
       ·by_cases c5:last+n2=-1
        ·simp[c5] at e2
        ·simp only[c5,decide_false,aRm,Bool.and_self,if_true,if_false,aQP];rw[hq];simp (disch:=first | omega | (simp only[aQc,aQd,aQe,aQb,aA];omega)) only[go_sem,h162l0,he,c,c1,c4,c5,mM,lQ,bQ,s1,s2,bC,aQw,vU,aQc]
   ·rw[Vk last h t c1] at e2;simp at e2
set_option maxHeartbeats 2000000 in
theorem E8(s:List Int)(hB:aM s):EV G (Tb B) 162 [sv s] []=some (.tup [.one (.dc (.slc ((lY s).1.map bI.e))),.one (.dc (ci (lY s).2))],[]):=by
 refine aB rfl ?_;unfold lY;by_cases c0:(s.length:Int) > 400
 ·rw[if_pos c0];simp (disch:=first | omega | (simp only[aQc,aQd,aQe,aQb,aA];omega)) only[go_sem,h162c,aQn]
 ·rw[if_neg c0];simp (disch:=first | omega | (simp only[aQc,aQd,aQe,aQb,aA];omega)) only[go_sem,h162c]
  rw[gA (fun k=>⟨(sv s::jk 3 (.one (.bld 0 (dK s k).out.length)::vi ((s.length - (dK s k).bs.length:Nat))::vi (dK s k).last::jk 106 [])),[.arr 0 2 ((dK s k).out.map bI.e)]⟩) (fun k=>fM (dK s k)=none) (s.length+1) ?_ ?_]
  ·obtain⟨e1,e2,e3⟩:=E7 s hB;obtain⟨g1,g2,g3,g4⟩:=K6 s hB _ e3;have sfx:=N9 s (uD s);rw[show ix (fun k=>fM (dK s k)=none) (s.length+1)=uD s from rfl]
   generalize dK s (uD s)=z at *;obtain⟨bs,last,out⟩:=z;simp only at e2 g1 g2 g3 g4 sfx ⊢;cases bs with
   | nil=>
    rw[show nS ⟨[],last,out⟩=([],3) from rfl]
    simp only[aQe,Nat.sub_zero];simp (disch:=first | omega | (simp only[aQc,aQd,aQe,aQb,aA];omega)) only[go_sem,h162l0,aQn]
   | cons h t=>
    obtain⟨hh,ht⟩:=iN g4;obtain⟨a,ha,hat,hd,hlt,he⟩:=La sfx;rw[hat];by_cases c:h=0
    ·subst c
     match t with
     | []=>
      simp only[aQe] at ha;by_cases c2:(mU out).2=0
      ·rw[show nS ⟨[0],last,out⟩=(out,0) by simp[nS,tE,c2]];simp (disch:=first | omega | (simp only[aQc,aQd,aQe,aQb,aA];omega)) only[go_sem,h162l0,he,aAy,c2,iE,aQw]
      ·rw[show nS ⟨[0],last,out⟩=([],(mU out).2) by simp[nS,tE,c2]];simp (disch:=first | omega | (simp only[aQc,aQd,aQe,aQb,aA];omega)) only[go_sem,h162l0,he,aAy,c2,iE,aQn,aQw]
     | x::t=>
      simp only[aQd] at ha;rw[show nS ⟨0::x::t,last,out⟩=([],3) by simp[nS,tE]];simp (disch:=first | omega | (simp only[aQc,aQd,aQe,aQb,aA];omega)) only[go_sem,h162l0,he,aQn,aQw]
    ·simp only[fM,if_neg c] at e2;rw[show nS ⟨h::t,last,out⟩=([],3) by simp[nS,tE,c]];have e2:(gU last h t).2.1=false:=by
      cases hr:(gU last h t).2.1 with
      | false=>rfl
      | true=>rw[hr] at e2;simp at e2
     by_cases c1:1<=h % 16/\h % 16<=2
     ·by_cases c2:h / 16<=2
      ·by_cases c3:(t.length:Int) < h % 16+h / 16
       ·simp (disch:=first | omega | (simp only[aQc,aQd,aQe,aQb,aA];omega)) only[go_sem,h162l0,he,c,c1,c2,mM,lQ,bQ,aQw,aQn]
       ·have s1:=qF (G:=G) (B:=B) s hB (a+1) (h % 16).toNat (by omega) (by omega) (by omega);rw[hd,show ((a+1:Nat):Int)=(a:Int)+1 by omega,show (((h % 16).toNat:Nat):Int)=h % 16 by omega] at s1;cases ok1:(cP t (h % 16).toNat).2.1 with
        | false=>
         rw[ok1] at s1;simp (disch:=first | omega | (simp only[aQc,aQd,aQe,aQb,aA];omega)) only[go_sem,h162l0,he,c,c1,c2,mM,lQ,bQ,s1,bC,aQw,aQn]
        | true=>
         rw[ok1] at s1;by_cases c4:h / 16=0
         ·rw[Rl last h t c1 c4 (by omega),ok1] at e2;cases e2
         ·have s2:=qF (G:=G) (B:=B) s hB (a+1+(h % 16).toNat) (h / 16).toNat (by omega) (by omega) (by omega);rw[<- aRt,hd,show ((a+1+(h % 16).toNat:Nat):Int)=(a:Int)+1+h % 16 by omega,show (((h / 16).toNat:Nat):Int)=h / 16 by omega] at s2;rw[aBg last h t ⟨c1,by omega⟩ (by omega) ok1] at e2;have k2:=wH (wG ht (fun x hx=>aQS hx):aM (t.drop (h % 16).toNat)) (h / 16).toNat
          generalize (cP t (h % 16).toNat).1=n1 at *;generalize (cP (t.drop (h % 16).toNat) (h / 16).toNat)=N2 at *;obtain⟨n2,ok2,t2⟩:=N2;simp only at e2 s2 k2;cases ok2
          ·simp (disch:=first | omega | (simp only[aQc,aQd,aQe,aQb,aA];omega)) only[go_sem,h162l0,he,c,c1,c2,c4,mM,lQ,bQ,s1,s2,bC,aQw,aQn]
          ·have c5:last+n2=-1:=by simpa using e2
           simp (disch:=first | omega | (simp only[aQc,aQd,aQe,aQb,aA];omega)) only[go_sem,h162l0,he,c,c1,c2,c4,c5,mM,lQ,bQ,s1,s2,bC,aQw,aQn]
      ·simp (disch:=first | omega | (simp only[aQc,aQd,aQe,aQb,aA];omega)) only[go_sem,h162l0,he,c,c1,c2,mM,lQ,bQ,aQw,aQn]
     ·simp (disch:=first | omega | (simp only[aQc,aQd,aQe,aQb,aA];omega)) only[go_sem,h162l0,he,c,c1,mM,lQ,bQ,aQw,aQn]
  ·rw[show s.length - (dK s 0).bs.length=0 from aQZ _];rfl
  ·intro k hk hn;exact D0 s hB c0 k hn
end
section
variable {G:aH} {bb:Bool}
theorem Rm{p:Nat->Prop}{n m:Nat}(hm:m < n)(h1:p m)(h2:∀ j,j < m->¬ p j):ix p n=m:=by
 obtain⟨g1,g2,g3⟩:=bW p n;rcases Nat.lt_trichotomy (ix p n) m with h | h | h
 ·rcases g2 with g2 | ⟨_,g2⟩
  ·omega
  ·exact absurd g2 (h2 _ h)
 ·exact h
 ·exact absurd h1 (g3 _ h)
theorem rW(n:Int):sz n=1\/sz n=2:=by unfold sz;split<;>simp
theorem aMR(n:Int)(h:-128<=n/\n<=127):mB (bU n 1)=n:=by
 show mB [n % 256]=n;simp only[mB];split<;>omega
theorem aMS(n:Int)(h:-32768<=n/\n<=32767):mB (bU n 2)=n:=by
 show mB [n % 256,n / 256 % 256]=n;simp only[mB];split<;>omega
theorem Hd(n:Int)(h:-32768<=n/\n<=32767)(rest:List Int):cP (bU n (sz n).toNat++rest) (sz n).toNat=(n,true,rest):=by
 unfold cP;rw[if_neg (by rw[aQc,aA];omega),aRo (aA _ _),List.drop_left' (aA _ _)];have e:mB (bU n (sz n).toNat)=n:=by
  unfold sz;split
  ·exact aMR n (by assumption)
  ·exact aMS n h
 rw[e];have:sz n=((sz n).toNat:Int):=by have:=rW n;omega
 rw[decide_eq_true this]
theorem Cs(t:List Int)(a:Nat)(h:t.length < a):(cP t a).2.1=false:=by
 unfold cP;rw[if_pos h]
def qP(last:Int)(r:bI):Int:=if r.s=-1 then sz r.n else 16 * sz (r.s - last)+sz r.n
def wI(last:Int)(r:bI):List Int:=if r.s=-1 then bU r.n (sz r.n).toNat else bU r.n (sz r.n).toNat++bU (r.s - last) (sz (r.s - last)).toNat
theorem qG(last:Int)(r:bI):lV last r=qP last r::wI last r:=by
 unfold lV qP wI;split<;>rfl
theorem He(last:Int)(r:bI):qP last r≠0:=by
 have h1:=rW r.n;have h2:=rW (r.s - last);unfold qP;split<;>omega
theorem Oa{r:bI}(h:bM r.s r.n=0):(1<=r.n/\r.n<=4096)/\(r.s=-1\/0<=r.s/\r.s<=511):=by
 rcases kD h with⟨h1,h2,h3⟩ | ⟨s,n,h1,h2,h3,h4⟩
 ·exact⟨by omega,by omega⟩
 ·exact⟨by omega,by omega⟩
theorem aBi{last:Int}{r:bI}(hr:bM r.s r.n=0)(hl:0<=last/\last<=511)(rest:List Int):gU last (qP last r) (wI last r++rest)=(r,true,rest):=by
 obtain⟨⟨a1,a2⟩,a3⟩:=Oa hr;have s1:=rW r.n;have s2:=rW (r.s - last);have n1:=Hd r.n (by omega);unfold qP wI;by_cases c:r.s=-1
 ·rw[if_pos c,if_pos c];have e1:sz r.n % 16=sz r.n:=by omega
  have e2:sz r.n / 16=0:=by omega
  unfold gU;rw[e1,e2,if_pos (by omega),if_pos (.inr rfl),n1 rest];simp only;cases r;simp only at c;rw[c]
 ·rw[if_neg c,if_neg c];have e1:(16 * sz (r.s - last)+sz r.n) % 16=sz r.n:=by omega
  have e2:(16 * sz (r.s - last)+sz r.n) / 16=sz (r.s - last):=by omega
  unfold gU;rw[e1,e2,if_pos (by omega),aQs,n1,if_neg (by simp;omega)];simp only;rw[Hd (r.s - last) (by omega) rest];simp only;rw[show last+(r.s - last)=r.s by omega,decide_eq_false c];cases r;rfl
theorem aBj{last:Int}{r:bI}(hr:bM r.s r.n=0)(hl:0<=last/\last<=511)(m:Nat)(hm:m < (wI last r).length):(gU last (qP last r) ((wI last r).take m)).2.1=false:=by
 obtain⟨⟨a1,a2⟩,a3⟩:=Oa hr;have s1:=rW r.n;have s2:=rW (r.s - last);have n1:=Hd r.n (by omega);unfold wI at hm ⊢;unfold qP;by_cases c:r.s=-1
 ·rw[if_pos c] at hm ⊢;rw[if_pos c];rw[aA] at hm;have e1:sz r.n % 16=sz r.n:=by omega
  have e2:sz r.n / 16=0:=by omega
  unfold gU;rw[e1,e2,if_pos (by omega),if_pos (.inr rfl)];exact Cs _ _ (by rw[aQj,aA];omega)
 ·rw[if_neg c] at hm ⊢;rw[if_neg c];rw[aQc,aA,aA] at hm;have e1:(16 * sz (r.s - last)+sz r.n) % 16=sz r.n:=by omega
  have e2:(16 * sz (r.s - last)+sz r.n) / 16=sz (r.s - last):=by omega
  unfold gU;rw[e1,e2,if_pos (by omega)];by_cases h:m < (sz r.n).toNat
  ·have h1:=Cs ((bU r.n (sz r.n).toNat++bU (r.s - last) (sz (r.s - last)).toNat).take m) (sz r.n).toNat (by rw[aQj];omega);rw[if_pos (.inl h1)];exact h1
  ·rw[List.take_append,aA,aQM (by rw[aA];omega),n1,if_neg (by simp;omega)];simp only;rw[Cs _ _ (by rw[aQj,aA];omega)];rfl
def Ah(last:Int)(r:bI):Int:=if r.s=-1 then last else r.s
theorem E9{last:Int}{r:bI}(hr:bM r.s r.n=0)(hl:0<=last/\last<=511)(rest:List Int)(out:List bI):fM ⟨lV last r++rest,last,out⟩=some ⟨rest,Ah last r,out++[r]⟩:=by
 rw[qG];unfold fM;simp only[aQy];rw[if_neg (He _ _),aBi hr hl];simp only[if_true];rfl
def dE(last:Int):List bI->List Int
 | []=>[]
 | r::l=>lV last r++dE (Ah last r) l
theorem Ct(l:List bI):(iJ l).1=dE 0 l:=by
 have key:∀ (l:List bI) (p:List Int) (last:Int),(l.foldl est (p,last)).1=p++dE last l:=by
  intro l
  induction l with
  | nil=>intro p last;simp[dE]
  | cons r l ih=>
   intro p last;have e:est (p,last) r=(p++lV last r,Ah last r):=rfl;rw[aRj,e,ih];simp only[dE,aQs]
 have:=key l [] 0;simpa[iJ] using this
def dM:Nat->DS->DS
 | 0,z=>z
 | k+1,z=>(fM (dM k z)).getD (dM k z)
theorem Ob(s:List Int):∀ k,dK s k=dM k ⟨s,0,[]⟩
 | 0=>rfl
 | k+1=>by rw[dK,dM,Ob s k]
theorem sV{z z':DS}(h:fM z=some z'):∀ k,dM (k+1) z=dM k z'
 | 0=>by show (fM z).getD z=z';rw[h];rfl
 | k+1=>by rw[dM,sV h k,dM]
theorem aBk{last:Int}{r:bI}(hr:bM r.s r.n=0)(hl:0<=last/\last<=511):0<=Ah last r/\Ah last r<=511:=by
 have:=(Oa hr).2;unfold Ah;split<;>omega
theorem aBl:∀ (l:List bI) (last:Int) (out:List bI) (rest:List Int),(∀ r∈l,bM r.s r.n=0)->0<=last/\last<=511->
  (∃ x,dM l.length ⟨dE last l++rest,last,out⟩=⟨rest,x,out++l⟩)/\∀ j,j < l.length->¬ fM (dM j ⟨dE last l++rest,last,out⟩)=none
 | [],last,out,rest,_,_=>⟨⟨last,by simp[dM,dE]⟩,fun j hj=>by simp at hj⟩
 | r::l,last,out,rest,h,hl=>by
  have hr:=h r aQt;have hs:=E9 hr hl (dE (Ah last r) l++rest) out;obtain⟨⟨x,h1⟩,h2⟩:=aBl l (Ah last r) (out++[r]) rest (fun q hq=>h q (aQE _ hq)) (aBk hr hl)
  have e:dE last (r::l)++rest=lV last r++(dE (Ah last r) l++rest):=by rw[dE,aQs]
  rw[e];refine⟨⟨x, ?_⟩,fun j hj=>?_⟩
  ·show dM (l.length+1) _=_;rw[sV hs,h1,aQs];rfl
  ·cases j with
   | zero=>
    intro g;have g':fM ⟨lV last r++(dE (Ah last r) l++rest),last,out⟩=none:=g;rw[hs] at g';cases g'
   | succ j=>rw[sV hs];exact h2 j (by simpa using hj)
theorem Lb{l:List bI}(h:(mU l).2=0):(dE 0 l).length<=320:=by
 rw[<- Ct];exact Cb h
theorem Hf{l:List bI}(h:(mU l).2=0):lY ((iJ l).1++[0])=(l,0):=by
 have hlen:=Lb h;obtain⟨⟨x,h1⟩,h2⟩:=aBl l 0 [] [0] (Bt h) (by omega);have hl:=mL h;have hll:l.length < (dE 0 l++[0]).length+1:=by
  have:∀ (l:List bI) (last:Int),l.length<=(dE last l).length:=by
   intro l
   induction l with
   | nil=>intro _;simp
   | cons r l ih=>intro last;have:=ih (Ah last r);simp only[dE,qG,aQc,aQd];omega
  have:=this l 0;simp only[aQc,aQd,aQe];omega
 rw[Ct];have hE:uD (dE 0 l++[0])=l.length:=by
  unfold uD;refine Rm hll ?_ (fun j hj=>?_)
  ·rw[Ob,h1];rfl
  ·rw[Ob];exact h2 j hj
 unfold lY;rw[if_neg (by simp only[aQc,aQd,aQe];omega),hE,Ob,h1];unfold nS;rw[if_neg (by simp[tE]),if_neg (by simp only[aQv];omega)];rfl
theorem Fa:∀ (l:List bI) (last:Int) (out:List bI) (m:Nat),(∀ r∈l,bM r.s r.n=0)->0<=last/\last<=511->m < (dE last l).length+1->
  ∃ k,k<=m/\fM (dM k ⟨(dE last l++[0]).take m,last,out⟩)=none/\(∀ j,j < k->¬ fM (dM j ⟨(dE last l++[0]).take m,last,out⟩)=none)/\tE (dM k ⟨(dE last l++[0]).take m,last,out⟩).bs≠0
 | [],last,out,m,_,_,hm=>by
  have:m=0:=by simp[dE] at hm;omega
  subst this;exact⟨0,aQf _,rfl,fun j hj=>by omega,by simp[dM,tE]⟩
 | r::l,last,out,m,h,hl,hm=>by
  have hr:=h r aQt;have e:dE last (r::l)++[0]=lV last r++(dE (Ah last r) l++[0]):=by rw[dE,aQs]
  rw[e];rw[dE,aQc] at hm;by_cases hc:(lV last r).length<=m
  ·have hpos:0 < (lV last r).length:=by rw[qG];simp
   have e2:(lV last r++(dE (Ah last r) l++[0])).take m=lV last r++(dE (Ah last r) l++[0]).take (m - (lV last r).length):=by
    rw[List.take_append,aQM hc]
   rw[e2];have hs:=E9 hr hl ((dE (Ah last r) l++[0]).take (m - (lV last r).length)) out;obtain⟨k,k0,k1,k2,k3⟩:=Fa l (Ah last r) (out++[r]) (m - (lV last r).length) (fun q hq=>h q (aQE _ hq)) (aBk hr hl) (by omega)
   refine⟨k+1,by omega,by rw[sV hs];exact k1,fun j hj=>?_,by rw[sV hs];exact k3⟩
   cases j with
   | zero=>
    intro g;have g':fM ⟨lV last r++(dE (Ah last r) l++[0]).take (m - (lV last r).length),last,out⟩=none:=g;rw[hs] at g';cases g'
   | succ j=>rw[sV hs];exact k2 j (by omega)
  ·have e2:(lV last r++(dE (Ah last r) l++[0])).take m=(lV last r).take m:=by
    rw[aRK (by omega)]
   rw[e2];cases m with
   | zero=>exact⟨0,aQf _,rfl,fun j hj=>by omega,by simp[dM,tE]⟩
   | succ m=>
    rw[qG] at hc ⊢;rw[aRx];have hf:=aBj hr hl m (by simp only[aQd] at hc;omega);refine⟨0,by omega, ?_,fun j hj=>by omega, ?_⟩
    ·show (if qP last r=0 then none else if (gU last (qP last r) ((wI last r).take m)).2.1=true then some _ else none)=none
     rw[if_neg (He _ _),hf,if_neg (by decide)]
    ·have e3:tE (qP last r::(wI last r).take m)=3:=by
      unfold tE;exact if_neg (fun g=>He _ _ g.1)
     show tE (qP last r::(wI last r).take m)≠0;rw[e3]
     decide
theorem aJk{l:List bI}(h:(mU l).2=0)(m:Nat)(hm:m < (iJ l).1.length+1):(lY (((iJ l).1++[0]).take m)).2≠0:=by
 have hlen:=Lb h;rw[Ct] at hm ⊢;obtain⟨k,k0,k1,k2,k3⟩:=Fa l 0 [] m (Bt h) (by omega) hm;have hE:uD ((dE 0 l++[0]).take m)=k:=by
  unfold uD;refine Rm (by rw[aQj,aQc];simp only[aQd,aQe];omega) ?_ (fun j hj=>?_)
  ·rw[Ob];exact k1
  ·rw[Ob];exact k2 j hj
 unfold lY;rw[if_neg (by rw[aQj];simp only[aQc,aQd,aQe];omega),hE,Ob];unfold nS;rw[if_pos k3]
 decide
end
section
variable {G:aH} {bb:Bool}
theorem sW(p L:List Int)(n:Int)(a:Nat)(h:p.length<=a):∀ k,aT (p++L) a n k=p++aT L (a - p.length) n k
 | 0=>rfl
 | k+1=>by
  rw[aT,sW p L n a h k,aT,List.set_append_right _ _ (by omega)];congr 2;omega
theorem xR(z X:List Int)(n:Int):∀ k,z.length=k->aT (z++X) 0 n k=bU n k++X:=by
 have key:∀ (k:Nat) (z X:List Int),z.length=k->aT (z++X) 0 n k=bU n k++X:=by
  intro k
  induction k with
  | zero=>
   intro z X h;have:z=[]:=List.length_eq_zero_iff.1 h;subst this;rfl
  | succ k ih=>
   intro z X h;obtain⟨z',x,rfl⟩:∃ z' x,z=z'++[x]:=by
    rcases List.eq_nil_or_concat z with rfl | ⟨z',x,e⟩
    ·simp at h
    ·exact⟨z',x,by rw[e,List.concat_eq_append]⟩
   have h':z'.length=k:=by simpa using h
   rw[aT,aQs,ih z' ([x]++X) h',aQQ,List.set_append_right _ _ (by rw[aA];omega),aA,aQZ,bU,aQs];rfl
 exact fun k h=>key k z X h
theorem Cu(p L s:List Int)(a:Nat)(h:p.length<=a):kH (p++L) a s=p++kH L (a - p.length) s:=by
 unfold kH;rw[List.take_append,aQM h,List.drop_append,List.drop_of_length_le (by omega),aQv,aQs,aQs];rw[show a+s.length - p.length=a - p.length+s.length by omega,aQs]
theorem aBm(z X s:List Int)(h:z.length=s.length):kH (z++X) 0 s=s++X:=by
 unfold kH;rw[aRq,aQv,aQQ,List.drop_left' h]
theorem Hg(z X s:List Int)(a:Nat)(ha:a=0)(h:z.length=s.length):kH (z++X) a s=s++X:=by subst ha;exact aBm z X s h
theorem Oc(a b:Nat):zl (a+b)=zl a++zl b:=by unfold zl;rw[List.replicate_append_replicate]
structure aE.Dc (a:aE):Prop where
 ty:0<=a.ty/\a.ty < 4294967296
 nm:aM a.nm
 nl:a.nm.length<=255
 id:0<=a.id/\a.id < 65536
 fl:0<=a.fl/\a.fl < 65536
 va:aM a.va
 vl:a.va.length<=1000
 t:a.res=true->a.rs=[]/\a.fi=0/\a.al=0/\a.sz=0/\a.vd=0
 f:a.res=false->a.va=[]/\(mU a.rs).2=0/\(0<=a.fi/\a.fi < 4294967296)/\(0<=a.al/\a.al < 4294967296)/\(0<=a.sz/\a.sz < 4294967296)/\(0<=a.vd/\a.vd < 4294967296)
theorem aE.Dc.bd{a:aE}(h:a.Dc):a.Bd:=by
 have h1:=h.ty;have h2:=h.nl;have h3:=h.id;have h4:=h.fl;have h5:=h.vl;cases hr:a.res with
 | true=>
  obtain⟨q1,q2,q3,q4,q5⟩:=h.t hr;have:gZ a.rs=0:=by rw[q1];rfl
  exact⟨h.nm,h.va,by omega,by omega,by rw[q1];simp,by omega,by omega,by omega,by omega,by omega,by omega,by omega,by omega⟩
 | false=>
  obtain⟨q1,q2,q3,q4,q5,q6⟩:=h.f hr;obtain⟨c1,c2,c3⟩:=B9 q2;exact⟨h.nm,h.va,by omega,by omega,by omega,by omega,by omega,by omega,by omega,by omega,by omega,by omega,by omega⟩
theorem aE.Ok.dc{a:aE}(h:a.Ok):a.Dc:=by
 have g1:=G3 h.ty;have g2:=Ac h.nm;obtain⟨g3,g4⟩:=h.rg;have h4:=h.e;unfold uC at h4;refine⟨by omega,h.w.nm,by omega,by omega,by omega,h.w.va, ?_,fun hr=>?_,fun hr=>?_⟩
 ·split at h4
  ·have:=G4 h4;omega
  ·have:=(Ca h4).2.1;rw[this];simp
 ·rw[if_pos hr] at h4;obtain⟨q1,q2,q3,q4,q5,_⟩:=G4 h4;exact⟨q1,q2,q3,q4,q5⟩
 ·rw[if_neg (by rw[hr];decide)] at h4;obtain⟨r1,r2,r3,r4,r5,r6,r7,r8,r9⟩:=Ca h4;exact⟨r2,r4,by omega,by omega,by omega,by omega⟩
theorem rY{a:aE}(h:a.Dc):Ks a=pH a:=by
 unfold Ks pH;cases hr:a.res with
 | true=>rfl
 | false=>
  rw[if_neg (by decide),if_neg (by decide)];obtain⟨_,q2,_⟩:=h.f hr;unfold xI;rw[if_neg (by rw[Ke];simpa using q2)]
theorem Rn(x:Int):bU (x % 4294967296) 4=bU x 4:=by
 simp only[bU,B0,aQv,aQy];congr 1
 ·omega
 ·congr 1
  ·omega
  ·congr 1
   ·omega
   ·congr 1;omega
theorem yQ(a:aE):cM a % 8=0/\qN a+a.nm.length<=cM a/\cM a+(pH a).length<=dX a/\dX a % 8=0/\dX a<=cM a+(pH a).length+7:=by
 unfold dX cM;omega
theorem aBn(X N u:Nat)(h:N=X+8+u)(h1:N % 8=0)(h2:u<=7):(X+7) / 8 * 8 - X=u:=by omega
set_option maxHeartbeats 1000000 in
theorem aMT{a:aE}(h:a.Dc)(hr:a.res=true):qO a=fW a:=by
 obtain⟨o1,o2,o3,o4,o5⟩:=yQ a;have hb:=rY h;have eh:qN a=24:=by simp[qN,hr]
 have ebd:pH a=a.va:=by simp[pH,hr]
 rw[eh] at o2;rw[ebd] at o3 o5;obtain⟨g,eg⟩:∃ g,cM a=24+(a.nm.length+g):=⟨cM a - 24 - a.nm.length,by omega⟩;obtain⟨u,eu⟩:∃ u,dX a=cM a+(a.va.length+u):=⟨dX a - cM a - a.va.length,by omega⟩;have eN:dX a=4+(4+(1+(1+(2+(2+(2+(4+(4+(a.nm.length+(g+(a.va.length+u))))))))))):=by omega
 have eZ:zl (dX a)=zl 4++(zl 4++(zl 1++(zl 1++(zl 2++(zl 2++(zl 2++(zl 4++(zl 4++(zl a.nm.length++(zl g++(zl a.va.length++zl u))))))))))):=by
  conv=>lhs;rw[eN]
  simp only[Oc]
 unfold qO Kp Ko;rw[if_pos hr,eZ,eh,ebd];simp (disch:=first | omega | (simp only[bD,aA]<;>omega) | fail) only[sW,xR,bD,aA,Nat.reduceSub,aQZ]
 simp (disch:=first | omega | (simp only[bD,aA]<;>omega) | fail) only[Cu,Hg,bD,aA,Nat.reduceSub,aQZ]
 unfold fW rV Dw tB rU;rw[if_pos hr,if_pos hr,eh,hb,ebd];simp only[aQs];simp only[aQc,aA,aQk];have e1:zl 1=bU 0 1:=rfl;have e2:cM a - 24 - a.nm.length=g:=by omega
 rw[e2];have e3:(1+(1+(2+(2+(2+(4+(4+(a.nm.length+(g+a.va.length))))))))+7) / 8 * 8 - (1+(1+(2+(2+(2+(4+(4+(a.nm.length+(g+a.va.length)))))))))=u:=by omega
 rw[e3];rfl
set_option maxHeartbeats 1000000 in
theorem aMU{a:aE}(h:a.Dc)(hr:a.res=false):qO a=fW a:=by
 obtain⟨o1,o2,o3,o4,o5⟩:=yQ a;have hr':¬ a.res=true:=by rw[hr];decide
 have hb:=rY h;have eh:qN a=40:=by simp[qN,hr]
 rw[eh] at o2;obtain⟨g,eg⟩:∃ g,cM a=40+(a.nm.length+g):=⟨cM a - 40 - a.nm.length,by omega⟩;obtain⟨u,eu⟩:∃ u,dX a=cM a+((pH a).length+u):=⟨dX a - cM a - (pH a).length,by omega⟩;have eN:dX a=4+(4+(1+(1+(2+(2+(2+(4+(4+(2+(2+(4+(4+(4+(a.nm.length+(g+((pH a).length+u)))))))))))))))):=by omega
 have eZ:zl (dX a)=zl 4++(zl 4++(zl 1++(zl 1++(zl 2++(zl 2++(zl 2++(zl 4++(zl 4++(zl 2++(zl 2++(zl 4++(zl 4++(zl 4++(zl a.nm.length++(zl g++(zl (pH a).length++zl u)))))))))))))))):=by
  conv=>lhs;rw[eN]
  simp only[Oc]
 unfold qO Kp Ko;rw[if_neg hr',eZ,eh];simp (disch:=first | omega | (simp only[bD,aA]<;>omega) | fail) only[sW,xR,bD,aA,Nat.reduceSub,aQZ]
 simp (disch:=first | omega | (simp only[bD,aA]<;>omega) | fail) only[Cu,Hg,bD,aA,Nat.reduceSub,aQZ]
 unfold fW rV Dw tB rU;rw[if_neg hr',if_neg hr',eh,hb,Rn];simp only[aQs];simp only[aQc,aA,aQk];have e1:zl 1=bU 0 1:=rfl;have e2:cM a - 40 - a.nm.length=g:=by omega
 rw[e2];have e3:(1+(1+(2+(2+(2+(4+(4+(2+(2+(4+(4+(4+(a.nm.length+(g+(pH a).length)))))))))))))+7) / 8 * 8 - (1+(1+(2+(2+(2+(4+(4+(2+(2+(4+(4+(4+(a.nm.length+(g+(pH a).length))))))))))))))=u:=aBn _ (dX a) u (by clear eZ eN e2;omega) o4 (by clear eZ eN e2;omega);rw[e3];rfl
theorem rZ{a:aE}(h:a.Dc):qO a=fW a:=by
 cases hr:a.res with
 | true=>exact aMT h hr
 | false=>exact aMU h hr
end
section
variable {G:aH} {bb:Bool}
def gv:List Int->Int
 | []=>0
 | b::t=>b+256 * gv t
def gL(l:List Int)(a k:Nat):Int:=gv ((l.drop a).take k)
theorem aJl(l:List Int)(a k:Nat)(h:a < l.length):gL l a (k+1)=l[a]+256 * gL l (a+1) k:=by
 unfold gL;rw[aQ1 h,aRx,gv]
theorem Ro:∀ (l:List Int) (m:Nat),aM l->l.length<=m->0<=gv l/\gv l < 256 ^ m
 | [],m,_,_=>by
  have:(0:Int) < 256 ^ m:=Int.pow_pos (by decide);simp only[gv];omega
 | b::t,0,_,h=>by simp at h
 | b::t,m+1,hB,h=>by
  obtain⟨hb,ht⟩:=iN hB;have ih:=Ro t m ht (by simpa using h);rw[gv,Int.pow_succ];omega
theorem Cv{l:List Int}(h:aM l)(a k:Nat):aM ((l.drop a).take k):=fun b hb=>h b (aQS (aQO hb))
theorem lE{l:List Int}(h:aM l)(a k:Nat)(hk:k<=4):0<=gL l a k/\gL l a k < 4294967296:=by
 have h1:=Ro ((l.drop a).take k) k (Cv h a k) (by rw[aQj];omega);unfold gL;rcases (show k=0\/k=1\/k=2\/k=3\/k=4 by omega) with rfl | rfl | rfl | rfl | rfl<;>simp only[Int.reducePow] at h1<;>omega
theorem uE{l:List Int}(h:aM l)(a:Nat):0<=gL l a 2/\gL l a 2 < 65536:=by
 have h1:=Ro ((l.drop a).take 2) 2 (Cv h a 2) (by rw[aQj];omega);unfold gL;simp only[Int.reducePow] at h1;omega
theorem Hh{l:List Int}(h:aM l)(a:Nat):0<=gL l a 1/\gL l a 1 < 256:=by
 have h1:=Ro ((l.drop a).take 1) 1 (Cv h a 1) (by rw[aQj];omega);unfold gL;simp only[Int.reducePow] at h1;omega
theorem orL(n b:Int)(hn:0<=n/\n<=4294967296)(hb:0<=b/\b<=255):Wd .i64 (n * 256) b=n * 256+b:=by
 obtain⟨n,rfl⟩:=aRs hn.1;obtain⟨b,rfl⟩:=aRs hb.1;have h1:((n:Int) * 256)=((n * 256:Nat):Int):=by simp
 have h2:n * 256 ||| b=n * 256+b:=by
  have:=Nat.shiftLeft_add_eq_or_of_lt (show b < 2 ^ 8 by omega) n;rw[Nat.shiftLeft_eq] at this;exact this.symm
 rw[Wd,h1,Gy,BitVec.ofInt_natCast,BitVec.ofInt_natCast,BitVec.toNat_or,BitVec.toNat_ofNat,BitVec.toNat_ofNat,aRg (by omega),aRg (by omega),h2,yE (by omega)];simp
theorem cK(l:List Int)(hB:aM l)(a k:Nat)(ha:a+k<=l.length)(hk:k<=4)(hl:l.length<=1000000):EV G (Tb (bs bb)) 57 [sv l,vi a,vi k] []=some (vi (gL l a k),[]):=by
 refine aB rfl ?_;simp (disch:=first | omega | (simp only[aQc,aQd,aQe,aQb,aA];omega)) only[go_sem,h57c]
 rw[bG (fun j=>⟨(sv l::vi a::jk 5 (vi (gL l (a+k - j) j)::vi ((k:Int) - 1 - j)::jk 16 [])),[]⟩) k ?_ ?_]
 ·have e:a+k - k=a:=by omega
  have e2:¬ 0<=(k:Int) - 1 - (k:Int):=by omega
  simp (disch:=first | omega | (simp only[aQc,aQd,aQe,aQb,aA];omega)) only[go_sem,h57l0,e,e2]
 ·simp[gL,gv,jk]
 ·intro j hj;have hx:=hB _ (aQm (show a+k - 1 - j < l.length by omega));have g1:=lE hB (a+k - j) j (by omega);have e1:gL l (a+k - (j+1)) (j+1)=gL l (a+k - j) j * 256+l[a+k - 1 - j]'(by omega):=by
   have:a+k - (j+1) < l.length:=by omega
   rw[aJl l _ j this,show a+k - (j+1)+1=a+k - j by omega,Int.mul_comm];rw[Int.add_comm];congr 1;congr 1;omega
  have e2:0<=(k:Int) - 1 - (j:Int):=by omega
  rw[e1];generalize gL l (a+k - j) j=z at g1 ⊢;have eN:((a:Int)+((k:Int) - 1 - (j:Int))).toNat=a+k - 1 - j:=by omega
  have hu:=jJ _ hx;simp (disch:=first | omega | (simp only[aQc,aQd,aQe,aQb,aA];omega)) only[go_sem,h57l0,eq_true e2,aQw,eN,hu]
  rw[show (k:Int) - 1 - (j:Int) - 1=(k:Int) - 1 - ((j:Int)+1) by omega]
theorem yR(l:List Int)(hB:aM l)(a k:Nat)(ha:a+k<=l.length)(hk:k<=4)(hl:l.length<=1000000):EV G (Tb (bs bb)) 187 [sv l,vi a,vi k] []=some (vi (gL l a k),[]):=by
 refine aB rfl ?_;simp (disch:=first | omega | (simp only[aQc,aQd,aQe,aQb,aA];omega)) only[go_sem,h187c]
 rw[bG (fun j=>⟨(sv l::vi a::jk 5 (vi (gL l (a+k - j) j)::vi ((k:Int) - 1 - j)::jk 16 [])),[]⟩) k ?_ ?_]
 ·have e:a+k - k=a:=by omega
  have e2:¬ 0<=(k:Int) - 1 - (k:Int):=by omega
  simp (disch:=first | omega | (simp only[aQc,aQd,aQe,aQb,aA];omega)) only[go_sem,h187l0,e,e2]
 ·simp[gL,gv,jk]
 ·intro j hj;have hx:=hB _ (aQm (show a+k - 1 - j < l.length by omega));have g1:=lE hB (a+k - j) j (by omega);have e1:gL l (a+k - (j+1)) (j+1)=gL l (a+k - j) j * 256+l[a+k - 1 - j]'(by omega):=by
   have:a+k - (j+1) < l.length:=by omega
   rw[aJl l _ j this,show a+k - (j+1)+1=a+k - j by omega,Int.mul_comm];rw[Int.add_comm];congr 1;congr 1;omega
  have e2:0<=(k:Int) - 1 - (j:Int):=by omega
  rw[e1];generalize gL l (a+k - j) j=z at g1 ⊢;have eN:((a:Int)+((k:Int) - 1 - (j:Int))).toNat=a+k - 1 - j:=by omega
  have hu:=jJ _ hx;have o:=orL z _ (by omega) hx;simp (disch:=first | omega | (simp only[aQc,aQd,aQe,aQb,aA];omega)) only[go_sem,h187l0,eq_true e2,aQw,eN,hu,Int.reduceToNat,Int.reducePow,o]
  rw[show (k:Int) - 1 - (j:Int) - 1=(k:Int) - 1 - ((j:Int)+1) by omega]
theorem gv1(n:Int)(h:0<=n/\n < 256):gv (bU n 1)=n:=by
 show n % 256+256 * 0=n;omega
theorem gv2(n:Int)(h:0<=n/\n < 65536):gv (bU n 2)=n:=by
 show n % 256+256 * (n / 256 % 256+256 * 0)=n;omega
theorem Wf(n:Int)(h:0<=n/\n < 4294967296):gv (bU n 4)=n:=by
 show n % 256+256 * (n / 256 % 256+256 * (n / 256 / 256 % 256+256 * (n / 256 / 256 / 256 % 256+256 * 0)))=n;omega
theorem gJ(p L:List Int)(a k:Nat)(h:p.length<=a):gL (p++L) a k=gL L (a - p.length) k:=by
 unfold gL;rw[List.drop_append,List.drop_of_length_le (by omega),aQv]
theorem Hi(z L:List Int)(k:Nat)(h:z.length=k):gL (z++L) 0 k=gv z:=by
 unfold gL;rw[aQ9,aRo h]
end
section
variable {G:aH} {bb:Bool}
set_option maxHeartbeats 4000000 in
theorem aJm(a:aE)(h:a.Dc)(hr:a.res=true):EV G (Tb (bs bb)) 38 [a.v] []=some (sv (fW a),[]):=by
 refine aB rfl ?_;obtain⟨b1,b2,b3,b4,b5,b6,b7,b8,b9,b10,b11,b12,b13⟩:=h.bd;have g1:=h.ty;have g2:=h.nl;have g3:=h.id;have g4:=h.fl;obtain⟨r1,r2,r3,r4,r5⟩:=h.t hr;have r6:=h.vl;have eh:qN a=24:=by simp[qN,hr]
 have hA:24+a.nm.length<=cM a/\cM a<=2000:=by simp only[cM,eh];omega
 have q1:=kS (G:=G) (bb:=bb) (24+a.nm.length) (by omega);have eA:(8:Int) * (((24+a.nm.length+7) / 8:Nat):Int)=((cM a:Nat):Int):=by simp only[cM,eh];omega
 rw[aQ0,show ((24:Nat):Int)=24 from rfl] at q1
 have hs:dX a<=4000/\8<=dX a/\dX a % 8=0:=by
  have:pH a=a.va:=by simp[pH,hr]
  simp only[dX,this];omega
 have hz:(rV a).length=dX a - 8:=by
  have h2:=qC a;rw[rV,rU,rY h];simp only[aQc,aQk];simp only[dX];have:cM a % 8=0:=by unfold cM;omega
  omega
 have q2:=kU (G:=G) (bb:=bb) (cM a - 24 - a.nm.length) (by omega);have e2:((cM a:Nat):Int) - 24 - (a.nm.length:Int)=((cM a - 24 - a.nm.length:Nat):Int):=by omega
 have f1:Dw a=tB a++bU a.va.length 4++bU (cM a) 4:=by rw[Dw,if_pos hr]
 have l1:(tB a).length=8:=by simp only[tB,aQc,aA]
 have f2:rV a=rU (tB a++bU a.va.length 4++bU (cM a) 4++a.nm++List.replicate (cM a - 24 - a.nm.length) 0++a.va):=by rw[rV,f1,eh,Ks,if_pos hr]
 have f0:tB a=bU 0 1++bU a.nm.length 1++bU 24 2++bU a.fl 2++bU a.id 2:=by rw[tB,if_pos hr,eh];rfl
 have q3:=wA (G:=G) (bb:=bb) (tB a++bU a.va.length 4++bU (cM a) 4++a.nm++List.replicate (cM a - 24 - a.nm.length) 0++a.va) (by simp only[aQc,aA,aQk];omega);rw[<- f2] at q3;have q4:=kS (G:=G) (bb:=bb) ((rV a).length+8) (by omega);rw[aQ0,show ((8:Nat):Int)=8 from rfl] at q4
 have e4:(8:Int) * ((((rV a).length+8+7) / 8:Nat):Int)=((dX a:Nat):Int):=by omega
 rw[f0] at q3;unfold fW;generalize rV a=R at *;generalize cM a=A at *;generalize dX a=N at *;simp (disch:=first | omega | (simp only[aQc,aQd,aQe,aQb,aA,aQk]<;>omega)) only[go_sem,h38c,hr,aF,Q8,q1,eA,Ad,kT,nW,q2,e2,q3,q4,e4,aQ6,aQk]
set_option maxHeartbeats 4000000 in
theorem aJn(a:aE)(h:a.Dc)(hr:a.res=false):EV G (Tb (bs bb)) 38 [a.v] []=some (sv (fW a),[]):=by
 refine aB rfl ?_;obtain⟨b1,b2,b3,b4,b5,b6,b7,b8,b9,b10,b11,b12,b13⟩:=h.bd;have hr':¬ a.res=true:=by rw[hr];decide
 have g1:=h.ty;have g2:=h.nl;have g3:=h.id;have g4:=h.fl;obtain⟨r2,r4,r3,r5,r6,r7⟩:=h.f hr;obtain⟨c1,c2,c3⟩:=B9 r4;have eh:qN a=40:=by simp[qN,hr]
 have eb:=rY h;have ef:Ks a=(iJ a.rs).1++[0]:=by rw[Ks,if_neg hr']
 have hl:=Cb r4;have hbl:(pH a).length=(iJ a.rs).1.length+1:=by rw[<- eb,ef];simp
 have hA:40+a.nm.length<=cM a/\cM a<=2000:=by simp only[cM,eh];omega
 have q1:=kS (G:=G) (bb:=bb) (40+a.nm.length) (by omega);have eA:(8:Int) * (((40+a.nm.length+7) / 8:Nat):Int)=((cM a:Nat):Int):=by simp only[cM,eh];omega
 rw[aQ0,show ((40:Nat):Int)=40 from rfl] at q1
 have hs:dX a<=4000/\8<=dX a/\dX a % 8=0:=by
  simp only[dX];omega
 have hz:(rV a).length=dX a - 8:=by
  have h2:=qC a;rw[rV,rU,rY h];simp only[aQc,aQk];simp only[dX];have:cM a % 8=0:=by unfold cM;omega
  omega
 have q2:=kU (G:=G) (bb:=bb) (cM a - 40 - a.nm.length) (by omega);have e2:((cM a:Nat):Int) - 40 - (a.nm.length:Int)=((cM a - 40 - a.nm.length:Nat):Int):=by omega
 have q5:=Ez (G:=G) (B:=bs bb) a.rs r4;have q6:=vV (G:=G) (B:=bs bb) a.rs (by omega);have q7:=Kh (G:=G) (B:=bs bb) (a.fi+gZ a.rs - 1) 4294967296 (by omega);have l1:(tB a).length=8:=by simp only[tB,aQc,aA]
 have f0:tB a=bU 1 1++bU a.nm.length 1++bU 40 2++bU a.fl 2++bU a.id 2:=by rw[tB,if_neg hr',eh];rfl
 have f1:Dw a=tB a++bU a.fi 4++bU ((a.fi+gZ a.rs - 1) % 4294967296) 4++bU (cM a) 2++[0,0]++bU a.al 4++bU a.sz 4++bU a.vd 4:=by rw[Dw,if_neg hr'];rfl
 have l2:=qC a;have f2:rV a=rU (Dw a++a.nm++List.replicate (cM a - 40 - a.nm.length) 0++((iJ a.rs).1++[0])):=by rw[rV,eh,ef]
 have q3:=wA (G:=G) (bb:=bb) (Dw a++a.nm++List.replicate (cM a - 40 - a.nm.length) 0++((iJ a.rs).1++[0])) (by simp only[aQc,aQk,List.length_singleton];omega);rw[<- f2] at q3;have q4:=kS (G:=G) (bb:=bb) ((rV a).length+8) (by omega);rw[aQ0,show ((8:Nat):Int)=8 from rfl] at q4
 have e4:(8:Int) * ((((rV a).length+8+7) / 8:Nat):Int)=((dX a:Nat):Int):=by omega
 rw[f1,f0] at q3;unfold fW;generalize rV a=R at *;generalize cM a=A at *;generalize dX a=N at *;have hm:0<=(a.fi+gZ a.rs - 1) % 4294967296/\(a.fi+gZ a.rs - 1) % 4294967296<=4294967296:=by omega
 simp (disch:=first | omega | (simp only[aQc,aQd,aQe,aQb,aA,aQk]<;>omega)) only[go_sem,h38c,hr,aF,Q8,q1,eA,Ad,kT,nW,Kt,q2,e2,q3,q4,e4,q5,q6,q7,aQ6,aQk]
theorem aBo(a:aE)(h:a.Dc):EV G (Tb (bs bb)) 38 [a.v] []=some (sv (fW a),[]):=by
 cases hr:a.res with
 | true=>exact aJm a h hr
 | false=>exact aJn a h hr
end
section
variable {G:aH} {bb:Bool}
def wV(s:List Int):Nat->Nat
 | 0=>0
 | k+1=>wV s k+1+(s.getD (wV s k) 0 % 16+s.getD (wV s k) 0 / 16).toNat
noncomputable def raE(s:List Int):Nat:=ix (fun k=>s.length<=wV s k\/s.getD (wV s k) 0=0) (s.length+1)
noncomputable def raV(s:List Int):List Int:=if wV s (raE s) < s.length then s.take (wV s (raE s)+1) else s
theorem Od(s:List Int):∀ k,k<=wV s k
 | 0=>aQf _
 | k+1=>by have:=Od s k;rw[wV];omega
theorem aBq(s:List Int):(s.length<=wV s (raE s)\/s.getD (wV s (raE s)) 0=0)/\∀ j,j < raE s->wV s j < s.length/\s.getD (wV s j) 0≠0:=by
 obtain⟨h1,h2,h3⟩:=bW (fun k=>s.length<=wV s k\/s.getD (wV s k) 0=0) (s.length+1)
 refine⟨?_,fun j hj=>?_⟩
 ·rcases h2 with h2 | h2
  ·have:=Od s (raE s);exact .inl (by unfold raE at *;omega)
  ·exact h2.2
 ·have:=h3 j hj;exact⟨by omega,fun h=>this (.inr h)⟩
theorem aBr(s:List Int)(hB:aM s)(hl:s.length<=1000000):EV G (Tb (bs bb)) 189 [sv s] []=some (sv (raV s),[]):=by
 refine aB rfl ?_;simp (disch:=first | omega | (simp only[aQc,aQd,aQe,aQb,aA];omega)) only[go_sem,h189c]
 obtain⟨sp1,sp2⟩:=aBq s;rw[bG (fun k=>⟨(sv s::jk 2 (vi (wV s k)::jk 24 [])),[]⟩) (raE s) ?_ ?_]
 rotate_left
 ·rfl
 ·intro k hk;obtain⟨h1,h2⟩:=sp2 k hk;have hx:=hB _ (aQm h1);rw[eY s _ h1] at h2;have e1:(wV s (k+1):Int)=wV s k+(1+s[wV s k] % 16+s[wV s k] / 16):=by
   rw[wV,eY s _ h1];omega
  have hu:=jJ _ hx;rw[e1];generalize hp:wV s k=p at *;have a1:=aGK (s[p]'h1) hx;simp (disch:=first | omega | (simp only[aQc,aQd,aQe,aQb,aA];omega)) only[go_sem,h189l0,aQw,hu,h2,a1,Int.reduceToNat,Int.reducePow,xQ]
 unfold raV;generalize wV s (raE s)=p at *;by_cases c:p < s.length
 ·rw[if_pos c];have h2:s.getD p 0=0:=sp1.elim (fun h=>absurd h (by omega)) id
  have hx:=hB _ (aQm c);rw[eY s _ c] at h2;have hu:=jJ _ hx;rw[h2] at hu;simp (disch:=first | omega | (simp only[aQc,aQd,aQe,aQb,aA];omega)) only[go_sem,h189l0,aQw,hu,h2]
 ·rw[if_neg c];have c':¬ (p:Int) < (s.length:Int):=by omega
  simp (disch:=first | omega | (simp only[aQc,aQd,aQe,aQb,aA];omega)) only[go_sem,h189l0,c']
theorem aBs{s:List Int}(h:aM s):aM (raV s):=by
 unfold raV;split
 ·exact fun b hb=>h b (aQO hb)
 ·exact h
def uF(s:List Int):Bool:=decide (s.getD 8 0=0)
def Fb(s:List Int):Nat:=if uF s=true then 24 else 40
def oQ(s:List Int):Nat:=(gL s 9 1).toNat
def dO(s:List Int):Nat:=(Fb s+oQ s+7) / 8 * 8
def Hj(s:List Int):List Int:=(s.take (Fb s+oQ s)).drop (Fb s)
def H4(s:List Int):Nat:=(gL s 16 4).toNat
def dT(s:List Int):aE:=⟨gL s 0 4,Hj s,gL s 14 2,gL s 12 2,true,(s.take (dO s+H4 s)).drop (dO s),0,[],0,0,0⟩
noncomputable def dF(s:List Int)(rs:List bI):aE:=⟨gL s 0 4,Hj s,gL s 14 2,gL s 12 2,false,[],gL s 16 4,rs,gL s 28 4,gL s 32 4,gL s 36 4⟩
noncomputable def oR(s:List Int):aE × Bool:=if s.length < 24 then (aE.nil,false) else if s.length < dO s then (aE.nil,false) else
 if uF s=true then (if s.length < dO s+H4 s then (aE.nil,false) else (dT s,true)) else (dF s (lY (raV (s.drop (dO s)))).1,decide ((lY (raV (s.drop (dO s)))).2=0))
set_option maxHeartbeats 4000000 in
theorem Vl(s:List Int)(hB:aM s)(hl:s.length<=1000):EV G (Tb (bs bb)) 153 [sv s] []=some (.tup [(oR s).1.t,.one (bC (oR s).2)],[]):=by
 refine aB rfl ?_;unfold oR;by_cases c0:s.length < 24
 ·rw[if_pos c0];have c0':(s.length:Int) < 24:=by omega
  simp only[aE.nil];simp (disch:=first | omega | (simp only[aQc,aQd,aQe,aQb,aA];omega)) only[go_sem,h153c,eq_true c0',aF,bC,aQn]
  rfl
 rw[if_neg c0];have c0':¬ (s.length:Int) < 24:=by omega
 have g0:EV G (Tb (bs bb)) 187 [sv s,vi 0,vi 4] []=some (vi (gL s 0 4),[]):=yR s hB 0 4 (by omega) (by omega) (by omega);have g14:EV G (Tb (bs bb)) 187 [sv s,vi 14,vi 2] []=some (vi (gL s 14 2),[]):=yR s hB 14 2 (by omega) (by omega) (by omega);have g12:EV G (Tb (bs bb)) 187 [sv s,vi 12,vi 2] []=some (vi (gL s 12 2),[]):=yR s hB 12 2 (by omega) (by omega) (by omega);have g9:EV G (Tb (bs bb)) 187 [sv s,vi 9,vi 1] []=some (vi (gL s 9 1),[]):=yR s hB 9 1 (by omega) (by omega) (by omega);have g16:EV G (Tb (bs bb)) 187 [sv s,vi 16,vi 4] []=some (vi (gL s 16 4),[]):=yR s hB 16 4 (by omega) (by omega) (by omega);have b9:=Hh hB 9;have b16:=lE hB 16 4 (by omega);have hx:=hB _ (aQm (show 8 < s.length by omega));have hu:=jJ _ hx;have e8:s.getD 8 0=s[8]:=eY s 8 (by omega);cases hr:uF s with
 | true=>
  have hr8:s[8]=0:=by unfold uF at hr;rw[e8] at hr;simpa using hr
  rw[hr8] at hu;have eh:Fb s=24:=by unfold Fb;rw[hr];rfl
  have e9:gL s 9 1=(oQ s:Int):=by unfold oQ;omega
  have e16:gL s 16 4=(H4 s:Int):=by unfold H4;omega
  have eA:dO s=(24+oQ s+7) / 8 * 8:=by unfold dO;rw[eh]
  have q1:=sP (G:=G) (bb:=bb) (24+(oQ s:Int)) (by omega);have eA':Q4 (24+(oQ s:Int))=(dO s:Int):=by unfold Q4;omega
  rw[eA'] at q1;rw[e9] at g9 b9;by_cases c1:s.length < dO s
  ·rw[if_pos c1];have c1':(s.length:Int) < (dO s:Int):=by omega
   simp only[aE.nil];simp (disch:=first | omega | (simp only[aQc,aQd,aQe,aQb,aA];omega)) only[go_sem,h153c,c0',aF,bC,aQn,Int.reduceToNat,g0,g14,g12,g9,aQw,hu,hr8,uA,q1,eq_true c1']
   rfl
  ·rw[if_neg c1];have c1':¬ (s.length:Int) < (dO s:Int):=by omega
   rw[e16] at g16 b16;by_cases c2:s.length < dO s+H4 s
   ·rw[if_pos c2];have c2':(s.length:Int) - (dO s:Int) < (H4 s:Int):=by omega
    simp only[aE.nil];simp (disch:=first | omega | (simp only[aQc,aQd,aQe,aQb,aA];omega)) only[go_sem,h153c,c0',aF,bC,aQn,Int.reduceToNat,g0,g14,g12,g9,aQw,hu,hr8,uA,q1,c1',g16,eq_true c2']
    rfl
   ·rw[if_neg c2];have c2':¬ (s.length:Int) - (dO s:Int) < (H4 s:Int):=by omega
    simp (disch:=first | omega | (simp only[aQc,aQd,aQe,aQb,aA];omega)) only[go_sem,h153c,c0',aF,bC,aQn,Int.reduceToNat,g0,g14,g12,g9,aQw,hu,hr8,uA,q1,c1',g16,c2']
    have eT:(24+(oQ s:Int)).toNat=24+oQ s:=by omega
    rw[eT];unfold dT Hj;rw[eh];rfl
 | false=>
  have hr8:¬ s[8]=0:=by unfold uF at hr;rw[e8] at hr;simpa using hr
  have eh:Fb s=40:=by unfold Fb;rw[hr];rfl
  have e9:gL s 9 1=(oQ s:Int):=by unfold oQ;omega
  have eA:dO s=(40+oQ s+7) / 8 * 8:=by unfold dO;rw[eh]
  have q1:=sP (G:=G) (bb:=bb) (40+(oQ s:Int)) (by omega);have eA':Q4 (40+(oQ s:Int))=(dO s:Int):=by unfold Q4;omega
  rw[eA'] at q1;rw[e9] at g9 b9;by_cases c1:s.length < dO s
  ·rw[if_pos c1];have c1':(s.length:Int) < (dO s:Int):=by omega
   simp only[aE.nil];simp (disch:=first | omega | (simp only[aQc,aQd,aQe,aQb,aA];omega)) only[go_sem,h153c,c0',aF,bC,aQn,Int.reduceToNat,g0,g14,g12,g9,aQw,hu,hr8,uA,q1,eq_true c1']
   rfl
  ·rw[if_neg c1];have c1':¬ (s.length:Int) < (dO s:Int):=by omega
   have g28:EV G (Tb (bs bb)) 187 [sv s,vi 28,vi 4] []=some (vi (gL s 28 4),[]):=yR s hB 28 4 (by omega) (by omega) (by omega);have g32:EV G (Tb (bs bb)) 187 [sv s,vi 32,vi 4] []=some (vi (gL s 32 4),[]):=yR s hB 32 4 (by omega) (by omega) (by omega);have g36:EV G (Tb (bs bb)) 187 [sv s,vi 36,vi 4] []=some (vi (gL s 36 4),[]):=yR s hB 36 4 (by omega) (by omega) (by omega);have hd:aM (s.drop (dO s)):=fun b hb=>hB b (aQS hb)
   have q2:=aBr (G:=G) (bb:=bb) (s.drop (dO s)) hd (by rw[aQr];omega);have q3:=aBe (G:=G) (B:=bs bb) (raV (s.drop (dO s))) (aBs hd);simp (disch:=first | omega | (simp only[aQc,aQd,aQe,aQb,aA];omega)) only[go_sem,h153c,c0',aF,bC,aQn,Int.reduceToNat,g0,g14,g12,g9,aQw,hu,hr8,uA,q1,c1',g16,g28,g32,g36,q2,q3]
   have eT:(40+(oQ s:Int)).toNat=40+oQ s:=by omega
   rw[eT];unfold dF Hj;rw[eh]
theorem Cw{s:List Int}(h:(lY s).2=0):(mU (lY s).1).2=0:=by
 unfold lY at h ⊢;split at h
 ·exact absurd h (by decide)
 ·rename_i c;rw[if_neg c];unfold nS at h ⊢;split at h
  ·exact absurd h (by decide)
  ·rename_i c1;rw[if_neg c1];split at h
   ·rename_i c2;exact absurd h c2
   ·rename_i c2;rw[if_neg c2];exact Classical.not_not.1 c2
theorem Hk{s:List Int}(hB:aM s)(hl:s.length<=1000)(h:(oR s).2=true):(oR s).1.Dc:=by
 unfold oR at h ⊢;split at h
 ·cases h
 rename_i c0;rw[if_neg c0];split at h
 ·cases h
 rename_i c1;rw[if_neg c1];have b9:=Hh hB 9;have b0:=lE hB 0 4 (by omega);have b14:=uE hB 14;have b12:=uE hB 12;have hnm:aM (Hj s):=fun b hb=>hB b (aQO (aQS hb))
 have hnl:(Hj s).length<=255:=by
  unfold Hj;rw[aQr,aQj];unfold oQ;omega
 split at h
 ·rename_i hr;rw[if_pos hr];split at h
  ·cases h
  ·rename_i c2;rw[if_neg c2];exact⟨b0,hnm,hnl,b14,b12,fun b hb=>hB b (aQO (aQS hb)),by
    show ((s.take (dO s+H4 s)).drop (dO s)).length<=1000;rw[aQr,aQj];omega,fun _=>⟨rfl,rfl,rfl,rfl,rfl⟩,fun g=>(by cases g)⟩
 ·rename_i hr;rw[if_neg hr];have hd:=Cw (by simpa using h);exact⟨b0,hnm,hnl,b14,b12,iL,aQD _,fun g=>(by cases g),fun _=>⟨rfl,hd,lE hB 16 4 (by omega),lE hB 28 4 (by omega),lE hB 32 4 (by omega),lE hB 36 4 (by omega)⟩⟩
theorem bK{a b:List Int}(ha:aM a)(hb:aM b):aM (a++b):=fun x hx=>(List.mem_append.1 hx).elim (ha x) (hb x)
theorem Cx(n:Nat):aM (List.replicate n 0):=fun x hx=>by rw[List.eq_of_mem_replicate hx];omega
theorem Fc:∀ (l:List bI) (last:Int),aM (dE last l)
 | [],_=>iL
 | r::l,last=>by
  have s1:=rW r.n;have s2:=rW (r.s - last);rw[dE,qG];refine bK (fun x hx=>?_) (Fc l _)
  rcases List.mem_cons.1 hx with rfl | hx
  ·unfold qP;split<;>omega
  ·unfold wI at hx;split at hx
   ·exact cV _ _ x hx
   ·exact bK (cV _ _) (cV _ _) x hx
theorem wJ{a:aE}(h:a.Dc):aM (fW a):=by
 have hb:aM (Ks a):=by
  unfold Ks;split
  ·exact h.va
  ·exact bK (by rw[Ct];exact Fc _ _) (B6 _ (by decide))
 have h1:aM (tB a):=by unfold tB;exact bK (bK (bK (bK (cV _ _) (cV _ _)) (cV _ _)) (cV _ _)) (cV _ _)
 have h2:aM (Dw a):=by
  unfold Dw;split
  ·exact bK (bK h1 (cV _ _)) (cV _ _)
  ·exact bK (bK (bK (bK (bK (bK (bK h1 (cV _ _)) (cV _ _)) (cV _ _)) (Cx _)) (cV _ _)) (cV _ _)) (cV _ _)
 unfold fW rV rU;exact bK (bK (cV _ _) (cV _ _)) (bK (bK (bK (bK h2 h.nm) (Cx _)) hb) (Cx _))
theorem aE.Dc.w{a:aE}(h:a.Dc):a.W:=by
 have h1:=h.nl;have h2:=h.vl;refine⟨h.nm,h.va,by omega,by omega, ?_⟩;cases hr:a.res with
 | true=>rw[(h.t hr).1];simp
 | false=>have:=mL (h.f hr).2.1;omega
noncomputable def bH(s:List Int):aE × Int:=if s.length > 440 then (aE.nil,8) else
 if (oR s).2=false\/qO (oR s).1≠s then (aE.nil,3) else if hZ (oR s).1≠0 then (aE.nil,hZ (oR s).1) else ((oR s).1,0)
set_option maxHeartbeats 4000000 in
theorem Vm(s:List Int)(hB:aM s)(hl:s.length<=1000):EV G (Tb (bs bb)) 101 [sv s] []=some (rtv (bH s),[]):=by
 refine aB rfl ?_;unfold bH;by_cases c0:s.length > 440
 ·rw[if_pos c0];have c0':440 < (s.length:Int):=by omega
  simp only[aE.nil];simp (disch:=first | omega | (simp only[aQc,aQd,aQe,aQb,aA];omega)) only[go_sem,h101c,eq_true c0',aF,aQn]
  rfl
 rw[if_neg c0];have c0':¬ 440 < (s.length:Int):=by omega
 have q:=Vl (G:=G) (bb:=bb) s hB hl;have hdc:=Hk hB hl;generalize oR s=d at q hdc ⊢;obtain⟨a,b⟩:=d;cases b with
 | false=>
  rw[if_pos (.inl rfl)];simp only[aE.nil];simp (disch:=first | omega | (simp only[aQc,aQd,aQe,aQb,aA];omega)) only[go_sem,h101c,c0',aF,aQn,q,bC]
  rfl
 | true=>
  have h:=hdc rfl;simp only at h;have q1:=xK (G:=G) (bb:=bb) a h.bd;have q2:=vZ (G:=G) (bb:=bb) a h.w;have eS:=cW (a:=qO a) (b:=s) (by rw[rZ h];exact wJ h) hB;by_cases c1:qO a=s
  ·rw[if_neg (fun g=>g.elim (fun g=>by cases g) (fun g=>g c1))]
   rw[eq_true c1] at eS;by_cases c2:hZ a=0
   ·rw[if_neg (fun g=>g c2)]
    simp (disch:=first | omega | (simp only[aQc,aQd,aQe,aQb,aA];omega)) only[go_sem,h101c,c0',aF,q,bC,q1,eS,q2,c2]
   ·rw[if_pos c2];simp only[aE.nil];simp (disch:=first | omega | (simp only[aQc,aQd,aQe,aQb,aA];omega)) only[go_sem,h101c,c0',aF,aQn,q,bC,q1,eS,q2,c2]
    rfl
  ·rw[if_pos (.inr c1)];rw[eq_false c1] at eS;simp only[aE.nil];simp (disch:=first | omega | (simp only[aQc,aQd,aQe,aQb,aA];omega)) only[go_sem,h101c,c0',aF,aQn,q,bC,q1,eS]
   rfl
end
section
variable {G:aH} {bb:Bool}
noncomputable def uG(s:List Int):Nat:=ix (fun j=>(lY ((s.take (dO s+j)).drop (dO s))).2=0) (s.length - dO s+1)
noncomputable def Wg(s:List Int):List bI:=(lY ((s.take (dO s+uG s)).drop (dO s))).1
def Lc(a:aE)(s:List Int):aE × Int:=if fW a≠s then (aE.nil,3) else if hZ a≠0 then (aE.nil,hZ a) else (a,0)
def Vn(s:List Int):Prop:=s.length < 24\/1 < s.getD 8 0\/(s.getD 8 0=1/\s.length < 40)
open Classical in
noncomputable def Cy(s:List Int):aE × Int:=if s.length > 440 then (aE.nil,8) else if Vn s then (aE.nil,3) else
 if s.length < Fb s+oQ s then (aE.nil,3) else if s.length < dO s then (aE.nil,3) else
 if uF s=true then (if s.length < dO s+H4 s then (aE.nil,3) else Lc (dT s) s) else if uG s=s.length - dO s+1 then (aE.nil,3) else Lc (dF s (Wg s)) s
def Rp(s:List Int)(x:aR):List aR:=[.dc (ci (gL s 0 4)),.dc (.raw (.string (eG (Hj s)))),.dc (ci (gL s 14 2)),.dc (ci (gL s 12 2)),.dc (.raw (.bool false)),.dc (.raw (.string (eG []))),.dc (ci (gL s 16 4)),x,.dc (ci (gL s 28 4)),.dc (ci (gL s 32 4)),.dc (ci (gL s 36 4))]
theorem Hl{s:List Int}(hB:aM s):aM (Hj s)/\(Hj s).length<=255:=by
 have b9:=Hh hB 9;refine⟨fun b hb=>hB b (aQO (aQS hb)), ?_⟩
 unfold Hj;rw[aQr,aQj];unfold oQ;omega
theorem aGM{s:List Int}(hB:aM s)(hl:s.length<=1000):(dT s).Dc:=
 ⟨lE hB 0 4 (by omega),(Hl hB).1,(Hl hB).2,uE hB 14,uE hB 12,fun b hb=>hB b (aQO (aQS hb)),by
  show ((s.take (dO s+H4 s)).drop (dO s)).length<=1000;rw[aQr,aQj];omega,fun _=>⟨rfl,rfl,rfl,rfl,rfl⟩,fun g=>(by cases g)⟩
theorem aGN{s:List Int}(hB:aM s){rs:List bI}(h:(mU rs).2=0):(dF s rs).Dc:=
 ⟨lE hB 0 4 (by omega),(Hl hB).1,(Hl hB).2,uE hB 14,uE hB 12,iL,aQD _,fun g=>(by cases g),fun _=>⟨rfl,h,lE hB 16 4 (by omega),lE hB 28 4 (by omega),lE hB 32 4 (by omega),lE hB 36 4 (by omega)⟩⟩
theorem Ld{s:List Int}(hB:aM s)(k:Nat):aM ((s.take (dO s+k)).drop (dO s)):=fun b hb=>hB b (aQO (aQS hb))
theorem Rq{s:List Int}(hB:aM s)(hl:s.length<=1000)(k:Nat)(hk:k < s.length - dO s+1)(d2:¬ s.length < dO s)(hn:¬ (lY ((s.take (dO s+k)).drop (dO s))).2=0):
  Ua [0,1,1,0,1,1,0] 2 (EC (EV G (Tb (bs bb))) G h108l0 ⟨(sv s::jk 1 (.one (.ptr 0 0)::jk 1 (vi 3::.one (.ptr 1 0)::jk 1 (vi (dO s)::jk 1 (vb false::vi ((dO s:Int)+k)::jk 143 []))))),[.box G6,.box (Rp s (cI (.slice none 0 0)))]⟩)=some ⟨(sv s::jk 1 (.one (.ptr 0 0)::jk 1 (vi 3::.one (.ptr 1 0)::jk 1 (vi (dO s)::jk 1 (vb false::vi ((dO s:Int)+(k+1:Nat))::jk 143 []))))),[.box G6,.box (Rp s (cI (.slice none 0 0)))]⟩:=by
 have q:=E8 (G:=G) (B:=bs bb) _ (Ld hB k);generalize lY ((s.take (dO s+k)).drop (dO s))=r at q hn;obtain⟨rs,e⟩:=r;simp only at hn q;have c:(dO s:Int)+(k:Int)<=(s.length:Int):=by omega
 unfold Rp;simp (disch:=first | omega | (simp only[aQc,aQd,aQe,aQb,aA];omega)) only[go_sem,h108l0,eq_true c,q,hn]
theorem aMV{s:List Int}(hB:aM s)(hl:s.length<=1000)(d2:¬ s.length < dO s)(jn:uG s=s.length - dO s+1){st:AS}(h0:st=⟨(sv s::jk 1 (.one (.ptr 0 0)::jk 1 (vi 3::.one (.ptr 1 0)::jk 1 (vi (dO s)::jk 1 (vb false::vi ((dO s:Int)+(0:Nat))::jk 143 []))))),[.box G6,.box (Rp s (cI (.slice none 0 0)))]⟩):
  EL (EV G (Tb (bs bb))) G h108l0 [0,1,1,0,1,1,0] 2 st=Y4 (EV G (Tb (bs bb))) G h108l0 [0,1,1,0,1,1,0] 2 (EC (EV G (Tb (bs bb))) G h108l0 ⟨(sv s::jk 1 (.one (.ptr 0 0)::jk 1 (vi 3::.one (.ptr 1 0)::jk 1 (vi (dO s)::jk 1 (vb false::vi ((dO s:Int)+((s.length - dO s+1:Nat):Int))::jk 143 []))))),[.box G6,.box (Rp s (cI (.slice none 0 0)))]⟩):=by
 obtain⟨j1,j2,j3⟩:=bW (fun j=>(lY ((s.take (dO s+j)).drop (dO s))).2=0) (s.length - dO s+1)
 exact bG (fun k=>⟨(sv s::jk 1 (.one (.ptr 0 0)::jk 1 (vi 3::.one (.ptr 1 0)::jk 1 (vi (dO s)::jk 1 (vb false::vi ((dO s:Int)+(k:Int))::jk 143 []))))),[.box G6,.box (Rp s (cI (.slice none 0 0)))]⟩) (s.length - dO s+1) h0 (fun k hk=>Rq hB hl k hk d2 (j3 k (by unfold uG at jn;omega)))
theorem aMW{s:List Int}(hB:aM s)(hl:s.length<=1000)(d2:¬ s.length < dO s)(jn:¬ uG s=s.length - dO s+1){st:AS}(h0:st=⟨(sv s::jk 1 (.one (.ptr 0 0)::jk 1 (vi 3::.one (.ptr 1 0)::jk 1 (vi (dO s)::jk 1 (vb false::vi ((dO s:Int)+(0:Nat))::jk 143 []))))),[.box G6,.box (Rp s (cI (.slice none 0 0)))]⟩):
  EL (EV G (Tb (bs bb))) G h108l0 [0,1,1,0,1,1,0] 2 st=Y4 (EV G (Tb (bs bb))) G h108l0 [0,1,1,0,1,1,0] 2 (EC (EV G (Tb (bs bb))) G h108l0 ⟨(sv s::jk 1 (.one (.ptr 0 0)::jk 1 (vi 3::.one (.ptr 1 0)::jk 1 (vi (dO s)::jk 1 (vb true::vi ((dO s:Int)+((uG s+1:Nat):Int))::jk 143 []))))),[.box G6,.box (Rp s (.dc (.slc ((Wg s).map bI.e))))]⟩):=by
 obtain⟨j1,j2,j3⟩:=bW (fun j=>(lY ((s.take (dO s+j)).drop (dO s))).2=0) (s.length - dO s+1)
 have hJ:uG s < s.length - dO s+1/\(lY ((s.take (dO s+uG s)).drop (dO s))).2=0:=j2.elim (fun h=>absurd h jn) id
 have hj:∀ j,j < uG s->¬ (lY ((s.take (dO s+j)).drop (dO s))).2=0:=j3;have hrs:(lY ((s.take (dO s+uG s)).drop (dO s))).1=Wg s:=rfl;generalize uG s=J at hJ hj hrs ⊢;have e:=bG (call:=EV G (Tb (bs bb))) (G:=G) (a:=h108l0) (L:=[0,1,1,0,1,1,0]) (m:=2) (fun k=>if k<=J then ⟨(sv s::jk 1 (.one (.ptr 0 0)::jk 1 (vi 3::.one (.ptr 1 0)::jk 1 (vi (dO s)::jk 1 (vb false::vi ((dO s:Int)+(k:Int))::jk 143 []))))),[.box G6,.box (Rp s (cI (.slice none 0 0)))]⟩ else ⟨(sv s::jk 1 (.one (.ptr 0 0)::jk 1 (vi 3::.one (.ptr 1 0)::jk 1 (vi (dO s)::jk 1 (vb true::vi ((dO s:Int)+(k:Int))::jk 143 []))))),[.box G6,.box (Rp s (.dc (.slc ((Wg s).map bI.e))))]⟩) (J+1) (h0.trans (if_pos (aQD _)).symm) (fun k hk=>by
  by_cases c:k < J
  ·rw[if_pos (by omega),if_pos (by omega)];exact Rq hB hl k (by omega) d2 (hj k c)
  ·have ek:k=J:=by omega
   subst ek;rw[if_pos (aQf _),if_neg (by omega)];have q:=E8 (G:=G) (B:=bs bb) _ (Ld hB k);rw[hJ.2,hrs] at q;have c2:(dO s:Int)+(k:Int)<=(s.length:Int):=by omega
   unfold Rp;simp (disch:=first | omega | (simp only[aQc,aQd,aQe,aQb,aA];omega)) only[go_sem,h108l0,eq_true c2,q])
 rw[if_neg (by omega)] at e;exact e
end
end Go.Proofs.YtcplecjhmnblpaaGreatDoor
