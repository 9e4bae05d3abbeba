/- A record with one more attribute, or another one in a place, by the program. Conditions: as each theorem says. -/
import Derived.Test.YtcplecjhmnblpaaGreatDoorSf
import Derived.Test.YtcplecjhmnblpaaGreatDoorUw
namespace Go.Proofs.YtcplecjhmnblpaaGreatDoor
set_option linter.unusedSimpArgs false
set_option linter.unusedVariables false
set_option maxRecDepth 4000
section
variable {G:aH} {bb:Bool}
theorem xT(J:List Nat):∀ ds:List DC,vO J (ds.map aR.dc)=true
 | []=>rfl
 | d::ds=>by rw[aQo,vO,xT J ds];rfl
theorem xU:∀ ds:List DC,idsL (ds.map aR.dc)=[]
 | []=>rfl
 | d::ds=>by rw[aQo,idsL,xU ds];rfl
theorem xV(f:Nat->Nat):∀ ds:List DC,List.map (jC f) (ds.map aR.dc)=ds.map aR.dc
 | []=>rfl
 | d::ds=>by rw[aQo,aQo,xV f ds];rfl
theorem xW(m:Nat):∀ ds:List DC,zA m (ds.map aR.dc)=ds.map aR.dc
 | []=>rfl
 | d::ds=>by rw[aQo,zA,xW m ds];rfl
theorem sY(f:Nat->Bool):∀ ds:List DC,List.map (cF f) (ds.map aR.dc)=ds.map aR.dc
 | []=>rfl
 | d::ds=>by rw[aQo,aQo,sY f ds];rfl
theorem aBF(fn:Nat)(ds:List DC)(p:aE->Bool)(l:List aE)(hl:l.length<=1000000)(hq:∀ a∈l,EV G (Tb (iM bb)) fn [a.v,.one (.ptr 0 0)] [.box (ds.map aR.dc)]=some (vb (p a),[.box (ds.map aR.dc)])):
  EV G (Tb (iM bb)) 64 [vl (l.map aE.e),.one (.fn fn [.ptr 0 0])] [.box (ds.map aR.dc)]=some (vi (Cd p l),[.box (ds.map aR.dc)]):=by
 refine aB rfl ?_;simp (disch:=omega) only[go_sem,h64c,aQb,xT,xU,xV,xW,sY];unfold Cd;rw[gA (fun k=>⟨(vl (l.map aE.e)::.one (.fn fn [.ptr 0 0])::jk 5 (vi l.length::vi k::jk 10 [])),[.box (ds.map aR.dc)]⟩) (fun k=>p (l.getD k aE.nil)=true) l.length ?_ ?_]
 rotate_left
 ·rfl
 ·intro k hk hn;have h3:=hn k (aQf _);rw[fE l k hk] at h3;have h4:p l[k]=false:=by simpa using h3
  have q:=hq l[k] (aQm hk);rw[h4] at q;simp (disch:=omega) only[go_sem,h64l0,aQb,ixA,aE.e,q,xT,xU,xV,xW,sY]
 obtain⟨hk,hp,hn⟩:=bW (fun k=>p (l.getD k aE.nil)=true) l.length
 generalize ix (fun k=>p (l.getD k aE.nil)=true) l.length=k at *
 rcases hp with rfl | ⟨hk',hp⟩
 ·rw[if_pos rfl];simp (disch:=omega) only[go_sem,h64l0,aQb,xT,xU,xV,xW,sY]
 ·rw[if_neg (by omega)];rw[fE l k hk'] at hp;have q:=hq l[k] (aQm hk');rw[hp] at q;simp (disch:=omega) only[go_sem,h64l0,aQb,ixA,aE.e,q,xT,xU,xV,xW,sY]
theorem aJw(fn:Nat)(ds:List DC)(p:aE->Bool)(l:List aE)(hl:l.length<=1000000)(hq:∀ a∈l,EV G (Tb (iM bb)) fn [a.v,.one (.ptr 0 0)] [.box (ds.map aR.dc)]=some (vb (p a),[.box (ds.map aR.dc)])):
  EV G (Tb (iM bb)) 130 [vl (l.map aE.e),.one (.fn fn [.ptr 0 0])] [.box (ds.map aR.dc)]=some (vb (l.any p),[.box (ds.map aR.dc)]):=by
 refine aB rfl ?_;have q:=aBF (G:=G) (bb:=bb) fn ds p l hl hq;rw[<- Ku];simp (disch:=omega) only[go_sem,h130c,q,xT,xU,xV,xW,sY]
abbrev bZ.d(r:bZ):List DC:=[ci r.sq,ci r.li,ci r.fl,ci r.br,ci r.bq,ci r.nx,ci r.ls,.slc (r.ats.map aE.e)]
theorem aM4(r:bZ)(a:aE):EV G (Tb (iM bb)) 65 [a.v,.one (.ptr 0 0)] [.box r.c]=some (vb (decide (r.nx<=a.id)),[.box r.c]):=by
 refine aB rfl ?_;simp (disch:=omega) only[go_sem,h65c]
theorem aM5(r:bZ)(hl:r.ats.length<=1000000):EV G (Tb (iM bb)) 64 [vl (r.ats.map aE.e),.one (.fn 65 [.ptr 0 0])] [.box r.c]=some (vi (Ho r),[.box r.c]):=
 aBF 65 r.d (fun a=>decide (r.nx<=a.id)) r.ats hl (fun a _=>aM4 r a)
def sA:HC->HC
 | .seq a _=>a
 | c=>c
def sB:HC->HC
 | .seq _ b=>b
 | c=>c
theorem sE{a b:HC}:sA (.seq a b)=a:=rfl
theorem tF{a b:HC}:sB (.seq a b)=b:=rfl
def sT:HC->HC
 | .trm _ a=>a
 | c=>c
theorem D2{L:List Nat}{a:HC}:sT (.trm L a)=a:=rfl
def aFC(L:List Nat):Option (Exit × AS)->Option AS
 | some (.normal,s)=>some (jL L s.hp.length s)
 | _=>none
theorem nO{L:List Nat}{s:AS}:aFC L (some (.normal,s))=some (jL L s.hp.length s):=rfl
theorem aJx{call:aW}{st st':AS}{c:HC}(hs:c=.seq (sA c) (sB c))(h:EC call G (sA c) st=some (.normal,st')):EC call G c st=EC call G (sB c) st':=by
 rw[hs,Nd];simp only[sE,tF];rw[h];rfl
theorem R8{call:aW}{st st':AS}{c:HC}{L:List Nat}(hs:c=.seq (sA c) (.trm L (sT (sB c))))(h:aFC L (EC call G (sA c) st)=some st'):EC call G c st=EC call G (sT (sB c)) st':=by
 generalize sA c=a at hs h;generalize sT (sB c)=b at hs;subst hs;rw[Nd];cases e:EC call G a st with
 | none=>rw[e] at h;cases h
 | some q=>
  obtain⟨x,s⟩:=q;cases x with
  | normal=>
   rw[e] at h;injection h with h
   rw[aGv,Y7,h]
  | _=>rw[e] at h;cases h
theorem aO8(l:List aE):((l.length:Int)=0)=(l=[]):=by
 apply propext;rw[<- List.length_eq_zero_iff];omega
theorem aJy(r:bZ):aFC [1,2] (EC (EV G (Tb (iM bb))) G (sA (sB h13c)) ⟨(r.v::.one (.ptr 0 0)::vi 0::vi 0::jk 92 []),[.box r.c]⟩)=some ⟨(jk 1 (.one (.ptr 0 0)::jk 2 (vb (pO r)::jk 91 []))),[.box r.c]⟩:=by
 have w:=mY (G:=G) (bb:=bb);unfold pO;by_cases c1:1<=r.sq/\r.sq<=65535
 ·rw[decide_eq_true c1];by_cases c2:0<=r.li/\r.li<=65535
  ·rw[decide_eq_true c2];by_cases c3:0<=r.fl/\r.fl<=3
   ·rw[decide_eq_true c3];by_cases c4:0<=r.nx/\r.nx<=65535
    ·rw[decide_eq_true c4];simp (disch:=omega) only[go_sem,h13c,sE,tF,nO,w,aQW]
    ·rw[decide_eq_false c4];simp (disch:=omega) only[go_sem,h13c,sE,tF,nO,w,aQW,aRi]
   ·rw[decide_eq_false c3];simp (disch:=omega) only[go_sem,h13c,sE,tF,nO,w,aQW,aRi]
  ·rw[decide_eq_false c2];simp (disch:=omega) only[go_sem,h13c,sE,tF,nO,w,aQW,aRi]
 ·rw[decide_eq_false c1];simp (disch:=omega) only[go_sem,h13c,sE,tF,nO,w,aQW,aRi]
theorem aJz(r:bZ)(b:Bool):aFC [1,2,0] (EC (EV G (Tb (iM bb))) G (sA (sT (sB (sB h13c)))) ⟨(jk 1 (.one (.ptr 0 0)::jk 2 (vb b::jk 91 []))),[.box r.c]⟩)=some ⟨(jk 1 (.one (.ptr 0 0)::jk 2 (vb b::vb (C1 r)::jk 90 []))),[.box r.c]⟩:=by
 unfold C1;have hl:=aO8 r.ats;by_cases c1:r.fl=0
 ·rw[decide_eq_true c1];by_cases c2:r.ats=[]
  ·have d2:(r.ats.length:Int)=0:=hl.symm ▸ c2;rw[decide_eq_true c2];by_cases c3:r.li=0
   ·rw[decide_eq_true c3];by_cases c4:r.br=0/\r.bq=0
    ·rw[decide_eq_true c4];simp (disch:=omega) only[go_sem,h13c,sE,tF,D2,nO,aQb,eq_true d2,eq_true c1,eq_true c3,eq_true c4.1,eq_true c4.2,aQW]
    ·rw[decide_eq_false c4];by_cases c5:r.br=0
     ·have c6:¬ r.bq=0:=fun h=>c4 ⟨c5,h⟩
      simp (disch:=omega) only[go_sem,h13c,sE,tF,D2,nO,aQb,eq_true d2,eq_true c1,eq_true c3,eq_true c5,c6,aQW,aRi]
     ·simp (disch:=omega) only[go_sem,h13c,sE,tF,D2,nO,aQb,eq_true d2,eq_true c1,eq_true c3,c5,aQW,aRi]
   ·rw[decide_eq_false c3];simp (disch:=omega) only[go_sem,h13c,sE,tF,D2,nO,aQb,eq_true d2,eq_true c1,c3,aQW,aRi]
  ·have d2:¬ (r.ats.length:Int)=0:=fun h=>c2 (hl ▸ h)
   rw[decide_eq_false c2];simp (disch:=omega) only[go_sem,h13c,sE,tF,D2,nO,aQb,d2,eq_true c1,aQW,aRi]
 ·rw[decide_eq_false c1];simp (disch:=omega) only[go_sem,h13c,sE,tF,D2,nO,c1,aQW,aRi]
set_option maxHeartbeats 4000000 in
theorem aBG(r:bZ)(hW:r.W):EV G (Tb (iM bb)) 13 [r.v] []=some (iiv (qQ r),[]):=by
 refine aB rfl ?_;have hln:=hW.ln;have e0:EC (EV G (Tb (iM bb))) G h13c ⟨(r.v::jk 95 []),[]⟩=EC (EV G (Tb (iM bb))) G (sB h13c) ⟨(r.v::.one (.ptr 0 0)::vi 0::vi 0::jk 92 []),[.box r.c]⟩:=aJx rfl (by simp (disch:=omega) only[go_sem,h13c,sE]);have e1:=R8 (c:=sB h13c) (L:=[1,2]) rfl (aJy (G:=G) (bb:=bb) r);have e2:=R8 (c:=sT (sB (sB h13c))) (L:=[1,2,0]) rfl (aJz (G:=G) (bb:=bb) r (pO r));refine (congrArg (oO _ _ _) (e0.trans (e1.trans e2))).trans ?_;have u:=lM (G:=G) (bb:=bb);have q1:=Fh (G:=G) (bb:=bb) r.br r.bq;have q2:=C8 (G:=G) (bb:=bb) r;have q3:=C6 (G:=G) (bb:=bb);have q4:=up (aE4 (G:=G) (bb:=bb) r.ats hW.at' (by omega));have q5:=aM5 (G:=G) (bb:=bb) r (by omega);have q6:=Da (G:=G) (bb:=bb) r.ats hW.at' (by omega);unfold qQ;have h0:Lh r=aS [un (pO r) 2,sC r.br r.bq,un (iC r.fl||C1 r) 3]:=rfl
 generalize pO r=b1 at *;generalize C1 r=b2 at *;generalize sC r.br r.bq=z at *;generalize Ho r=g at *;generalize dV r.ats=m at *;generalize kV r.ats=o at *;obtain⟨o1,o2⟩:=o;dsimp only at q4 ⊢;by_cases c1:Lh r=0
 ·rw[if_neg (not_not_intro c1)];rw[c1] at h0;by_cases c2:o2=0
  ·rw[if_neg (not_not_intro c2)];by_cases c3:0<=g
   ·rw[if_pos c3];cases hu:iC r.fl
    all_goals rw[hu] at h0 q2
    all_goals simp only[aRa,aQT] at h0
    all_goals simp (disch:=omega) only[go_sem,h13c,sE,tF,D2,u,q1,q2,q3,q4,q5,q6,<- h0,eq_true c2,aRa,aQT]
   ·rw[if_neg c3];by_cases c4:m<=440
    all_goals cases hu:iC r.fl
    all_goals rw[hu] at h0 q2
    all_goals simp only[aRa,aQT] at h0
    all_goals simp (disch:=omega) only[go_sem,h13c,sE,tF,D2,u,q1,q2,q3,q4,q5,q6,<- h0,eq_true c2,aRa,aQT]
  ·rw[if_pos c2];cases hu:iC r.fl
   all_goals rw[hu] at h0 q2
   all_goals simp only[aRa,aQT] at h0
   all_goals simp (disch:=omega) only[go_sem,h13c,sE,tF,D2,u,q1,q2,q3,q4,q5,q6,<- h0,c2,aRa,aQT]
 ·rw[if_pos c1];cases hu:iC r.fl
  all_goals rw[hu] at h0 q2
  all_goals simp only[aRa,aQT] at h0
  all_goals simp (disch:=omega) only[go_sem,h13c,sE,tF,D2,u,q1,q2,q3,<- h0,c1,aRa,aQT]
end
section
variable {G:aH} {bb:Bool}
theorem Db{r:bZ}(h:pO r=false):qQ r=(0,2):=by
 have h0:Lh r=2:=by unfold Lh;rw[h,fU,aQ _ _ (by decide)]
 unfold qQ;rw[if_pos (by rw[h0];decide),h0]
theorem aJA{r:bZ}(h:pO r=true):Lh r=aS [sC r.br r.bq,un (iC r.fl||C1 r) 3]:=by
 unfold Lh;rw[h,eI,aP]
theorem aBH{r:bZ}{e:Int}(h:Lh r=e)(he:e≠0):qQ r=(0,e):=by
 unfold qQ;rw[if_pos (by rw[h];exact he),h]
set_option maxHeartbeats 4000000 in
theorem Ls(r:bZ)(hW:r.W)(n1:1<=r.sq/\r.sq<=65535)(n2:0<=r.li/\r.li<=65535)(n3:0<=r.fl/\r.fl<=3)(n4:0<=r.nx/\r.nx<=65535)(n5:0<=r.ls/\r.ls<=2147483647)
  (z0:sC r.br r.bq=0) (hh:iC r.fl=true\/iC r.fl=false/\r.ats=[]/\r.li=0/\r.br=0/\r.bq=0/\r.fl=0/\r.nx=0):
  EV G (Tb (iM bb)) 18 [r.v] []=some (iiv (if (kV r.ats).2≠0 then kV r.ats else if 0<=Ho r then (Ho r,9) else (0,un (decide (dV r.ats<=440)) 16)),[]):=by
 have hln:=hW.ln;have w:=mZ (G:=G) (bb:=bb);have q1:=C7 (G:=G) (bb:=bb) r.br r.bq;rw[z0] at q1;have q2:=R7 (G:=G) (bb:=bb) r ⟨n3.1,by omega⟩;have q4:=up (aAQ (G:=G) (bb:=bb) r.ats hW.at' (by omega));have hs:=Lk (l:=r.ats);have hlen:r.ats.length<=900:=hln;generalize ho:kV r.ats=o at *;obtain⟨o1,o2⟩:=o;dsimp only at q4 ⊢;by_cases c2:o2=0
 ·have he:∀ a∈r.ats,hZ a=0:=((sS r.ats).1 (hs c2)).1;have q6:=aFB (G:=G) (bb:=bb) r.ats hW.at' he (by omega);rw[if_neg (not_not_intro c2)];have hg:Ho r=if ix (fun k=>decide (r.nx<=(r.ats.getD k aE.nil).id)=true) r.ats.length=r.ats.length then -1 else ((ix (fun k=>decide (r.nx<=(r.ats.getD k aE.nil).id)=true) r.ats.length:Nat):Int):=rfl
  generalize Ho r=g at *;refine aB rfl ?_;rcases hh with hu | ⟨hu,f1,f2,f3,f4,f5,f6⟩
  ·rw[hu] at q2;simp (disch:=omega) only[go_sem,h18c,w,q1,q2,q4,eq_true c2,eq_true n1,eq_true n2,eq_true n3,eq_true n4,eq_true n5,decide_true,aQV];rw[gA (fun k=>⟨(jk 1 (.one (.ptr 0 0)::jk 5 (vi k::jk 95 []))),[.box r.c]⟩) (fun k=>decide (r.nx<=(r.ats.getD k aE.nil).id)=true) r.ats.length ?_ ?_]
   rotate_left
   ·rfl
   ·intro k hk hn;have h3:=hn k (aQf _);rw[fE r.ats k hk,decide_eq_true_eq] at h3;simp (disch:=omega) only[go_sem,h18l0,aQb,ixA,aE.e,h3]
   obtain⟨hk,hp,hn⟩:=bW (fun k=>decide (r.nx<=(r.ats.getD k aE.nil).id)=true) r.ats.length
   generalize ix (fun k=>decide (r.nx<=(r.ats.getD k aE.nil).id)=true) r.ats.length=k at *
   rcases hp with rfl | ⟨hk',hp⟩
   ·rw[if_pos rfl] at hg;subst hg;rw[if_neg (by decide)];by_cases c4:dV r.ats<=440
    ·have c5:¬ 440 < dV r.ats:=by omega
     rw[decide_eq_true c4,eI];simp (disch:=omega) only[go_sem,h18l0,aQb,q6,c5]
    ·have c5:440 < dV r.ats:=by omega
     rw[decide_eq_false c4,fU];simp (disch:=omega) only[go_sem,h18l0,aQb,q6,eq_true c5]
   ·rw[if_neg (by omega)] at hg;subst hg;rw[if_pos (by omega)];rw[fE r.ats k hk',decide_eq_true_eq] at hp;simp (disch:=omega) only[go_sem,h18l0,aQb,ixA,aE.e,eq_true hp]
  ·rw[hu] at q2;have d2:¬ 0 < (r.ats.length:Int):=by rw[f1];simp
   simp (disch:=omega) only[go_sem,h18c,w,q1,q2,q4,eq_true c2,eq_true n1,eq_true n2,eq_true n3,eq_true n4,eq_true n5,decide_true,aQV,aQb,d2,eq_true f2,eq_true f3,eq_true f4,eq_true f5,eq_true f6];rw[gA (fun k=>⟨(jk 1 (.one (.ptr 0 0)::jk 5 (vi k::jk 95 []))),[.box r.c]⟩) (fun k=>decide (r.nx<=(r.ats.getD k aE.nil).id)=true) r.ats.length ?_ ?_]
   rotate_left
   ·rfl
   ·intro k hk hn;rw[f1] at hk;simp at hk
   obtain⟨hk,hp,hn⟩:=bW (fun k=>decide (r.nx<=(r.ats.getD k aE.nil).id)=true) r.ats.length
   generalize ix (fun k=>decide (r.nx<=(r.ats.getD k aE.nil).id)=true) r.ats.length=k at *
   rcases hp with rfl | ⟨hk',hp⟩
   ·rw[if_pos rfl] at hg;subst hg;rw[if_neg (by decide)];by_cases c4:dV r.ats<=440
    ·have c5:¬ 440 < dV r.ats:=by omega
     rw[decide_eq_true c4,eI];simp (disch:=omega) only[go_sem,h18l0,aQb,q6,c5]
    ·have c5:440 < dV r.ats:=by omega
     rw[decide_eq_false c4,fU];simp (disch:=omega) only[go_sem,h18l0,aQb,q6,eq_true c5]
   ·rw[if_neg (by omega)] at hg;subst hg;rw[if_pos (by omega)];rw[fE r.ats k hk',decide_eq_true_eq] at hp;simp (disch:=omega) only[go_sem,h18l0,aQb,ixA,aE.e,eq_true hp]
 ·rw[if_pos c2];refine aB rfl ?_;rcases hh with hu | ⟨hu,f1,f2,f3,f4,f5,f6⟩
  ·rw[hu] at q2;simp (disch:=omega) only[go_sem,h18c,w,q1,q2,q4,c2,eq_true n1,eq_true n2,eq_true n3,eq_true n4,eq_true n5,decide_true,aQV]
  ·rw[hu] at q2;have d2:¬ 0 < (r.ats.length:Int):=by rw[f1];simp
   simp (disch:=omega) only[go_sem,h18c,w,q1,q2,q4,c2,eq_true n1,eq_true n2,eq_true n3,eq_true n4,eq_true n5,decide_true,aQV,aQb,d2,eq_true f2,eq_true f3,eq_true f4,eq_true f5,eq_true f6]
set_option maxHeartbeats 4000000 in
theorem aBI(r:bZ)(hW:r.W):EV G (Tb (iM bb)) 18 [r.v] []=some (iiv (qQ r),[]):=by
 have w:=mZ (G:=G) (bb:=bb);have q1:=C7 (G:=G) (bb:=bb) r.br r.bq;by_cases n1:1<=r.sq/\r.sq<=65535
 ·by_cases n2:0<=r.li/\r.li<=65535
  ·by_cases n3:0<=r.fl/\r.fl<=3
   ·by_cases n4:0<=r.nx/\r.nx<=65535
    ·by_cases n5:0<=r.ls/\r.ls<=2147483647
     ·have hn:pO r=true:=by simp[pO,n1,n2,n3,n4,n5]
      have hd:=aJA hn;by_cases z0:sC r.br r.bq=0
      ·rw[z0,aP] at hd;have q2:=R7 (G:=G) (bb:=bb) r ⟨n3.1,by omega⟩;cases hu:iC r.fl with
       | true=>
        rw[hu,aRa,eI] at hd;have h0:Lh r=0:=hd;have e:qQ r=if (kV r.ats).2≠0 then kV r.ats else if 0<=Ho r then (Ho r,9) else (0,un (decide (dV r.ats<=440)) 16):=by
         unfold qQ;rw[if_neg (not_not_intro h0)]
        rw[e];exact Ls r hW n1 n2 n3 n4 n5 z0 (.inl hu)
       | false=>
        rw[hu,aQT] at hd;rw[hu] at q2;rw[z0] at q1;cases he:C1 r with
        | true=>
         rw[he,eI] at hd;have h0:Lh r=0:=hd;have e:qQ r=if (kV r.ats).2≠0 then kV r.ats else if 0<=Ho r then (Ho r,9) else (0,un (decide (dV r.ats<=440)) 16):=by
          unfold qQ;rw[if_neg (not_not_intro h0)]
         rw[e];simp only[C1,aQp,decide_eq_true_eq] at he;exact Ls r hW n1 n2 n3 n4 n5 z0 (.inr ⟨hu,he.2.1,he.2.2.1,he.2.2.2.1.1,he.2.2.2.1.2,he.1,he.2.2.2.2⟩)
        | false=>
         rw[he,fU] at hd;have h0:Lh r=3:=hd;rw[aBH h0 (by decide)];refine aB rfl ?_;by_cases c2:r.ats=[]
         ·have d2:¬ 0 < (r.ats.length:Int):=by rw[c2];simp
          by_cases c3:r.li=0
          ·by_cases c4:r.br=0
           ·by_cases c5:r.bq=0
            ·by_cases c1:r.fl=0
             ·by_cases c6:r.nx=0
              ·simp[C1,c1,c2,c3,c4,c5,c6] at he
              ·simp (disch:=omega) only[go_sem,h18c,w,q1,q2,eq_true n1,eq_true n2,eq_true n3,eq_true n4,eq_true n5,decide_true,aQV,aQb,d2,eq_true c3,eq_true c4,eq_true c5,eq_true c1,c6]
             ·simp (disch:=omega) only[go_sem,h18c,w,q1,q2,eq_true n1,eq_true n2,eq_true n3,eq_true n4,eq_true n5,decide_true,aQV,aQb,d2,eq_true c3,eq_true c4,eq_true c5,c1]
            ·simp (disch:=omega) only[go_sem,h18c,w,q1,q2,eq_true n1,eq_true n2,eq_true n3,eq_true n4,eq_true n5,decide_true,aQV,aQb,d2,eq_true c3,eq_true c4,c5]
           ·simp (disch:=omega) only[go_sem,h18c,w,q1,q2,eq_true n1,eq_true n2,eq_true n3,eq_true n4,eq_true n5,decide_true,aQV,aQb,d2,eq_true c3,c4]
          ·simp (disch:=omega) only[go_sem,h18c,w,q1,q2,eq_true n1,eq_true n2,eq_true n3,eq_true n4,eq_true n5,decide_true,aQV,aQb,d2,c3]
         ·have d2:0 < (r.ats.length:Int):=by
           have:=List.length_pos_iff.2 c2;omega
          simp (disch:=omega) only[go_sem,h18c,w,q1,q2,eq_true n1,eq_true n2,eq_true n3,eq_true n4,eq_true n5,decide_true,aQV,aQb,eq_true d2]
      ·rw[aQ _ _ z0] at hd;rw[aBH hd z0];refine aB rfl ?_;simp (disch:=omega) only[go_sem,h18c,w,q1,eq_true n1,eq_true n2,eq_true n3,eq_true n4,eq_true n5,decide_true,aQV,z0]
     ·rw[Db (by simp[pO,n5])];refine aB rfl ?_;simp (disch:=omega) only[go_sem,h18c,w,eq_true n1,eq_true n2,eq_true n3,eq_true n4,n5,decide_true,aQV,decide_false,aRm]
    ·rw[Db (by simp[pO,n4])];refine aB rfl ?_;simp (disch:=omega) only[go_sem,h18c,w,eq_true n1,eq_true n2,eq_true n3,n4,decide_true,aQV,decide_false,aRm]
   ·rw[Db (by simp[pO,n3])];refine aB rfl ?_;simp (disch:=omega) only[go_sem,h18c,w,eq_true n1,eq_true n2,n3,decide_true,aQV,decide_false,aRm]
  ·rw[Db (by simp[pO,n2])];refine aB rfl ?_;simp (disch:=omega) only[go_sem,h18c,w,eq_true n1,n2,decide_true,aQV,decide_false,aRm]
 ·rw[Db (by simp[pO,n1])];refine aB rfl ?_;simp (disch:=omega) only[go_sem,h18c,w,n1,decide_false,aRm]
theorem Hu(r:bZ)(hW:r.W):EV G (Tb (iM bb)) 29 [r.v] []=some (vi (dG r),[]):=by
 refine aB rfl ?_;have q:=aBI (G:=G) (bb:=bb) r hW;unfold dG;generalize qQ r=o at *;obtain⟨o1,o2⟩:=o;simp (disch:=omega) only[go_sem,h29c,q]
def aBJ(r:bZ)(e:Int):Int × Int:=if e≠0 then (0,e) else (440 - dV r.ats,0)
theorem kG(r:bZ)(hW:r.W):EV G (Tb (iM bb)) 68 [r.v] []=some (vi (dG r),[]):=by
 refine aB rfl ?_;have q:=aBG (G:=G) (bb:=bb) r hW;unfold dG;generalize qQ r=o at *;obtain⟨o1,o2⟩:=o;simp (disch:=omega) only[go_sem,h68c,q]
theorem aBK(r:bZ)(hW:r.W):EV G (Tb (iM bb)) 15 [r.v] []=some (iiv (aBJ r (dG r)),[]):=by
 refine aB rfl ?_;have q:=kG (G:=G) (bb:=bb) r hW;have hln:=hW.ln;have q2:=Da (G:=G) (bb:=bb) r.ats hW.at' (by omega);have q3:=wR r.ats hW.at';unfold aBJ;generalize dG r=e at *;by_cases c:e=0
 ·rw[if_neg (not_not_intro c)];simp (disch:=omega) only[go_sem,h15c,q,q2,eq_true c]
 ·rw[if_pos c];simp (disch:=omega) only[go_sem,h15c,q,c]
theorem aM6(q f a b:Int):EV G (Tb (iM bb)) 16 [vi q,vi f,rfv a b] []=some (rcv (aJp q f a b),[]):=by
 have w:=mY (G:=G) (bb:=bb) q 1 65535;have u:=lM (G:=G) (bb:=bb);have q1:=Fh (G:=G) (bb:=bb) a b;have q3:=wQ (G:=G) (bb:=bb);unfold aJp;have h0:aFt q f a b=aS [un (decide (1<=q/\q<=65535)&&(decide (f=1)||decide (f=3))) 2,sC a b]:=rfl
 generalize aFt q f a b=e at *;generalize sC a b=z at *;have fin:∀ c2:Bool,EV G (Tb (iM bb)) 16 [vi q,vi f,rfv a b] []=some (rcv (if e≠0 then (.nil,e) else (⟨q,0,f,a,b,0,0,[]⟩,0)),[]):=fun _=>by
  refine aB rfl ?_;cases c1:decide (1<=q/\q<=65535)
  all_goals rw[c1] at w h0
  all_goals by_cases c2:f=1
  all_goals by_cases c4:e=0
  all_goals first | rw[if_neg (not_not_intro c4)] | rw[if_pos c4]
  all_goals first | rw[decide_eq_true c2] at h0 | rw[decide_eq_false c2] at h0
  all_goals simp only[aQW,aRi,aRa,aQT] at h0
  ·simp (disch:=omega) only[go_sem,h16c,w,u,q1,q3,<- h0,eq_true c2,eq_true c4,bZ.nil];rfl
  ·simp (disch:=omega) only[go_sem,h16c,w,u,q1,q3,<- h0,eq_true c2,c4,bZ.nil];rfl
  ·by_cases c3:f=3
   all_goals simp (disch:=omega) only[go_sem,h16c,w,u,q1,q3,<- h0,c2,eq_true c4,bZ.nil]
   all_goals rfl
  ·by_cases c3:f=3
   all_goals simp (disch:=omega) only[go_sem,h16c,w,u,q1,q3,<- h0,c2,c4,bZ.nil]
   all_goals rfl
  ·simp (disch:=omega) only[go_sem,h16c,w,u,q1,q3,<- h0,eq_true c2,eq_true c4,bZ.nil];rfl
  ·simp (disch:=omega) only[go_sem,h16c,w,u,q1,q3,<- h0,eq_true c2,c4,bZ.nil];rfl
  ·by_cases c3:f=3
   ·rw[decide_eq_true c3] at h0;simp (disch:=omega) only[go_sem,h16c,w,u,q1,q3,<- h0,c2,eq_true c3,eq_true c4,bZ.nil];rfl
   ·rw[decide_eq_false c3] at h0;simp (disch:=omega) only[go_sem,h16c,w,u,q1,q3,<- h0,c2,c3,eq_true c4,bZ.nil];rfl
  ·by_cases c3:f=3
   ·rw[decide_eq_true c3] at h0;simp (disch:=omega) only[go_sem,h16c,w,u,q1,q3,<- h0,c2,eq_true c3,c4,bZ.nil];rfl
   ·rw[decide_eq_false c3] at h0;simp (disch:=omega) only[go_sem,h16c,w,u,q1,q3,<- h0,c2,c3,c4,bZ.nil];rfl
 exact fin true
theorem Hv(n:Int)(h:0<=n/\n<=65535):EV G (Tb (iM bb)) 69 [vi n,vi 65535] []=some (vi (kW n),[]):=by
 refine aB rfl ?_;have e:n.tmod 65535=n % 65535:=by rw[aRJ h.1]
 unfold kW;simp (disch:=omega) only[go_sem,h69c,e]
end
section
variable {G:aH} {bb:Bool}
theorem aBM(l:List aE)(hW:∀ a∈l,a.W)(hl:l.length<=1000):EV G (Tb (iM bb)) 95 [vl (l.map aE.e),vl (l.map aE.e)] []=some (vb true,[]):=up (aBa l hW hl)
set_option maxHeartbeats 1000000 in
theorem Vu(r:bZ)(hW:r.W):EV G (Tb (iM bb)) 39 [r.v,r.v] []=some (vb true,[]):=by
 refine aB rfl ?_;have q:=aBM (G:=G) (bb:=bb) r.ats hW.at' (by have:=hW.ln;omega);simp (disch:=omega) only[go_sem,h39c,q]
theorem aIM(r:bZ)(hW:r.W):EV G (Tb (iM bb)) 21 [r.v,vi 0,r.v,vi 0] []=some (vb true,[]):=by
 refine aB rfl ?_;have q:=Vu (G:=G) (bb:=bb) r hW;simp (disch:=omega) only[go_sem,h21c,q]
theorem aC5(w:bZ)(e:Int)(he:e≠0):EV G (Tb (iM bb)) 21 [bZ.nil.v,vi e,w.v,vi e] []=some (vb true,[]):=by
 refine aB rfl ?_;have q:=Vu (G:=G) (bb:=bb) .nil bZ.nil_W;simp only[bZ.v,bZ.c,bZ.nil,aQn] at q ⊢;simp (disch:=omega) only[go_sem,h21c,q,he]
def aC6(p:bZ × Int):Prop:=p.1.W/\(p.2≠0->p.1=.nil)
theorem aKy(p:bZ × Int)(h:aC6 p)(w:bZ)(hw:p.2=0->w=p.1):EV G (Tb (iM bb)) 21 [p.1.v,vi p.2,w.v,vi p.2] []=some (vb true,[]):=by
 obtain⟨r,e⟩:=p;obtain⟨h1,h2⟩:=h;simp only at h1 h2 hw ⊢;by_cases c:e=0
 ·subst c;rw[hw rfl];exact aIM r h1
 ·rw[h2 c];exact aC5 w e c
theorem xX(r:bZ)(hW:r.W):EV G (Tb (iM bb)) 14 [r.v] []=some (r.v,[]):=by
 refine aB rfl ?_;have hl:=hW.ln;have q:=up (aAS (G:=G) (bb:=bb) r.ats (by omega) (fun a ha=>by have:=(hW.at' a ha).rl;omega))
 simp (disch:=omega) only[go_sem,h14c,q]
theorem R9(a:aE):EV G (Tb (iM bb)) 25 [a.v] []=some (vb (Cf a),[]):=by
 refine aB rfl ?_;unfold Cf;have e1:((a.rs.length:Int)<=80)=(a.rs.length<=80):=by apply propext;omega
 have e2:((a.va.length:Int)<=500)=(a.va.length<=500):=by apply propext;omega
 have e3:((a.nm.length:Int)<=60)=(a.nm.length<=60):=by apply propext;omega
 by_cases c1:a.rs.length<=80
 ·by_cases c2:a.va.length<=500
  ·simp (disch:=omega) only[go_sem,h25c,aQb,e1,e2,e3,eq_true c1,eq_true c2]
   all_goals simp[c1,c2]
  ·simp (disch:=omega) only[go_sem,h25c,aQb,e1,e2,e3,eq_true c1,c2]
   all_goals simp[c1,c2]
 ·simp (disch:=omega) only[go_sem,h25c,aQb,e1,e2,e3,c1]
  all_goals simp[c1]
def Ot(r:bZ):Bool:=r.ats.all Cf&&decide (r.ats.length<=40)
theorem Ou(r:bZ)(hl:r.ats.length<=9223372036854775807):EV G (Tb (iM bb)) 12 [r.v] []=some (vb (Ot r),[]):=by
 refine aB rfl ?_;unfold Ot;simp (disch:=omega) only[go_sem,h12c];rw[gA (fun k=>⟨(jk 1 (.one (.ptr 0 0)::jk 1 (vi k::jk 18 []))),[.box r.c]⟩) (fun k=>Cf (r.ats.getD k aE.nil)=false) r.ats.length ?_ ?_]
 rotate_left
 ·rfl
 ·intro k hk hn;have h1:=hn k (aQf _);rw[fE r.ats k hk] at h1;have h2:Cf r.ats[k]=true:=by simpa using h1
  have q:=R9 (G:=G) (bb:=bb) r.ats[k];rw[h2] at q;simp (disch:=omega) only[go_sem,h12l0,aQb,ixA,aE.e,q]
 have hx:=aJd r.ats aE.nil Cf;obtain⟨hk,hp,hn⟩:=bW (fun k=>Cf (r.ats.getD k aE.nil)=false) r.ats.length
 generalize ix (fun k=>Cf (r.ats.getD k aE.nil)=false) r.ats.length=k at *
 rcases hp with rfl | ⟨hk',hp⟩
 ·rw[hx.1 rfl];by_cases c:r.ats.length<=40
  ·have c':(r.ats.length:Int)<=40:=by omega
   simp (disch:=omega) only[go_sem,h12l0,aQb,eq_true c'];simp[c]
  ·have c':¬ (r.ats.length:Int)<=40:=by omega
   simp (disch:=omega) only[go_sem,h12l0,aQb,c'];simp[c]
 ·have e:r.ats.all Cf=false:=by
   cases h:r.ats.all Cf with
   | false=>rfl
   | true=>have:=hx.2 h;omega
  rw[e];rw[fE r.ats k hk'] at hp;have q:=R9 (G:=G) (bb:=bb) r.ats[k];rw[hp] at q;simp (disch:=omega) only[go_sem,h12l0,aQb,ixA,aE.e,q]
theorem Ov{r:bZ}(h:Ot r=true)(hB:∀ a∈r.ats,aM a.nm/\aM a.va):r.W:=by
 simp only[Ot,aQp,decide_eq_true_eq,aRl] at h;refine⟨fun a ha=>?_,by omega⟩
 have h1:=h.1 a ha;simp only[Cf,aQp,decide_eq_true_eq] at h1;exact⟨(hB a ha).1,(hB a ha).2,by omega,by omega,by omega⟩
theorem aFD(r:bZ)(hW:r.W):EV G (Tb (iM bb)) 17 [r.v] []=some (rcv (aFs r),[]):=by
 refine aB rfl ?_;have q1:=kG (G:=G) (bb:=bb) r hW;have q2:=C8 (G:=G) (bb:=bb) r;have u:=lM (G:=G) (bb:=bb);have q3:=wQ (G:=G) (bb:=bb);unfold aFs;have hz:∀ e,e=dG r->(e=0->1<=r.sq/\r.sq<=65535):=fun e h1 h2=>(kX (h1 ▸ h2)).num.1
 have hz1:=hz (dG r) rfl;generalize dG r=e at *;by_cases c:aS [e,un (iC r.fl) 20]=0
 ·rw[if_neg (not_not_intro c)];have q4:=Hv (G:=G) (bb:=bb) r.sq (by have:=hz1 (Hp c).1;omega);simp (disch:=omega) only[go_sem,h17c,q1,q2,u,q3,q4,eq_true c,aFr];rfl
 ·rw[if_pos c];simp (disch:=omega) only[go_sem,h17c,q1,q2,u,q3,c,bZ.nil];rfl
theorem aM7:EV G (Tb (iM true)) 11 [] []=some (vb true,[]):=jE rfl rfl
end
section
variable {G:aH} {bb:Bool}
abbrev bZ.c2(r:bZ):List aR:=[.dc (ci r.sq),.dc (ci r.li),.dc (ci r.fl),.dc (ci r.br),.dc (ci r.bq),.dc (ci r.nx),.dc (ci r.ls),.bld 2 r.ats.length]
theorem aBN{α:Type}(l:List α)(k:Nat)(h:k < l.length):l.set k l[k]=l:=List.set_getElem_self h
set_option maxHeartbeats 4000000 in
theorem Vv(r:bZ)(hW:r.W):EV G (Tb (iM bb)) 74 [r.v] []=some (.agg r.c2,[.box r.c2,.box r.c2,.arr 0 11 (r.ats.map aE.e)]):=by
 refine aB rfl ?_;have hl:=hW.ln;have q:=aA7 (G:=G) (bb:=bb) r.ats (by omega);simp (disch:=omega) only[go_sem,h74c,q];rw[bG (fun k=>⟨(jk 1 (.one (.ptr 0 0)::.one (.ptr 1 0)::jk 7 (vi r.ats.length::vi k::jk 16 []))),[.box [.dc (ci r.sq),.dc (ci r.li),.dc (ci r.fl),.dc (ci r.br),.dc (ci r.bq),.dc (ci r.nx),.dc (ci r.ls),.bld 2 r.ats.length],.box [.dc (ci 0),.dc (ci 0),.dc (ci 0),.dc (ci 0),.dc (ci 0),.dc (ci 0),.dc (ci 0),.dc (.raw (.slice none 0 0))],.arr 0 11 (r.ats.map aE.e)]⟩) r.ats.length ?_ ?_]
 ·simp (disch:=omega) only[go_sem,h74l0,aQb]
 ·rfl
 ·intro k hk;have q2:=up (Q9 (G:=G) (bb:=bb) r.ats[k].rs (by have:=(hW.at' _ (aQm hk)).rl;omega));have e:=ixA r.ats k hk;have hs:(r.ats.map aE.e).set k r.ats[k].e=r.ats.map aE.e:=by
   have:=aBN (r.ats.map aE.e) k (by rw[aQb];exact hk);rwa[aQw] at this
  simp (disch:=omega) only[go_sem,h74l0,aQb,e,aE.e,q2];rw[hs]
theorem aJB(a b:aE)(ha:aM a.nm)(hb:aM b.nm):EV G (Tb (iM bb)) 131 [b.v,.one (.ptr 0 0)] [.box a.c]=some (vb (nL a b),[.box a.c]):=by
 refine aB rfl ?_;have e:=cW ha hb;unfold nL;by_cases c1:a.ty=b.ty
 ·by_cases c2:a.nm=b.nm
  ·rw[eq_true c2] at e;simp (disch:=omega) only[go_sem,h131c,eq_true c1,e]
   all_goals simp[c1,c2]
  ·rw[eq_false c2] at e;simp (disch:=omega) only[go_sem,h131c,eq_true c1,e]
   all_goals simp[c1,c2]
 ·simp (disch:=omega) only[go_sem,h131c,c1]
  all_goals simp[c1]
abbrev aE.dd(a:aE):List DC:=[ci a.ty,.raw (.string (eG a.nm)),ci a.id,ci a.fl,.raw (.bool a.res),.raw (.string (eG a.va)),ci a.fi,.slc (a.rs.map bI.e),ci a.al,ci a.sz,ci a.vd]
theorem aJC(r:bZ)(a:aE)(hW:r.W)(ha:aM a.nm):EV G (Tb (iM bb)) 73 [r.v,a.v] []=some (vb (D1 r a),[]):=by
 refine aB rfl ?_;have hl:=hW.ln;have q:EV G (Tb (iM bb)) 130 [vl (r.ats.map aE.e),.one (.fn 131 [.ptr 0 0])] [.box a.c]=some (vb (r.ats.any fun b=>nL a b),[.box a.c]):=
  aJw 131 a.dd (fun b=>nL a b) r.ats (by omega) (fun b hb=>aJB a b ha (hW.at' b hb).nm)
 unfold D1;by_cases c:a.ty=48
 ·simp (disch:=omega) only[go_sem,h73c,eq_true c]
  all_goals simp[c]
 ·simp (disch:=omega) only[go_sem,h73c,c,q]
  all_goals simp[c]
end
end Go.Proofs.YtcplecjhmnblpaaGreatDoor
