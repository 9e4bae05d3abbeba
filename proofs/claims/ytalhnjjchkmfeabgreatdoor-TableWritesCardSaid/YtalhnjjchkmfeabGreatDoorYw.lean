/- Part. Conditions: none. -/
import Derived.Test.YtalhnjjchkmfeabGreatDoorMf
import Derived.Test.YtalhnjjchkmfeabGreatDoorRx
import Derived.Test.YtalhnjjchkmfeabGreatDoorQp
import Derived.Test.YtalhnjjchkmfeabGreatDoorPp
import Derived.Test.YtalhnjjchkmfeabGreatDoorPa
namespace Go.Proofs.YtalhnjjchkmfeabGreatDoor
set_option maxHeartbeats 32000000
set_option linter.unusedSimpArgs false
set_option linter.unusedVariables false
set_option maxRecDepth 4000
section
variable {G:aE}{bb:Bool}
noncomputable def Qw(b:L Int)(r:cI):L Int×Int:=if dR r≠0 then ([],dR r) else if (cE b).2.2≠0 then (kW r 1,0) else Xo b r r.ls
theorem Qn{b:L Int}{r:cI}(h:(Qw b r).2=0):dR r=0/\∃u:Int,(1<=u/\u<=65535)/\(Qw b r).1=kW r u:=by
 unfold Qw at h ⊢;by_cases a:dR r=0;rw[if_neg (not_not_intro a)] at h ⊢;by_cases c:(cE b).2.2=0;rw[if_neg (not_not_intro c)] at h ⊢;obtain⟨_,_,_,e⟩:=aRA h;exact⟨a,oF (cE b).2.1,Qm _,by rw[e];rfl⟩;rw[if_pos c];exact⟨a,1,by decide,rfl⟩;rw[if_pos a] at h;exact absurd h a
noncomputable def Fq(s:L Int)(x:Bt)(C:L Int)(n:Nat)(b:L Int):L Int:=
 if n<4 then fU (fU s b (C.getD (2*n) 0).toNat (C.getD (2*n+1) 0).toNat) b (x.mi.toNat+2*n) (x.mi.toNat+2*n+1) else fU s b (C.getD (2*n) 0).toNat (C.getD (2*n+1) 0).toNat
noncomputable def wrL(s:L Int)(x:Bt)(C:L Int)(n:Nat)(p:L Int×Int):L Int:=if p.2=0 then Fq s x C n p.1 else s
theorem aIy{s:L Int}(g:aH s){x:Bt}{C:L Int}(d:Tok x s.length C){n:Nat}(v:n<C.length / 2){b:L Int}(h:b.length=512)(f:aH b):(Fq s x C n b).length=s.length/\aH (Fq s x C n b):=by
 obtain⟨a,i,m,o,_⟩:=d.at (k:=2*n) (by omega);obtain⟨c,j,t,u,_⟩:=d.at (k:=2*n+1) (by omega);have p:=d.b.cl;have q:=d.b.n;have r:=d.b.mi;unfold Fq;rw[i,j,aZy,aZy];have e:=iO (l:=s) (b:=b) (n0:=a) (n1:=c) h (by omega) (by omega);split;rw[iO h (by omega) (by omega),e];exact⟨rfl,pL (pL g f) f⟩;exact⟨e,pL g f⟩
theorem aIz(U:G9 G)(x:Bt)(I J:DC)(s:L Int)(hB:aH s)(Y:s.length<=200000)(C:L Int)(A:Tok x s.length C)(n:Nat)(hn:n<C.length / 2)(r:cI)(P:r.W):EV G (Tb (dX G bb)) 20 [.one (.ptr 0 0),vi n,r.v] [Bm x I J s.length (.slc (el C)),yb s]=some (vi (Qw (By s C n) r).2,[Bm x I J s.length (.slc (el C)),yb (wrL s x C n (Qw (By s C n) r))]):=by
 have hln:=A.ln;have y:=upS (Uj (G:=G) (bb:=bb) r P);have hR:dR r=(qN r).2:=rfl;by_cases j:dR r=0
 rotate_left
 ·have e:Qw (By s C n) r=([],dR r):=by unfold Qw;rw[if_pos j]
  rw[e];unfold wrL;rw[if_neg j];rw[hR] at j ⊢;generalize qN r=K at *;obtain⟨i,e⟩:=K;refine aA rfl ?_;simp (maxSteps:=2000000) (disch:=omega) only[go_sem,h20c,y,j,aY9];try rfl
 have E:=An (G:=G) (B:=dX G bb) x I J s.length C s n (by omega) (by omega);obtain⟨a,V,a1,a2,_⟩:=A.at (k:=2*n) (by omega);obtain⟨c,X,c1,c2,_⟩:=A.at (k:=2*n+1) (by omega);have b2:=A.b.cl;have b3:=A.b.n;have b5:=A.b.mi;have F:=Kq (G:=G) (B:=dX G bb) x I J (.slc (el C)) s hB s.length a c rfl (by omega) (by omega) Y;have O:aH (kI s a c):=kG hB a c;have lb:(kI s a c).length=512:=Bc (by omega) (by omega);have h:=upT (aM3 (G:=G) (bb:=bb) U (kI s a c) O (by omega) r P r.ls);have M:=upT (Ef (G:=G) (bb:=bb) U (kI s a c) O (by omega));have Z:=Ao (G:=G) (bb:=bb) U r P;rw[X7 j] at Z;have T:By s C n=kI s a c:=by unfold By;rw[V,X];rfl
 rw[V,X] at E;rw[T];have g:=Qn (b:=kI s a c) (r:=r);have t:∀ b:L Int,b.length=512->aH b->Fq s x C n b=(if n < 4 then fU (fU s b a c) b (x.mi.toNat+2 * n) (x.mi.toNat+2 * n+1) else fU s b a c):=fun b _ _=>by
  unfold Fq;rw[V,X];rfl
 have N:∀b:L Int,b.length=512->aH b->EV G (Tb (dX G bb)) 49 [.one (.bls 0 0 s.length 1),sv b,prI a c] [yb s]=some (.tup [],[yb (fU s b a c)]):=fun b l f=>Ee s b s.length a c rfl l f (by omega) (by omega) Y
 have p:n < 4->∀ b:L Int,b.length=512->aH b->EV G (Tb (dX G bb)) 49 [.one (.bls 0 0 s.length 1),sv b,prI (x.mi+2 * n) (x.mi+2 * n+1)] [yb (fU s b a c)]=some (.tup [],[yb (fU (fU s b a c) b (x.mi.toNat+2 * n) (x.mi.toNat+2 * n+1))]):=fun h4 b l f=>by
  have q:=Ee (G:=G) (B:=dX G bb) (fU s b a c) b s.length (x.mi.toNat+2 * n) (x.mi.toNat+2 * n+1) (by rw[iO l (by omega) (by omega)]) l f (by omega) (by omega) Y;rw[show ((x.mi.toNat+2 * n:Nat):Int)=x.mi+2 * n by omega,show ((x.mi.toNat+2 * n+1:Nat):Int)=x.mi+2 * n+1 by omega] at q;exact q
 have mi:=fun h4:n<4=>Gd (G:=G) (B:=dX G bb) x I J (.slc (el C)) s.length
 have H:(qN r).2=0:=j;unfold Qw at g ⊢;rw[if_neg (not_not_intro j)] at g ⊢;generalize qN r=K at *;obtain⟨i,e0⟩:=K;simp only at H;subst H;by_cases w:(cE (kI s a c)).2.2=0;rw[if_neg (not_not_intro w)] at g ⊢;generalize cE (kI s a c)=D at *;obtain⟨ro,uo,eo⟩:=D;simp only at w;subst w;by_cases h3:(Xo (kI s a c) r r.ls).2=0;obtain⟨_,u,hu,eb⟩:=g h3;obtain⟨_,l,f⟩:=lE P j hu;rw[<- eb] at l f;unfold wrL;rw[if_pos h3,t _ l f];have z:=N _ l f;have o:=fun h4=>p h4 _ l f
 generalize Xo (kI s a c) r r.ls=Q at *;obtain⟨b,e⟩:=Q;simp only at h3 l z o ⊢;subst h3;by_cases h4:n<4
 ·have m:=mi h4 (fU s b a c) n (by omega) (by omega);have o:=o h4;have d:(n:Int)<4:=by omega
  rw[if_pos h4];generalize fU (fU s b a c) b (x.mi.toNat+2*n) (x.mi.toNat+2*n+1)=S2 at *;generalize fU s b a c=S at *;generalize kI s a c=R at *;refine aA rfl ?_;simp (maxSteps:=2000000) (disch:=omega) only[go_sem,h20c,y,E,F,h,M,z,o,m,d,aY9,aZp,aZn,iX];try rfl
 ·have d:¬ (n:Int)<4:=by omega
  rw[if_neg h4];generalize fU s b a c=S at *;generalize kI s a c=R at *;refine aA rfl ?_;simp (maxSteps:=2000000) (disch:=omega) only[go_sem,h20c,y,E,F,h,M,z,d,aY9,aZp,aZn,iX];try rfl
 ·unfold wrL;rw[if_neg h3];generalize Xo (kI s a c) r r.ls=Q at *;obtain⟨b,e⟩:=Q;simp only at h3 ⊢;generalize kI s a c=R at *;refine aA rfl ?_;simp (maxSteps:=2000000) (disch:=omega) only[go_sem,h20c,y,E,F,h,M,h3,aY9,aZp,aZn,iX];try rfl
 rw[if_pos w] at g ⊢;obtain⟨_,l,f⟩:=lE P j (u:=1) (by decide);unfold wrL;rw[if_pos rfl,t _ l f];have z:=N _ l f;have o:=fun h4=>p h4 _ l f
 generalize Xo (kI s a c) r r.ls=Q at *;obtain⟨b',e⟩:=Q;generalize cE (kI s a c)=D at *;obtain⟨ro,uo,eo⟩:=D;simp only at w;generalize kW r 1=b at *;by_cases h4:n<4
 ·have m:=mi h4 (fU s b a c) n (by omega) (by omega);have o:=o h4;have d:(n:Int)<4:=by omega
  rw[if_pos h4];generalize fU (fU s b a c) b (x.mi.toNat+2*n) (x.mi.toNat+2*n+1)=S2 at *;generalize fU s b a c=S at *;generalize kI s a c=R at *;refine aA rfl ?_;simp (maxSteps:=2000000) (disch:=omega) only[go_sem,h20c,y,E,F,h,M,Z,w,z,o,m,d,aY9,aZp,aZn,iX];try rfl
 ·have d:¬ (n:Int)<4:=by omega
  rw[if_neg h4];generalize fU s b a c=S at *;generalize kI s a c=R at *;refine aA rfl ?_;simp (maxSteps:=2000000) (disch:=omega) only[go_sem,h20c,y,E,F,h,M,Z,w,z,d,aY9,aZp,aZn,iX];try rfl
noncomputable def wtV(s:L Int)(n:Int)(r:cI):L Int×Int:=if Fm s n≠0 then ([],Fm s n) else if (Qw (By s (iZ s) n.toNat) r).2≠0 then ([],(Qw (By s (iZ s) n.toNat) r).2) else (Fq s (aX s).1 (iZ s) n.toNat (Qw (By s (iZ s) n.toNat) r).1,0)
theorem Yd(k:G9 G)(s:L Int)(f:aH s)(m:s.length<=200000)(n:Int)(r:cI)(q:r.W):EV G (Tb (dX G bb)) 7 [sv s,vi n,r.v] []=some (bkv (wtV s n r),[]):=by
 unfold wtV;by_cases h:Fm s n=0;rw[if_neg (not_not_intro h)];obtain⟨c,j,h3⟩:=Ky h;have o:=pK (bb:=bb) k s f m n c;obtain⟨_,_,p⟩:=jJ f c;have e:qG (decide (0<=n/\n<=(qO s:Int)-1)) 6=0:=by rw[decide_eq_true (by omega)];rfl
 rw[e] at o;have D:n=(n.toNat:Int):=by omega
 unfold qO at h3;have a:=aIz (bb:=bb) k (aX s).1 (.slc ((lI s).rs.map aV.e)) (ci ((iZ s).length / 2:Nat)) s f m (iZ s) p n.toNat h3 r q;rw[<- D] at a;have t:∀b:L Int,b.length=512->aH b->(Fq s (aX s).1 (iZ s) n.toNat b).length=s.length:=fun b l i=>(aIy f p h3 l i).1
 have g:=Qn (b:=By s (iZ s) n.toNat) (r:=r);generalize Qw (By s (iZ s) n.toNat) r=Q at *;obtain⟨b,e⟩:=Q;simp only at g ⊢;unfold wrL at a;by_cases d:e=0
 ·rw[if_neg (not_not_intro d)];rw[if_pos d] at a;obtain⟨E,u,F,A⟩:=g d;obtain⟨_,l,i⟩:=lE q E F;rw[<- A] at l i;have t:=t b l i;simp only at a;subst d;generalize Fq s (aX s).1 (iZ s) n.toNat b=M at *;have z:jN (List.take s.length (List.map yC M))=some (M.map u8):=by rw[aZI (by rw[aY9];omega),kN]
  generalize iZ s=C at *;generalize (aX s).1=x at *;generalize (kY s).1=r9 at *;generalize (kY s).2.1=y at *;generalize (lI s).rs=w at *;refine aA rfl ?_;simp (maxSteps:=2000000) (disch:=omega) only[go_sem,h7c,o,a,aZl,aZm,eL,sF,iX,aY9,z,O8];try rfl
 ·rw[if_pos d];rw[if_neg d] at a;simp only at a;generalize iZ s=C at *;generalize (aX s).1=x at *;generalize (kY s).1=r9 at *;generalize (kY s).2.1=y at *;generalize (lI s).rs=w at *;refine aA rfl ?_;simp (maxSteps:=2000000) (disch:=omega) only[go_sem,h7c,o,a,d,aZl,aZm,eL,sF,iX,aG];try rfl
 rw[if_pos h];rcases aH7 h with⟨c,j⟩|⟨c,j,h3⟩
 ·have o:=Cj (bb:=bb) k s f m n c;rw[j];refine aA rfl ?_;simp (maxSteps:=2000000) (disch:=omega) only[go_sem,h7c,o,c,aG];try rfl
 ·have o:=pK (bb:=bb) k s f m n c;rw[h3] at o;rw[j];generalize iZ s=C at *;generalize (aX s).1=x at *;generalize (kY s).1=r9 at *;generalize (kY s).2.1=y at *;generalize (lI s).rs=w at *;refine aA rfl ?_;simp (maxSteps:=2000000) (disch:=omega) only[go_sem,h7c,o,aZl,aZm,eL,sF,aG];try rfl
end
section
variable {G:aE}{bb:Bool}
theorem aIB{a:aK}:(jI a=true)=(a.ty=128/\a.nm=[]):=by
 unfold jI;simp
theorem Vf{B:aN}(r:cI)(h:r.ats.length<=1000000):EV G (Tb B) 31 [r.v] []=some (vi (jG jI r.ats),[]):=by
 refine aA rfl ?_;simp (maxSteps:=2000000) (disch:=omega) only[go_sem,h31c];unfold jG;rw[dP (fun k=>⟨(jk 1 (.one (.ptr 0 0)::jk 1 (vi k::jk 24 []))),[.box r.c]⟩) (fun k=>jI (r.ats.getD k aK.nil)=true) r.ats.length ?_ ?_]
 rotate_left
 rfl;intro k d f;have h3:=f k (aZe _);rw[gB r.ats k d,aIB] at h3;have e:=Kn r.ats[k].nm;have a:(k:Int)<r.ats.length:=by omega
 by_cases c:r.ats[k].ty=128;have g:¬ r.ats[k].nm=[]:=fun q=>h3 ⟨c,q⟩
 simp (maxSteps:=2000000) (disch:=omega) only[go_sem,h31l0,aY9,ixA,aK.e,eq_true c,e,g,a];simp (maxSteps:=2000000) (disch:=omega) only[go_sem,h31l0,aY9,ixA,aK.e,c,a];obtain⟨d,hp,f⟩:=bI (fun k=>jI (r.ats.getD k aK.nil)=true) r.ats.length
 generalize ix (fun k=>jI (r.ats.getD k aK.nil)=true) r.ats.length=k at *
 rcases hp with rfl|⟨a,hp⟩;rw[if_pos rfl];simp (maxSteps:=2000000) (disch:=omega) only[go_sem,h31l0,aY9];rw[if_neg (by omega)];rw[gB r.ats k a,aIB] at hp;have e:=Kn r.ats[k].nm;have b:(k:Int)<r.ats.length:=by omega
 simp (maxSteps:=2000000) (disch:=omega) only[go_sem,h31l0,aY9,ixA,aK.e,eq_true hp.1,e,eq_true hp.2,b]
theorem aA5{B:aN}(s:L Int)(a n:Nat)(h:(a+n)*256<=s.length)(g:s.length<=200000):EV G (Tb B) 30 [sv s,vi a,vi n] []=some (sv ((s.drop (a*256)).take (n*256)),[]):=by
 have e:((a*256:Nat):Int)=(a:Int)*256:=by omega
 have f:(((a+n)*256:Nat):Int)=((a:Int)+n)*256:=by omega
 have c:((a:Int)*256).toNat=a*256:=by omega
 have d:(((a:Int)+n)*256).toNat=(a+n)*256:=by omega
 have b:(a+n)*256-a*256=n*256:=by omega
 refine aA rfl ?_;simp (maxSteps:=2000000) (disch:=omega) only[go_sem,h30c,aC,c,d,b];rw[bAn,b]
theorem aA6{B:aN}(s:L Int)(a:Nat)(h:a*256+256<=s.length)(b:s.length<=200000):EV G (Tb B) 30 [sv s,vi a,vi 1] []=some (sv (Fl s a),[]):=aA5 s a 1 (by omega) b
theorem aVQ(s:L Int)(a:Nat)(h:a*256+512<=s.length):kI s a (a+1)=(s.drop (a*256)).take (2*256):=by
 unfold kI Fl;have e:(a+1)*256=a*256+256:=by omega
 rw[e,<- aZ6,show 2*256=256+256 from rfl,List.take_add]
theorem aA7{B:aN}(s:L Int)(a:Nat)(h:a*256+512<=s.length)(b:s.length<=200000):EV G (Tb B) 30 [sv s,vi a,vi 2] []=some (sv (kI s a (a+1)),[]):=by
 rw[aVQ s a h];exact aA5 s a 2 (by omega) b
def rnE(x:Bt)(l:L aV):Int:=if (l.any fun r=>decide (r.s=-1))=true then 14 else if (l.any fun r=>decide (r.s+r.n > x.cl))=true then 37 else clE x (rY l)
theorem aIC{p:aV->Bool}(l:L aV)(k:Nat)(a:k<l.length):(l.take (k+1)).any p=((l.take k).any p||p l[k]):=by
 rw[List.take_add_one,List.any_append,aZi a];simp
theorem aM5(x:Bt)(C:L Int):uH x C=decide (ix (fun k=>C.getD k 0∈0::(x.cl-1)::C.take k\/x.mi<=C.getD k 0/\C.getD k 0<=x.mi+8-1) C.length<C.length):=by
 obtain⟨b,hp,d⟩:=bI (fun k=>C.getD k 0∈0::(x.cl-1)::C.take k\/x.mi<=C.getD k 0/\C.getD k 0<=x.mi+8-1) C.length
 generalize ix (fun k=>C.getD k 0∈0::(x.cl-1)::C.take k\/x.mi<=C.getD k 0/\C.getD k 0<=x.mi+8-1) C.length=K at *
 unfold uH;rcases hp with rfl|⟨a,c⟩
 rw[decide_eq_false (Nat.lt_irrefl _),decide_eq_false];rintro⟨k,b,q⟩;exact d k b q;rw[decide_eq_true a,decide_eq_true ⟨K,a,c⟩]
theorem aM6(x:Bt)(C:L Int):clE x C=if uH x C=true then 13 else if C.length % 2≠0\/¬ (32<=C.length/\C.length<=192) then 2 else if C.getD 0 0≠x.tb\/C.getD 1 0≠x.tb+1 then 9 else 0:=by
 unfold clE;cases uH x C with
 |true=>rfl
 |false=>
  rw[aZF,eB,bD,if_neg (by decide)];by_cases a:C.length % 2=0;by_cases h3:16<=C.length / 2/\C.length / 2<=96;rw[decide_eq_true a,decide_eq_true h3,aZJ,eB,bD,if_neg (by omega),decide_eq_true (show 2<=C.length by omega),aZJ];by_cases h4:C.getD 0 0=x.tb/\C.getD 1 0=x.tb+1;rw[decide_eq_true h4,eB,if_neg (by omega)];rfl;rw[decide_eq_false h4,if_pos (by omega)];rfl;rw[decide_eq_false h3,Bool.and_false,fE,bA _ _ (by decide),if_pos (by omega)];rw[decide_eq_false a,aZS,fE,bA _ _ (by decide),if_pos (.inl a)]
theorem aRC{B:aN}(x:Bt)(l:L aV)(hx:(-1000000<=x.mi/\x.mi<=1000000)/\(2<=x.cl/\x.cl<=1000000)/\(-1000000<=x.tb/\x.tb<=1000000))(N:rW l)(M:∀q∈l,(-1<=q.s/\q.s<=1000)/\(0<=q.n/\q.n<=4096))(D:cF l<=4096):EV G (Tb B) 32 [x.v,cV l] []=some (vi (rnE x l),[]):=by
 have Y:=N.len;have qc:=Cd (G:=G) (B:=B) l N;refine aA rfl ?_;simp (maxSteps:=2000000) (disch:=omega) only[go_sem,h32c];rw[dP (fun k=>⟨(jk 1 (cV l::.one (.ptr 0 0)::jk 2 (vb ((l.take k).any fun r=>decide (r.s+r.n > x.cl))::vi k::jk 99 []))),[x.o]⟩) (fun k=>(l.getD k ⟨0,0⟩).s=-1) l.length ?_ ?_]
 rotate_left
 rfl;intro k g p;have h3:=p k (aZe _);rw[kC l k g] at h3;have h4:=M _ (aZk g);have a:(k:Int)<l.length:=by omega
 rw[aIC l k g];generalize (l.take k).any (fun r=>decide (r.s+r.n > x.cl))=A
 cases A;by_cases c:l[k].s+l[k].n > x.cl;simp (maxSteps:=2000000) (disch:=omega) only[go_sem,h32l0,aY9,aV.e,h3,a,eq_true c];simp (maxSteps:=2000000) (disch:=omega) only[go_sem,h32l0,aY9,aV.e,h3,a,c];simp (maxSteps:=2000000) (disch:=omega) only[go_sem,h32l0,aY9,aV.e,h3,a]
 have S:(l.any fun r=>decide (r.s=-1))=decide (ix (fun k=>(l.getD k ⟨0,0⟩).s=-1) l.length < l.length):=by
  obtain⟨g,hp,p⟩:=bI (fun k=>(l.getD k ⟨0,0⟩).s=-1) l.length
  generalize ix (fun k=>(l.getD k ⟨0,0⟩).s=-1) l.length=K at *
  rcases hp with rfl | ⟨h1,h2⟩
  ·rw[decide_eq_false (Nat.lt_irrefl _),bAm];intro q J W;obtain⟨j,O,rfl⟩:=bAJ J;have:=p j O;rw[kC l j O] at this;exact this (of_decide_eq_true W)
  ·rw[decide_eq_true h1,List.any_eq_true];rw[kC l K h1] at h2;exact⟨_,aZk h1,decide_eq_true h2⟩
 unfold rnE;rw[S];obtain⟨g,hp,p⟩:=bI (fun k=>(l.getD k ⟨0,0⟩).s=-1) l.length
 generalize ix (fun k=>(l.getD k ⟨0,0⟩).s=-1) l.length=K at *
 rcases hp with rfl|⟨a,hp⟩
 rotate_left
 rw[if_pos (decide_eq_true a)];rw[kC l K a] at hp;have b:(K:Int)<l.length:=by omega
 simp (maxSteps:=2000000) (disch:=omega) only[go_sem,h32l0,aY9,aV.e,eq_true hp,b];rw[decide_eq_false (Nat.lt_irrefl _),if_neg (by decide),aZO];cases hE:l.any fun r=>decide (r.s+r.n > x.cl) with
 |true=>
  rw[if_pos rfl];simp (maxSteps:=2000000) (disch:=omega) only[go_sem,h32l0,aY9]
 |false=>
  rw[if_neg (by decide),aM6,aM5];have V:=Ax l (fun r h=>(M r h).2.1)
  have E:∀ c∈rY l,-1<=c/\c<=10000:=fun c D=>by
   obtain⟨q,J,D⟩:=List.mem_flatMap.1 D;have:=M q J;unfold Aw at D;obtain⟨k,g,rfl⟩:=List.mem_map.1 D;have g:=List.mem_range.1 g;split<;>omega
  generalize rY l=C at *;have P:∀k,el (C.take k)=(el C).take k:=fun k=>aZZ
  have d:((el C).all fun e=>decide (e.length=1))=true:=bAr.2 (fun e X=>by obtain⟨n,_,rfl⟩:=List.mem_map.1 X;rfl)
  simp (maxSteps:=2000000) (disch:=omega) only[go_sem,h32l0,aY9,qc];rw[dP (fun k=>⟨(jk 2 (.one (.ptr 0 0)::jk 4 (vl (el C)::vi k::jk 97 []))),[x.o]⟩) (fun k=>C.getD k 0∈0::(x.cl-1)::C.take k\/x.mi<=C.getD k 0/\C.getD k 0<=x.mi+8-1) C.length ?_ ?_]
  rotate_left
  rfl;intro k g p;have h3:=p k (aZe _);have Z:=E _ (aZk g);rw[bW C k g] at h3;have t:¬ C[k]=0:=fun q=>h3 (.inl (by rw[q];exact aZt))
  have y:¬ C[k]=x.cl-1:=fun q=>h3 (.inl (by rw[q];exact aZB _ aZt))
  have z:¬ C[k]∈C.take k:=fun q=>h3 (.inl (aZB _ (aZB _ q)))
  have H:En C[k] 1 x.mi 8=false:=decide_eq_false (fun q=>h3 (.inr (by omega)))
  have i:=aAa (G:=G) (B:=B) (C.take k) C[k] (by rw[aZd];omega);have m:=Eb (G:=G) (B:=B) C[k] 1 x.mi 8 (by omega) (by omega) (by omega) (by omega);rw[decide_eq_false z,P k] at i;rw[H] at m;have a:(k:Int)<C.length:=by omega
  have f:k<=C.length:=by omega
  simp (maxSteps:=2000000) (disch:=omega) only[go_sem,h32l1,aY9,tX,d,i,m,t,y,a,f];obtain⟨g,hp,p⟩:=bI (fun k=>C.getD k 0∈0::(x.cl-1)::C.take k\/x.mi<=C.getD k 0/\C.getD k 0<=x.mi+8-1) C.length
  generalize ix (fun k=>C.getD k 0∈0::(x.cl-1)::C.take k\/x.mi<=C.getD k 0/\C.getD k 0<=x.mi+8-1) C.length=K at *
  rcases hp with rfl|⟨a,hp⟩
  rotate_left
  rw[if_pos a];have Z:=E _ (aZk a);rw[bW C K a] at hp;have i:=aAa (G:=G) (B:=B) (C.take K) C[K] (by rw[aZd];omega);have m:=Eb (G:=G) (B:=B) C[K] 1 x.mi 8 (by omega) (by omega) (by omega) (by omega);rw[P K] at i;have b:(K:Int)<C.length:=by omega
  have f:K<=C.length:=by omega
  by_cases z:C[K]∈C.take K;rw[decide_eq_true z] at i;simp (maxSteps:=2000000) (disch:=omega) only[go_sem,h32l1,aY9,tX,d,i,m,b,f];rw[decide_eq_false z] at i;by_cases t:C[K]=0;simp (maxSteps:=2000000) (disch:=omega) only[go_sem,h32l1,aY9,tX,d,i,m,b,f,eq_true t];by_cases y:C[K]=x.cl-1;simp (maxSteps:=2000000) (disch:=omega) only[go_sem,h32l1,aY9,tX,d,i,m,b,f,t,eq_true y]
  have H:En C[K] 1 x.mi 8=true:=decide_eq_true (by
   rcases hp with q | q
   ·rcases bAl.1 q with q | q
    ·exact absurd q t
    ·rcases bAl.1 q with q | q
     ·exact absurd q y
     ·exact absurd q z
   ·omega)
  rw[H] at m;simp (maxSteps:=2000000) (disch:=omega) only[go_sem,h32l1,aY9,tX,d,i,m,b,f,t,y];rw[if_neg (Nat.lt_irrefl _)];have w:=bQ (G:=G) (B:=B) C.length 32 192;by_cases Q:C.length % 2=0;have u:(C.length:Int).tmod 2=0:=by rw[bAE (by omega)];omega
  by_cases R:32<=C.length/\C.length<=192;rw[decide_eq_true (show 32<=(C.length:Int)/\(C.length:Int)<=192 by omega)] at w;have r0:¬ (¬ C.length % 2=0\/¬ (32<=C.length/\C.length<=192)):=by omega
  rw[if_neg r0];have T:C.getD 0 0=C[0]:=bW C 0 (by omega);have U:C.getD 1 0=C[1]:=bW C 1 (by omega);have n0:0<C.length:=by omega
  have n1:1<C.length:=by omega
  rw[T,U];by_cases F:C[0]=x.tb;by_cases I:C[1]=x.tb+1;rw[if_neg (by omega)];simp (maxSteps:=2000000) (disch:=omega) only[go_sem,h32l1,aY9,tX,w,eq_true u,eq_true F,eq_true I,n0,n1];rw[if_pos (.inr I)];simp (maxSteps:=2000000) (disch:=omega) only[go_sem,h32l1,aY9,tX,w,eq_true u,eq_true F,I,n0,n1];rw[if_pos (.inl F)];simp (maxSteps:=2000000) (disch:=omega) only[go_sem,h32l1,aY9,tX,w,eq_true u,F,n0,n1];rw[decide_eq_false (show ¬ (32<=(C.length:Int)/\(C.length:Int)<=192) by omega)] at w;rw[if_pos (.inr R)];simp (maxSteps:=2000000) (disch:=omega) only[go_sem,h32l1,aY9,tX,w,eq_true u];have u:¬ (C.length:Int).tmod 2=0:=by rw[bAE (by omega)];omega
  rw[if_pos (.inl Q)];simp (maxSteps:=2000000) (disch:=omega) only[go_sem,h32l1,aY9,tX,w,u]
end
section
variable {G:aE}{bb:Bool}
def hCR:HF:={ h33 with own:=false }
def tb5:FuncId->Option HF:=fun f=>if f=33 then some hCR else if f=10 then some h10 else if f=22 then some h22 else none
noncomputable def T5(G:aE)(b:Bool):HT:=⟨tb5,EV G (Tb (dX G b))⟩
theorem aVR{b:Bool}:Ow Tryz.prog (T5 G b):=by
 intro f h hf;change tb5 f=some h at hf;unfold tb5 at hf;split at hf;rename_i e;subst e;injection hf with hf;subst hf;exact⟨by kernel_rfl,_,Tryz.func33,Tryz.ntmps33,h33_ok,aOT⟩
 split at hf;rename_i e;subst e;injection hf with hf;subst hf;exact⟨by kernel_rfl,_,Tryz.func10,Tryz.ntmps10,h10_ok,aOR⟩
 split at hf;rename_i e;subst e;injection hf with hf;subst hf;exact⟨by kernel_rfl,_,Tryz.func22,Tryz.ntmps22,h22_ok,aOS⟩
 cases hf
theorem t5{b:Bool}{f:FuncId}{a:L AV}{hp:L aD}{r:AV×L aD}(h:EV G (Tb (dX G b)) f a hp=some r)(c:tb5 f=none:=by decide):EV G (T5 G b) f a hp=some r:=jO c h
theorem aM7{b:Bool}(i:b=true->QC Tryz.prog G 4 [] (.one (.dc (.raw (.bool true))))):cJ Tryz.prog G (EV G (T5 G b)):=by
 intro f a hp av g h c d;obtain⟨n,e⟩:=iH h;refine nN aVR ?_ n f a hp av g e c d;intro f a hp av g h c d;obtain⟨n,e⟩:=iH h;exact nN (So (dX G b)) (aHY i) n f a hp av g e c d
end
section
variable {G:aE}{bb:Bool}
theorem aA8(l:L aV)(a:l.length<=1000000):EV G (T5 G bb) 33 [cV l] []=some (cV l,[]):=by
 refine aA (h:=hCR) rfl ?_;simp only[hCR];simp (maxSteps:=2000000) (disch:=omega) only[go_sem,h33c,aY9]
theorem aRD{s:L Int}(b:(aX s).2.2=0)(c:(kY s).2.2=0)(h3:¬ jG jI (kY s).1.ats<0)(h4:(lI s).res=false)(h5:(lI s).fi=0):nX s=rnE (aX s).1 (lI s).rs:=by
 have a:nE s=Eg (aX s).1 (lI s):=by
  unfold nE;rw[if_neg (not_not_intro b),if_neg (not_not_intro c),if_neg h3]
 unfold nX rnE;rw[a];unfold Eg Lt iZ;rw[h4,decide_eq_true h5,aZF,aZJ,eB,bD];generalize (lI s).rs.any (fun r=>decide (r.s=-1))=A
 generalize (lI s).rs.any (fun r=>decide (r.s+r.n > (aX s).1.cl))=E
 generalize clE (aX s).1 (rY (lI s).rs)=C;cases A;cases E<;>rfl;rfl
theorem aRE{s:L Int}(c:(aX s).2.2=0)(d:(kY s).2.2=0)(h3:¬ jG jI (kY s).1.ats<0)(h4:(lI s).res=true\/¬ (lI s).fi=0):nX s=15:=by
 have a:nE s=Eg (aX s).1 (lI s):=by
  unfold nE;rw[if_neg (not_not_intro c),if_neg (not_not_intro d),if_neg h3]
 have b:Eg (aX s).1 (lI s)=15:=by
  unfold Eg;have:(!(lI s).res&&decide ((lI s).fi=0))=false:=by
   rcases h4 with h|h;rw[h];rfl;rw[decide_eq_false h,Bool.and_false]
  rw[this,fE,bA _ _ (by decide)]
 unfold nX;rw[a,b,if_pos (by decide)]
theorem Ye(s:L Int)(T:aH s)(hl:s.length<=200000):EV G (T5 G bb) 10 [sv s] []=some (aXO (vwV s),[]):=by
 have q:=t5 (b:=bb) (aDa (G:=G) (B:=dX G bb) s T hl);by_cases k:(aX s).2.2=0;have b:=Hn k;have b2:=b.cl;have b3:=b.n;have b4:=b.tb;have b5:=b.mi;have cT:=t5 (b:=bb) (aA7 (G:=G) (B:=dX G bb) s (aX s).1.tb.toNat (by omega) hl);have p:=t5 (b:=bb) (aA7 (G:=G) (B:=dX G bb) s (aX s).1.mi.toNat (by omega) hl);rw[show (((aX s).1.tb.toNat:Nat):Int)=(aX s).1.tb by omega] at cT;rw[show (((aX s).1.mi.toNat:Nat):Int)=(aX s).1.mi by omega] at p;change EV G (T5 G bb) _ _ _=some (sv (Ku s (aX s).1),[]) at cT;change EV G (T5 G bb) _ _ _=some (sv (Nq s (aX s).1),[]) at p;have dT:=t5 (upT (Hu (G:=G) (bb:=bb) (Ku s (aX s).1) (kG T _ _) (by unfold Ku;rw[Bc (by omega) (by omega)];omega)));have dM:=t5 (upT (Hu (G:=G) (bb:=bb) (Nq s (aX s).1) (kG T _ _) (by unfold Nq;rw[Bc (by omega) (by omega)];omega)));have m:kY s=Qt (Ku s (aX s).1) (Nq s (aX s).1):=rfl;unfold Qt at m;have O:=Qf s T;have oK:=@U5 s;have oA:=@Kw s T;have c:=@aRE s k;have d:=@aRD s k;have f:∀l:L aV,rW l->(∀q∈l,(-1<=q.s/\q.s<=1000)/\(0<=q.n/\q.n<=4096))->cF l<=4096->EV G (T5 G bb) 32 [(aX s).1.v,cV l] []=some (vi (rnE (aX s).1 l),[]):=fun l a1 a2 a3=>
  t5 (aRC (G:=G) (B:=dX G bb) (aX s).1 l ⟨by omega,by omega,by omega⟩ a1 a2 a3)
 by_cases g:(cE (Ku s (aX s).1)).2.2=0;rw[if_pos g] at m;rw[m] at O oK oA c d;have C:lI s=(cE (Ku s (aX s).1)).1.ats.getD (jG jI (cE (Ku s (aX s).1)).1.ats).toNat aK.nil:=by unfold lI;rw[m]
 have y:jG jI (cE (Ku s (aX s).1)).1.ats < 0->nX s=6:=fun hi=>by
  unfold nX nE;rw[m,if_neg (not_not_intro k),if_neg (not_not_intro g),if_pos hi,if_pos (by decide)]
 have W:vwV s=if nX s=0 then (((aX s).1,(lI s).rs,(qO s:Int)),0) else ((nB,[],0),nX s):=rfl
 have t:=t5 (b:=bb) (Vf (G:=G) (B:=dX G bb) (cE (Ku s (aX s).1)).1 (by have:=O.1.ln;omega));replace oA:=oA g;replace c:=c g;replace d:=d g;have J:qO s=(rY (lI s).rs).length / 2:=rfl;clear m;rw[W];clear W O;generalize cE (Ku s (aX s).1)=P at *;generalize cE (Nq s (aX s).1)=Q at *;generalize Ku s (aX s).1=ST at *;generalize Nq s (aX s).1=SM at *;generalize nX s=E at *;generalize qO s=X at *;generalize lI s=A at *;obtain⟨r,u,e⟩:=P;obtain⟨N,u',e'⟩:=Q;generalize aX s=V at *;obtain⟨x,a,w⟩:=V;simp only at k g oA oK c d f t y C;subst k;by_cases h3:jG jI r.ats<0;have y:=y h3;subst y;rw[if_neg (by decide)];generalize jG jI r.ats=I at *;refine aA rfl ?_;simp (maxSteps:=2000000) (disch:=omega) only[go_sem,h10c,q,cT,p,dT,dM,eq_true g,t,h3,Bt.cs,aZp,aZn];rfl;obtain⟨K,F,k1,U,_⟩:=oK h3;obtain⟨S,z⟩:=oA h3;obtain⟨H,Z,R⟩:=Be (qZ S z);replace c:=c h3;replace d:=d h3;have hw:gP A.rs=cF A.rs:=W9 (qZ S z);have M:=Ax A.rs (fun r h=>(R r h).2.1)
 have cp:=aA8 (G:=G) (bb:=bb) A.rs (by have:=H.len;omega);have lq:=t5 (b:=bb) (rZ (G:=G) (B:=dX G bb) A.rs (by have:=H.len;omega));have dv:(gP A.rs).tdiv 2=(X:Int):=by rw[J,hw,<- M,bAL (by omega)];omega
 replace f:=f A.rs H R Z;clear C y oK oA;have D:r.ats[K].e=A.e:=by rw[<- U]
 generalize jG jI r.ats=I at *;subst k1;have i:¬ (K:Int)<0:=by omega
 have j:(K:Int)<r.ats.length:=by omega
 clear U;by_cases h4:A.res=true;have c:=c (.inl h4);subst c;rw[if_neg (by decide)];refine aA rfl ?_;simp (maxSteps:=2000000) (disch:=omega) only[go_sem,h10c,q,cT,p,dT,dM,eq_true g,t,i,j,F,aY9,ixA,D,h4,Bt.cs,aZp,aZn];rfl;have h4:A.res=false:=by simpa using h4
 by_cases h5:A.fi=0;have d:=d h4 h5;subst d;generalize rnE x A.rs=Y at *;by_cases h6:Y=0
 ·subst h6;rw[if_pos rfl];refine aA rfl ?_;simp (maxSteps:=2000000) (disch:=omega) only[go_sem,h10c,q,cT,p,dT,dM,eq_true g,t,i,j,F,aY9,ixA,D,h4,eq_true h5,f,cp,lq,dv,Bt.cs,aZp,aZn];try rfl
 rw[if_neg h6];refine aA rfl ?_;simp (maxSteps:=2000000) (disch:=omega) only[go_sem,h10c,q,cT,p,dT,dM,eq_true g,t,i,j,F,aY9,ixA,D,h4,eq_true h5,f,h6,Bt.cs,aZp,aZn];rfl;have c:=c (.inr h5);subst c;rw[if_neg (by decide)];refine aA rfl ?_;simp (maxSteps:=2000000) (disch:=omega) only[go_sem,h10c,q,cT,p,dT,dM,eq_true g,t,i,j,F,aY9,ixA,D,h4,h5,Bt.cs,aZp,aZn];rfl;rw[if_neg g] at m;by_cases o:(cE (Nq s (aX s).1)).2.2=0;rw[if_pos o] at m;rw[m] at O oK oA c d;have C:lI s=(cE (Nq s (aX s).1)).1.ats.getD (jG jI (cE (Nq s (aX s).1)).1.ats).toNat aK.nil:=by unfold lI;rw[m]
 have y:jG jI (cE (Nq s (aX s).1)).1.ats < 0->nX s=6:=fun hi=>by
  unfold nX nE;rw[m,if_neg (not_not_intro k),if_neg (not_not_intro o),if_pos hi,if_pos (by decide)]
 have W:vwV s=if nX s=0 then (((aX s).1,(lI s).rs,(qO s:Int)),0) else ((nB,[],0),nX s):=rfl
 have t:=t5 (b:=bb) (Vf (G:=G) (B:=dX G bb) (cE (Nq s (aX s).1)).1 (by have:=O.1.ln;omega));replace oA:=oA o;replace c:=c o;replace d:=d o;have J:qO s=(rY (lI s).rs).length / 2:=rfl;clear m;rw[W];clear W O;generalize cE (Ku s (aX s).1)=P at *;generalize cE (Nq s (aX s).1)=Q at *;generalize Ku s (aX s).1=ST at *;generalize Nq s (aX s).1=SM at *;generalize nX s=E at *;generalize qO s=X at *;generalize lI s=A at *;obtain⟨r,u,e⟩:=P;obtain⟨N,u',e'⟩:=Q;generalize aX s=V at *;obtain⟨x,a,w⟩:=V;simp only at k g o oA oK c d f t y C;subst k;by_cases h3:jG jI N.ats<0;have y:=y h3;subst y;rw[if_neg (by decide)];generalize jG jI N.ats=I at *;refine aA rfl ?_;simp (maxSteps:=2000000) (disch:=omega) only[go_sem,h10c,q,cT,p,dT,dM,g,eq_true o,t,h3,Bt.cs,aZp,aZn];rfl;obtain⟨K,F,k1,U,_⟩:=oK h3;obtain⟨S,z⟩:=oA h3;obtain⟨H,Z,R⟩:=Be (qZ S z);replace c:=c h3;replace d:=d h3;have hw:gP A.rs=cF A.rs:=W9 (qZ S z);have M:=Ax A.rs (fun r h=>(R r h).2.1)
 have cp:=aA8 (G:=G) (bb:=bb) A.rs (by have:=H.len;omega);have lq:=t5 (b:=bb) (rZ (G:=G) (B:=dX G bb) A.rs (by have:=H.len;omega));have dv:(gP A.rs).tdiv 2=(X:Int):=by rw[J,hw,<- M,bAL (by omega)];omega
 replace f:=f A.rs H R Z;clear C y oK oA;have D:N.ats[K].e=A.e:=by rw[<- U]
 generalize jG jI N.ats=I at *;subst k1;have i:¬ (K:Int)<0:=by omega
 have j:(K:Int)<N.ats.length:=by omega
 clear U;by_cases h4:A.res=true;have c:=c (.inl h4);subst c;rw[if_neg (by decide)];refine aA rfl ?_;simp (maxSteps:=2000000) (disch:=omega) only[go_sem,h10c,q,cT,p,dT,dM,g,eq_true o,t,i,j,F,aY9,ixA,D,h4,Bt.cs,aZp,aZn];rfl;have h4:A.res=false:=by simpa using h4
 by_cases h5:A.fi=0;have d:=d h4 h5;subst d;generalize rnE x A.rs=Y at *;by_cases h6:Y=0
 ·subst h6;rw[if_pos rfl];refine aA rfl ?_;simp (maxSteps:=2000000) (disch:=omega) only[go_sem,h10c,q,cT,p,dT,dM,g,eq_true o,t,i,j,F,aY9,ixA,D,h4,eq_true h5,f,cp,lq,dv,Bt.cs,aZp,aZn];try rfl
 rw[if_neg h6];refine aA rfl ?_;simp (maxSteps:=2000000) (disch:=omega) only[go_sem,h10c,q,cT,p,dT,dM,g,eq_true o,t,i,j,F,aY9,ixA,D,h4,eq_true h5,f,h6,Bt.cs,aZp,aZn];rfl;have c:=c (.inr h5);subst c;rw[if_neg (by decide)];refine aA rfl ?_;simp (maxSteps:=2000000) (disch:=omega) only[go_sem,h10c,q,cT,p,dT,dM,g,eq_true o,t,i,j,F,aY9,ixA,D,h4,h5,Bt.cs,aZp,aZn];rfl;rw[if_neg o] at m;have eE:nX s=(cE (Ku s (aX s).1)).2.2:=by
  unfold nX nE;rw[m,if_neg (not_not_intro k),if_pos g,if_pos g]
 unfold vwV;rw[eE,if_neg g];clear O oK oA c d f eE;generalize cE (Ku s (aX s).1)=P at *;generalize cE (Nq s (aX s).1)=Q at *;generalize Ku s (aX s).1=ST at *;generalize Nq s (aX s).1=SM at *;obtain⟨r,u,e⟩:=P;obtain⟨N,u',e'⟩:=Q;generalize aX s=V at *;obtain⟨x,a,w⟩:=V;simp only at k g o;subst k;refine aA rfl ?_;simp (maxSteps:=2000000) (disch:=omega) only[go_sem,h10c,q,cT,p,dT,dM,g,o,Bt.cs,aZp,aZn];rfl;have e:nX s=(aX s).2.2:=by
  unfold nX nE;rw[if_pos k,if_pos k]
 unfold vwV;rw[e,if_neg k];generalize aX s=V at *;obtain⟨x,a,e⟩:=V;refine aA rfl ?_;simp (maxSteps:=2000000) (disch:=omega) only[go_sem,h10c,q,k,Bt.cs];rfl
end
section
variable {G:aE}{bb:Bool}
abbrev vwQ(x:Bt)(a:L aV)(N:Int):AV:=.agg [.dc (ci x.cl),.dc (ci x.tb),.dc (ci x.mi),.dc (ci x.lg),.dc (ci x.lc),.dc (ci x.se),.dc (.slc (a.map aV.e)),.dc (ci N)]
theorem Yf{B:aN}(s:L Int)(g:s.length<=200000)(x:Bt)(b:L aV)(N:Int)(j:rW b)(k a c:Nat)(n:k<=1000)(d:2*k+1<(rY b).length)(l:(rY b).getD (2*k) 0=a)(m:(rY b).getD (2*k+1) 0=c)(e:a*256+256<=s.length)(f:c*256+256<=s.length):EV G (Tb B) 24 [sv s,vwQ x b N,vi k] []=some (sv (kI s a c),[]):=by
 have t:=Cd (G:=G) (B:=B) b j;have q:=aA6 (G:=G) (B:=B) s a e g;have r:=aA6 (G:=G) (B:=B) s c f g;generalize rY b=C at *;have h:C[2*k]?=some (a:Int):=by rw[<- l,bW C (2*k) (by omega),aZi (by omega)]
 have i:C[2*k+1]?=some (c:Int):=by rw[<- m,bW C (2*k+1) d,aZi d]
 have o:(2*(k:Int)).toNat=2*k:=by omega
 have p:(2*(k:Int)+1).toNat=2*k+1:=by omega
 have v:(2*(k:Int))<C.length:=by omega
 have w:(2*(k:Int)+1)<C.length:=by omega
 have u:2*k<C.length:=by omega
 unfold kI;have y:(Fl s a).length=256:=Bb e;have z:(Fl s c).length=256:=Bb f;generalize Fl s a=U at *;generalize Fl s c=W at *;refine aA rfl ?_;simp (maxSteps:=2000000) (disch:=first|omega|(simp only[aZa,aZb,aZc,aY9,aB,aZg,aZd,aZh,aC,aP,lH,lf]<;>omega)|fail) only[go_sem,h24c,t,q,r,aC,aY9,tX,o,p,v,w,u,d,h,i]
theorem aID(s:L Int)(a:aH s)(d:s.length<=200000)(n:Int):EV G (T5 G bb) 22 [sv s,vi n] []=some (vi (Fm s n),[]):=by
 have o:=Ye (G:=G) (bb:=bb) s a d;unfold Fm;unfold vwV at o;by_cases h:nX s=0;rw[if_pos h] at o;rw[if_neg (not_not_intro h)];have w:=t5 (b:=bb) (bQ (G:=G) (B:=dX G bb) n 0 ((qO s:Int)-1));generalize decide (0<=n/\n<=(qO s:Int)-1)=W at *;have f:qO s<=1000:=by
  obtain⟨_,_,c⟩:=jJ a h;have:=c.ln;unfold qO;omega
 generalize qO s=e at *;refine aA rfl ?_;cases W;simp (maxSteps:=2000000) (disch:=omega) only[go_sem,h22c,o,w,fE];simp (maxSteps:=2000000) (disch:=omega) only[go_sem,h22c,o,w,eB];rw[if_neg h] at o;rw[if_pos h];refine aA rfl ?_;simp (maxSteps:=2000000) (disch:=omega) only[go_sem,h22c,o,h]
theorem aVS{s:L Int}(b:aH s)(h:nX s=0):rW (lI s).rs/\cF (lI s).rs<=4096/\∀q∈(lI s).rs,(-1<=q.s/\q.s<=1000)/\(0<=q.n/\q.n<=4096):=by
 obtain⟨e,_,_⟩:=jJ b h;obtain⟨f,c,h3,_⟩:=X0 e;obtain⟨d,a⟩:=Kw b c h3;exact Be (qZ d a)
end
section
variable {G:aE}{bb:Bool}
theorem aIE(s:L Int)(x:Bt)(C:L Int)(k:Nat):Qu s x C k=if (cE (By s C k)).2.2≠0/\k<4/\(cE (miB s x k)).2.2=0 then cE (miB s x k) else cE (By s C k):=by
 unfold Qu Qt;change (if (cE (By s C k)).2.2=0 then cE (By s C k) else if (cE (if k<4 then miB s x k else By s C k)).2.2=0 then cE (if k<4 then miB s x k else By s C k) else cE (By s C k))=_
 by_cases c:(cE (By s C k)).2.2=0;rw[if_pos c,if_neg (fun h=>h.1 c)]
 rw[if_neg c];by_cases h4:k<4;rw[if_pos h4];by_cases d:(cE (miB s x k)).2.2=0;rw[if_pos d,if_pos ⟨c,h4,d⟩];rw[if_neg d,if_neg (fun h=>d h.2.2)]
 rw[if_neg h4,if_neg c,if_neg (fun h=>h4 h.2.1)]
end
section
variable {G:aE}{bb:Bool}
theorem aA9{s t:L Int}{a b n:Nat}(d:a+t.length<=s.length)(h:b+n<=a\/a+t.length<=b):((gI s a t).drop b).take n=(s.drop b).take n:=by
 have c:(s.take a).length=a:=by rw[aZd];omega
 unfold gI;rcases h with h|h
 rw[aZr,List.drop_append_of_le_length (by omega),bAs (by rw[aZh];omega),bAn,List.take_take,bAA (by omega)];rw[List.drop_append,List.drop_eq_nil_of_le (by rw[aZa];omega),aZn,aZa,c,aZ6];congr 2;omega
theorem aBa{s t:L Int}{a:Nat}(f:64<=a)(g:a+t.length+64<=s.length):aX (gI s a t)=aX s:=by
 have e:(gI s a t).length=s.length:=cR (by omega);have c:(gI s a t).take 64=s.take 64:=by
  have:=aA9 (s:=s) (t:=t) (a:=a) (b:=0) (n:=64) (by omega) (.inl (by omega));simpa using this
 have d:(gI s a t).drop (s.length-64)=s.drop (s.length-64):=by
  have:=aA9 (s:=s) (t:=t) (a:=a) (b:=s.length-64) (n:=64) (by omega) (.inr (by omega));rw[aZI (by rw[aZh];omega),aZI (by rw[aZh];omega)] at this;exact this
 unfold aX uA;rw[e,c,d]
theorem aIF{C:L Int}(c:C.Nodup){i j:Nat}(a:i<C.length)(b:j<C.length)(h:i≠j):C.getD i 0≠C.getD j 0:=by
 rw[bW C i a,bW C j b];intro e;exact h ((List.getElem_inj c).1 e)
end
section
theorem Tok.mem{x:Bt}{N:Nat}{C:L Int}(h:Tok x N C){k:Nat}(a:k<C.length):¬ (x.mi<=C.getD k 0/\C.getD k 0<=x.mi+7):=by
 rw[bW C k a];exact h.mi _ (aZk a)
theorem Qp{s:L Int}{x:Bt}{C:L Int}(a:Tok x s.length C){n:Nat}(t:n<C.length / 2){b:L Int}(f:b.length=512)(c:Nat)(h:(c:Int)≠C.getD (2*n) 0)(i:(c:Int)≠C.getD (2*n+1) 0)(j:n<4->c≠x.mi.toNat+2*n/\c≠x.mi.toNat+2*n+1):Fl (Fq s x C n b) c=Fl s c:=by
 obtain⟨p,hp,u,v,_⟩:=a.at (k:=2*n) (by omega);obtain⟨q,g,w,y,_⟩:=a.at (k:=2*n+1) (by omega);have m:=a.b.cl;have o:=a.b.n;have r:=a.b.mi;rw[hp] at h;rw[g] at i;unfold Fq;rw[hp,g,aZy,aZy];have e:=iO (l:=s) (b:=b) (n0:=p) (n1:=q) f (by omega) (by omega);have d:=jK (l:=s) f p q c (by omega) (by omega);rw[if_neg (by omega),if_neg (by omega)] at d;by_cases h4:n<4;have:=j h4;rw[if_pos h4,jK f _ _ c (by omega) (by omega),if_neg (by omega),if_neg (by omega),d];rw[if_neg h4,d]
theorem aVT{s:L Int}{x:Bt}{C:L Int}(a:Tok x s.length C){n:Nat}(w:n<C.length / 2){b:L Int}(c:b.length=512):By (Fq s x C n b) C n=b/\(n<4->miB (Fq s x C n b) x n=b):=by
 obtain⟨p,hp,y,z,_⟩:=a.at (k:=2*n) (by omega);obtain⟨q,g,A,D,_⟩:=a.at (k:=2*n+1) (by omega);have t:=a.b.cl;have u:=a.b.n;have v:=a.b.mi;have m:=a.mem (k:=2*n) (by omega);have o:=a.mem (k:=2*n+1) (by omega);have r:=aIF a.nd (i:=2*n) (j:=2*n+1) (by omega) (by omega) (by omega);rw[hp] at m;rw[g] at o;rw[hp,g] at r;have e:=iO (l:=s) (b:=b) (n0:=p) (n1:=q) c (by omega) (by omega);have d:=jK (l:=s) c p q p (by omega) (by omega);have f:=jK (l:=s) c p q q (by omega) (by omega);rw[if_neg (by omega),if_pos rfl] at d;rw[if_pos rfl] at f;unfold Fq By miB kI;rw[hp,g,aZy,aZy];by_cases h4:n<4;rw[if_pos h4,jK c _ _ p (by omega) (by omega),if_neg (by omega),if_neg (by omega),jK c _ _ q (by omega) (by omega),if_neg (by omega),if_neg (by omega),d,f,bAc];refine⟨rfl,fun _=>?_⟩
 have:=Hr (l:=fU s b p q) c (x.mi.toNat+2*n) (by omega);unfold kI at this;exact this;rw[if_neg h4,d,f,bAc];exact⟨rfl,fun h=>absurd h h4⟩
theorem aNU{s:L Int}{x:Bt}{C:L Int}(a:Tok x s.length C){n:Nat}(d:n<C.length / 2){b:L Int}(c:b.length=512){i:Nat}(t:i<C.length / 2)(h:i≠n):By (Fq s x C n b) C i=By s C i:=by
 obtain⟨p,hp,u,v,_⟩:=a.at (k:=2*i) (by omega);obtain⟨q,l,w,y,_⟩:=a.at (k:=2*i+1) (by omega);have r:=a.b.mi;have m:=a.mem (k:=2*i) (by omega);have o:=a.mem (k:=2*i+1) (by omega);have n1:=aIF a.nd (i:=2*i) (j:=2*n) (by omega) (by omega) (by omega);have e:=aIF a.nd (i:=2*i) (j:=2*n+1) (by omega) (by omega) (by omega);have f:=aIF a.nd (i:=2*i+1) (j:=2*n) (by omega) (by omega) (by omega);have g:=aIF a.nd (i:=2*i+1) (j:=2*n+1) (by omega) (by omega) (by omega);unfold By kI;rw[hp] at m n1 e ⊢;rw[l] at o f g ⊢;rw[aZy,aZy,Qp a d c p n1 e (by omega),Qp a d c q f g (by omega)]
theorem aNV{s:L Int}{x:Bt}{C:L Int}(a:Tok x s.length C){n:Nat}(d:n<C.length / 2){b:L Int}(c:b.length=512){i:Nat}(g:i<4)(e:i≠n):miB (Fq s x C n b) x i=miB s x i:=by
 have f:=a.b.mi;have h:=a.mem (k:=2*n) (by omega);have j:=a.mem (k:=2*n+1) (by omega);unfold miB kI;rw[Qp a d c _ (by omega) (by omega) (by omega),Qp a d c _ (by omega) (by omega) (by omega)]
theorem Vg{l b:L Int}{n0 n1:Nat}(d:b.length=512)(a:1<=n0/\n0*256+512<=l.length)(c:1<=n1/\n1*256+512<=l.length):aX (fU l b n0 n1)=aX l:=by
 have e:(gI l (n0*256) (b.take 256)).length=l.length:=cR (by rw[aZd];omega);unfold fU;rw[aBa (by omega) (by rw[aZh];omega),aBa (by omega) (by rw[aZd];omega)]
theorem aIG{s:L Int}{x:Bt}{C:L Int}(a:Tok x s.length C){n:Nat}(j:n<C.length / 2){b:L Int}(c:b.length=512):aX (Fq s x C n b)=aX s:=by
 obtain⟨p,hp,m,o,r⟩:=a.at (k:=2*n) (by omega);obtain⟨q,f,t,u,v⟩:=a.at (k:=2*n+1) (by omega);have g:=a.b.cl;have h:=a.b.n;have i:=a.b.mi;unfold Fq;rw[hp,f,aZy,aZy];have e:=iO (l:=s) (b:=b) (n0:=p) (n1:=q) c (by omega) (by omega);have d:=Vg (l:=s) (b:=b) (n0:=p) (n1:=q) c (by omega) (by omega);split;rw[Vg c (by omega) (by omega),d];exact d
theorem aM8{s D:L Int}(e:aX D=aX s)(d:kY D=kY s):lI D=lI s/\iZ D=iZ s/\nX D=nX s/\∀n,Fm D n=Fm s n:=by
 have a:lI D=lI s:=by unfold lI;rw[d]
 have b:iZ D=iZ s:=by unfold iZ;rw[a]
 have c:nX D=nX s:=by
  unfold nX nE Lt;rw[e,d,a,b]
 refine⟨a,b,c,fun n=>?_⟩
 unfold Fm qO;rw[c,b]
theorem aVU{s:L Int}(o:aH s)(h:nX s=0){n:Nat}(c:n<qO s)(r:n≠0){b:L Int}(f:b.length=512):kY (Fq s (aX s).1 (iZ s) n b)=kY s:=by
 obtain⟨_,_,a⟩:=jJ o h;unfold qO at c;have p:=a.ln;have g:=a.h0;have q:=a.b.tb;have e:=aIG a c f;have l:=aNU a c f (i:=0) (by omega) (by omega);have j:=aNV a c f (i:=0) (by omega) (by omega);have k:∀ d,Ku d (aX s).1=By d (iZ s) 0:=fun d=>by
  unfold Ku By;rw[show 2 * 0=0 from rfl,g.1,show 0+1=1 from rfl,g.2,show ((aX s).1.tb+1).toNat=(aX s).1.tb.toNat+1 by omega]
 have m:∀d,Nq d (aX s).1=miB d (aX s).1 0:=fun d=>rfl
 unfold kY;rw[e,k,k,m,m,l,j]
theorem aVV{s:L Int}(l:aH s){n:Int}(h:Fm s n=0)(t:n≠0){b:L Int}(f:b.length=512){r:cI}{u:Int}(o:cE b=(r,u,0))(i:Int):U7 (Fq s (aX s).1 (iZ s) n.toNat b) i=if i=n then (r,u,0) else U7 s i:=by
 obtain⟨k,v,h3⟩:=Ky h;obtain⟨_,_,g⟩:=jJ l k;have w:qO s=(iZ s).length / 2:=rfl;have e:=aIG g (n:=n.toNat) (by omega) f;obtain⟨_,m,_,j⟩:=aM8 e (aVU l k h3 (by omega) f);unfold U7;rw[j,m,e];by_cases a:Fm s i=0;obtain⟨_,x,y⟩:=Ky a;rw[if_pos a,if_pos a];by_cases c:i=n;rw[if_pos c,c];obtain⟨p,_⟩:=aVT g (n:=n.toNat) (by omega) f;rw[aIE,p,o,if_neg (by simp)];rw[if_neg c,aIE,aIE,aNU g (by omega) f (i:=i.toNat) (by omega) (by omega)];by_cases h4:i.toNat<4;rw[aNV g (by omega) f h4 (by omega)];have z:∀d,¬ ((cE (By s (iZ s) i.toNat)).2.2≠0/\i.toNat<4/\(cE (miB d (aX s).1 i.toNat)).2.2=0):=fun d q=>h4 q.2.1
 rw[if_neg (z _),if_neg (z _)];rw[if_neg a,if_neg a,if_neg (fun c=>a (by rw[c];exact h))]
end
section
variable {G:aE}{bb:Bool}
noncomputable def T1(f:FuncId)(h:HF)(C:aN):HT:=⟨fun g=>if g=f then some h else none,C⟩
theorem t1{f0:FuncId}{b:HF}{T:HT}{f:FuncId}{a:L AV}{hp:L aD}{r:AV×L aD}(h:EV G T f a hp=some r)(c:f≠f0:=by decide):EV G (T1 f0 b (EV G T)) f a hp=some r:=jO (by show (if f=f0 then some b else none)=none;exact if_neg c) h
end
section
variable {G:aE}{bb:Bool}
theorem aM9{l b:L Int}{m:Nat}(c:b.length=512)(h:m*256+512<=l.length):gI l (m*256) b=fU l b m (m+1):=by
 have a:(l.take (m*256)++b.take 256).length=(m+1)*256:=by rw[aZa,aZd,aZd];omega
 have d:(b.take 256).length=256:=by rw[aZd];omega
 have e:(b.drop 256).length=256:=by rw[aZh];omega
 have t1:(l.take (m*256)++b.take 256++l.drop (m*256+256)).take ((m+1)*256)=l.take (m*256)++b.take 256:=bAo a;have f:(l.take (m*256)++b.take 256++l.drop (m*256+256)).drop ((m+1)*256+256)=l.drop (m*256+512):=by
  rw[List.drop_append,List.drop_eq_nil_of_le (by rw[a];omega),aZn,a,aZ6];congr 1;omega
 unfold fU gI;rw[d,e,c,t1,f,aZr (l.take (m*256)) (b.take 256) (b.drop 256),bAc]
theorem Vh{B:aN}(s:L Int)(R:s.length<=200000)(x:Bt)(c:L aV)(N:Int)(F:rW c)(d:Tok x s.length (rY c))(k:Nat)(Q:k<(rY c).length / 2)(b:L Int)(g:b.length=512):EV G (Tb B) 26 [sv s,vwQ x c N,vi k,sv b] []=some (sv (Fq s x (rY c) k b),[]):=by
 have r:=Cd (G:=G) (B:=B) c F;obtain⟨p,hp,U,V,_⟩:=d.at (k:=2*k) (by omega);obtain⟨q,l,W,X,_⟩:=d.at (k:=2*k+1) (by omega);have J:=d.b.cl;have K:=d.b.n;have M:=d.b.mi;have H:=d.ln;have S:(b.take 256).length=256:=by rw[aZd];omega
 have T:(b.drop 256).length=256:=by rw[aZh];omega
 have h:=Ko (G:=G) (B:=B) s (b.take 256) (p*256) (by omega) (by omega);have O:(gI s (p*256) (b.take 256)).length=s.length:=cR (by omega);have e:=Ko (G:=G) (B:=B) (gI s (p*256) (b.take 256)) (b.drop 256) (q*256) (by omega) (by omega);have P:(fU s b p q).length=s.length:=iO g (by omega) (by omega);have f:=fun h4:k<4=>Ko (G:=G) (B:=B) (fU s b p q) b ((x.mi.toNat+2*k)*256) (by omega) (by omega)
 change EV G _ _ _ _=some (sv (fU s b p q),[]) at e
 unfold Fq;rw[hp,l,aZy,aZy];generalize rY c=C at *;have i:C[2*k]?=some (p:Int):=by rw[<- hp,bW C (2*k) (by omega),aZi (by omega)]
 have j:C[2*k+1]?=some (q:Int):=by rw[<- l,bW C (2*k+1) (by omega),aZi (by omega)]
 have m:(2*(k:Int)).toNat=2*k:=by omega
 have o:(2*(k:Int)+1).toNat=2*k+1:=by omega
 have w:(2*(k:Int))<C.length:=by omega
 have y:(2*(k:Int)+1)<C.length:=by omega
 have u:2*k<C.length:=by omega
 have v:2*k+1<C.length:=by omega
 have D:((p*256:Nat):Int)=(p:Int)*256:=by omega
 have E:((q*256:Nat):Int)=(q:Int)*256:=by omega
 rw[D] at h;rw[E] at e;have t5:b.take 512=b:=aZI (by omega);have t:(256:Int).toNat=256:=rfl;by_cases h4:k<4
 ·have f:=f h4;rw[show (((x.mi.toNat+2*k)*256:Nat):Int)=(x.mi+2*k)*256 by omega,aM9 g (by omega)] at f;have a:(k:Int)<4:=by omega
  rw[if_pos h4];generalize fU (fU s b p q) b (x.mi.toNat+2*k) (x.mi.toNat+2*k+1)=I at *;generalize fU s b p q=A at *;generalize gI s (p*256) (b.take 256)=z at *;refine aA rfl ?_;simp (maxSteps:=2000000) (disch:=first|omega|(simp only[aZa,aZb,aZc,aY9,aB,aZg,aZd,aZh,aC,aP,lH,lf]<;>omega)|fail) only[go_sem,h26c,r,h,e,f,g,a,aC,aY9,tX,m,o,w,y,u,v,i,j,t5,t]
  try rfl
 ·have a:¬ (k:Int)<4:=by omega
  rw[if_neg h4];generalize fU s b p q=A at *;generalize gI s (p*256) (b.take 256)=z at *;refine aA rfl ?_;simp (maxSteps:=2000000) (disch:=first|omega|(simp only[aZa,aZb,aZc,aY9,aB,aZg,aZd,aZh,aC,aP,lH,lf]<;>omega)|fail) only[go_sem,h26c,r,h,e,g,a,aC,aY9,tX,m,o,w,y,u,v,i,j,t5,t]
  try rfl
noncomputable abbrev TWr(G:aE)(b:Bool):HT:=T1 9 h9 (EV G (T5 G b))
theorem aRF{b:Bool}:Ow Tryz.prog (TWr G b):=by
 intro f h hf;change (if f=9 then some h9 else none)=some h at hf
 split at hf;rename_i e;subst e;injection hf with hf;subst hf;exact⟨by kernel_rfl,_,Tryz.func9,Tryz.ntmps9,h9_ok,aSP⟩
 cases hf
theorem tw{b:Bool}{f:FuncId}{a:L AV}{hp:L aD}{r:AV×L aD}(h:EV G (T5 G b) f a hp=some r)(c:f≠9:=by decide):EV G (TWr G b) f a hp=some r:=t1 h c
theorem aIH(s:L Int)(m:aH s)(y:s.length<=200000)(n:Int)(r:cI)(q:r.W):EV G (TWr G bb) 9 [sv s,vi n,r.v] []=some (bkv (wtV s n r),[]):=by
 have i:=tw (aID (G:=G) (bb:=bb) s m y n);have j:=tw (t5 (upS (P5 (G:=G) (bb:=bb) r q)));unfold wtV;by_cases h:Fm s n=0
 rotate_left
 ·rw[if_pos h];refine aA (h:=h9) rfl ?_;simp (maxSteps:=2000000) (disch:=omega) only[go_sem,h9c,i,h,aG];try rfl
 rw[if_neg (not_not_intro h)];rw[h] at i;obtain⟨E,h2,h3⟩:=Ky h;by_cases g:dR r=0
 rotate_left
 ·have e:Qw (By s (iZ s) n.toNat) r=([],dR r):=by unfold Qw;rw[if_pos g]
  rw[e];simp only;rw[if_pos g];refine aA (h:=h9) rfl ?_;simp (maxSteps:=2000000) (disch:=omega) only[go_sem,h9c,i,j,g,aG];try rfl
 rw[g] at j;have o:=tw (Ye (G:=G) (bb:=bb) s m y);have X:vwV s=(((aX s).1,(lI s).rs,(qO s:Int)),0):=by unfold vwV;rw[if_pos E]
 rw[X] at o;obtain⟨_,_,w⟩:=jJ m E;obtain⟨J,_,_⟩:=aVS m E;have Y:=w.ln;have hN:qO s=(iZ s).length / 2:=rfl;have V:((n.toNat:Nat):Int)=n:=by omega
 obtain⟨a,K,a1,a2,_⟩:=w.at (k:=2*n.toNat) (by omega);obtain⟨c,N,c1,c2,_⟩:=w.at (k:=2*n.toNat+1) (by omega);have t:=tw (t5 (b:=bb) (Yf (G:=G) (B:=dX G bb) s y (aX s).1 (lI s).rs (qO s) J n.toNat a c (by omega) (show _<(iZ s).length by omega) K N (by omega) (by omega)));have d:=fun b M=>tw (t5 (b:=bb) (Vh (G:=G) (B:=dX G bb) s y (aX s).1 (lI s).rs (qO s) J w n.toNat (show _<(iZ s).length / 2 by omega) b M))
 rw[V] at t d;have A:By s (iZ s) n.toNat=kI s a c:=by unfold By;rw[K,N];rfl
 rw[A];have p:aH (kI s a c):=kG m a c;have lb:(kI s a c).length=512:=Bc (by omega) (by omega);have z:=tw (t5 (upT (Hu (G:=G) (bb:=bb) (kI s a c) p (by omega))));have O:=tw (t5 (upT (aM4 (G:=G) (bb:=bb) (kI s a c) p (by omega) r q r.ls)));have C:=tw (t5 (upS (aA3 (G:=G) (bb:=bb) r q g 1 (by decide))));have f:=Qn (b:=kI s a c) (r:=r);change ∀b (M:b.length=512),EV G _ _ _ _=some (sv (Fq s (aX s).1 (iZ s) n.toNat b),[]) at d;unfold Qw at f ⊢;rw[if_neg (not_not_intro g)] at f ⊢;by_cases h5:(cE (kI s a c)).2.2=0;rw[if_neg (not_not_intro h5)] at f ⊢;by_cases h6:(Xo (kI s a c) r r.ls).2=0
 ·obtain⟨_,u,Z,U⟩:=f h6;obtain⟨_,l,_⟩:=lE q g Z;rw[<- U] at l;have d:=d _ l;rw[if_neg (not_not_intro h6)];generalize Xo (kI s a c) r r.ls=Q at *;generalize cE (kI s a c)=D at *;obtain⟨b,e⟩:=Q;obtain⟨P,S,I⟩:=D;simp only at h5 h6 d ⊢;subst h5 h6;generalize Fq s (aX s).1 (iZ s) n.toNat b=T at *;generalize kI s a c=F at *;generalize qO s=H at *;generalize (aX s).1=x at *;generalize (lI s).rs=R at *;refine aA (h:=h9) rfl ?_;simp (maxSteps:=2000000) (disch:=omega) only[go_sem,h9c,i,j,o,t,z,O,d,aZp,aZn];try rfl
 ·rw[if_pos h6];generalize Xo (kI s a c) r r.ls=Q at *;generalize cE (kI s a c)=D at *;obtain⟨b,e⟩:=Q;obtain⟨P,S,I⟩:=D;simp only at h5 h6 ⊢;subst h5;clear d;generalize kI s a c=F at *;generalize qO s=H at *;generalize (aX s).1=x at *;generalize (lI s).rs=R at *;refine aA (h:=h9) rfl ?_;simp (maxSteps:=2000000) (disch:=omega) only[go_sem,h9c,i,j,o,t,z,O,h6,aZp,aZn,aG];try rfl
 ·rw[if_pos h5];obtain⟨_,l,_⟩:=lE q g (u:=1) (by decide);have d:=d _ l;rw[if_neg (not_not_intro rfl)];generalize cE (kI s a c)=D at *;obtain⟨P,S,I⟩:=D;simp only at h5 ⊢;generalize kW r 1=b at *;generalize Fq s (aX s).1 (iZ s) n.toNat b=T at *;generalize kI s a c=F at *;generalize qO s=H at *;generalize (aX s).1=x at *;generalize (lI s).rs=R at *;refine aA (h:=h9) rfl ?_;simp (maxSteps:=2000000) (disch:=omega) only[go_sem,h9c,i,j,o,t,z,C,d,h5,aZp,aZn];try rfl
end
section
variable {G:aE}{bb:Bool}
end
section
variable {G:aE}{bb:Bool}
theorem aVW{s:L Int}(a:aH s)(n:Int):(U7 s n).1.W:=by
 unfold U7;by_cases h:Fm s n=0;rw[if_pos h];unfold Qu;refine (aH5 _ _ (kG a _ _) ?_).1;split;exact kG a _ _;exact kG a _ _;rw[if_neg h];exact cI.nil_W
end
section
variable {G:aE}{bb:Bool}
def Ek(a:aK):Bool:=decide (a.nm.length<=60)&&(decide (a.va.length<=500)&&decide (a.rs.length<=66))
def aII(r:cI):Bool:=decide (r.ats.length<=34)&&r.ats.all Ek
theorem aNa{a:aK}(h:Ek a=false):60<(a.nm.length:Int)\/500<(a.va.length:Int)\/66<(a.rs.length:Int):=by
 refine Classical.byContradiction fun q=>?_
 have e:Ek a=true:=by
  unfold Ek;rw[decide_eq_true (by omega),decide_eq_true (by omega),decide_eq_true (by omega)];rfl
 rw[h] at e;cases e
theorem aIJ{a:aK}(h:Ek a=true):¬ 60<(a.nm.length:Int)/\¬ 500<(a.va.length:Int)/\¬ 66<(a.rs.length:Int):=by
 simp only[Ek,aZq,decide_eq_true_eq] at h;omega
theorem aNb{B:aN}(r:cI)(t:r.ats.length<=9223372036854775807):EV G (Tb B) 6 [r.v] []=some (vb (aII r),[]):=by
 refine aA rfl ?_;unfold aII;by_cases c:r.ats.length<=34
 rotate_left
 ·have b:(34:Int)<r.ats.length:=by omega
  rw[decide_eq_false c];simp (maxSteps:=2000000) (disch:=omega) only[go_sem,h6c,aY9,eq_true b];try rfl
 rw[decide_eq_true c];have b:¬ (34:Int)<r.ats.length:=by omega
 simp (maxSteps:=2000000) (disch:=omega) only[go_sem,h6c,aY9,b];rw[dP (fun k=>⟨(jk 1 (.one (.ptr 0 0)::jk 1 (vi k::jk 33 []))),[.box r.c]⟩) (fun k=>Ek (r.ats.getD k aK.nil)=false) r.ats.length ?_ ?_]
 rotate_left
 rfl;intro k i j;have g:=j k (aZe _);rw[gB r.ats k i] at g;have m:Ek r.ats[k]=true:=by simpa using g
 obtain⟨n,o,p⟩:=aIJ m;simp (maxSteps:=2000000) (disch:=omega) only[go_sem,h6l0,aY9,ixA,aK.e,aC,n,o,p];have l:=aQk r.ats aK.nil Ek;obtain⟨i,hp,j⟩:=bI (fun k=>Ek (r.ats.getD k aK.nil)=false) r.ats.length
 generalize ix (fun k=>Ek (r.ats.getD k aK.nil)=false) r.ats.length=k at *
 rcases hp with rfl|⟨d,hp⟩
 ·rw[l.1 rfl];simp (maxSteps:=2000000) (disch:=omega) only[go_sem,h6l0,aY9];try rfl
 have e:r.ats.all Ek=false:=by
  cases h:r.ats.all Ek with
  |false=>rfl
  |true=>have:=l.2 h;omega
 rw[e];rw[gB r.ats k d] at hp;by_cases a:60<(r.ats[k].nm.length:Int)
 ·simp (maxSteps:=2000000) (disch:=omega) only[go_sem,h6l0,aY9,ixA,aK.e,aC,eq_true a];try rfl
 by_cases f:500<(r.ats[k].va.length:Int)
 ·simp (maxSteps:=2000000) (disch:=omega) only[go_sem,h6l0,aY9,ixA,aK.e,aC,a,eq_true f];try rfl
 ·have s:66<(r.ats[k].rs.length:Int):=by
   rcases aNa hp with q|q|q;exact absurd q a;exact absurd q f;exact q
  simp (maxSteps:=2000000) (disch:=omega) only[go_sem,h6l0,aY9,ixA,aK.e,aC,a,f,eq_true s];try rfl
theorem aRG{r:cI}(h:aII r=true)(c:∀a∈r.ats,aH a.nm/\aH a.va):r.W:=by
 simp only[aII,aZq,decide_eq_true_eq,bAr] at h;refine⟨fun a b=>?_,by omega⟩
 have d:=h.2 a b;simp only[Ek,aZq,decide_eq_true_eq] at d;exact⟨(c a b).1,(c a b).2,by omega,by omega,by omega⟩
noncomputable abbrev TLw(G:aE)(b:Bool):HT:=T1 3 h3 (EV G (TWr G b))
theorem aRH{b:Bool}:Ow Tryz.prog (TLw G b):=by
 intro f h hf;change (if f=3 then some h3 else none)=some h at hf
 split at hf;rename_i e;subst e;injection hf with hf;subst hf;exact⟨by kernel_rfl,_,Tryz.func3,Tryz.ntmps3,h3_ok,aSN⟩
 cases hf
theorem tlw{b:Bool}{f:FuncId}{a:L AV}{hp:L aD}{r:AV×L aD}(h:EV G (TWr G b) f a hp=some r)(c:f≠3:=by decide):EV G (TLw G b) f a hp=some r:=t1 h c
theorem tl5{b:Bool}{f:FuncId}{a:L AV}{hp:L aD}{r:AV×L aD}(h:EV G (T5 G b) f a hp=some r)(c:f≠3:=by decide)(d:f≠9:=by decide):EV G (TLw G b) f a hp=some r:=t1 (tw h d) c
abbrev vwL(x:Bt)(a:L aV)(N:Int):L aU:=[.dc (ci x.cl),.dc (ci x.tb),.dc (ci x.mi),.dc (ci x.lg),.dc (ci x.lc),.dc (ci x.se),.dc (.slc (a.map aV.e)),.dc (ci N)]
theorem aIK(E:G9 G)(g:EV G (T5 G bb) 4 [] []=some (vb true,[]))(s:L Int)(f:aH s)(n:Int)(r:cI)(Y:∀a∈r.ats,aH a.nm/\aH a.va)(F:r.ats.length<=9223372036854775807):EV G (TLw G bb) 3 [sv s,vi n,r.v] []=some (vb true,[]):=by
 have i:=tl5 (t5 (b:=bb) (aMp (G:=G) (B:=dX G bb) s));have j:=tl5 (t5 (b:=bb) (aNb (G:=G) (B:=dX G bb) r F));replace g:=tl5 g;by_cases h:s.length<=24576\/s.length % 256≠0/\s.length<=200000
 rotate_left
 rw[decide_eq_false h] at i;refine aA (h:=h3) rfl ?_;simp (maxSteps:=2000000) (disch:=omega) only[go_sem,h3c,g,i,aZz,aZF];rw[decide_eq_true h] at i;have w:s.length<=200000:=by omega
 cases hf:aII r with
 |false=>
  rw[hf] at j;refine aA (h:=h3) rfl ?_;simp (maxSteps:=2000000) (disch:=omega) only[go_sem,h3c,g,i,j,aZz,aZF]
 |true=>
 rw[hf] at j;have m:=aRG hf Y;have A:=tl5 (t5 (upS (Nh (G:=G) (bb:=bb) r m)));have y:=tl5 (t5 (Yd (bb:=bb) E s f w n r m));have d:=tlw (aIH (G:=G) (bb:=bb) s f w n r m);by_cases c:(wtV s n r).2=0
 rotate_left
 generalize wtV s n r=V at *;obtain⟨D,e⟩:=V;simp only at c;refine aA (h:=h3) rfl ?_;simp (maxSteps:=2000000) (disch:=omega) only[go_sem,h3c,g,i,j,A,y,d,c,aZz,aZF];by_cases z:n=0;subst z;generalize wtV s 0 r=V at *;obtain⟨D,e⟩:=V;simp only at c;subst c;refine aA (h:=h3) rfl ?_;simp (maxSteps:=2000000) (disch:=omega) only[go_sem,h3c,g,i,j,A,y,d,aZz,aZF]
 
 have t:Fm s n=0:=by
  refine Classical.byContradiction fun q=>?_
  unfold wtV at c;rw[if_pos q] at c;exact q c
 have J:(Qw (By s (iZ s) n.toNat) r).2=0:=by
  refine Classical.byContradiction fun q=>?_
  unfold wtV at c;rw[if_neg (not_not_intro t),if_pos q] at c;exact q c
 have S:wtV s n r=(Fq s (aX s).1 (iZ s) n.toNat (Qw (By s (iZ s) n.toNat) r).1,0):=by
  unfold wtV;rw[if_neg (not_not_intro t),if_neg (not_not_intro J)]
 obtain⟨re,u,Z,T⟩:=Qn J;obtain⟨K,C,M⟩:=lE m re Z;rw[<- T] at K C M;obtain⟨O,o2,o3⟩:=Ky t;obtain⟨_,_,N⟩:=jJ f O;have hN:qO s=(iZ s).length / 2:=rfl;obtain⟨l1,l2⟩:=aIy f N (n:=n.toNat) (by omega) C M;have rr:=aVV f t z C K;rw[S] at y d;generalize (Qw (By s (iZ s) n.toNat) r).1=b at *;generalize Fq s (aX s).1 (iZ s) n.toNat b=D at *;have rd:=fun k:Nat=>tl5 (t5 (Fn (bb:=bb) E s f w (k:Int)))
 have H:=fun k:Nat=>tl5 (t5 (Fn (bb:=bb) E D l2 (by omega) (k:Int)))
 have sr:=fun k:Nat=>tl5 (t5 (upS (Ng (G:=G) (bb:=bb) (U7 s k).1 (aVW f k))))
 have I:=tl5 (t5 (upS (Ng (G:=G) (bb:=bb) r m)));have o:=tl5 (Ye (G:=G) (bb:=bb) s f w);have U:vwV s=(((aX s).1,(lI s).rs,(qO s:Int)),0):=by unfold vwV;rw[if_pos O]
 rw[U] at o;have X:=N.ln;have W:qO s<=1000:=by omega
 generalize qO s=NN at *;generalize (aX s).1=x at *;generalize (lI s).rs=rs at *;refine aA (h:=h3) rfl ?_;simp (maxSteps:=2000000) (disch:=omega) only[go_sem,h3c,g,i,j,A,y,d,z,o,aZz,aZF];rw[aQ (fun k=>⟨(sv s::vi n::jk 3 (.one (.ptr 0 0)::jk 1 (sv D::jk 3 (.one (.ptr 1 0)::jk 1 (vi k::jk 96 []))))),[.box r.c,.box (vwL x rs NN)]⟩) NN ?_ ?_]
 ·simp (maxSteps:=2000000) (disch:=omega) only[go_sem,h3l0];try rfl
 rfl;intro k hk;have p:(k:Int)<NN:=by omega
 have P:=rd k;have l:=H k;have Q:=sr k;rw[rr] at l;by_cases q:(k:Int)=n
 ·rw[if_pos q] at l;simp (maxSteps:=2000000) (disch:=omega) only[go_sem,h3l0,p,l,I,eq_true q,aZp,aZn,aZz];try rfl
 ·rw[if_neg q] at l;generalize U7 s k=R at *;obtain⟨r9,u9,e9⟩:=R;simp (maxSteps:=2000000) (disch:=omega) only[go_sem,h3l0,p,P,l,Q,q,aZp,aZn,aZz];try rfl
end
section
variable {G:aE}{B:aN}
theorem aIL{G:aE}{b:Bool}(d:b=true->QC Tryz.prog G 4 [] (.one (.dc (.raw (.bool true))))):cJ Tryz.prog G (EV G (TWr G b)):=by
 intro f a hp av i h c e;obtain⟨n,g⟩:=iH h;exact nN aRF (aM7 d) n f a hp av i g c e
theorem qcW{f:FuncId}{a:L AV}{r:AV}(h:EV GF (TLw GF true) f a []=some (r,[])):QC Tryz.prog GF f a r:=Zy aRH (aIL fun _=>aDi aVM) h
theorem aXR{G:aE}:EV G (T5 G true) 4 [] []=some (vb true,[]):=t5 aVO
