/- Part. Conditions: none. -/
import Derived.Test.YtalhnjjchkmfeabGreatDoorQp
import Derived.Test.YtalhnjjchkmfeabGreatDoorSg
import Derived.Test.YtalhnjjchkmfeabGreatDoorPa
import Derived.Test.YtalhnjjchkmfeabGreatDoorMb
import Derived.OpenShut
namespace Go.Proofs.YtalhnjjchkmfeabGreatDoor
set_option maxHeartbeats 8000000
set_option linter.unusedSimpArgs false
set_option linter.unusedVariables false
set_option maxRecDepth 4000
section
variable {G:aE}{bb:Bool}
theorem aAO{q:aV}(h:0<=q.s/\1<=q.n/\q.s+q.n<=512):(nC [q]).2=0:=by
 have r:bR q.s q.n=0:=by
  unfold bR;rw[if_neg (by omega),if_pos (by omega),if_pos (by omega)]
 have f:q.fresh U0=true:=by
  have:=Dm [] q (fun _ h=>(by cases h)) r
  exact this
 have e:nO none U0 q=0:=by
  unfold nO;rw[r,if_neg (by decide),if_neg (by simp),if_pos f]
 unfold nC;rw[if_neg (by simp)];unfold uD;rw[e,if_neg (by decide)];unfold uD;show (if cF [q]<=4096 then (0:Int) else 8)=0
 rw[if_pos];simp[cF];omega
def sS:aK:=⟨16,[],0,0,true,zl 16,0,[],0,0,0⟩
def qK(l:L aV):aK:=⟨128,[],0,0,false,[],0,l,cF l*256,cF l*256,cF l*256⟩
theorem aAP:sS.W:=⟨fun x h=>(by cases h),A6 16,by decide,by decide,by decide⟩
theorem aIa{l:L aV}(h:l.length<=100000):(qK l).W:=⟨fun x h=>(by cases h),fun x h=>(by cases h),aZx _,aZx _,h⟩
theorem aIb:O9 []=true:=by unfold O9;exact decide_eq_true (.inl rfl)
theorem Qg:(fJ sS).length<=40:=by
 unfold fJ;split;rename_i h;rw[nU sS (mJ aAP h).bd];decide;exact aZx _
theorem aRk{i:Int}(h:0<=i/\i<=100):iL (cL sS i)=0:=by
 unfold iL;rw[if_neg (by simp[cL,sS,Mr]),if_neg (by show ¬ O9 []=false;rw[aIb];decide),if_neg (by simp only[cL,sS];omega)];have e:uF (cL sS i)=0:=rfl;have z:fA (cL sS i)=40:=by unfold fA cZ tH rG;simp[cL,sS,zl]
 rw[e,if_neg (by decide),z,if_neg (by decide)]
theorem aIc{q:aV}(h:(nC [q]).2=0)(i:Int):fA (cL (qK [q]) i)<=48:=by
 have b:(rG (cL (qK [q]) i)).length<=6:=by
  show (if false=true then _ else (Ca [q]).1).length<=6
  rw[if_neg (by decide)];unfold Ca;rw[Mn,h,if_neg (by decide)];show ((jR [q]).1++[0]).length<=6;have:=S7 0 q;rw[Fb,dQ,dQ,aZ9,aZa];show _+1<=6;omega
 unfold fA;have a:cZ (cL (qK [q]) i)=40:=by unfold cZ tH;simp[cL,qK]
 rw[a];omega
theorem X4{q:aV}(h:0<=q.s/\1<=q.n/\q.s+q.n<=512){i:Int}(l:0<=i/\i<=100):iL (cL (qK [q]) i)=0:=by
 have b:=aAO h;have d:cF [q]=q.n:=by simp[cF]
 have j:gP [q]=q.n:=by rw[W9 b,d]
 have o:=aIc b i;unfold iL;rw[if_neg (by simp[cL,qK,Mr]),if_neg (by show ¬ O9 []=false;rw[aIb];decide),if_neg (by simp only[cL,qK];omega)];have e:uF (cL (qK [q]) i)=0:=by
  show (if false=true then _ else Jp (cL (qK [q]) i))=0
  rw[if_neg (by decide)];have c:(cL (qK [q]) i).al=q.n*256:=by show cF [q]*256=_;rw[d]
  have f:(cL (qK [q]) i).sz=q.n*256:=c;have g:(cL (qK [q]) i).vd=q.n*256:=c;have a:(cL (qK [q]) i).fi=0:=rfl;have k:gP (cL (qK [q]) i).rs=q.n:=j;unfold Jp;rw[if_neg (by simp[cL,qK,Gu]),if_neg (by simp[cL,qK]),if_neg (by rw[a];decide),if_neg (not_not_intro (show (nC (cL (qK [q]) i).rs).2=0 from b)),if_neg (by rw[a];simp),if_neg (by rw[a,k];omega),if_neg (by rw[a];simp),if_neg (by rw[c,f,g];omega),if_neg (by rw[f,g];omega)]
 rw[e,if_neg (by decide),if_neg (by omega)]
theorem aAQ{q:aV}(h:0<=q.s/\1<=q.n/\q.s+q.n<=512){i:Int}(b:0<=i/\i<=100):(fJ (cL (qK [q]) i)).length<=48:=by
 have a:=X4 h b;unfold fJ;rw[if_pos a,nU _ (mJ (P6 (aIa (by simp))) a).bd];exact aIc (aAO h) i
theorem U9{r:cI}(h:r.ats=[]):dR r=T9 r:=by
 unfold dR qN;have c:(oD r.ats).2=0:=by
  unfold oD;rw[h];rw[if_neg (by decide)];rw[if_neg (by simp)]
 have d:¬ 0<=Nb r:=by
  have:Nb r<0:=J9.2 (fun a b=>by rw[h] at b;cases b)
  omega
 have h3:dE r.ats=0:=by rw[h];rfl
 by_cases q:T9 r=0;rw[if_neg (not_not_intro q),if_neg (not_not_intro c),if_neg d,h3,q];rfl;rw[if_pos q]
def r00(a:Int):cI:=⟨1,1,a,0,0,0,0,[]⟩
theorem aRl{a:Int}(h:a=1\/a=3):dR (r00 a)=0:=by
 rw[U9 rfl];rcases h with rfl|rfl<;>rfl
theorem aVG(b:Int):(r00 b).W:=⟨fun a h=>(by cases h),aZx _⟩
def Hq(a:Int):cI:=⟨1,1,a,0,0,1,0,[sS]⟩
def K9(a:Int)(q:aV):cI:=⟨1,1,a,0,0,2,0,[sS,cL (qK [q]) 1]⟩
theorem aAR{l:L aK}(h:l.length<=32)(b:∀k,k<l.length->mQ l k=0):oD l=(0,0):=by
 unfold oD;rw[if_neg (by omega)];obtain⟨c,hp,_⟩:=bI (fun k=>mQ l k≠0) l.length
 rcases hp with hp|⟨a,hp⟩;rw[if_neg (by omega)]
 exact absurd (b _ a) hp
theorem aAS{r:cI}(b:T9 r=0)(c:oD r.ats=(0,0))(d:∀a∈r.ats,a.id<r.nx)(h3:dE r.ats<=440):dR r=0:=by
 have g:Nb r<0:=J9.2 (fun a e=>by have:=d a e;simp;omega)
 unfold dR qN;rw[if_neg (not_not_intro b),c,if_neg (by simp),if_neg (by omega),decide_eq_true h3];rfl
theorem Va:iL sS=0:=aRk (i:=0) (by decide)
theorem aDf{l:L aK}(k:Nat)(e:k<l.length)(d:iL l[k]=0)(c:∀a∈l.take k,a.id≠l[k].id):rH l k=0:=by
 unfold rH Tq;rw[gB l k e,d];have:((l.take k).any fun a=>decide (a.id=l[k].id))=false:=by
  rw[bAm];intro a b;simpa using c a b
 rw[this];rfl
theorem Qh{b:Int}(h:b=1\/b=3):dR (Hq b)=0/\(Hq b).W/\dE (Hq b).ats<=40:=by
 have n:dE (Hq b).ats<=40:=by
  have:=Qg;show dE [sS]<=40;simp only[dE,aZl,aZm,List.sum_cons,List.sum_nil];omega
 refine⟨aAS (by rcases h with rfl|rfl<;>rfl) (aAR (by show (1:Nat)<=32;decide) ?_) ?_ (by omega),⟨fun a c=>?_,by show (1:Nat)<=900;decide⟩,n⟩
 intro k d;have:k=0:=by have:(Hq b).ats.length=1:=rfl;omega
 subst this;unfold mQ;rw[if_pos rfl];exact aDf 0 d Va (fun a c=>by cases c)
 intro a c;have:a=sS:=by simpa[Hq] using c
 rw[this];show (0:Int)<1;decide;have:a=sS:=by simpa[Hq] using c
 rw[this];exact aAP
theorem X5{c:Int}(h:c=1\/c=3){q:aV}(f:0<=q.s/\1<=q.n/\q.s+q.n<=512):dR (K9 c q)=0/\(K9 c q).W:=by
 have g:=X4 f (i:=1) (by decide);have n:dE (K9 c q).ats<=440:=by
  have j:=Qg;have l:=aAQ f (i:=1) (by decide);show dE [sS,cL (qK [q]) 1]<=440;simp only[dE,aZl,aZm,List.sum_cons,List.sum_nil];omega
 refine⟨aAS (by rcases h with rfl|rfl<;>rfl) (aAR (by show (2:Nat)<=32;decide) ?_) ?_ n,⟨fun a b=>?_,by show (2:Nat)<=900;decide⟩⟩
 intro k d;have o:(K9 c q).ats.length=2:=rfl;rcases (show k=0\/k=1 by omega) with rfl|rfl
 unfold mQ;rw[if_pos rfl];exact aDf 0 d Va (fun a b=>by cases b)
 unfold mQ;rw[if_neg (by decide),aDf 1 d g (fun a b=>by
  have:a=sS:=by simpa[K9] using b
  rw[this];show (0:Int)≠1
  decide)]
 rfl;intro a b;have:a=sS\/a=cL (qK [q]) 1:=by simpa[K9] using b
 rcases this with e|e;rw[e];show (0:Int)<2;decide;rw[e];show (1:Int)<2;decide;have:a=sS\/a=cL (qK [q]) 1:=by simpa[K9] using b
 rcases this with e|e;rw[e];exact aAP;rw[e];exact P6 (aIa (by simp))
theorem aAT{a:Int}{q:aV}{b:aK}:b∈(K9 a q).ats↔b=sS\/b=cL (qK [q]) 1:=by simp[K9]
def La(n:Int):Int:=if n=5 then 3 else 1
noncomputable def Qi(n:Int)(a c b:aV):cI:=if n=0 then K9 (La n) a else if n=1 then K9 (La n) c else if n=2 then K9 (La n) b else Hq (La n)
theorem mN(n:Int):La n=1\/La n=3:=by unfold La;split<;>simp
def VR(q:aV):Prop:=0<=q.s/\1<=q.n/\q.s+q.n<=512
theorem X6(n:Int){a c b:aV}(d:VR a)(e:VR c)(h3:VR b):dR (Qi n a c b)=0/\(Qi n a c b).W:=by
 unfold Qi;split;exact X5 (mN n) d;split;exact X5 (mN n) e;split;exact X5 (mN n) h3;exact⟨(Qh (mN n)).1,(Qh (mN n)).2.1⟩
def frR:cI:=⟨1,0,0,0,0,0,0,[]⟩
theorem Fo:dR frR=0/\frR.W:=⟨by rw[U9 rfl];rfl,⟨fun a h=>(by cases h),by decide⟩⟩
theorem X7{r:cI}(h:dR r=0):Ag r 1=(kW r 1,0):=by
 unfold Ag aHk;rw[h];rfl
end
section
variable {G:aE}{bb:Bool}
theorem X8:EV G (Tb (dX G bb)) 86 [] []=some (sS.v,[]):=by
 have r:=aQ2 (G:=G) (bb:=bb) (n:=16) (by decide);have q:EV G (Tb (dX G bb)) 137 [.one (.dc (.raw (.string ⟨#[0]⟩))),vi 16] []=some (sv (zl 16),[]):=jO rfl r;refine aA rfl ?_;simp (maxSteps:=2000000) (disch:=omega) only[go_sem,h86c,q,sS,aK.v];try rfl
theorem aML(l:L aV)(k:Nat)(a:k<l.length):cF (l.take (k+1))=cF (l.take k)+l[k].n:=Av l k a
theorem X9{B:aN}(l:L aV)(b:∀q∈l,0<=q.n/\q.n<=100000)(h:cF l<=100000)(g:l.length<=100000):EV G (Tb B) 87 [cV l] []=some ((qK l).v,[]):=by
 refine aA rfl ?_;simp (maxSteps:=2000000) (disch:=omega) only[go_sem,h87c,aY9];rw[aQ (fun k=>⟨(cV l::jk 1 (.one (.ptr 0 0)::vi (cF (l.take k)*256)::jk 2 (cV l::vi l.length::vi k::jk 14 []))),[.box [.dc (.raw (Zi 0)),.dc (.raw (.string ⟨#[]⟩)),.dc (.raw (Zi 0)),.dc (.raw (Zi 0)),.dc (.raw (.bool false)),.dc (.raw (.string ⟨#[]⟩)),.dc (.raw (Zi 0)),.dc (.raw (.slice none 0 0)),.dc (.raw (Zi 0)),.dc (.raw (Zi 0)),.dc (.raw (Zi 0))]]⟩) l.length ?_ ?_]
 ·rw[aZO];simp (maxSteps:=2000000) (disch:=omega) only[go_sem,h87l0,aY9,qK,aK.v,aG];try rfl
 rfl;intro k c;have d:=b _ (aZk c);have f:=aML l k c;have h3:=iJ l k (fun r a=>(b r a).1)
 have h4:=iI (l.take k) (fun r a=>(b r (aZA a)).1)
 have e:cF (l.take k)*256+l[k].n*256=cF (l.take (k+1))*256:=by omega
 have h5:=iJ l (k+1) (fun r a=>(b r a).1)
 simp (maxSteps:=2000000) (disch:=omega) only[go_sem,h87l0,aY9,aV.e,e]
theorem Ao(a:G9 G)(r:cI)(c:r.W):EV G (Tb (dX G bb)) 60 [r.v] []=some (bkv (Ag r 1),[]):=by
 have q:EV G (Tb (dX G bb)) 108 [.agg (rc9 r 1)] []=some (bkv (Ag r 1),[]):=upS (U2 (bb:=bb) a r c 1);generalize Ag r 1=E at *;obtain⟨b,e⟩:=E;refine aA rfl ?_;simp (maxSteps:=2000000) (disch:=omega) only[go_sem,h60c,q,aZp,aZn]
theorem aRm(a:G9 G):EV G (Tb (dX G bb)) 47 [] []=some (sv (kW frR 1),[]):=by
 have q:EV G (Tb (dX G bb)) 60 [.agg [.dc (ci 1),.dc (ci 0),.dc (ci 0),.dc (ci 0),.dc (ci 0),.dc (ci 0),.dc (ci 0),.dc (.slc [])]] []=some (bkv (Ag frR 1),[]):=Ao (bb:=bb) a frR Fo.2;rw[X7 Fo.1] at q;generalize kW frR 1=b at *;refine aA rfl ?_;simp (maxSteps:=2000000) (disch:=omega) only[go_sem,h47c,q]
abbrev rL(f:Int):L aU:=[.dc (ci 1),.dc (ci 1),.dc (ci f),.dc (ci 0),.dc (ci 0),.dc (ci 0),.dc (ci 0),.dc (.slc [])]
theorem aId{b:Int}(h:b=1\/b=3):EV G (Tb (kS bb)) 89 [.agg (rL b),sS.v] []=some (rcv (Hq b,0),[]):=by
 have e:hZ (r00 b).fl=true:=by rcases h with rfl|rfl<;>rfl
 have n:=(Qh h).2.2;refine aAE (r00 b) (aVG b) sS aAP (aRl h) e (by show (0:Int)<65535;decide) Va rfl (by show (0:Nat)<32;decide) ?_ (aAF (.inl ⟨sS,rfl⟩)) (by show dE [sS]<=440;have:dE [sS]<=40:=n;omega);intro k d;have:k=0:=by have:((r00 b).ats++[cL sS (r00 b).nx]).length=1:=rfl;omega
 subst this;exact aDf 0 d Va (fun a c=>by cases c)
theorem Kz{b:Int}(h:b=1\/b=3){q:aV}(f:0<=q.s/\1<=q.n/\q.s+q.n<=512):EV G (Tb (kS bb)) 89 [(Hq b).v,(qK [q]).v] []=some (rcv (K9 b q,0),[]):=by
 have g:hZ (Hq b).fl=true:=by rcases h with rfl|rfl<;>rfl
 obtain⟨j,l,_⟩:=Qh h;have d:=X4 f (i:=1) (by decide);have o:dE [sS,cL (qK [q]) 1]<=440:=by
  have p:=Qg;have r:=aAQ f (i:=1) (by decide);simp only[dE,aZl,aZm,List.sum_cons,List.sum_nil];omega
 refine aAE (Hq b) l (qK [q]) (aIa (by simp)) j g (by show (1:Int)<65535;decide) d (by simp[aCW,Hq,Ce,qK,sS]) (by show (1:Nat)<32;decide) ?_ (aAF (.inr ⟨sS,cL (qK [q]) 1,rfl,?_⟩)) o;intro k e;have u:((Hq b).ats++[cL (qK [q]) (Hq b).nx]).length=2:=rfl;rcases (show k=0\/k=1 by omega) with rfl|rfl
 exact aDf 0 e Va (fun a c=>by cases c)
 refine aDf 1 e d (fun a c=>?_)
 have:a=sS:=by simpa[Hq] using c
 rw[this];show (0:Int)≠1;decide;show ¬ D0 (cL (qK [q]) 1) sS<0;have:D0 (cL (qK [q]) 1) sS=1:=rfl;rw[this];decide
theorem aVH(K:G9 G)(n:Int)(al mi lg:aV)(p:VR al)(r:VR mi)(h3:VR lg):EV G (Tb (dX G bb)) 48 [vi n,al.v,mi.v,lg.v] []=some (sv (kW (Qi n al mi lg) 1),[]):=by
 have o:=X8 (G:=G) (bb:=bb);have E:EV G (Tb (dX G bb)) 87 [vl [[ci al.s,ci al.n]]] []=some ((qK [al]).v,[]):=X9 (G:=G) (B:=dX G bb) [al] (by simp;unfold VR at p;omega) (by simp[cF];unfold VR at p;omega) (by simp);have F:EV G (Tb (dX G bb)) 87 [vl [[ci mi.s,ci mi.n]]] []=some ((qK [mi]).v,[]):=X9 (G:=G) (B:=dX G bb) [mi] (by simp;unfold VR at r;omega) (by simp[cF];unfold VR at r;omega) (by simp);have I:EV G (Tb (dX G bb)) 87 [vl [[ci lg.s,ci lg.n]]] []=some ((qK [lg]).v,[]):=X9 (G:=G) (B:=dX G bb) [lg] (by simp;unfold VR at h3;omega) (by simp[cF];unfold VR at h3;omega) (by simp);have f:EV G (Tb (dX G bb)) 88 [vi 1,vi (La n),rfv 0 0] []=some (.tup [.agg [.dc (ci 1),.dc (ci 0),.dc (ci (La n)),.dc (ci 0),.dc (ci 0),.dc (ci 0),.dc (ci 0),.dc (.slc [])],tE 0],[]):=by
  have q:=upS (aVj (G:=G) (bb:=bb) 1 (La n) 0 0);rcases mN n with e|e
  rw[e] at q ⊢;exact q;rw[e] at q ⊢;exact q
 have d:EV G (Tb (dX G bb)) 89 [.agg (rL (La n)),sS.v] []=some (rcv (Hq (La n),0),[]):=upS (aId (mN n));obtain⟨M,L⟩:=X6 n p r h3;have a:=Ao (bb:=bb) K (Qi n al mi lg) L;rw[X7 M] at a;refine aA rfl ?_;by_cases x:n=0;subst x;have i:=upS (G:=G) (b:=bb) (Kz (q:=al) (mN 0) p);have j:Qi 0 al mi lg=K9 (La 0) al:=by unfold Qi;simp
 rw[j] at a ⊢;have h:La 0=1:=rfl;rw[h] at f d i a ⊢;generalize K9 1 al=l at *;generalize Hq 1=g at *;generalize qK [al]=D at *;generalize sS=A at *;simp (maxSteps:=2000000) (disch:=omega) only[go_sem,h48c,o,E,f,aV.e,Int.reduceEq,decide_false,decide_true,Int.reduceNeg];rw[aQ (fun k=>⟨(jk 11 (.one (.ptr 4 0)::jk 43 (.one (.bld 3 2)::vi 2::vi k::jk 16 []))),[.box [.dc (ci al.s),.dc (ci al.n)],.box [.dc (ci mi.s),.dc (ci mi.n)],.box [.dc (ci lg.s),.dc (ci lg.n)],.arr 0 11 [A.e,D.e],.box (match k with|0=>rL 1|1=>g.c|_=>l.c)]⟩) 2 ?_ ?_]
 simp (maxSteps:=2000000) (disch:=omega) only[go_sem,h48l0,a];rfl;intro k u;rcases (show k=0\/k=1 by omega) with rfl|rfl
 simp (maxSteps:=2000000) (disch:=omega) only[go_sem,h48l0,d,aK.e];rfl;simp (maxSteps:=2000000) (disch:=omega) only[go_sem,h48l0,i,aK.e];rfl;by_cases y:n=1;subst y;have i:=upS (G:=G) (b:=bb) (Kz (q:=mi) (mN 1) r);have j:Qi 1 al mi lg=K9 (La 1) mi:=by unfold Qi;simp
 rw[j] at a ⊢;have h:La 1=1:=rfl;rw[h] at f d i a ⊢;generalize K9 1 mi=l at *;generalize Hq 1=g at *;generalize qK [mi]=D at *;generalize sS=A at *;simp (maxSteps:=2000000) (disch:=omega) only[go_sem,h48c,o,F,f,aV.e,Int.reduceEq,decide_false,decide_true,Int.reduceNeg];rw[aQ (fun k=>⟨(jk 11 (.one (.ptr 4 0)::jk 43 (.one (.bld 3 2)::vi 2::vi k::jk 16 []))),[.box [.dc (ci al.s),.dc (ci al.n)],.box [.dc (ci mi.s),.dc (ci mi.n)],.box [.dc (ci lg.s),.dc (ci lg.n)],.arr 0 11 [A.e,D.e],.box (match k with|0=>rL 1|1=>g.c|_=>l.c)]⟩) 2 ?_ ?_]
 simp (maxSteps:=2000000) (disch:=omega) only[go_sem,h48l0,a];rfl;intro k u;rcases (show k=0\/k=1 by omega) with rfl|rfl
 simp (maxSteps:=2000000) (disch:=omega) only[go_sem,h48l0,d,aK.e];rfl;simp (maxSteps:=2000000) (disch:=omega) only[go_sem,h48l0,i,aK.e];rfl;by_cases z:n=2;subst z;have i:=upS (G:=G) (b:=bb) (Kz (q:=lg) (mN 2) h3);have j:Qi 2 al mi lg=K9 (La 2) lg:=by unfold Qi;simp
 rw[j] at a ⊢;have h:La 2=1:=rfl;rw[h] at f d i a ⊢;generalize K9 1 lg=l at *;generalize Hq 1=g at *;generalize qK [lg]=D at *;generalize sS=A at *;simp (maxSteps:=2000000) (disch:=omega) only[go_sem,h48c,o,I,f,aV.e,Int.reduceEq,decide_false,decide_true,Int.reduceNeg];rw[aQ (fun k=>⟨(jk 11 (.one (.ptr 4 0)::jk 43 (.one (.bld 3 2)::vi 2::vi k::jk 16 []))),[.box [.dc (ci al.s),.dc (ci al.n)],.box [.dc (ci mi.s),.dc (ci mi.n)],.box [.dc (ci lg.s),.dc (ci lg.n)],.arr 0 11 [A.e,D.e],.box (match k with|0=>rL 1|1=>g.c|_=>l.c)]⟩) 2 ?_ ?_]
 simp (maxSteps:=2000000) (disch:=omega) only[go_sem,h48l0,a];rfl;intro k u;rcases (show k=0\/k=1 by omega) with rfl|rfl
 simp (maxSteps:=2000000) (disch:=omega) only[go_sem,h48l0,d,aK.e];rfl;simp (maxSteps:=2000000) (disch:=omega) only[go_sem,h48l0,i,aK.e];rfl;have j:Qi n al mi lg=Hq (La n):=by unfold Qi;rw[if_neg x,if_neg y,if_neg z]
 rw[j] at a ⊢;by_cases C:n=5;subst C;have h:La 5=3:=rfl;have J:Wr .i64 1 2=3:=by decide
 rw[h] at f d a ⊢;generalize Hq 3=g at *;generalize sS=A at *;simp (maxSteps:=2000000) (disch:=omega) only[go_sem,h48c,o,f,aV.e,Int.reduceEq,decide_false,decide_true,Int.reduceNeg,J];rw[aQ (fun k=>⟨(jk 11 (.one (.ptr 4 0)::jk 43 (.one (.bld 3 1)::vi 1::vi k::jk 16 []))),[.box [.dc (ci al.s),.dc (ci al.n)],.box [.dc (ci mi.s),.dc (ci mi.n)],.box [.dc (ci lg.s),.dc (ci lg.n)],.arr 0 11 [A.e],.box (match k with|0=>rL 3|_=>g.c)]⟩) 1 ?_ ?_]
 simp (maxSteps:=2000000) (disch:=omega) only[go_sem,h48l0,a];rfl;intro k u;rw[show k=0 by omega];simp (maxSteps:=2000000) (disch:=omega) only[go_sem,h48l0,d,aK.e];rfl;have h:La n=1:=by unfold La;rw[if_neg C]
 rw[h] at f d a ⊢;generalize Hq 1=g at *;generalize sS=A at *;simp (maxSteps:=2000000) (disch:=omega) only[go_sem,h48c,o,f,aV.e,Int.reduceEq,x,y,z,C,decide_false,decide_true,Int.reduceNeg];rw[aQ (fun k=>⟨(jk 11 (.one (.ptr 4 0)::jk 43 (.one (.bld 3 1)::vi 1::vi k::jk 16 []))),[.box [.dc (ci al.s),.dc (ci al.n)],.box [.dc (ci mi.s),.dc (ci mi.n)],.box [.dc (ci lg.s),.dc (ci lg.n)],.arr 0 11 [A.e],.box (match k with|0=>rL 1|_=>g.c)]⟩) 1 ?_ ?_]
 simp (maxSteps:=2000000) (disch:=omega) only[go_sem,h48l0,a];rfl;intro k u;rw[show k=0 by omega];simp (maxSteps:=2000000) (disch:=omega) only[go_sem,h48l0,d,aK.e];rfl
end
section
variable {G:aE}{bb:Bool}
abbrev Vb(x:Bt)(n:Int):aV:=⟨x.tb,2*n⟩
abbrev miR(x:Bt):aV:=⟨x.mi,8⟩
abbrev lgR(x:Bt):aV:=⟨x.lg,x.lc⟩
noncomputable def oO(x:Bt)(m:Int)(n:Nat):L Int:=if n<16 then kW (Qi n (Vb x m) (miR x) (lgR x)) 1 else kW frR 1
noncomputable def lY(x:Bt)(m:Int):Nat->L Int
 |0=>Ls (zl (x.cl.toNat*256)) x
 |n+1=>if n<4 then fU (fU (lY x m n) (oO x m n) (x.tb.toNat+2*n) (x.tb.toNat+2*n+1)) (oO x m n) (x.mi.toNat+2*n) (x.mi.toNat+2*n+1) else fU (lY x m n) (oO x m n) (x.tb.toNat+2*n) (x.tb.toNat+2*n+1)
theorem aIe(x:Bt)(m:Int)(n:Nat):lY x m (n+1)=if n<4 then fU (fU (lY x m n) (oO x m n) (x.tb.toNat+2*n) (x.tb.toNat+2*n+1)) (oO x m n) (x.mi.toNat+2*n) (x.mi.toNat+2*n+1) else fU (lY x m n) (oO x m n) (x.tb.toNat+2*n) (x.tb.toNat+2*n+1):=rfl
noncomputable def jL(x:Bt)(m:Int):L Int:=lY x m m.toNat
structure Lb (x:Bt) (m:Int):Prop where
 ck:jZ x=0
 cl:64<=x.cl/\x.cl<=512
 tb:1<=x.tb/\x.tb+2*m<x.cl
 mi:1<=x.mi/\x.mi+8<x.cl
 lg:1<=x.lg/\x.lg+x.lc<x.cl/\8<=x.lc
 nn:16<=m/\m<=96
 c1:En x.tb (2*m) x.mi 8=false
 c2:En x.tb (2*m) x.lg x.lc=false
theorem aAU{x:Bt}{m:Int}(h:aMq x m=0):Lb x m:=by
 unfold aMq at h;by_cases e:jZ x=0;rw[if_pos e] at h;by_cases g:16<=m/\m<=96;rw[if_pos g] at h;by_cases h3:x.tb+2*m<x.cl;rw[if_pos h3] at h;by_cases h4:En x.tb (2*m) x.mi 8=true\/En x.tb (2*m) x.lg x.lc=true;rw[if_pos h4] at h;cases h;obtain⟨a,b,c,d⟩:=aMm e;obtain⟨n1,n,l,o⟩:=mM.1 a;obtain⟨i,j,k⟩:=qY.1 b;have f:=Ea.1 c;exact⟨e,n1,⟨i.1,h3⟩,⟨j.1,f.1⟩,⟨k.1,f.2,l.1⟩,g,by simpa using fun q=>h4 (.inl q),by simpa using fun q=>h4 (.inr q)⟩
 rw[if_neg h3] at h;cases h;rw[if_neg g] at h;cases h;rw[if_neg e] at h;exact absurd h e
theorem Lb.rs{x:Bt}{m:Int}(h:Lb x m):VR (Vb x m)/\VR (miR x)/\VR (lgR x):=by
 have:=h.cl;have:=h.tb;have:=h.mi;have:=h.lg;have:=h.nn;refine⟨⟨?_,?_,?_⟩,⟨?_,?_,?_⟩,⟨?_,?_,?_⟩⟩<;>simp only<;>omega
theorem Qj{x:Bt}{m:Int}(h:Lb x m)(n:Nat):(oO x m n).length=512/\aH (oO x m n):=by
 obtain⟨c,d,h3⟩:=h.rs;unfold oO;split;obtain⟨a,b⟩:=X6 n c d h3;exact (lE b a (by decide)).2;exact (lE Fo.2 Fo.1 (by decide)).2
theorem iO{l b:L Int}{n0 n1:Nat}(d:b.length=512)(a:n0*256+256<=l.length)(c:n1*256+256<=l.length):(fU l b n0 n1).length=l.length:=by
 unfold fU;have e:(gI l (n0*256) (b.take 256)).length=l.length:=cR (by rw[aZd];omega);rw[cR (by rw[e,aZh];omega),e]
theorem pL{l b:L Int}{n0 n1:Nat}(d:aH l)(c:aH b):aH (fU l b n0 n1):=aMn (aMn d (fun x a=>c x (aZA a))) (fun x a=>c x (aZM a))
theorem tR{x:Bt}{m:Int}(h:Lb x m):∀n:Nat,(n:Int)<=m->(lY x m n).length=x.cl.toNat*256/\aH (lY x m n)
 | 0,_=>by
  have:=h.cl;refine⟨?_,aMn (aMn (A6 _) (Ba x)) (Ba x)⟩;show (Ls (zl (x.cl.toNat * 256)) x).length=_;rw[aMo _ _ (by rw[aP];omega),aP]
 | n+1,e=>by
  obtain⟨c,d⟩:=tR h n (by omega);obtain⟨a,b⟩:=Qj h n;have:=h.cl;have:=h.tb;have:=h.mi;unfold lY;split
  ·rw[iO a (by rw[iO a (by omega) (by omega)];omega) (by rw[iO a (by omega) (by omega)];omega),iO a (by omega) (by omega)];exact⟨c,pL (pL d b) b⟩
  ·rw[iO a (by omega) (by omega)];exact⟨c,pL d b⟩
theorem aVI(n:Nat):List.replicate n (cN (.int .u8 0))=(zl n).map yC:=by rw[zl,List.map_replicate];rfl
theorem aIf(v:G9 G){x:Bt}{m:Int}(h:Lb x m)(N:Nat)(U:x.cl.toNat*256=N)(k:Nat)(y:(k:Int)<m):K7 [2,4,1,48,0] 4 (EC (EV G (Tb (dX G bb))) G h15l0 ⟨(jk 2 (.one (.ptr 0 0)::jk 4 (.one (.ptr 1 0)::jk 1 (.one (.bls 3 0 N 1)::jk 48 (vi m::vi k::jk 35 []))))),[x.o,.box [.dc (ci x.tb),.dc (ci (2*m))],.arr 0 1 [[ci 0],[ci 0]],yb (lY x m k)]⟩)= some ⟨(jk 2 (.one (.ptr 0 0)::jk 4 (.one (.ptr 1 0)::jk 1 (.one (.bls 3 0 N 1)::jk 48 (vi m::vi (k+1:Nat)::jk 35 []))))),[x.o,.box [.dc (ci x.tb),.dc (ci (2*m))],.arr 0 1 [[ci 0],[ci 0]],yb (lY x m (k+1))]⟩:=by
 obtain⟨E,I,J⟩:=h.rs;have j:=aRm (bb:=bb) v;have p:=aVH (bb:=bb) v k (Vb x m) (miR x) (lgR x) E I J;have i:=A7 (G:=G) (B:=dX G bb) x;have g:=Xt (G:=G) (B:=dX G bb) x;obtain⟨f,u⟩:=Qj h k;obtain⟨L,M⟩:=tR h k (by omega);have O:=h.cl;have R:=h.tb;have S:=h.mi;have T:=h.nn;have n:=Kp (G:=G) (B:=dX G bb) (x.tb+2*k) (by omega);have l:=Kp (G:=G) (B:=dX G bb) (x.mi+2*k) (by omega);have c:=Ee (G:=G) (B:=dX G bb) (lY x m k) (oO x m k) N (x.tb.toNat+2*k) (x.tb.toNat+2*k+1) (by omega) f u (by omega) (by omega) (by omega);have z:(fU (lY x m k) (oO x m k) (x.tb.toNat+2*k) (x.tb.toNat+2*k+1)).length=N:=by rw[iO f (by omega) (by omega)];omega
 have C:((x.tb.toNat+2*k:Nat):Int)=x.tb+2*k:=by omega
 have r:((x.tb.toNat+2*k+1:Nat):Int)=x.tb+2*k+1:=by omega
 rw[C,r] at c;have d:(k:Int)<m:=y;rw[aIe];by_cases h4:k<4;rw[if_pos h4];have b:(k:Int)<4:=by omega
 have a:(k:Int)<16:=by omega
 have e:=Ee (G:=G) (B:=dX G bb) (fU (lY x m k) (oO x m k) (x.tb.toNat+2*k) (x.tb.toNat+2*k+1)) (oO x m k) N (x.mi.toNat+2*k) (x.mi.toNat+2*k+1) z f u (by omega) (by omega) (by omega);have A:((x.mi.toNat+2*k:Nat):Int)=x.mi+2*k:=by omega
 have q:((x.mi.toNat+2*k+1:Nat):Int)=x.mi+2*k+1:=by omega
 rw[A,q] at e;generalize fU (lY x m k) (oO x m k) (x.tb.toNat+2*k) (x.tb.toNat+2*k+1)=s at *;generalize fU s (oO x m k) (x.mi.toNat+2*k) (x.mi.toNat+2*k+1)=K at *;unfold oO at c e;rw[if_pos (by omega)] at c e;generalize kW (Qi k (Vb x m) (miR x) (lgR x)) 1=Q at *;generalize kW frR 1=F at *;generalize lY x m k=D at *;simp (maxSteps:=2000000) (disch:=omega) only[go_sem,h15l0,d,j,p,i,g,n,l,c,e,b,a,iX];rw[if_neg h4];have b:¬ (k:Int)<4:=by omega
 generalize fU (lY x m k) (oO x m k) (x.tb.toNat+2*k) (x.tb.toNat+2*k+1)=s at *;unfold oO at c;generalize lY x m k=D at *;by_cases h16:k<16;rw[if_pos h16] at c;have a:(k:Int)<16:=by omega
 generalize kW (Qi k (Vb x m) (miR x) (lgR x)) 1=Q at *;generalize kW frR 1=F at *;simp (maxSteps:=2000000) (disch:=omega) only[go_sem,h15l0,d,j,p,i,g,n,l,c,b,a,iX];rw[if_neg h16] at c;have a:¬ (k:Int)<16:=by omega
 generalize kW frR 1=F at *;simp (maxSteps:=2000000) (disch:=omega) only[go_sem,h15l0,d,j,p,i,g,n,l,c,b,a,iX]
theorem aDg(s:G9 G)(x:Bt)(n:Int)(h:aMq x n=0):EV G (Tb (dX G bb)) 15 [x.v,vi n] []=some (.tup [tS (jL x n),tE 0],[]):=by
 have a:=aAU h;have c:=Al (G:=G) (B:=dX G bb) x;have w:=kO (G:=G) (B:=dX G bb) n 16 96;have u:=jH (G:=G) (B:=dX G bb);have f:=qH (G:=G) (B:=dX G bb);have j:=A7 (G:=G) (B:=dX G bb) x;have i:=Xt (G:=G) (B:=dX G bb) x;have K:=a.cl;have q:=a.tb;have L:=a.mi;have M:=a.lg;have r:=a.nn;obtain⟨_,_,hf,_⟩:=aMm a.ck;have Q:x.lc<=1000:=by omega
 have g:=qI (G:=G) (B:=dX G bb) x.tb (2*n) (by omega) (by omega);have d:=D9 (G:=G) (B:=dX G bb) x.tb (2*n) x.mi 8 (by omega) (by omega) (by omega) (by omega);have e:=D9 (G:=G) (B:=dX G bb) x.tb (2*n) x.lg x.lc (by omega) (by omega) (by omega) (by omega);rw[a.ck] at c;rw[decide_eq_true r] at w;rw[a.c1] at d;rw[a.c2] at e;have h3:=q.2;obtain⟨N,b⟩:∃N:Nat,x.cl.toNat*256=N:=⟨_,rfl⟩;have E:x.cl*256=(N:Int):=by omega
 have C:=aQW (G:=G) (B:=dX G bb) (zl N) x N (aP N) (aQ2 (by decide)) (fun y z=>by have:=P7 a.ck y z;omega) (by omega)
 have l:lY x n 0=Ls (zl N) x:=by rw[<- b];rfl
 have F:=aVI N;obtain⟨el,J⟩:=tR a n.toNat (by omega);have p:jN (List.take N (List.map yC (lY x n n.toNat)))=some ((lY x n n.toNat).map u8):=by
  rw[aZI (by rw[aY9,el];omega),kN]
 have A:((n.toNat:Nat):Int)=n:=by omega
 refine aA rfl ?_;simp (maxSteps:=2000000) (disch:=omega) only[go_sem,h15c,c,w,u,f,j,i,g,d,e,h3,cB,eB,fE,aZz,aZF,E,F,C,aZy];rw[aQ (fun k=>⟨(jk 2 (.one (.ptr 0 0)::jk 4 (.one (.ptr 1 0)::jk 1 (.one (.bls 3 0 N 1)::jk 48 (vi n::vi k::jk 35 []))))),[x.o,.box [.dc (ci x.tb),.dc (ci (2*n))],.arr 0 1 [[ci 0],[ci 0]],yb (lY x n k)]⟩) n.toNat ?_ ?_]
 unfold jL;have I:List.drop 0 (List.map yC (lY x n n.toNat))=List.map yC (lY x n n.toNat):=aZW;generalize lY x n n.toNat=D at *;simp (maxSteps:=2000000) (disch:=omega) only[go_sem,h15l0,A,aY9,el,b,p,O8];rw[l];rfl;exact fun k O=>aIf s a N b k (by omega)
end
section
variable {G:aE}{bb:Bool}
theorem aAV{l t:L Int}(d:t.length=256)(n c:Nat)(b:n*256+256<=l.length):Fl (gI l (n*256) t) c=if c=n then t else Fl l c:=by
 have a:(l.take (n*256)).length=n*256:=by rw[aZd];omega
 unfold Fl gI;rw[aZr];by_cases h:c=n;rw[if_pos h,h,List.drop_append_of_le_length (by omega),List.drop_eq_nil_of_le (by omega),aZn,bAs (by omega),aZI (by omega)];rw[if_neg h];rcases Nat.lt_or_gt_of_ne h with q|q
 rw[List.drop_append_of_le_length (by omega),bAs (by rw[aZh];omega),bAn,List.take_take,bAA (by omega)];have e:(l.take (n*256)++(t++l.drop (n*256+t.length))).drop (c*256)=(l.drop (n*256+t.length)).drop (c*256-(n*256+t.length)):=by
  rw[<- aZr,List.drop_append,List.drop_eq_nil_of_le (by rw[aZa];omega),aZn,aZa,a]
 rw[e,aZ6];congr 2;omega
theorem jK{l b:L Int}(e:b.length=512)(n0 n1 c:Nat)(a:n0*256+256<=l.length)(d:n1*256+256<=l.length):Fl (fU l b n0 n1) c=if c=n1 then b.drop 256 else if c=n0 then b.take 256 else Fl l c:=by
 unfold fU;rw[aAV (by rw[aZh];omega) n1 c (by rw[cR (by rw[aZd];omega)];omega),aAV (by rw[aZd];omega) n0 c a]
theorem Hr{l b:L Int}(a:b.length=512)(n:Nat)(c:n*256+512<=l.length):kI (fU l b n (n+1)) n (n+1)=b:=by
 unfold kI;rw[jK a n (n+1) n (by omega) (by omega),jK a n (n+1) (n+1) (by omega) (by omega),if_neg (by omega),if_pos rfl,if_pos rfl,bAc]
theorem pM{l b:L Int}(f:b.length=512)(n a c:Nat)(g:n*256+512<=l.length)(d:a≠n/\a≠n+1)(e:c≠n/\c≠n+1):kI (fU l b n (n+1)) a c=kI l a c:=by
 unfold kI;rw[jK f n (n+1) a (by omega) (by omega),jK f n (n+1) c (by omega) (by omega),if_neg d.2,if_neg d.1,if_neg e.2,if_neg e.1]
theorem aIg{a m b n:Int}(h:En a m b n=false):¬ (a<b+n/\b<a+m):=of_decide_eq_false h
theorem Hs{x:Bt}{m:Int}(h:Lb x m):∀n:Nat,(n:Int)<=m->(Fl (lY x m n) 0=Fl (lY x m 0) 0)/\(∀k,k<n->kI (lY x m n) (x.tb.toNat+2*k) (x.tb.toNat+2*k+1)=oO x m k)/\(∀k,k<n->k<4->kI (lY x m n) (x.mi.toNat+2*k) (x.mi.toNat+2*k+1)=oO x m k)
 |0,_=>⟨rfl,fun k b=>absurd b (Nat.not_lt_zero k),fun k b=>absurd b (Nat.not_lt_zero k)⟩
 | n+1,q=>by
  obtain⟨d,f,g⟩:=Hs h n (by omega);obtain⟨i,_⟩:=tR h n (by omega);obtain⟨a,_⟩:=Qj h n;have j:=h.cl;have l:=h.tb;have o:=h.mi;have p:=h.nn;have s:=aIg h.c1;have r:(fU (lY x m n) (oO x m n) (x.tb.toNat+2 * n) (x.tb.toNat+2 * n+1)).length=x.cl.toNat * 256:=by rw[iO a (by omega) (by omega),i]
  rw[aIe];by_cases h4:n < 4
  ·rw[if_pos h4];refine⟨?_,fun k b=>?_,fun k b c=>?_⟩
   ·rw[jK a _ _ _ (by omega) (by omega),if_neg (by omega),if_neg (by omega),jK a _ _ _ (by omega) (by omega),if_neg (by omega),if_neg (by omega),d]
   ·rw[pM a _ _ _ (by omega) ⟨by omega,by omega⟩ ⟨by omega,by omega⟩];by_cases e:k=n
    ·rw[e,Hr a _ (by omega)]
    ·rw[pM a _ _ _ (by omega) ⟨by omega,by omega⟩ ⟨by omega,by omega⟩,f k (by omega)]
   ·by_cases e:k=n
    ·rw[e,Hr a _ (by omega)]
    ·rw[pM a _ _ _ (by omega) ⟨by omega,by omega⟩ ⟨by omega,by omega⟩,pM a _ _ _ (by omega) ⟨by omega,by omega⟩ ⟨by omega,by omega⟩,g k (by omega) c]
  ·rw[if_neg h4];refine⟨?_,fun k b=>?_,fun k b c=>?_⟩
   ·rw[jK a _ _ _ (by omega) (by omega),if_neg (by omega),if_neg (by omega),d]
   ·by_cases e:k=n
    ·rw[e,Hr a _ (by omega)]
    ·rw[pM a _ _ _ (by omega) ⟨by omega,by omega⟩ ⟨by omega,by omega⟩,f k (by omega)]
   ·rw[pM a _ _ _ (by omega) ⟨by omega,by omega⟩ ⟨by omega,by omega⟩,g k (by omega) c]
noncomputable def Ya(x:Bt)(m:Int)(n:Nat):cI:=if n<16 then Qi n (Vb x m) (miR x) (lgR x) else frR
theorem aAW{x:Bt}{m:Int}(h:Lb x m)(n:Nat):cE (oO x m n)=(Ya x m n,1,0):=by
 obtain⟨c,d,h3⟩:=h.rs;unfold oO Ya;split;obtain⟨a,b⟩:=X6 n c d h3;exact (lE b a (by decide)).1;exact (lE Fo.2 Fo.1 (by decide)).1
theorem aIh(l:L Int)(h:256<=l.length):l.take 64=(Fl l 0).take 64:=by
 unfold Fl;rw[Nat.zero_mul,aZW,List.take_take,bAA (by decide)]
theorem Eh{x:Bt}{m:Int}(h:Lb x m):aX (jL x m)=(x,0,0):=by
 have f:=h.cl;have g:=h.nn;obtain⟨d,_⟩:=tR h m.toNat (by omega);obtain⟨i,_⟩:=tR h 0 (by omega);obtain⟨c,_⟩:=Hs h m.toNat (by omega);have e:(jL x m).take 64=x.bs:=by
  unfold jL;rw[aIh _ (by omega),c,<- aIh _ (by omega)];exact aHR _ x (by rw[aP];omega)
 have a:(jL x m).length=x.cl.toNat*256:=d;have b:K8 (jL x m).length=0:=by
  rw[a];unfold K8 Hm;rw[if_neg (show ¬ (x.cl.toNat*256=0\/x.cl.toNat*256 % 64≠0) by omega),if_neg (show ¬ 131072<x.cl.toNat*256 by omega),if_neg (by decide),if_pos (by omega)]
 unfold aX;rw[if_pos b];unfold uA;rw[e,aQS x h.ck,if_pos ⟨rfl,by rw[a];show x.cl=_;omega⟩];rfl
theorem aAX{x:Bt}{m:Int}(h:Lb x m):kY (jL x m)=(K9 1 (Vb x m),1,0):=by
 have b:=h.nn;obtain⟨_,a,_⟩:=Hs h m.toNat (by omega);unfold kY;rw[Eh h];have e:Ku (jL x m) x=oO x m 0:=a 0 (by omega);unfold Qt;dsimp only;rw[e,aAW h 0,if_pos rfl];rfl
theorem aAY{x:Bt}{m:Int}:¬ jG jI (K9 1 (Vb x m)).ats<0:=by
 rw[J9];intro q;have:=q (cL (qK [Vb x m]) 1) (aAT.2 (.inr rfl));simp[jI,cL,qK] at this
theorem aAZ{x:Bt}{m:Int}(h:Lb x m):lI (jL x m)=cL (qK [Vb x m]) 1:=by
 have e:=aAX h;have c:¬ jG jI (kY (jL x m)).1.ats<0:=by rw[e];exact aAY
 obtain⟨K,b,_,h3,h4,_⟩:=U5 c;rw[h3];have a:=aZk b;generalize (kY (jL x m)).1.ats[K]=A at *;rw[e] at a;rcases aAT.1 a with q|q;rw[q] at h4;simp[jI,sS] at h4;exact q
theorem aMM(q:aV):rY [q]=Aw q q.n.toNat:=by simp[rY]
theorem aRn{q:aV}(b:q.s≠-1){n k:Nat}(a:k<n):(Aw q n).getD k 0=q.s+k:=by
 unfold Aw;rw[aZo,aZj,bAx a];simp[b]
theorem aRo(q:aV)(n:Nat):(Aw q n).length=n:=by simp[Aw]
noncomputable def uI(x:Bt)(m:Int):L Int:=Aw (Vb x m) (2*m).toNat
theorem Ei{x:Bt}{m:Int}(h:Lb x m):iZ (jL x m)=uI x m:=by
 unfold iZ;rw[aAZ h];exact aMM _
theorem tU{x:Bt}{m:Int}(h:Lb x m){k:Nat}(a:(k:Int)<2*m):(uI x m).getD k 0=x.tb+k:=aRn (by have:=h.tb;show x.tb≠-1;omega) (by omega)
theorem K0{x:Bt}{m:Int}:(uI x m).length=(2*m).toNat:=aRo _ _
theorem aMN{x:Bt}{m:Int}(h:Lb x m):clE x (uI x m)=0:=by
 have c:=h.tb;have d:=h.mi;have f:=h.nn;have l:=aIg h.c1;have b:=K0 (x:=x) (m:=m);have a:uH x (uI x m)=false:=by
  refine decide_eq_false ?_;rintro⟨k,i,q⟩;rw[tU h (by omega)] at q;rcases q with q|q
  simp only[bAl] at q;rcases q with q|q|q
  omega;omega;obtain⟨j,g,e⟩:=List.mem_take_iff_getElem.1 q;have:(uI x m).getD j 0=(uI x m)[j]'(by omega):=by simp[show j<(uI x m).length by omega]
  rw[tU h (by omega)] at this;omega;omega
 unfold clE;rw[a,tU h (by omega),tU h (by omega),b,decide_eq_true (show (2*m).toNat % 2=0 by omega),decide_eq_true (show 16<=(2*m).toNat / 2/\(2*m).toNat / 2<=96 by omega),decide_eq_true (show 2<=(2*m).toNat by omega),decide_eq_true (by omega)];rfl
theorem aA0{x:Bt}{m:Int}(h:Lb x m):nE (jL x m)=0/\nX (jL x m)=0:=by
 have e:=h.tb;have f:=h.nn;have a:nE (jL x m)=0:=by
  unfold nE;rw[Eh h,aAX h,aAZ h];dsimp only;rw[if_neg (by decide),if_neg (by decide),if_neg aAY];unfold Eg;have k:(cL (qK [Vb x m]) 1).rs=[Vb x m]:=rfl;have b:(!(cL (qK [Vb x m]) 1).res&&decide ((cL (qK [Vb x m]) 1).fi=0))=true:=rfl;rw[k,b];have c:([Vb x m].any fun r=>decide (r.s=-1))=false:=by simp;omega
  have d:([Vb x m].any fun r=>decide (r.s+r.n > x.cl))=false:=by simp;omega
  rw[c,d];rfl
 refine⟨a,?_⟩;unfold nX Lt;rw[a,if_neg (by decide),Eh h,Ei h];exact aMN h
theorem Yb{x:Bt}{m:Int}(h:Lb x m){k:Nat}(g:(k:Int)<m):Qu (jL x m) x (uI x m) k=(Ya x m k,1,0):=by
 have d:=h.tb;have f:=h.nn;obtain⟨_,c,_⟩:=Hs h m.toNat (by omega);unfold Qu;rw[tU h (by omega),tU h (by omega)];have a:(x.tb+((2*k:Nat):Int)).toNat=x.tb.toNat+2*k:=by omega
 have b:(x.tb+((2*k+1:Nat):Int)).toNat=x.tb.toNat+2*k+1:=by omega
 rw[a,b];have e:kI (jL x m) (x.tb.toNat+2*k) (x.tb.toNat+2*k+1)=oO x m k:=c k (by omega);unfold Qt;rw[e,aAW h k,if_pos rfl]
end
section
variable {G:aE}{bb:Bool}
theorem aNS{x:Bt}{m:Int}(h:Lb x m):qO (jL x m)=m.toNat:=by
 have:=h.nn;unfold qO;rw[Ei h,K0];omega
theorem aMO(p:Nat->Prop)(n:Nat)(h:∀k,k<n->¬ p k):ix p n=n:=by
 obtain⟨b,a,_⟩:=bI p n;rcases a with q|⟨q,r⟩;exact q;exact absurd r (h _ q)
theorem aRp{x:Bt}{m:Int}(h:Lb x m):usV (jL x m)=(X3 (jL x m) x (uI x m) m.toNat,0):=by
 have g:=h.nn;have e:usI (jL x m) x (uI x m)=m.toNat:=by
  unfold usI;rw[K0];rw[show (2*m).toNat / 2=m.toNat by omega];exact aMO _ _ (fun k a q=>q (by rw[Yb h (by omega)]))
 unfold usV;rw[(aA0 h).2,if_neg (by decide),Eh h,Ei h,aNS h];dsimp only;rw[e,if_pos rfl]
theorem aIi(n:Int)(b e d:aV):hZ (Qi n b e d).fl=true:=by
 have c:∀f,f=1\/f=3->hZ (Hq f).fl=true:=fun f h=>by rcases h with rfl|rfl<;>rfl
 have a:∀f q,f=1\/f=3->hZ (K9 f q).fl=true:=fun f q h=>by rcases h with rfl|rfl<;>rfl
 unfold Qi;split;exact a _ _ (mN n);split;exact a _ _ (mN n);split;exact a _ _ (mN n);exact c _ (mN n)
theorem aMP{x:Bt}{m:Int}(h:Lb x m){k:Nat}(a:(k:Int)<m):usB (jL x m) x (uI x m) k=decide (k<16):=by
 unfold usB;rw[Yb h a];unfold Ya;by_cases q:k<16;rw[if_pos q,decide_eq_true q];exact aIi _ _ _ _;rw[if_neg q,decide_eq_false q];rfl
theorem aRq{x:Bt}{m:Int}(h:Lb x m):frV (jL x m)=if 16<m then (16,0) else (0,16):=by
 have g:=h.nn;have e:=Hp (jL x m) x (uI x m) m.toNat;have a:∀ k,16+k < m.toNat->((X3 (jL x m) x (uI x m) m.toNat).drop 16).getD k true=false:=fun k d=>by
  rw[aZo,aZK,X3,aZj,bAx d];show usB (jL x m) x (uI x m) (16+k)=false;rw[aMP h (by omega)];exact decide_eq_false (by omega)
 unfold frV;rw[aRp h];dsimp only;rw[if_neg (by decide)];have f:((X3 (jL x m) x (uI x m) m.toNat).drop 16).length=m.toNat-16:=by rw[aZh,e]
 generalize (X3 (jL x m) x (uI x m) m.toNat).drop 16=U at *;unfold ixB;obtain⟨i,j,h3⟩:=bI (fun k=>U.getD k true=false) U.length
 generalize ix (fun k=>U.getD k true=false) U.length=K at *
 by_cases c:16<m;have b:K=0:=by
  rcases Nat.eq_zero_or_pos K with q|q;exact q;exact absurd (a 0 (by omega)) (h3 0 q)
 rw[if_pos c,b];rw[if_neg (show ¬ 0=U.length by omega),if_neg (by decide)];rfl;rw[if_neg c,if_pos (show K=U.length by omega),if_pos (by decide)]
theorem aIj{x:Bt}{m:Int}(h:Lb x m){n:Int}(a:0<=n/\n<m):Fm (jL x m) n=0:=by
 unfold Fm;rw[(aA0 h).2,if_neg (by decide),aNS h,decide_eq_true (by omega)];rfl
theorem aRr{x:Bt}{m:Int}(h:Lb x m)(a:16<m):aMI (jL x m) 16 1=(.nil,32):=by
 have e:U7 (jL x m) 16=(Ya x m 16,1,0):=by
  unfold U7;rw[aIj h ⟨by decide,a⟩,if_pos rfl,Eh h,Ei h];exact Yb h (by omega)
 unfold aMI;rw[e];dsimp only;rw[if_neg (by decide)];have r:Ya x m 16=frR:=by unfold Ya;rw[if_neg (by decide)]
 rw[r,if_neg (by rintro⟨q,_⟩;cases q)]
def Qv:Bt:=⟨64,4,44,52,8,7⟩
theorem aVJ:jZ Qv=0:=by decide
theorem aIk:aMq Qv 18=0:=by decide
def tbV:FuncId->Option HF:=fun f=>if f=4 then some h4 else none
noncomputable def T3(G:aE):HT:=⟨tbV,EV G (Tb (dX G false))⟩
theorem aVK{G:aE}:Ow Tryz.prog (T3 G):=by
 intro f h hf;change tbV f=some h at hf;unfold tbV at hf;split at hf;rename_i e;subst e;injection hf with hf;subst hf;exact⟨by kernel_rfl,_,Tryz.func4,Tryz.ntmps4,h4_ok,aSO⟩
 cases hf
theorem t3{f:FuncId}{a:L AV}{hp:L aD}{r:AV×L aD}(h:EV G (Tb (dX G false)) f a hp=some r)(b:f≠4:=by decide):EV G (T3 G) f a hp=some r:=
 jO (by show tbV f=none;exact if_neg b) h
theorem aMQ{B:aN}:EV G (Tb B) 14 [] []=some (.agg [.dc (ci 64),.dc (ci 4),.dc (ci 44),.dc (ci 52),.dc (ci 8),.dc (ci 7)],[]):=by
 exact aA rfl rfl
theorem aDh(c:G9 G):EV G (T3 G) 4 [] []=some (vb true,[]):=by
 have a:=aAU aIk;obtain⟨j,b⟩:=tR a 18 (by decide);have j:(jL Qv 18).length=16384:=j;have b:aH (jL Qv 18):=b;have k:=t3 (aMQ (G:=G) (B:=dX G false));have l:EV G (T3 G) 13 [.agg [.dc (ci 64),.dc (ci 4),.dc (ci 44),.dc (ci 52),.dc (ci 8),.dc (ci 7)]] []=some (.tup [tS Qv.bs,tE 0],[]):=by
  have q:=t3 (aC6 (G:=G) (B:=dX G false) Qv (Ed Qv) (aQ2 (by decide)));rw[aVJ,if_pos rfl] at q;exact q
 have n:EV G (T3 G) 15 [.agg [.dc (ci 64),.dc (ci 4),.dc (ci 44),.dc (ci 52),.dc (ci 8),.dc (ci 7)],vi 18] []=some (.tup [tS (jL Qv 18),tE 0],[]):=t3 (aDg (bb:=false) c Qv 18 aIk);have i:=t3 (U8 (bb:=false) c (jL Qv 18) b (by omega));rw[aRq a,if_pos (by decide)] at i;have d:=t3 (aDd (bb:=false) c (jL Qv 18) b (by omega) 3);rw[aIj a (by decide),if_pos rfl,Ei a] at d;have p:(uI Qv 18).getD (2*(3:Int).toNat) 0=10:=by rw[tU a (by decide)];rfl
 rw[p] at d;have o:EV G (T3 G) 18 [sv (jL Qv 18),rfv 16 1] []=some (.tup [.agg [.dc (ci 0),.dc (ci 0),.dc (ci 0),.dc (ci 0),.dc (ci 0),.dc (ci 0),.dc (ci 0),.dc (.slc [])],tE 32],[]):=by
  have q:=t3 (aDe (bb:=false) c (jL Qv 18) b (by omega) 16 1);rw[aRr a (by decide)] at q;exact q
 have s:=Km Qv;have e:Qv.bs.take (12:Int).toNat=[68,69,80,79,83,73,84,49,64,0,0,0]:=by decide
 have r:(fF [68,69,80,79,83,73,84,49,64,0,0,0]=(⟨#[68,69,80,79,83,73,84,49,64,0,0,0]⟩:ByteArray))=True:=eq_true (by kernel_rfl);generalize jL Qv 18=D at *;generalize Qv.bs=S at *;have g:(S.length:Int)=64:=by omega
 have f:(D.length:Int)=16384:=by omega
 refine aA (h:=h4) rfl ?_;simp (maxSteps:=2000000) (disch:=omega) only[go_sem,h4c,k,l,n,i,d,o,aC,g,f,e,r]
theorem aDi(c:G9 G):QC Tryz.prog G 4 [] (vb true):=Zy aVK (fun f a hp av g h b d=>by
 obtain⟨n,e⟩:=iH h;exact nN (So (dX G false)) (aHY (fun h=>by cases h)) n f a hp av g e b d) (aDh c)
end
section
open Go.ChangeShapes Go.WideShapes Go.ChangeAt Go.RowKit
def jW(P:Program):Nat->TypeId->L DC->Prop
 |0,_,_=>False
 |n+1,t,a=>
  match P.underlying t with
  |some .bool=>∃b,a=[.raw (.bool b)]
  |some (.int k)=>∃i,a=[.raw (.int k i)]/\k.min<=i/\i<=k.max
  |some .string=>∃s:ByteArray,a=[.raw (.string s)]/\s.size<=maxLen
  |some (.slice e)=>∃es:L (L DC),a=[.slc es]/\es.length<=maxLen/\∀d∈es,jW P n e d
  |some (.struct c)=>a.length=P.cellsOf t/\∀(i:Nat) f,c[i]?=some f->jW P n f.type ((a.drop f.offset).take (P.cellsOf f.type))
  |some (.array m e)=>a.length=P.cellsOf t/\∀i,i<m->jW P n e ((a.drop (i*P.cellsOf e)).take (P.cellsOf e))
  |_=>False
def K1:L (Nat×Nat)->Nat->Nat->Bool
 |[],off,a=>decide (off=a)
 |p::l,off,a=>decide (p.1=off)&&K1 l (off+p.2) a
def K2(P:Program):Nat->TypeId->Bool
 |0,_=>false
 |n+1,t=>
  match P.underlying t with
  |some .bool=>true
  |some (.int _)=>true
  |some .string=>true
  |some (.slice e)=>K2 P n e&&decide (0<P.cellsOf e)
  |some (.struct a)=>a.toList.all (fun f=>K2 P n f.type)&&K1 (a.toList.map fun f=>(f.offset,P.cellsOf f.type)) 0 (P.cellsOf t)
  |some (.array m e)=>K2 P n e&&decide (P.cellsOf t=m*P.cellsOf e)
  |_=>false
def RDs(F:Fz)(a:L DC)(cs:L Value):Prop:=a.length=cs.length/\∀(i:Nat) d v,a[i]?=some d->cs[i]?=some v->RD F d v
theorem aA1:∀(l:L (Nat×Nat)) (off a:Nat),K1 l off a=true->off<=a
 |[],off,a,h=>by simp[K1] at h;omega
 | p::l,off,a,h=>by
  simp only[K1,aZq,decide_eq_true_eq] at h;have:=aA1 l _ _ h.2;omega
theorem aRs{F:Fz}{cs:L Value}:∀(l:L (Nat×Nat×(L DC->Prop))) (off:Nat),K1 (l.map fun p=>(p.1,p.2.1)) off cs.length=true->(∀p∈l,∃f,RDs F f ((cs.drop p.1).take p.2.1)/\p.2.2 f)-> ∃f,RDs F f (cs.drop off)/\∀p∈l,off<=p.1/\p.2.2 ((f.drop (p.1-off)).take p.2.1)
 | [],off,h,_=>by
  simp only[aZm,K1,decide_eq_true_eq] at h;exact⟨[],⟨by simp[h],fun i d v j=>by simp at j⟩,fun p hp=>by cases hp⟩
 | p::l,off,h,hp=>by
  simp only[aZl,K1,aZq,decide_eq_true_eq] at h;obtain⟨o,j⟩:=h;have y:=aA1 _ _ _ j;obtain⟨a,e,s⟩:=hp p aZt;obtain⟨c,n,u⟩:=aRs l (off+p.2.1) j (fun q g=>hp q (aZB _ g))
  have k:a.length=p.2.1:=by rw[e.1,aZd,aZh];omega
  have b:cs.drop off=(cs.drop p.1).take p.2.1++cs.drop (off+p.2.1):=by
   rw[o,<- aZ6,bAc]
  refine⟨a++c,⟨by rw[b,aZa,aZa,e.1,n.1],fun i d v h3 h4=>?_⟩,fun q g=>?_⟩
  ·rw[b] at h4;by_cases r:i < a.length
   ·rw[aZv r] at h3;rw[aZv (by rw[<- e.1];exact r)] at h4;exact e.2 i d v h3 h4
   ·rw[aZD (by omega)] at h3;rw[aZD (by rw[<- e.1];omega),<- e.1] at h4;exact n.2 _ d v h3 h4
  ·rcases bAl.1 g with rfl | g
   ·refine⟨by omega, ?_⟩;rw[o,aZ1,aZW,bAs (by omega),aZI (by omega)];exact s
   ·obtain⟨z,x⟩:=u q g;refine⟨by omega, ?_⟩;have:(a++c).drop (q.1 - off)=c.drop (q.1 - (off+p.2.1)):=by
     rw[List.drop_append,List.drop_of_length_le (by omega),aZn,k];congr 1;omega
    rw[this];exact x
theorem Ge{α:Type}{a:Nat->α->Prop}:∀n,(∀i,i<n->∃x,a i x)->∃l:L α,l.length=n/\∀(i:Nat) x,l[i]?=some x->a i x
 |0,_=>⟨[],rfl,fun i x h=>by simp at h⟩
 | n+1,h=>by
  obtain⟨l,b,hp⟩:=Ge n (fun i e=>h i (by omega))
  obtain⟨x,c⟩:=h n (by omega);refine⟨l++[x],by simp[b],fun i y d=>?_⟩
  rcases iR d with h1 | ⟨h1,rfl⟩
  ·exact hp i y h1
  ·rw[h1,b];exact c
section
variable {H:Type}{enc:TypeId×Value->H}{P:Program}{w:World}{base:Nat}{spare:Nat->Bool}{held:Bool}
theorem aDj{a:Addr}{v:Value}(h:w.cell? a=some v):a.spot=none:=by
 unfold World.cell? at h;split at h;split at h;cases h;rename_i b;cases c:a.spot with
 |none=>rfl
 |some x=>simp[c] at b
 cases h
theorem aIl{a:Addr}(h:a.spot=none)(i:Nat):a.add i=⟨a.block,a.off+i,none⟩:=by
 unfold Addr.add;split;rename_i b;subst b;cases a;simp_all;rfl
theorem aIm{a:Addr}{v:Value}(h:w.cell? a=some v):(jE w).cell? a=some v:=by
 unfold World.cell? at h;unfold Fz.cell? jE;exact h
theorem Bf:∀(n:Nat)(t:TypeId)(cs:List Value)(x:DataW H×List MemPlace)(m:Nat),K2 P m t=true->DataW.trod enc P w base spare held n t cs=some x->∃E,RDs (jE w) E cs/\jW P m t E
 |0,t,cs,x,m,l,h=>by simp[DataW.trod] at h
 |n+1,t,cs,x,0,l,h=>by simp[K2] at l
 | n+1,t,cs,x,m+1,l,h=>by
  rw[K2] at l;cases q:P.underlying t with
  | none=>simp[q] at l
  | some u=>
   simp only[q] at l;cases u<;>try (simp at l;done)
   case bool=>
    obtain⟨b,rfl,rfl⟩:=DataW.trod_bool q h;exact⟨[.raw (.bool b)],⟨rfl,fun i d v c g=>by
     cases i with
     | zero=>simp at c g;subst c;subst g;exact .raw _ rfl
     | succ i=>simp at c⟩,by rw[jW,q];exact⟨b,rfl⟩⟩
   case int k=>
    obtain⟨i,rfl,rfl,hw⟩:=DataW.trod_int q h;refine⟨[.raw (.int k i)],⟨rfl,fun j d v c g=>?_⟩,by rw[jW,q];exact⟨i,rfl,by simpa[Lit.wf] using hw⟩⟩
    cases j with
    | zero=>simp at c g;subst c;subst g;exact .raw _ rfl
    | succ j=>simp at c
   case string=>
    obtain⟨s,rfl,rfl,hw⟩:=DataW.trod_string q h;refine⟨[.raw (.string s)],⟨rfl,fun j d v c g=>?_⟩,by rw[jW,q];exact⟨s,rfl,hw⟩⟩
    cases j with
    | zero=>simp at c g;subst c;subst g;exact .raw _ rfl
    | succ j=>simp at c
   case slice e=>
    simp only[aZq,decide_eq_true_eq] at l;rcases DataW.trod_slice q h with⟨rfl,_⟩ | ⟨a,len,cap,K,rest,J,hn,rfl,_,hb,hl,hcm,hel,hat,_,_⟩
    ·refine⟨[.slc []],⟨rfl,fun j d v c g=>?_⟩,by rw[jW,q];exact⟨[],rfl,aZx _,by simp⟩⟩
     cases j with
     | zero=>simp at c g;subst c;subst g;exact .nil _ _
     | succ j=>simp at c
    ·have C:J=n:=by omega
     subst C;have key:∀ i,i < len->∃ r:List DC × List Value,w.cells? base (a.add (i * P.cellsOf e)) (P.cellsOf e)=some r.2/\RDs (jE w) r.1 r.2/\jW P m e r.1:=by
      intro i z;have c:=hat i z;have hi2:i < K.length:=by omega
      rw[aZi hi2] at c;obtain⟨R,g,h3⟩:=aZT.1 c;obtain⟨E,h4,h5⟩:=Bf J e R _ m l.1 h3;exact⟨(E,R),g,h4,h5⟩
     obtain⟨L,hL,A⟩:=Ge len key;refine⟨[.slc (L.map (·.1))],⟨rfl,fun j d v c g=>?_⟩, ?_⟩
     ·cases j with
      | succ j=>simp at c
      | zero=>
       simp at c g;subst c;subst g;by_cases h0:len=0
       ·have:L=[]:=bAk (by omega);subst this;rw[h0];exact .nil _ _
       ·have y:∀ (i j:Nat) r d,L[i]?=some r->r.1[j]?=some d->∃ u,r.2[j]?=some u/\w.cell? ((a.add (i * P.cellsOf e)).add j)=some u/\j < P.cellsOf e:=by
         intro i j r d M Q;obtain⟨S,X,_⟩:=A i r M;obtain⟨_,g5,Z⟩:=World.cells?_some S;have Y:j < r.2.length:=by rw[<- X.1];exact aJ Q
         exact⟨_,aZi Y,by rw[Z j (by omega),aZi Y],by omega⟩
        have hsp:a.spot=none:=by
         have hL0:0 < L.length:=by omega
         obtain⟨S,X,_⟩:=A 0 _ (aZi hL0);obtain⟨_,g5,Z⟩:=World.cells?_some S;have Y:0 < (L[0]).2.length:=by rw[g5];exact l.2
         have g7:=Z 0 l.2;rw[aZi Y] at g7;have:=aDj g7;simp only[Nat.zero_mul] at this;simpa[Addr.add] using this
        have N:∀ i j,(a.add (i * P.cellsOf e)).add j=⟨a.block,a.off+(i * P.cellsOf e+j),none⟩:=by
         intro i j;rw[aIl hsp,aIl rfl,Nat.add_assoc]
        have ha:(some a:Option Addr)=some ⟨a.block,a.off,none⟩:=by cases a;simp_all
        rw[ha];have I:(L.map (·.1)).length=len:=by simp[hL]
        have B:=RD.slc (F:=jE w) a.block a.off cap (P.cellsOf e) (L.map (·.1)) (fun i j=>((L.getD i ([],[])).2).getD j undef) (fun r he'=>by
          obtain⟨p,hp,rfl⟩:=List.mem_map.1 he';obtain⟨i,z⟩:=List.mem_iff_getElem?.1 hp;obtain⟨S,X,_⟩:=A i p z;rw[X.1,(World.cells?_some S).2.1]) (fun i j r d M Q=>by
          rw[aZj] at M;obtain⟨p,hp,rfl⟩:=Option.map_eq_some_iff.1 M;obtain⟨u,D,O,hu3⟩:=y i j p d hp Q;simp only[aZo,hp,aZU,D];exact (A i p hp).2.1.2 j d u Q D) (fun i j r d M Q=>by
          rw[aZj] at M;obtain⟨p,hp,rfl⟩:=Option.map_eq_some_iff.1 M;obtain⟨u,D,O,hu3⟩:=y i j p d hp Q;simp only[aZo,hp,aZU,D];rw[N] at O;exact aIm O) (by rw[I];exact hl)
        rw[I] at B;exact B
     ·rw[jW,q];refine⟨_,rfl,by simp[hL];omega,fun d hdm=>?_⟩
      obtain⟨p,hp,rfl⟩:=List.mem_map.1 hdm;obtain⟨i,z⟩:=List.mem_iff_getElem?.1 hp;exact (A i p z).2.2
   case struct fs=>
    simp only[aZq,bAr] at l;obtain⟨xs,J,hn,_,o,W,hf⟩:=DataW.trod_struct q h;have C:J=n:=by omega
    subst C;obtain⟨E,c,g⟩:=aRs (F:=jE w) (cs:=cs) (fs.toList.map fun f=>(f.offset,P.cellsOf f.type,jW P m f.type)) 0 (by
     rw[o,aZG];exact l.2) (fun p hp=>by
     obtain⟨f,U,rfl⟩:=List.mem_map.1 hp;obtain⟨i,z⟩:=List.mem_iff_getElem?.1 U;have V:fs[i]?=some f:=by simpa using z
     have h3:=hf i f V;have hix:i < xs.length:=by rw[W];exact (Array.getElem?_eq_some_iff.1 V).1
     rw[aZi hix] at h3;exact Bf J f.type _ _ m (l.1 f U) h3)
    simp only[aZW] at c;refine⟨E,c, ?_⟩;rw[jW,q];refine⟨by rw[c.1,o],fun i f z=>?_⟩
    have:=(g _ (List.mem_map.2 ⟨f,by exact List.mem_iff_getElem?.2 ⟨i,by simpa using z⟩,rfl⟩)).2;simpa using this
   case array m' e=>
    simp only[aZq,decide_eq_true_eq] at l;obtain⟨xs,J,hn,_,o,W,hf⟩:=DataW.trod_array q h;have C:J=n:=by omega
    subst C;have T:∀ (k s:Nat),K1 ((List.range' s k).map fun i=>(i * P.cellsOf e,P.cellsOf e)) (s * P.cellsOf e) ((s+k) * P.cellsOf e)=true:=by
     intro k
     induction k with
     | zero=>intro s;simp[K1]
     | succ k ih=>
      intro s;have:=ih (s+1);rw[List.range'_succ,aZl,K1];simp only[decide_true,aZJ];rw[<- Nat.succ_mul,show s+(k+1)=s+1+k by omega];exact this
    obtain⟨E,c,g⟩:=aRs (F:=jE w) (cs:=cs) ((List.range m').map fun i=>(i * P.cellsOf e,P.cellsOf e,jW P m e)) 0 (by
     rw[o,aZG,l.2,List.range_eq_range'];have:=T m' 0;simpa[Function.comp_def] using this) (fun p hp=>by
     obtain⟨i,him,rfl⟩:=List.mem_map.1 hp;have z:=List.mem_range.1 him;have h3:=hf i z;rw[aZi (by omega)] at h3;exact Bf J e _ _ m l.1 h3)
    simp only[aZW] at c;refine⟨E,c, ?_⟩;rw[jW,q];refine⟨by rw[c.1,o],fun i z=>?_⟩
    have:=(g _ (List.mem_map.2 ⟨i,List.mem_range.2 z,rfl⟩)).2;simpa using this
def Ej(P:Program)(t:TypeId):Bool:=
 match P.underlying t with
 |some (.struct _)=>true
 |some (.array _ _)=>true
 |_=>false
def okA(P:Program)(m:Nat)(t:TypeId):AV->Prop
 |.one (.dc d)=>Ej P t=false/\jW P m t [d]
 |.agg cs=>Ej P t=true/\∃a,cs=oR a/\jW P m t a
 |_=>False
theorem aIn{r:Reach}{C m:Nat}{t:TypeId}{v:Value}{d:DataW H}{I:L MemPlace}(f:Value.okWide P w r C t v)(E:DataW.Trod enc P w base spare held t v d I)(g:K2 P m t=true):∃av,RV (jE w) [] av v/\okA P m t av:=by
 obtain⟨n,h⟩:=E;obtain⟨A,p,z⟩:=Bf n t _ _ m g h;have q:∀x:Value,v=x->Ej P t=false->(∀cs,x≠.agg cs)->∃av,RV (jE w) [] av v/\okA P m t av:=by
  intro x F h3 h4;subst F;have B:v.cells.toList=[v]:=by cases v<;>first|rfl|(exact absurd rfl (h4 _))
  rw[B] at p
  match A,p,z with
  |[y],p,z=>exact⟨.one (.dc y),.one _ _ (.dc _ _ (p.2 0 y v rfl rfl)),h3,z⟩
  |[],p,_=>simp[RDs] at p
  |_::_::_,p,_=>simp[RDs] at p
 have s:∀cs,v=.agg cs->Ej P t=true->∃av,RV (jE w) [] av v/\okA P m t av:=by
  intro cs o D;subst o;have B:(Value.agg cs).cells.toList=cs.toList:=rfl;rw[B] at p;refine⟨.agg (oR A),.agg _ _ (by rw[oR,aY9,p.1,bAH]) (fun i c u h3 h4=>?_),D,A,rfl,z⟩
  rw[oR,aZj] at h3;obtain⟨y,h5,rfl⟩:=Option.map_eq_some_iff.1 h3;exact .dc _ _ (p.2 i y u h5 (by simpa using h4))
 cases m with
 |zero=>simp[K2] at g
 |succ m=>
  rw[K2] at g;cases j:P.underlying t with
  |none=>simp[j] at g
  |some u=>
   simp only[j] at g;cases u<;>try (simp at g;done)
   case bool=>obtain⟨b,o⟩:=okWide_bool j f;exact q _ o (by rw[Ej,j]) (fun cs h=>by cases h)
   case int k=>obtain⟨b,o⟩:=okWide_int j f;exact q _ o (by rw[Ej,j]) (fun cs h=>by cases h)
   case string=>obtain⟨b,o⟩:=okWide_string j f;exact q _ o (by rw[Ej,j]) (fun cs h=>by cases h)
   case slice e=>obtain⟨a,l,c,o⟩:=okWide_slice j f;exact q _ o (by rw[Ej,j]) (fun cs h=>by cases h)
   case struct fs=>obtain⟨cs,o,_⟩:=okWide_struct j f;exact s cs o (by rw[Ej,j])
   case array k e=>
    unfold Value.okWide at f;rw[j] at f;obtain⟨cs,o,_⟩:=f;exact s cs o (by rw[Ej,j])
def aVL(P:Program)(m:Nat):L TypeId->L AV->Prop
 |[],[]=>True
 |t::c,a::b=>okA P m t a/\aVL P m c b
 |_,_=>False
theorem Ns{r:Reach}{n m:Nat}:∀{e:L TypeId}{vs:L Value}{f:L (DataW H)}{g:L MemPlace},DataW.TrodAll enc P w base spare held e vs f g-> (∀(j:Nat) t v,e[j]?=some t->vs[j]?=some v->Value.okWide P w r n t v)->(∀t∈e,K2 P m t=true)->∃a:L AV,vs.length=a.length/\(∀(i:Nat) av v,a[i]?=some av->vs[i]?=some v->RV (jE w) [] av v)/\aVL P m e a/\f.length=e.length
 | [],vs,f,g,h,_,_=>by
  obtain⟨rfl,rfl,rfl⟩:=trodAll_nil h;exact⟨[],rfl,fun i av v h=>by simp at h,trivial,rfl⟩
 | t::e,vs,f,g,h,c,b=>by
  obtain⟨v,E,d,A,p,q,rfl,rfl,rfl,B,C⟩:=trodAll_cons h;obtain⟨av,k,l⟩:=aIn (c 0 t v rfl rfl) B (b t aZt);obtain⟨a,o,s,u,z⟩:=Ns C (fun j t v h3 h4=>c (j+1) t v (by simpa using h3) (by simpa using h4)) (fun t D=>b t (aZB _ D))
  refine⟨av::a,by simp[o],fun i x y h3 h4=>?_,⟨l,u⟩,by simp[z]⟩
  cases i with
  | zero=>simp at h3 h4;subst h3;subst h4;exact k
  | succ i=>exact s i x y (by simpa using h3) (by simpa using h4)
end
end
section
section
variable {P:Program}{m:Nat}{t:TypeId}{av:AV}
theorem Qk(a:Ej P t=false)(h:okA P m t av):∃d,av=.one (.dc d)/\jW P m t [d]:=by
 cases av with
 | one c=>cases c with
  | dc d=>exact⟨d,rfl,h.2⟩
  | _=>exact h.elim
 |agg cs=>rw[h.1] at a;cases a
 |tup l=>exact h.elim
 |junk=>exact h.elim
theorem aIo(a:Ej P t=true)(h:okA P m t av):∃ds,av=.agg (oR ds)/\jW P m t ds:=by
 cases av with
 | one c=>cases c with
  | dc d=>rw[h.1] at a;cases a
  | _=>exact h.elim
 |agg cs=>obtain⟨_,ds,rfl,b⟩:=h;exact⟨ds,rfl,b⟩
 |tup l=>exact h.elim
 |junk=>exact h.elim
theorem Yc(b:P.underlying t=some .string)(h:okA P (m+1) t av):∃s:ByteArray,av=.one (.dc (.raw (.string s)))/\s.size<=maxLen:=by
 obtain⟨d,rfl,a⟩:=Qk (by rw[Ej,b]) h;rw[jW,b] at a;obtain⟨i,h3,h4⟩:=a;simp only[List.cons.injEq,and_true] at h3;exact⟨i,by rw[h3],h4⟩
theorem aDk{e:TypeId}(b:P.underlying t=some (.slice e))(h:okA P (m+1) t av):∃es,av=.one (.dc (.slc es))/\es.length<=maxLen/\∀d∈es,jW P m e d:=by
 obtain⟨d,rfl,a⟩:=Qk (by rw[Ej,b]) h;rw[jW,b] at a;obtain⟨i,h3,h4⟩:=a;simp only[List.cons.injEq,and_true] at h3;exact⟨i,by rw[h3],h4⟩
theorem Ck{i:Int}(h:IntKind.i64.min<=i/\i<=IntKind.i64.max):-9223372036854775808<=i/\i<=9223372036854775807:=by
 have a:IntKind.i64.min=-9223372036854775808:=by decide
 have b:IntKind.i64.max=9223372036854775807:=by decide
 omega
theorem K3{k:IntKind}{a:L DC}(b:P.underlying t=some (.int k))(h:jW P (m+1) t a):∃i,a=[.raw (.int k i)]/\k.min<=i/\i<=k.max:=by
 rw[jW,b] at h;exact h
theorem aA2{c d:Field}{e:L DC}(r:P.underlying t=some (.struct #[c,d]))(o:P.underlying c.type=some (.int .i64))(p:P.underlying d.type=some (.int .i64))(s:c.offset=0)(u:d.offset=1) (l:P.cellsOf c.type=1) (n:P.cellsOf d.type=1) (q:P.cellsOf t=2) (h:jW P (m+2) t e):∃a b:Int,e=[ci a,ci b]/\(-9223372036854775808<=a/\a<=9223372036854775807)/\(-9223372036854775808<=b/\b<=9223372036854775807):=by
 rw[jW,r] at h;obtain⟨k,hf⟩:=h;rw[q] at k;obtain⟨a,f,g⟩:=K3 o (hf 0 c rfl);obtain⟨b,i,j⟩:=K3 p (hf 1 d rfl)
 match e,k with
 |[x,y],_=>
  rw[s,l] at f;rw[u,n] at i;simp at f i;exact⟨a,b,by rw[f,i],Ck g,Ck j⟩
