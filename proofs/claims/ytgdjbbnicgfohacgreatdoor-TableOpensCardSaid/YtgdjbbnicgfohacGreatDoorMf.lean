/- Part. Conditions: none. -/
import Derived.Test.YtgdjbbnicgfohacGreatDoorQp
import Derived.Test.YtgdjbbnicgfohacGreatDoorSg
import Derived.Test.YtgdjbbnicgfohacGreatDoorPa
import Derived.Test.YtgdjbbnicgfohacGreatDoorMb
import Derived.OpenShut
namespace Go.Proofs.YtgdjbbnicgfohacGreatDoor
set_option maxHeartbeats 8000000
set_option linter.unusedSimpArgs false
set_option linter.unusedVariables false
set_option maxRecDepth 4000
section
variable {G:aF}{bb:Bool}
theorem aBf{q:aV}(h:0<=q.s/\1<=q.n/\q.s+q.n<=512):(mS [q]).2=0:=by
 have r:bO q.s q.n=0:=by
  unfold bO;rw[if_neg (by omega),if_pos (by omega),if_pos (by omega)]
 have f:q.fresh U0=true:=by
  have:=Dk [] q (fun _ h=>(by cases h)) r
  exact this
 have e:nE none U0 q=0:=by
  unfold nE;rw[r,if_neg (by decide),if_neg (by simp),if_pos f]
 unfold mS;rw[if_neg (by simp)];unfold tK;rw[e,if_neg (by decide)];unfold tK;show (if cC [q]<=4096 then (0:Int) else 8)=0
 rw[if_pos];simp[cC];omega
def Bo:aJ:=⟨16,[],0,0,true,zl 16,0,[],0,0,0⟩
def qW(l:L aV):aJ:=⟨128,[],0,0,false,[],0,l,cC l*256,cC l*256,cC l*256⟩
theorem aIj:Bo.W:=⟨fun x h=>(by cases h),A4 16,by decide,by decide,by decide⟩
theorem Vo{l:L aV}(h:l.length<=100000):(qW l).W:=⟨fun x h=>(by cases h),fun x h=>(by cases h),aZv _,aZv _,h⟩
theorem aIk:Pn []=true:=by unfold Pn;exact decide_eq_true (.inl rfl)
theorem aMU:(gV Bo).length<=40:=by
 unfold gV;split;rename_i h;rw[nJ Bo (mZ aIj h).bd];decide;exact aZv _
theorem aRs{i:Int}(h:0<=i/\i<=100):gE (bT Bo i)=0:=by
 unfold gE;rw[if_neg (by simp[bT,Bo,M6]),if_neg (by show ¬ Pn []=false;rw[aIk];decide),if_neg (by simp only[bT,Bo];omega)];have e:tN (bT Bo i)=0:=rfl;have z:eO (bT Bo i)=40:=by unfold eO cW sN qQ;simp[bT,Bo,zl]
 rw[e,if_neg (by decide),z,if_neg (by decide)]
theorem aIl{q:aV}(h:(mS [q]).2=0)(i:Int):eO (bT (qW [q]) i)<=48:=by
 have b:(qQ (bT (qW [q]) i)).length<=6:=by
  show (if false=true then _ else (Cb [q]).1).length<=6
  rw[if_neg (by decide)];unfold Cb;rw[Mz,h,if_neg (by decide)];show ((jE [q]).1++[0]).length<=6;have:=S9 0 q;rw[E8,dO,dO,aZ7,aZb];show _+1<=6;omega
 unfold eO;have a:cW (bT (qW [q]) i)=40:=by unfold cW sN;simp[bT,qW]
 rw[a];omega
theorem aIm{q:aV}(h:0<=q.s/\1<=q.n/\q.s+q.n<=512){i:Int}(l:0<=i/\i<=100):gE (bT (qW [q]) i)=0:=by
 have b:=aBf h;have d:cC [q]=q.n:=by simp[cC]
 have j:gI [q]=q.n:=by rw[Xz b,d]
 have o:=aIl b i;unfold gE;rw[if_neg (by simp[bT,qW,M6]),if_neg (by show ¬ Pn []=false;rw[aIk];decide),if_neg (by simp only[bT,qW];omega)];have e:tN (bT (qW [q]) i)=0:=by
  show (if false=true then _ else J1 (bT (qW [q]) i))=0
  rw[if_neg (by decide)];have c:(bT (qW [q]) i).al=q.n*256:=by show cC [q]*256=_;rw[d]
  have f:(bT (qW [q]) i).sz=q.n*256:=c;have g:(bT (qW [q]) i).vd=q.n*256:=c;have a:(bT (qW [q]) i).fi=0:=rfl;have k:gI (bT (qW [q]) i).rs=q.n:=j;unfold J1;rw[if_neg (by simp[bT,qW,G0]),if_neg (by simp[bT,qW]),if_neg (by rw[a];decide),if_neg (not_not_intro (show (mS (bT (qW [q]) i).rs).2=0 from b)),if_neg (by rw[a];simp),if_neg (by rw[a,k];omega),if_neg (by rw[a];simp),if_neg (by rw[c,f,g];omega),if_neg (by rw[f,g];omega)]
 rw[e,if_neg (by decide),if_neg (by omega)]
theorem aMV{q:aV}(h:0<=q.s/\1<=q.n/\q.s+q.n<=512){i:Int}(b:0<=i/\i<=100):(gV (bT (qW [q]) i)).length<=48:=by
 have a:=aIm h b;unfold gV;rw[if_pos a,nJ _ (mZ (Qf (Vo (by simp))) a).bd];exact aIl (aBf h) i
theorem Vp{r:cL}(h:r.ats=[]):gW r=Vx r:=by
 unfold gW Aa;have c:(nN r.ats).2=0:=by
  unfold nN;rw[h];rw[if_neg (by decide)];rw[if_neg (by simp)]
 have d:¬ 0<=Vy r:=by
  have:Vy r<0:=Ad.2 (fun a b=>by rw[h] at b;cases b)
  omega
 have h3:dC r.ats=0:=by rw[h];rfl
 by_cases q:Vx r=0;rw[if_neg (not_not_intro q),if_neg (not_not_intro c),if_neg d,h3,q];rfl;rw[if_pos q]
def r00(a:Int):cL:=⟨1,1,a,0,0,0,0,[]⟩
theorem aRt{a:Int}(h:a=1\/a=3):gW (r00 a)=0:=by
 rw[Vp rfl];rcases h with rfl|rfl<;>rfl
theorem aIn(b:Int):(r00 b).W:=⟨fun a h=>(by cases h),aZv _⟩
noncomputable def Gj(a:Int):cL:=pJ (r00 a) Bo
theorem aBg{r:cL}{a:aJ}(h0:gW r=0)(g:fJ r.fl=true)(e:r.nx<65535)(c:gE (bT a r.nx)=0)(f:Fh r a=false)(d:r.ats.length<32)(b:dC (pJ r a).ats<=440):Put r a/\Ya r a=(pJ r a,0):=by
 refine⟨⟨D6 h0,g,e,c,f,d,b⟩,?_⟩;have h:Ui r=0:=by unfold Ui;rw[h0,g,decide_eq_true e];rfl
 have i:Uj r a=0:=by unfold Uj;rw[c,f,decide_eq_true d];rfl
 unfold Ya;rw[if_neg (not_not_intro h),if_neg (not_not_intro i),if_pos b]
theorem aIo{r:cL}{a:aJ}(c:r.W)(b:a.W)(e:r.ats.length<32):(pJ r a).W:=by
 refine⟨fun x d=>?_,?_⟩
 rcases D9.1 d with h|h;exact c.at' x h;rw[h];exact Qf b;show (fA (r.ats++[bT a r.nx])).length<=900;rw[uZ,aZb,bAL];omega
theorem Qr{a:Int}(h:a=1\/a=3):Ya (r00 a) Bo=(Gj a,0)/\gW (Gj a)=0/\(Gj a).W/\dC (Gj a).ats<=40:=by
 have n:dC (Gj a).ats<=40:=by
  show dC (pJ (r00 a) Bo).ats<=40;rw[Uv];have:=aMU;show dC []+_<=40;have e:bT Bo (r00 a).nx=Bo:=rfl;rw[e];simp only[dC,aZm,List.sum_nil];omega
 have d:fJ (r00 a).fl=true:=by rcases h with rfl|rfl<;>rfl
 obtain⟨b,c⟩:=aBg (aRt h) d (by show (0:Int)<65535;decide) (aRs (by simp[r00]):gE (bT Bo (r00 a).nx)=0) rfl (by show (0:Nat)<32;decide) (by have:dC (pJ (r00 a) Bo).ats<=40:=n;omega);exact⟨c,aA3 (aIn a) (fun x h=>(by cases h)) b,aIo (aIn a) aIj (by show (0:Nat)<32;decide),n⟩
theorem aBh{a:Int}{b:aJ}:b∈(Gj a).ats↔b=Bo:=by
 unfold Gj;rw[D9];show b∈[]\/b=Bo↔b=Bo;simp
theorem aBi(a:Int):(Gj a).ats.length=1:=by
 show (fA ([]++[bT Bo 0])).length=1;rw[uZ];rfl
noncomputable def Vq(a:Int)(q:aV):cL:=pJ (Gj a) (qW [q])
theorem Fp{a:Int}(h:a=1\/a=3){q:aV}(d:0<=q.s/\1<=q.n/\q.s+q.n<=512):Ya (Gj a) (qW [q])=(Vq a q,0)/\gW (Vq a q)=0/\(Vq a q).W:=by
 obtain⟨_,r,e,u⟩:=Qr h;have p:fJ (Gj a).fl=true:=by rcases h with rfl|rfl<;>rfl
 have j:=Vo (l:=[q]) (by simp);have c:(Gj a).nx=1:=rfl;have n:dC (pJ (Gj a) (qW [q])).ats<=440:=by
  rw[Uv,c];have:=aMV d (i:=1) (by decide);omega
 have o:Fh (Gj a) (qW [q])=false:=by
  unfold Fh;have:((Gj a).ats.any fun b=>nR (qW [q]) b)=false:=by
   rw[bAm];intro b k;rw[aBh.1 k];simp[nR,qW,Bo]
  rw[this,Bool.and_false]
 obtain⟨f,g⟩:=aBg r p (by rw[c];decide) (by rw[c];exact aIm d (by decide)) o (by rw[aBi];decide) n;exact⟨g,aA3 e (fun x h=>(by cases h)) f,aIo e j (by rw[aBi];decide)⟩
theorem aBj{a:Int}{q:aV}{b:aJ}:b∈(Vq a q).ats↔b=Bo\/b=bT (qW [q]) 1:=by
 unfold Vq;rw[D9,aBh];rfl
def Gk(n:Int):Int:=if n=5 then 3 else 1
noncomputable def Qs(n:Int)(a c b:aV):cL:=if n=0 then Vq (Gk n) a else if n=1 then Vq (Gk n) c else if n=2 then Vq (Gk n) b else Gj (Gk n)
theorem mF(n:Int):Gk n=1\/Gk n=3:=by unfold Gk;split<;>simp
def VR(q:aV):Prop:=0<=q.s/\1<=q.n/\q.s+q.n<=512
theorem Yq(n:Int){a c b:aV}(d:VR a)(e:VR c)(h3:VR b):gW (Qs n a c b)=0/\(Qs n a c b).W:=by
 unfold Qs;split;exact (Fp (mF n) d).2;split;exact (Fp (mF n) e).2;split;exact (Fp (mF n) h3).2;exact⟨(Qr (mF n)).2.1,(Qr (mF n)).2.2.1⟩
def frR:cL:=⟨1,0,0,0,0,0,0,[]⟩
theorem Fq:gW frR=0/\frR.W:=⟨by rw[Vp rfl];rfl,⟨fun a h=>(by cases h),by decide⟩⟩
theorem aIp{r:cL}(h:gW r=0):Ge r 1=(oH r 1,0):=by
 unfold Ge aL2;rw[h];rfl
end
section
variable {G:aF}{bb:Bool}
theorem Yr:EV G (Tb (dU G bb)) 81 [] []=some (Bo.v,[]):=by
 have r:=aQ9 (G:=G) (bb:=bb) (n:=16) (by decide);have q:EV G (Tb (dU G bb)) 107 [.one (.dc (.raw (.string ⟨#[0]⟩))),vi 16] []=some (sv (zl 16),[]):=jC rfl r;refine aB rfl ?_;simp (maxSteps:=2000000) (disch:=omega) only[go_sem,h81c,q,Bo,aJ.v];try rfl
theorem aMW(l:L aV)(k:Nat)(a:k<l.length):cC (l.take (k+1))=cC (l.take k)+l[k].n:=Ar l k a
theorem Ys{B:aO}(l:L aV)(b:∀q∈l,0<=q.n/\q.n<=100000)(h:cC l<=100000)(g:l.length<=100000):EV G (Tb B) 82 [cP l] []=some ((qW l).v,[]):=by
 refine aB rfl ?_;simp (maxSteps:=2000000) (disch:=omega) only[go_sem,h82c,aZa];rw[aR (fun k=>⟨(cP l::jk 1 (.one (.ptr 0 0)::vi (cC (l.take k)*256)::jk 2 (cP l::vi l.length::vi k::jk 14 []))),[.box [.dc (.raw (Zi 0)),.dc (.raw (.string ⟨#[]⟩)),.dc (.raw (Zi 0)),.dc (.raw (Zi 0)),.dc (.raw (.bool false)),.dc (.raw (.string ⟨#[]⟩)),.dc (.raw (Zi 0)),.dc (.raw (.slice none 0 0)),.dc (.raw (Zi 0)),.dc (.raw (Zi 0)),.dc (.raw (Zi 0))]]⟩) l.length ?_ ?_]
 ·rw[aZT];simp (maxSteps:=2000000) (disch:=omega) only[go_sem,h82l0,aZa,qW,aJ.v,aG];try rfl
 rfl;intro k c;have d:=b _ (aZk c);have f:=aMW l k c;have h3:=iC l k (fun r a=>(b r a).1)
 have h4:=iB (l.take k) (fun r a=>(b r (aZA a)).1)
 have e:cC (l.take k)*256+l[k].n*256=cC (l.take (k+1))*256:=by omega
 have h5:=iC l (k+1) (fun r a=>(b r a).1)
 simp (maxSteps:=2000000) (disch:=omega) only[go_sem,h82l0,aZa,aV.e,e]
theorem Gl(a:G9 G)(r:cL)(c:r.W):EV G (Tb (dU G bb)) 80 [r.v] []=some (bkv (Ge r 1),[]):=by
 have q:EV G (Tb (dU G bb)) 110 [.agg (rc9 r 1)] []=some (bkv (Ge r 1),[]):=upS (aId (bb:=bb) a r c 1);generalize Ge r 1=E at *;obtain⟨b,e⟩:=E;refine aB rfl ?_;simp (maxSteps:=2000000) (disch:=omega) only[go_sem,h80c,q,aZx,aZs]
theorem aRu(a:G9 G):EV G (Tb (dU G bb)) 47 [] []=some (sv (oH frR 1),[]):=by
 have q:EV G (Tb (dU G bb)) 80 [.agg [.dc (ci 1),.dc (ci 0),.dc (ci 0),.dc (ci 0),.dc (ci 0),.dc (ci 0),.dc (ci 0),.dc (.slc [])]] []=some (bkv (Ge frR 1),[]):=Gl (bb:=bb) a frR Fq.2;rw[aIp Fq.1] at q;generalize oH frR 1=b at *;refine aB rfl ?_;simp (maxSteps:=2000000) (disch:=omega) only[go_sem,h47c,q]
abbrev rL(f:Int):L aU:=[.dc (ci 1),.dc (ci 1),.dc (ci f),.dc (ci 0),.dc (ci 0),.dc (ci 0),.dc (ci 0),.dc (.slc [])]
theorem aVO(L:G9 G)(n:Int)(al mi lg:aV)(r:VR al)(u:VR mi)(h3:VR lg):EV G (Tb (dU G bb)) 48 [vi n,al.v,mi.v,lg.v] []=some (sv (oH (Qs n al mi lg) 1),[]):=by
 have p:=Yr (G:=G) (bb:=bb);have F:EV G (Tb (dU G bb)) 82 [vl [[ci al.s,ci al.n]]] []=some ((qW [al]).v,[]):=Ys (G:=G) (B:=dU G bb) [al] (by simp;unfold VR at r;omega) (by simp[cC];unfold VR at r;omega) (by simp);have I:EV G (Tb (dU G bb)) 82 [vl [[ci mi.s,ci mi.n]]] []=some ((qW [mi]).v,[]):=Ys (G:=G) (B:=dU G bb) [mi] (by simp;unfold VR at u;omega) (by simp[cC];unfold VR at u;omega) (by simp);have J:EV G (Tb (dU G bb)) 82 [vl [[ci lg.s,ci lg.n]]] []=some ((qW [lg]).v,[]):=Ys (G:=G) (B:=dU G bb) [lg] (by simp;unfold VR at h3;omega) (by simp[cC];unfold VR at h3;omega) (by simp);have f:EV G (Tb (dU G bb)) 83 [vi 1,vi (Gk n),rfv 0 0] []=some (.tup [.agg [.dc (ci 1),.dc (ci 0),.dc (ci (Gk n)),.dc (ci 0),.dc (ci 0),.dc (ci 0),.dc (ci 0),.dc (.slc [])],tE 0],[]):=by
  have q:=upS (aVs (G:=G) (bb:=bb) 1 (Gk n) 0 0);rcases mF n with e|e
  rw[e] at q ⊢;exact q;rw[e] at q ⊢;exact q
 obtain⟨l,_,i,_⟩:=Qr (mF n);have b:EV G (Tb (dU G bb)) 84 [.agg (rL (Gk n)),Bo.v] []=some (rcv (Ya (r00 (Gk n)) Bo),[]):=upS (Hz (G:=G) (bb:=bb) (r00 (Gk n)) (aIn _) Bo aIj);rw[l] at b;obtain⟨N,M⟩:=Yq n r u h3;have a:=Gl (bb:=bb) L (Qs n al mi lg) M;rw[aIp N] at a;refine aB rfl ?_;by_cases y:n=0;subst y;have d:=upS (Hz (G:=G) (bb:=bb) (Gj (Gk 0)) i (qW [al]) (Vo (by simp)));rw[(Fp (mF 0) r).1] at d;have j:Qs 0 al mi lg=Vq (Gk 0) al:=by unfold Qs;simp
 rw[j] at a ⊢;have h:Gk 0=1:=rfl;rw[h] at f b d a ⊢;clear l i;generalize Vq 1 al=o at *;generalize Gj 1=g at *;generalize qW [al]=D at *;generalize Bo=A at *;simp (maxSteps:=2000000) (disch:=omega) only[go_sem,h48c,p,F,f,aV.e,Int.reduceEq,decide_false,decide_true,Int.reduceNeg];rw[aR (fun k=>⟨(jk 11 (.one (.ptr 4 0)::jk 43 (.one (.bld 3 2)::vi 2::vi k::jk 16 []))),[.box [.dc (ci al.s),.dc (ci al.n)],.box [.dc (ci mi.s),.dc (ci mi.n)],.box [.dc (ci lg.s),.dc (ci lg.n)],.arr 0 11 [A.e,D.e],.box (match k with|0=>rL 1|1=>g.c|_=>o.c)]⟩) 2 ?_ ?_]
 simp (maxSteps:=2000000) (disch:=omega) only[go_sem,h48l0,a];rfl;intro k x;rcases (show k=0\/k=1 by omega) with rfl|rfl
 simp (maxSteps:=2000000) (disch:=omega) only[go_sem,h48l0,b,aJ.e];rfl;simp (maxSteps:=2000000) (disch:=omega) only[go_sem,h48l0,d,aJ.e];rfl;by_cases z:n=1;subst z;have d:=upS (Hz (G:=G) (bb:=bb) (Gj (Gk 1)) i (qW [mi]) (Vo (by simp)));rw[(Fp (mF 1) u).1] at d;have j:Qs 1 al mi lg=Vq (Gk 1) mi:=by unfold Qs;simp
 rw[j] at a ⊢;have h:Gk 1=1:=rfl;rw[h] at f b d a ⊢;clear l i;generalize Vq 1 mi=o at *;generalize Gj 1=g at *;generalize qW [mi]=D at *;generalize Bo=A at *;simp (maxSteps:=2000000) (disch:=omega) only[go_sem,h48c,p,I,f,aV.e,Int.reduceEq,decide_false,decide_true,Int.reduceNeg];rw[aR (fun k=>⟨(jk 11 (.one (.ptr 4 0)::jk 43 (.one (.bld 3 2)::vi 2::vi k::jk 16 []))),[.box [.dc (ci al.s),.dc (ci al.n)],.box [.dc (ci mi.s),.dc (ci mi.n)],.box [.dc (ci lg.s),.dc (ci lg.n)],.arr 0 11 [A.e,D.e],.box (match k with|0=>rL 1|1=>g.c|_=>o.c)]⟩) 2 ?_ ?_]
 simp (maxSteps:=2000000) (disch:=omega) only[go_sem,h48l0,a];rfl;intro k x;rcases (show k=0\/k=1 by omega) with rfl|rfl
 simp (maxSteps:=2000000) (disch:=omega) only[go_sem,h48l0,b,aJ.e];rfl;simp (maxSteps:=2000000) (disch:=omega) only[go_sem,h48l0,d,aJ.e];rfl;by_cases C:n=2;subst C;have d:=upS (Hz (G:=G) (bb:=bb) (Gj (Gk 2)) i (qW [lg]) (Vo (by simp)));rw[(Fp (mF 2) h3).1] at d;have j:Qs 2 al mi lg=Vq (Gk 2) lg:=by unfold Qs;simp
 rw[j] at a ⊢;have h:Gk 2=1:=rfl;rw[h] at f b d a ⊢;clear l i;generalize Vq 1 lg=o at *;generalize Gj 1=g at *;generalize qW [lg]=D at *;generalize Bo=A at *;simp (maxSteps:=2000000) (disch:=omega) only[go_sem,h48c,p,J,f,aV.e,Int.reduceEq,decide_false,decide_true,Int.reduceNeg];rw[aR (fun k=>⟨(jk 11 (.one (.ptr 4 0)::jk 43 (.one (.bld 3 2)::vi 2::vi k::jk 16 []))),[.box [.dc (ci al.s),.dc (ci al.n)],.box [.dc (ci mi.s),.dc (ci mi.n)],.box [.dc (ci lg.s),.dc (ci lg.n)],.arr 0 11 [A.e,D.e],.box (match k with|0=>rL 1|1=>g.c|_=>o.c)]⟩) 2 ?_ ?_]
 simp (maxSteps:=2000000) (disch:=omega) only[go_sem,h48l0,a];rfl;intro k x;rcases (show k=0\/k=1 by omega) with rfl|rfl
 simp (maxSteps:=2000000) (disch:=omega) only[go_sem,h48l0,b,aJ.e];rfl;simp (maxSteps:=2000000) (disch:=omega) only[go_sem,h48l0,d,aJ.e];rfl;have j:Qs n al mi lg=Gj (Gk n):=by unfold Qs;rw[if_neg y,if_neg z,if_neg C]
 rw[j] at a ⊢;by_cases E:n=5;subst E;have h:Gk 5=3:=rfl;have K:W9 .i64 1 2=3:=by decide
 rw[h] at f b a ⊢;clear l i;generalize Gj 3=g at *;generalize Bo=A at *;simp (maxSteps:=2000000) (disch:=omega) only[go_sem,h48c,p,f,aV.e,Int.reduceEq,decide_false,decide_true,Int.reduceNeg,K];rw[aR (fun k=>⟨(jk 11 (.one (.ptr 4 0)::jk 43 (.one (.bld 3 1)::vi 1::vi k::jk 16 []))),[.box [.dc (ci al.s),.dc (ci al.n)],.box [.dc (ci mi.s),.dc (ci mi.n)],.box [.dc (ci lg.s),.dc (ci lg.n)],.arr 0 11 [A.e],.box (match k with|0=>rL 3|_=>g.c)]⟩) 1 ?_ ?_]
 simp (maxSteps:=2000000) (disch:=omega) only[go_sem,h48l0,a];rfl;intro k x;rw[show k=0 by omega];simp (maxSteps:=2000000) (disch:=omega) only[go_sem,h48l0,b,aJ.e];rfl;have h:Gk n=1:=by unfold Gk;rw[if_neg E]
 rw[h] at f b a ⊢;clear l i;generalize Gj 1=g at *;generalize Bo=A at *;simp (maxSteps:=2000000) (disch:=omega) only[go_sem,h48c,p,f,aV.e,Int.reduceEq,y,z,C,E,decide_false,decide_true,Int.reduceNeg];rw[aR (fun k=>⟨(jk 11 (.one (.ptr 4 0)::jk 43 (.one (.bld 3 1)::vi 1::vi k::jk 16 []))),[.box [.dc (ci al.s),.dc (ci al.n)],.box [.dc (ci mi.s),.dc (ci mi.n)],.box [.dc (ci lg.s),.dc (ci lg.n)],.arr 0 11 [A.e],.box (match k with|0=>rL 1|_=>g.c)]⟩) 1 ?_ ?_]
 simp (maxSteps:=2000000) (disch:=omega) only[go_sem,h48l0,a];rfl;intro k x;rw[show k=0 by omega];simp (maxSteps:=2000000) (disch:=omega) only[go_sem,h48l0,b,aJ.e];rfl
end
section
variable {G:aF}{bb:Bool}
abbrev Vr(x:Bt)(n:Int):aV:=⟨x.tb,2*n⟩
abbrev miR(x:Bt):aV:=⟨x.mi,8⟩
abbrev lgR(x:Bt):aV:=⟨x.lg,x.lc⟩
noncomputable def nU(x:Bt)(m:Int)(n:Nat):L Int:=if n<16 then oH (Qs n (Vr x m) (miR x) (lgR x)) 1 else oH frR 1
noncomputable def lN(x:Bt)(m:Int):Nat->L Int
 |0=>L3 (zl (x.cl.toNat*256)) x
 |n+1=>if n<4 then qA (qA (lN x m n) (nU x m n) (x.tb.toNat+2*n) (x.tb.toNat+2*n+1)) (nU x m n) (x.mi.toNat+2*n) (x.mi.toNat+2*n+1) else qA (lN x m n) (nU x m n) (x.tb.toNat+2*n) (x.tb.toNat+2*n+1)
theorem aIq(x:Bt)(m:Int)(n:Nat):lN x m (n+1)=if n<4 then qA (qA (lN x m n) (nU x m n) (x.tb.toNat+2*n) (x.tb.toNat+2*n+1)) (nU x m n) (x.mi.toNat+2*n) (x.mi.toNat+2*n+1) else qA (lN x m n) (nU x m n) (x.tb.toNat+2*n) (x.tb.toNat+2*n+1):=rfl
noncomputable def jA(x:Bt)(m:Int):L Int:=lN x m m.toNat
structure Lh (x:Bt) (m:Int):Prop where
 ck:jO x=0
 cl:64<=x.cl/\x.cl<=512
 tb:1<=x.tb/\x.tb+2*m<x.cl
 mi:1<=x.mi/\x.mi+8<x.cl
 lg:1<=x.lg/\x.lg+x.lc<x.cl/\8<=x.lc
 nn:16<=m/\m<=96
 c1:Em x.tb (2*m) x.mi 8=false
 c2:Em x.tb (2*m) x.lg x.lc=false
theorem aBk{x:Bt}{m:Int}(h:aMA x m=0):Lh x m:=by
 unfold aMA at h;by_cases e:jO x=0;rw[if_pos e] at h;by_cases g:16<=m/\m<=96;rw[if_pos g] at h;by_cases h3:x.tb+2*m<x.cl;rw[if_pos h3] at h;by_cases h4:Em x.tb (2*m) x.mi 8=true\/Em x.tb (2*m) x.lg x.lc=true;rw[if_pos h4] at h;cases h;obtain⟨a,b,c,d⟩:=aMw e;obtain⟨l,o,n,p⟩:=mE.1 a;obtain⟨i,j,k⟩:=qI.1 b;have f:=Eb.1 c;exact⟨e,l,⟨i.1,h3⟩,⟨j.1,f.1⟩,⟨k.1,f.2,n.1⟩,g,by simpa using fun q=>h4 (.inl q),by simpa using fun q=>h4 (.inr q)⟩
 rw[if_neg h3] at h;cases h;rw[if_neg g] at h;cases h;rw[if_neg e] at h;exact absurd h e
theorem Lh.rs{x:Bt}{m:Int}(h:Lh x m):VR (Vr x m)/\VR (miR x)/\VR (lgR x):=by
 have:=h.cl;have:=h.tb;have:=h.mi;have:=h.lg;have:=h.nn;refine⟨⟨?_,?_,?_⟩,⟨?_,?_,?_⟩,⟨?_,?_,?_⟩⟩<;>simp only<;>omega
theorem Qt{x:Bt}{m:Int}(h:Lh x m)(n:Nat):(nU x m n).length=512/\aK (nU x m n):=by
 obtain⟨c,d,h3⟩:=h.rs;unfold nU;split;obtain⟨a,b⟩:=Yq n c d h3;exact (D8 b a (by decide)).2;exact (D8 Fq.2 Fq.1 (by decide)).2
theorem pU{l b:L Int}{a c:Nat}(f:b.length=512)(h0:a*256+256<=l.length)(d:c*256+256<=l.length):(qA l b a c).length=l.length:=by
 unfold qA;have e:(iW l (a*256) (b.take 256)).length=l.length:=cX (by rw[aZf];omega);rw[cX (by rw[e,aZn];omega),e]
theorem Fr{l b:L Int}{e f:Nat}(d:aK l)(c:aK b):aK (qA l b e f):=aMx (aMx d (fun x a=>c x (aZA a))) (fun x a=>c x (aZL a))
theorem sY{x:Bt}{m:Int}(h:Lh x m):∀n:Nat,(n:Int)<=m->(lN x m n).length=x.cl.toNat*256/\aK (lN x m n)
 | 0,_=>by
  have:=h.cl;refine⟨?_,aMx (aMx (A4 _) (A9 x)) (A9 x)⟩;show (L3 (zl (x.cl.toNat * 256)) x).length=_;rw[aMy _ _ (by rw[aS];omega),aS]
 | n+1,e=>by
  obtain⟨c,d⟩:=sY h n (by omega);obtain⟨a,b⟩:=Qt h n;have:=h.cl;have:=h.tb;have:=h.mi;unfold lN;split
  ·rw[pU a (by rw[pU a (by omega) (by omega)];omega) (by rw[pU a (by omega) (by omega)];omega),pU a (by omega) (by omega)];exact⟨c,Fr (Fr d b) b⟩
  ·rw[pU a (by omega) (by omega)];exact⟨c,Fr d b⟩
theorem aVP(n:Nat):List.replicate n (cI (.int .u8 0))=(zl n).map yC:=by rw[zl,List.map_replicate];rfl
theorem aIr(v:G9 G){x:Bt}{m:Int}(h:Lh x m)(N:Nat)(U:x.cl.toNat*256=N)(k:Nat)(y:(k:Int)<m):Lf [2,4,1,48,0] 4 (EC (EV G (Tb (dU G bb))) G h17l0 ⟨(jk 2 (.one (.ptr 0 0)::jk 4 (.one (.ptr 1 0)::jk 1 (.one (.bls 3 0 N 1)::jk 48 (vi m::vi k::jk 35 []))))),[x.o,.box [.dc (ci x.tb),.dc (ci (2*m))],.arr 0 1 [[ci 0],[ci 0]],yb (lN x m k)]⟩)= some ⟨(jk 2 (.one (.ptr 0 0)::jk 4 (.one (.ptr 1 0)::jk 1 (.one (.bls 3 0 N 1)::jk 48 (vi m::vi (k+1:Nat)::jk 35 []))))),[x.o,.box [.dc (ci x.tb),.dc (ci (2*m))],.arr 0 1 [[ci 0],[ci 0]],yb (lN x m (k+1))]⟩:=by
 obtain⟨E,I,J⟩:=h.rs;have j:=aRu (bb:=bb) v;have p:=aVO (bb:=bb) v k (Vr x m) (miR x) (lgR x) E I J;have i:=A6 (G:=G) (B:=dU G bb) x;have g:=Yg (G:=G) (B:=dU G bb) x;obtain⟨f,u⟩:=Qt h k;obtain⟨L,M⟩:=sY h k (by omega);have O:=h.cl;have R:=h.tb;have S:=h.mi;have T:=h.nn;have n:=K2 (G:=G) (B:=dU G bb) (x.tb+2*k) (by omega);have l:=K2 (G:=G) (B:=dU G bb) (x.mi+2*k) (by omega);have c:=Vg (G:=G) (B:=dU G bb) (lN x m k) (nU x m k) N (x.tb.toNat+2*k) (x.tb.toNat+2*k+1) (by omega) f u (by omega) (by omega) (by omega);have z:(qA (lN x m k) (nU x m k) (x.tb.toNat+2*k) (x.tb.toNat+2*k+1)).length=N:=by rw[pU f (by omega) (by omega)];omega
 have C:((x.tb.toNat+2*k:Nat):Int)=x.tb+2*k:=by omega
 have r:((x.tb.toNat+2*k+1:Nat):Int)=x.tb+2*k+1:=by omega
 rw[C,r] at c;have d:(k:Int)<m:=y;rw[aIq];by_cases h4:k<4;rw[if_pos h4];have b:(k:Int)<4:=by omega
 have a:(k:Int)<16:=by omega
 have e:=Vg (G:=G) (B:=dU G bb) (qA (lN x m k) (nU x m k) (x.tb.toNat+2*k) (x.tb.toNat+2*k+1)) (nU x m k) N (x.mi.toNat+2*k) (x.mi.toNat+2*k+1) z f u (by omega) (by omega) (by omega);have A:((x.mi.toNat+2*k:Nat):Int)=x.mi+2*k:=by omega
 have q:((x.mi.toNat+2*k+1:Nat):Int)=x.mi+2*k+1:=by omega
 rw[A,q] at e;generalize qA (lN x m k) (nU x m k) (x.tb.toNat+2*k) (x.tb.toNat+2*k+1)=s at *;generalize qA s (nU x m k) (x.mi.toNat+2*k) (x.mi.toNat+2*k+1)=K at *;unfold nU at c e;rw[if_pos (by omega)] at c e;generalize oH (Qs k (Vr x m) (miR x) (lgR x)) 1=Q at *;generalize oH frR 1=F at *;generalize lN x m k=D at *;simp (maxSteps:=2000000) (disch:=omega) only[go_sem,h17l0,d,j,p,i,g,n,l,c,e,b,a,jJ];rw[if_neg h4];have b:¬ (k:Int)<4:=by omega
 generalize qA (lN x m k) (nU x m k) (x.tb.toNat+2*k) (x.tb.toNat+2*k+1)=s at *;unfold nU at c;generalize lN x m k=D at *;by_cases h16:k<16;rw[if_pos h16] at c;have a:(k:Int)<16:=by omega
 generalize oH (Qs k (Vr x m) (miR x) (lgR x)) 1=Q at *;generalize oH frR 1=F at *;simp (maxSteps:=2000000) (disch:=omega) only[go_sem,h17l0,d,j,p,i,g,n,l,c,b,a,jJ];rw[if_neg h16] at c;have a:¬ (k:Int)<16:=by omega
 generalize oH frR 1=F at *;simp (maxSteps:=2000000) (disch:=omega) only[go_sem,h17l0,d,j,p,i,g,n,l,c,b,a,jJ]
theorem aDC(s:G9 G)(x:Bt)(n:Int)(h:aMA x n=0):EV G (Tb (dU G bb)) 17 [x.v,vi n] []=some (.tup [tS (jA x n),tE 0],[]):=by
 have a:=aBk h;have c:=Ah (G:=G) (B:=dU G bb) x;have w:=kG (G:=G) (B:=dU G bb) n 16 96;have u:=iY (G:=G) (B:=dU G bb);have f:=pR (G:=G) (B:=dU G bb);have j:=A6 (G:=G) (B:=dU G bb) x;have i:=Yg (G:=G) (B:=dU G bb) x;have K:=a.cl;have q:=a.tb;have L:=a.mi;have M:=a.lg;have r:=a.nn;obtain⟨_,_,hf,_⟩:=aMw a.ck;have Q:x.lc<=1000:=by omega
 have g:=pS (G:=G) (B:=dU G bb) x.tb (2*n) (by omega) (by omega);have d:=Ea (G:=G) (B:=dU G bb) x.tb (2*n) x.mi 8 (by omega) (by omega) (by omega) (by omega);have e:=Ea (G:=G) (B:=dU G bb) x.tb (2*n) x.lg x.lc (by omega) (by omega) (by omega) (by omega);rw[a.ck] at c;rw[decide_eq_true r] at w;rw[a.c1] at d;rw[a.c2] at e;have h3:=q.2;obtain⟨N,b⟩:∃N:Nat,x.cl.toNat*256=N:=⟨_,rfl⟩;have E:x.cl*256=(N:Int):=by omega
 have C:=aQ3 (G:=G) (B:=dU G bb) (zl N) x N (aS N) (aQ9 (by decide)) (fun y z=>by have:=Qg a.ck y z;omega) (by omega)
 have l:lN x n 0=L3 (zl N) x:=by rw[<- b];rfl
 have F:=aVP N;obtain⟨el,J⟩:=sY a n.toNat (by omega);have p:jM (List.take N (List.map yC (lN x n n.toNat)))=some ((lN x n n.toNat).map u8):=by
  rw[aZM (by rw[aZa,el];omega),lI]
 have A:((n.toNat:Nat):Int)=n:=by omega
 refine aB rfl ?_;simp (maxSteps:=2000000) (disch:=omega) only[go_sem,h17c,c,w,u,f,j,i,g,d,e,h3,bY,dZ,eP,aZF,aZG,E,F,C,aZN];rw[aR (fun k=>⟨(jk 2 (.one (.ptr 0 0)::jk 4 (.one (.ptr 1 0)::jk 1 (.one (.bls 3 0 N 1)::jk 48 (vi n::vi k::jk 35 []))))),[x.o,.box [.dc (ci x.tb),.dc (ci (2*n))],.arr 0 1 [[ci 0],[ci 0]],yb (lN x n k)]⟩) n.toNat ?_ ?_]
 unfold jA;have I:List.drop 0 (List.map yC (lN x n n.toNat))=List.map yC (lN x n n.toNat):=aZ1;generalize lN x n n.toNat=D at *;simp (maxSteps:=2000000) (disch:=omega) only[go_sem,h17l0,A,aZa,el,b,p,S7];rw[l];rfl;exact fun k O=>aIr s a N b k (by omega)
end
section
variable {G:aF}{bb:Bool}
theorem aBl{l t:L Int}(d:t.length=256)(n c:Nat)(b:n*256+256<=l.length):G6 (iW l (n*256) t) c=if c=n then t else G6 l c:=by
 have a:(l.take (n*256)).length=n*256:=by rw[aZf];omega
 unfold G6 iW;rw[aZr];by_cases h:c=n;rw[if_pos h,h,List.drop_append_of_le_length (by omega),List.drop_eq_nil_of_le (by omega),aZs,bAz (by omega),aZM (by omega)];rw[if_neg h];rcases Nat.lt_or_gt_of_ne h with q|q
 rw[List.drop_append_of_le_length (by omega),bAz (by rw[aZn];omega),bAr,List.take_take,Nat.min_eq_left (by omega)];have e:(l.take (n*256)++(t++l.drop (n*256+t.length))).drop (c*256)=(l.drop (n*256+t.length)).drop (c*256-(n*256+t.length)):=by
  rw[<- aZr,List.drop_append,List.drop_eq_nil_of_le (by rw[aZb];omega),aZs,aZb,a]
 rw[e,bAe];congr 2;omega
theorem pV{l b:L Int}(f:b.length=512)(a d c:Nat)(h0:a*256+256<=l.length)(e:d*256+256<=l.length):G6 (qA l b a d) c=if c=d then b.drop 256 else if c=a then b.take 256 else G6 l c:=by
 unfold qA;rw[aBl (by rw[aZn];omega) d c (by rw[cX (by rw[aZf];omega)];omega),aBl (by rw[aZf];omega) a c h0]
theorem Qu{l b:L Int}(a:b.length=512)(n:Nat)(h0:n*256+512<=l.length):Bm (qA l b n (n+1)) n (n+1)=b:=by
 unfold Bm;rw[pV a n (n+1) n (by omega) (by omega),pV a n (n+1) (n+1) (by omega) (by omega),if_neg (by omega),if_pos rfl,if_pos rfl,bAx]
theorem oX{l b:L Int}(f:b.length=512)(n a c:Nat)(h0:n*256+512<=l.length)(d:a≠n/\a≠n+1)(e:c≠n/\c≠n+1):Bm (qA l b n (n+1)) a c=Bm l a c:=by
 unfold Bm;rw[pV f n (n+1) a (by omega) (by omega),pV f n (n+1) c (by omega) (by omega),if_neg d.2,if_neg d.1,if_neg e.2,if_neg e.1]
theorem aIs{a m b n:Int}(h:Em a m b n=false):¬ (a<b+n/\b<a+m):=of_decide_eq_false h
theorem H7{x:Bt}{m:Int}(h:Lh x m):∀n:Nat,(n:Int)<=m->(G6 (lN x m n) 0=G6 (lN x m 0) 0)/\(∀k,k<n->Bm (lN x m n) (x.tb.toNat+2*k) (x.tb.toNat+2*k+1)=nU x m k)/\(∀k,k<n->k<4->Bm (lN x m n) (x.mi.toNat+2*k) (x.mi.toNat+2*k+1)=nU x m k)
 |0,_=>⟨rfl,fun k b=>absurd b (Nat.not_lt_zero k),fun k b=>absurd b (Nat.not_lt_zero k)⟩
 | n+1,q=>by
  obtain⟨d,f,g⟩:=H7 h n (by omega);obtain⟨i,_⟩:=sY h n (by omega);obtain⟨a,_⟩:=Qt h n;have j:=h.cl;have l:=h.tb;have o:=h.mi;have p:=h.nn;have s:=aIs h.c1;have r:(qA (lN x m n) (nU x m n) (x.tb.toNat+2 * n) (x.tb.toNat+2 * n+1)).length=x.cl.toNat * 256:=by rw[pU a (by omega) (by omega),i]
  rw[aIq];by_cases h4:n < 4
  ·rw[if_pos h4];refine⟨?_,fun k b=>?_,fun k b c=>?_⟩
   ·rw[pV a _ _ _ (by omega) (by omega),if_neg (by omega),if_neg (by omega),pV a _ _ _ (by omega) (by omega),if_neg (by omega),if_neg (by omega),d]
   ·rw[oX a _ _ _ (by omega) ⟨by omega,by omega⟩ ⟨by omega,by omega⟩];by_cases e:k=n
    ·rw[e,Qu a _ (by omega)]
    ·rw[oX a _ _ _ (by omega) ⟨by omega,by omega⟩ ⟨by omega,by omega⟩,f k (by omega)]
   ·by_cases e:k=n
    ·rw[e,Qu a _ (by omega)]
    ·rw[oX a _ _ _ (by omega) ⟨by omega,by omega⟩ ⟨by omega,by omega⟩,oX a _ _ _ (by omega) ⟨by omega,by omega⟩ ⟨by omega,by omega⟩,g k (by omega) c]
  ·rw[if_neg h4];refine⟨?_,fun k b=>?_,fun k b c=>?_⟩
   ·rw[pV a _ _ _ (by omega) (by omega),if_neg (by omega),if_neg (by omega),d]
   ·by_cases e:k=n
    ·rw[e,Qu a _ (by omega)]
    ·rw[oX a _ _ _ (by omega) ⟨by omega,by omega⟩ ⟨by omega,by omega⟩,f k (by omega)]
   ·rw[oX a _ _ _ (by omega) ⟨by omega,by omega⟩ ⟨by omega,by omega⟩,g k (by omega) c]
noncomputable def Yt(x:Bt)(m:Int)(n:Nat):cL:=if n<16 then Qs n (Vr x m) (miR x) (lgR x) else frR
theorem aBm{x:Bt}{m:Int}(h:Lh x m)(n:Nat):fZ (nU x m n)=(Yt x m n,1,0):=by
 obtain⟨c,d,h3⟩:=h.rs;unfold nU Yt;split;obtain⟨a,b⟩:=Yq n c d h3;exact (D8 b a (by decide)).1;exact (D8 Fq.2 Fq.1 (by decide)).1
theorem aIt(l:L Int)(h:256<=l.length):l.take 64=(G6 l 0).take 64:=by
 unfold G6;rw[Nat.zero_mul,aZ1,List.take_take,Nat.min_eq_left (by decide)]
theorem Ei{x:Bt}{m:Int}(h:Lh x m):aW (jA x m)=(x,0,0):=by
 have f:=h.cl;have g:=h.nn;obtain⟨d,_⟩:=sY h m.toNat (by omega);obtain⟨i,_⟩:=sY h 0 (by omega);obtain⟨c,_⟩:=H7 h m.toNat (by omega);have e:(jA x m).take 64=x.bs:=by
  unfold jA;rw[aIt _ (by omega),c,<- aIt _ (by omega)];exact aH3 _ x (by rw[aS];omega)
 have a:(jA x m).length=x.cl.toNat*256:=d;have b:Lg (jA x m).length=0:=by
  rw[a];unfold Lg H3;rw[if_neg (show ¬ (x.cl.toNat*256=0\/x.cl.toNat*256 % 64≠0) by omega),if_neg (show ¬ 131072<x.cl.toNat*256 by omega),if_neg (by decide),if_pos (by omega)]
 unfold aW;rw[if_pos b];unfold Aj;rw[e,aQZ x h.ck,if_pos ⟨rfl,by rw[a];show x.cl=_;omega⟩];rfl
theorem aBn{x:Bt}{m:Int}(h:Lh x m):lO (jA x m)=(Vq 1 (Vr x m),1,0):=by
 have b:=h.nn;obtain⟨_,a,_⟩:=H7 h m.toNat (by omega);unfold lO;rw[Ei h];have e:L4 (jA x m) x=nU x m 0:=a 0 (by omega);unfold Vk;dsimp only;rw[e,aBm h 0,if_pos rfl];rfl
theorem aBo{x:Bt}{m:Int}:¬ iX iZ (Vq 1 (Vr x m)).ats<0:=by
 rw[Ad];intro q;have:=q (bT (qW [Vr x m]) 1) (aBj.2 (.inr rfl));simp[iZ,bT,qW] at this
theorem aBp{x:Bt}{m:Int}(h:Lh x m):kT (jA x m)=bT (qW [Vr x m]) 1:=by
 have e:=aBn h;have c:¬ iX iZ (lO (jA x m)).1.ats<0:=by rw[e];exact aBo
 obtain⟨K,b,_,h3,h4,_⟩:=Vm c;rw[h3];have a:=aZk b;generalize (lO (jA x m)).1.ats[K]=A at *;rw[e] at a;rcases aBj.1 a with q|q;rw[q] at h4;simp[iZ,Bo] at h4;exact q
theorem aMX(q:aV):rW [q]=As q q.n.toNat:=by simp[rW]
theorem aRv{q:aV}(b:q.s≠-1){n k:Nat}(a:k<n):(As q n).getD k 0=q.s+k:=by
 unfold As;rw[aZo,aZi,bAt a];simp[b]
theorem aRw(q:aV)(n:Nat):(As q n).length=n:=by simp[As]
noncomputable def tU(x:Bt)(m:Int):L Int:=As (Vr x m) (2*m).toNat
theorem Ej{x:Bt}{m:Int}(h:Lh x m):gF (jA x m)=tU x m:=by
 unfold gF;rw[aBp h];exact aMX _
theorem sZ{x:Bt}{m:Int}(h:Lh x m){k:Nat}(a:(k:Int)<2*m):(tU x m).getD k 0=x.tb+k:=aRv (by have:=h.tb;show x.tb≠-1;omega) (by omega)
theorem K9{x:Bt}{m:Int}:(tU x m).length=(2*m).toNat:=aRw _ _
theorem aMY{x:Bt}{m:Int}(h:Lh x m):clE x (tU x m)=0:=by
 have c:=h.tb;have d:=h.mi;have f:=h.nn;have l:=aIs h.c1;have b:=K9 (x:=x) (m:=m);have a:tQ x (tU x m)=false:=by
  refine decide_eq_false ?_;rintro⟨k,i,q⟩;rw[sZ h (by omega)] at q;rcases q with q|q
  simp only[bAl] at q;rcases q with q|q|q
  omega;omega;obtain⟨j,g,e⟩:=List.mem_take_iff_getElem.1 q;have:(tU x m).getD j 0=(tU x m)[j]'(by omega):=by simp[show j<(tU x m).length by omega]
  rw[sZ h (by omega)] at this;omega;omega
 unfold clE;rw[a,sZ h (by omega),sZ h (by omega),b,decide_eq_true (show (2*m).toNat % 2=0 by omega),decide_eq_true (show 16<=(2*m).toNat / 2/\(2*m).toNat / 2<=96 by omega),decide_eq_true (show 2<=(2*m).toNat by omega),decide_eq_true (by omega)];rfl
theorem aBq{x:Bt}{m:Int}(h:Lh x m):nO (jA x m)=0/\mM (jA x m)=0:=by
 have e:=h.tb;have f:=h.nn;have a:nO (jA x m)=0:=by
  unfold nO;rw[Ei h,aBn h,aBp h];dsimp only;rw[if_neg (by decide),if_neg (by decide),if_neg aBo];unfold Eg;have k:(bT (qW [Vr x m]) 1).rs=[Vr x m]:=rfl;have b:(!(bT (qW [Vr x m]) 1).res&&decide ((bT (qW [Vr x m]) 1).fi=0))=true:=rfl;rw[k,b];have c:([Vr x m].any fun r=>decide (r.s=-1))=false:=by simp;omega
  have d:([Vr x m].any fun r=>decide (r.s+r.n > x.cl))=false:=by simp;omega
  rw[c,d];rfl
 refine⟨a,?_⟩;unfold mM Qn;rw[a,if_neg (by decide),Ei h,Ej h];exact aMY h
theorem Yu{x:Bt}{m:Int}(h:Lh x m){k:Nat}(g:(k:Int)<m):Yo (jA x m) x (tU x m) k=(Yt x m k,1,0):=by
 have d:=h.tb;have f:=h.nn;obtain⟨_,c,_⟩:=H7 h m.toNat (by omega);unfold Yo;rw[sZ h (by omega),sZ h (by omega)];have a:(x.tb+((2*k:Nat):Int)).toNat=x.tb.toNat+2*k:=by omega
 have b:(x.tb+((2*k+1:Nat):Int)).toNat=x.tb.toNat+2*k+1:=by omega
 rw[a,b];have e:Bm (jA x m) (x.tb.toNat+2*k) (x.tb.toNat+2*k+1)=nU x m k:=c k (by omega);unfold Vk;rw[e,aBm h k,if_pos rfl]
end
section
variable {G:aF}{bb:Bool}
theorem aNS{x:Bt}{m:Int}(h:Lh x m):tR (jA x m)=m.toNat:=by
 have:=h.nn;unfold tR;rw[Ej h,K9];omega
theorem aMZ(p:Nat->Prop)(n:Nat)(h:∀k,k<n->¬ p k):ix p n=n:=by
 obtain⟨b,a,_⟩:=bE p n;rcases a with q|⟨q,r⟩;exact q;exact absurd r (h _ q)
theorem aRx{x:Bt}{m:Int}(h:Lh x m):usV (jA x m)=(Yp (jA x m) x (tU x m) m.toNat,0):=by
 have g:=h.nn;have e:usI (jA x m) x (tU x m)=m.toNat:=by
  unfold usI;rw[K9];rw[show (2*m).toNat / 2=m.toNat by omega];exact aMZ _ _ (fun k a q=>q (by rw[Yu h (by omega)]))
 unfold usV;rw[(aBq h).2,if_neg (by decide),Ei h,Ej h,aNS h];dsimp only;rw[e,if_pos rfl]
theorem aIu(n:Int)(b e d:aV):fJ (Qs n b e d).fl=true:=by
 have c:∀f,f=1\/f=3->fJ (Gj f).fl=true:=fun f h=>by rcases h with rfl|rfl<;>rfl
 have a:∀f q,f=1\/f=3->fJ (Vq f q).fl=true:=fun f q h=>by rcases h with rfl|rfl<;>rfl
 unfold Qs;split;exact a _ _ (mF n);split;exact a _ _ (mF n);split;exact a _ _ (mF n);exact c _ (mF n)
theorem aM0{x:Bt}{m:Int}(h:Lh x m){k:Nat}(a:(k:Int)<m):usB (jA x m) x (tU x m) k=decide (k<16):=by
 unfold usB;rw[Yu h a];unfold Yt;by_cases q:k<16;rw[if_pos q,decide_eq_true q];exact aIu _ _ _ _;rw[if_neg q,decide_eq_false q];rfl
theorem aRy{x:Bt}{m:Int}(h:Lh x m):frV (jA x m)=if 16<m then (16,0) else (0,16):=by
 have g:=h.nn;have e:=H6 (jA x m) x (tU x m) m.toNat;have a:∀ k,16+k < m.toNat->((Yp (jA x m) x (tU x m) m.toNat).drop 16).getD k true=false:=fun k d=>by
  rw[aZo,aZJ,Yp,aZi,bAt d];show usB (jA x m) x (tU x m) (16+k)=false;rw[aM0 h (by omega)];exact decide_eq_false (by omega)
 unfold frV;rw[aRx h];dsimp only;rw[if_neg (by decide)];have f:((Yp (jA x m) x (tU x m) m.toNat).drop 16).length=m.toNat-16:=by rw[aZn,e]
 generalize (Yp (jA x m) x (tU x m) m.toNat).drop 16=U at *;unfold ixB;obtain⟨i,j,h3⟩:=bE (fun k=>U.getD k true=false) U.length
 generalize ix (fun k=>U.getD k true=false) U.length=K at *
 by_cases c:16<m;have b:K=0:=by
  rcases Nat.eq_zero_or_pos K with q|q;exact q;exact absurd (a 0 (by omega)) (h3 0 q)
 rw[if_pos c,b];rw[if_neg (show ¬ 0=U.length by omega),if_neg (by decide)];rfl;rw[if_neg c,if_pos (show K=U.length by omega),if_pos (by decide)]
theorem aIv{x:Bt}{m:Int}(h:Lh x m){n:Int}(a:0<=n/\n<m):N5 (jA x m) n=0:=by
 unfold N5;rw[(aBq h).2,if_neg (by decide),aNS h,decide_eq_true (by omega)];rfl
theorem aRz{x:Bt}{m:Int}(h:Lh x m)(a:16<m):aMR (jA x m) 16 1=(.nil,32):=by
 have e:rrV (jA x m) 16=(Yt x m 16,1,0):=by
  unfold rrV;rw[aIv h ⟨by decide,a⟩,if_pos rfl,Ei h,Ej h];exact Yu h (by omega)
 unfold aMR;rw[e];dsimp only;rw[if_neg (by decide)];have r:Yt x m 16=frR:=by unfold Yt;rw[if_neg (by decide)]
 rw[r,if_neg (by rintro⟨q,_⟩;cases q)]
def Q1:Bt:=⟨64,4,44,52,8,7⟩
theorem aVQ:jO Q1=0:=by decide
theorem aIw:aMA Q1 18=0:=by decide
def tbV:FuncId->Option HF:=fun f=>if f=4 then some h4 else none
noncomputable def T3(G:aF):HT:=⟨tbV,EV G (Tb (dU G false))⟩
theorem aVR{G:aF}:W5 Tryz.prog (T3 G):=by
 intro f h hf;change tbV f=some h at hf;unfold tbV at hf;split at hf;rename_i e;subst e;injection hf with hf;subst hf;exact⟨by kernel_rfl,_,Tryz.func4,Tryz.ntmps4,h4_ok,aST⟩
 cases hf
theorem t3{f:FuncId}{a:L AV}{hp:L aD}{r:AV×L aD}(h:EV G (Tb (dU G false)) f a hp=some r)(b:f≠4:=by decide):EV G (T3 G) f a hp=some r:=
 jC (by show tbV f=none;exact if_neg b) h
theorem aM1{B:aO}:EV G (Tb B) 16 [] []=some (.agg [.dc (ci 64),.dc (ci 4),.dc (ci 44),.dc (ci 52),.dc (ci 8),.dc (ci 7)],[]):=by
 exact aB rfl rfl
theorem aDD(c:G9 G):EV G (T3 G) 4 [] []=some (vb true,[]):=by
 have a:=aBk aIw;obtain⟨j,b⟩:=sY a 18 (by decide);have j:(jA Q1 18).length=16384:=j;have b:aK (jA Q1 18):=b;have k:=t3 (aM1 (G:=G) (B:=dU G false));have l:EV G (T3 G) 15 [.agg [.dc (ci 64),.dc (ci 4),.dc (ci 44),.dc (ci 52),.dc (ci 8),.dc (ci 7)]] []=some (.tup [tS Q1.bs,tE 0],[]):=by
  have q:=t3 (aDt (G:=G) (B:=dU G false) Q1 (Ee Q1) (aQ9 (by decide)));rw[aVQ,if_pos rfl] at q;exact q
 have n:EV G (T3 G) 17 [.agg [.dc (ci 64),.dc (ci 4),.dc (ci 44),.dc (ci 52),.dc (ci 8),.dc (ci 7)],vi 18] []=some (.tup [tS (jA Q1 18),tE 0],[]):=t3 (aDC (bb:=false) c Q1 18 aIw);have i:=t3 (Vn (bb:=false) c (jA Q1 18) b (by omega));rw[aRy a,if_pos (by decide)] at i;have d:=t3 (N6 (bb:=false) c (jA Q1 18) b (by omega) 3);rw[aIv a (by decide),if_pos rfl,Ej a] at d;have p:(tU Q1 18).getD (2*(3:Int).toNat) 0=10:=by rw[sZ a (by decide)];rfl
 rw[p] at d;have o:EV G (T3 G) 19 [sv (jA Q1 18),rfv 16 1] []=some (.tup [.agg [.dc (ci 0),.dc (ci 0),.dc (ci 0),.dc (ci 0),.dc (ci 0),.dc (ci 0),.dc (ci 0),.dc (.slc [])],tE 32],[]):=by
  have q:=t3 (aDB (bb:=false) c (jA Q1 18) b (by omega) 16 1);rw[aRz a (by decide)] at q;exact q
 have s:=K0 Q1;have e:Q1.bs.take (12:Int).toNat=[68,69,80,79,83,73,84,49,64,0,0,0]:=by decide
 have r:(dB [68,69,80,79,83,73,84,49,64,0,0,0]=(⟨#[68,69,80,79,83,73,84,49,64,0,0,0]⟩:ByteArray))=True:=eq_true (by kernel_rfl);generalize jA Q1 18=D at *;generalize Q1.bs=S at *;have g:(S.length:Int)=64:=by omega
 have f:(D.length:Int)=16384:=by omega
 refine aB (h:=h4) rfl ?_;simp (maxSteps:=2000000) (disch:=omega) only[go_sem,h4c,k,l,n,i,d,o,aC,g,f,e,r]
theorem aDE(c:G9 G):QC Tryz.prog G 4 [] (vb true):=aAk aVR (fun f a hp av g h b d=>by
 obtain⟨n,e⟩:=jV h;exact uQ (aAl (dU G false)) (aIa (fun h=>by cases h)) n f a hp av g e b d) (aDD c)
end
section
open Go.ChangeShapes Go.WideShapes Go.ChangeAt Go.RowKit
def L5(P:Program):Nat->TypeId->L DC->Prop
 |0,_,_=>False
 |n+1,t,a=>
  match P.underlying t with
  |some .bool=>∃b,a=[.raw (.bool b)]
  |some (.int k)=>∃i,a=[.raw (.int k i)]/\k.min<=i/\i<=k.max
  |some .string=>∃s:ByteArray,a=[.raw (.string s)]/\s.size<=maxLen
  |some (.slice e)=>∃es:L (L DC),a=[.slc es]/\es.length<=maxLen/\∀d∈es,L5 P n e d
  |some (.struct c)=>a.length=P.cellsOf t/\∀(i:Nat) f,c[i]?=some f->L5 P n f.type ((a.drop f.offset).take (P.cellsOf f.type))
  |some (.array m e)=>a.length=P.cellsOf t/\∀i,i<m->L5 P n e ((a.drop (i*P.cellsOf e)).take (P.cellsOf e))
  |_=>False
def La:L (Nat×Nat)->Nat->Nat->Bool
 |[],off,a=>decide (off=a)
 |p::l,off,a=>decide (p.1=off)&&La l (off+p.2) a
def Lb(P:Program):Nat->TypeId->Bool
 |0,_=>false
 |n+1,t=>
  match P.underlying t with
  |some .bool=>true
  |some (.int _)=>true
  |some .string=>true
  |some (.slice e)=>Lb P n e&&decide (0<P.cellsOf e)
  |some (.struct a)=>a.toList.all (fun f=>Lb P n f.type)&&La (a.toList.map fun f=>(f.offset,P.cellsOf f.type)) 0 (P.cellsOf t)
  |some (.array m e)=>Lb P n e&&decide (P.cellsOf t=m*P.cellsOf e)
  |_=>false
def RDs(F:Fz)(a:L DC)(cs:L Value):Prop:=a.length=cs.length/\∀(i:Nat) d v,a[i]?=some d->cs[i]?=some v->RD F d v
theorem aBr:∀(l:L (Nat×Nat)) (off a:Nat),La l off a=true->off<=a
 |[],off,a,h=>by simp[La] at h;omega
 | p::l,off,a,h=>by
  simp only[La,aZp,decide_eq_true_eq] at h;have:=aBr l _ _ h.2;omega
theorem aRA{F:Fz}{cs:L Value}:∀(l:L (Nat×Nat×(L DC->Prop))) (off:Nat),La (l.map fun p=>(p.1,p.2.1)) off cs.length=true->(∀p∈l,∃f,RDs F f ((cs.drop p.1).take p.2.1)/\p.2.2 f)-> ∃f,RDs F f (cs.drop off)/\∀p∈l,off<=p.1/\p.2.2 ((f.drop (p.1-off)).take p.2.1)
 | [],off,h,_=>by
  simp only[aZm,La,decide_eq_true_eq] at h;exact⟨[],⟨by simp[h],fun i d v j=>by simp at j⟩,fun p hp=>by cases hp⟩
 | p::l,off,h,hp=>by
  simp only[aZl,La,aZp,decide_eq_true_eq] at h;obtain⟨h0,j⟩:=h;have x:=aBr _ _ _ j;obtain⟨a,e,r⟩:=hp p aZu;obtain⟨c,n,s⟩:=aRA l (off+p.2.1) j (fun q g=>hp q (aZC _ g))
  have k:a.length=p.2.1:=by rw[e.1,aZf,aZn];omega
  have b:cs.drop off=(cs.drop p.1).take p.2.1++cs.drop (off+p.2.1):=by
   rw[h0,<- bAe,bAx]
  refine⟨a++c,⟨by rw[b,aZb,aZb,e.1,n.1],fun i d v h3 h4=>?_⟩,fun q g=>?_⟩
  ·rw[b] at h4;by_cases o:i < a.length
   ·rw[aZw o] at h3;rw[aZw (by rw[<- e.1];exact o)] at h4;exact e.2 i d v h3 h4
   ·rw[aZB (by omega)] at h3;rw[aZB (by rw[<- e.1];omega),<- e.1] at h4;exact n.2 _ d v h3 h4
  ·rcases bAl.1 g with rfl | g
   ·refine⟨by omega, ?_⟩;rw[h0,aZ2,aZ1,bAz (by omega),aZM (by omega)];exact r
   ·obtain⟨y,u⟩:=s q g;refine⟨by omega, ?_⟩;have:(a++c).drop (q.1 - off)=c.drop (q.1 - (off+p.2.1)):=by
     rw[List.drop_append,List.drop_of_length_le (by omega),aZs,k];congr 1;omega
    rw[this];exact u
theorem Gm{α:Type}{a:Nat->α->Prop}:∀n,(∀i,i<n->∃x,a i x)->∃l:L α,l.length=n/\∀(i:Nat) x,l[i]?=some x->a i x
 |0,_=>⟨[],rfl,fun i x h=>by simp at h⟩
 | n+1,h=>by
  obtain⟨l,b,hp⟩:=Gm n (fun i e=>h i (by omega))
  obtain⟨x,c⟩:=h n (by omega);refine⟨l++[x],by simp[b],fun i y d=>?_⟩
  rcases iJ d with h1 | ⟨h1,rfl⟩
  ·exact hp i y h1
  ·rw[h1,b];exact c
section
variable {H:Type}{enc:TypeId×Value->H}{P:Program}{w:World}{base:Nat}{spare:Nat->Bool}{held:Bool}
theorem aDF{a:Addr}{v:Value}(h:w.cell? a=some v):a.spot=none:=by
 unfold World.cell? at h;split at h;split at h;cases h;rename_i b;cases c:a.spot with
 |none=>rfl
 |some x=>simp[c] at b
 cases h
theorem aIx{a:Addr}(h:a.spot=none)(i:Nat):a.add i=⟨a.block,a.off+i,none⟩:=by
 unfold Addr.add;split;rename_i h0;subst h0;cases a;simp_all;rfl
theorem aIy{a:Addr}{v:Value}(h:w.cell? a=some v):(iU w).cell? a=some v:=by
 unfold World.cell? at h;unfold Fz.cell? iU;exact h
theorem Be:∀(n:Nat)(t:TypeId)(cs:List Value)(x:DataW H×List MemPlace)(m:Nat),Lb P m t=true->DataW.trod enc P w base spare held n t cs=some x->∃E,RDs (iU w) E cs/\L5 P m t E
 |0,t,cs,x,m,l,h=>by simp[DataW.trod] at h
 |n+1,t,cs,x,0,l,h=>by simp[Lb] at l
 | n+1,t,cs,x,m+1,l,h=>by
  rw[Lb] at l;cases q:P.underlying t with
  | none=>simp[q] at l
  | some u=>
   simp only[q] at l;cases u<;>try (simp at l;done)
   case bool=>
    obtain⟨b,rfl,rfl⟩:=DataW.trod_bool q h;exact⟨[.raw (.bool b)],⟨rfl,fun i d v c g=>by
     cases i with
     | zero=>simp at c g;subst c;subst g;exact .raw _ rfl
     | succ i=>simp at c⟩,by rw[L5,q];exact⟨b,rfl⟩⟩
   case int k=>
    obtain⟨i,rfl,rfl,hw⟩:=DataW.trod_int q h;refine⟨[.raw (.int k i)],⟨rfl,fun j d v c g=>?_⟩,by rw[L5,q];exact⟨i,rfl,by simpa[Lit.wf] using hw⟩⟩
    cases j with
    | zero=>simp at c g;subst c;subst g;exact .raw _ rfl
    | succ j=>simp at c
   case string=>
    obtain⟨s,rfl,rfl,hw⟩:=DataW.trod_string q h;refine⟨[.raw (.string s)],⟨rfl,fun j d v c g=>?_⟩,by rw[L5,q];exact⟨s,rfl,hw⟩⟩
    cases j with
    | zero=>simp at c g;subst c;subst g;exact .raw _ rfl
    | succ j=>simp at c
   case slice e=>
    simp only[aZp,decide_eq_true_eq] at l;rcases DataW.trod_slice q h with⟨rfl,_⟩ | ⟨a,len,cap,K,rest,J,hn,rfl,_,hb,hl,hcm,hel,hat,_,_⟩
    ·refine⟨[.slc []],⟨rfl,fun j d v c g=>?_⟩,by rw[L5,q];exact⟨[],rfl,aZv _,by simp⟩⟩
     cases j with
     | zero=>simp at c g;subst c;subst g;exact .nil _ _
     | succ j=>simp at c
    ·have C:J=n:=by omega
     subst C;have key:∀ i,i < len->∃ r:List DC × List Value,w.cells? base (a.add (i * P.cellsOf e)) (P.cellsOf e)=some r.2/\RDs (iU w) r.1 r.2/\L5 P m e r.1:=by
      intro i z;have c:=hat i z;have hi2:i < K.length:=by omega
      rw[aZj hi2] at c;obtain⟨cs',g,h3⟩:=aZV.1 c;obtain⟨E,h4,h5⟩:=Be J e cs' _ m l.1 h3;exact⟨(E,cs'),g,h4,h5⟩
     obtain⟨L,hL,A⟩:=Gm len key;refine⟨[.slc (L.map (·.1))],⟨rfl,fun j d v c g=>?_⟩, ?_⟩
     ·cases j with
      | succ j=>simp at c
      | zero=>
       simp at c g;subst c;subst g;by_cases h0:len=0
       ·have:L=[]:=bAj (by omega);subst this;rw[h0];exact .nil _ _
       ·have y:∀ (i j:Nat) r d,L[i]?=some r->r.1[j]?=some d->∃ u,r.2[j]?=some u/\w.cell? ((a.add (i * P.cellsOf e)).add j)=some u/\j < P.cellsOf e:=by
         intro i j r d M Q;obtain⟨R,W,_⟩:=A i r M;obtain⟨_,g5,Y⟩:=World.cells?_some R;have X:j < r.2.length:=by rw[<- W.1];exact aI Q
         exact⟨_,aZj X,by rw[Y j (by omega),aZj X],by omega⟩
        have hsp:a.spot=none:=by
         have Z:0 < L.length:=by omega
         obtain⟨R,W,_⟩:=A 0 _ (aZj Z);obtain⟨_,g5,Y⟩:=World.cells?_some R;have X:0 < (L[0]).2.length:=by rw[g5];exact l.2
         have g7:=Y 0 l.2;rw[aZj X] at g7;have:=aDF g7;simp only[Nat.zero_mul] at this;simpa[Addr.add] using this
        have N:∀ i j,(a.add (i * P.cellsOf e)).add j=⟨a.block,a.off+(i * P.cellsOf e+j),none⟩:=by
         intro i j;rw[aIx hsp,aIx rfl,Nat.add_assoc]
        have ha:(some a:Option Addr)=some ⟨a.block,a.off,none⟩:=by cases a;simp_all
        rw[ha];have I:(L.map (·.1)).length=len:=by simp[hL]
        have B:=RD.slc (F:=iU w) a.block a.off cap (P.cellsOf e) (L.map (·.1)) (fun i j=>((L.getD i ([],[])).2).getD j undef) (fun r he'=>by
          obtain⟨p,hp,rfl⟩:=List.mem_map.1 he';obtain⟨i,z⟩:=List.mem_iff_getElem?.1 hp;obtain⟨R,W,_⟩:=A i p z;rw[W.1,(World.cells?_some R).2.1]) (fun i j r d M Q=>by
          rw[aZi] at M;obtain⟨p,hp,rfl⟩:=Option.map_eq_some_iff.1 M;obtain⟨u,D,O,hu3⟩:=y i j p d hp Q;simp only[aZo,hp,aZW,D];exact (A i p hp).2.1.2 j d u Q D) (fun i j r d M Q=>by
          rw[aZi] at M;obtain⟨p,hp,rfl⟩:=Option.map_eq_some_iff.1 M;obtain⟨u,D,O,hu3⟩:=y i j p d hp Q;simp only[aZo,hp,aZW,D];rw[N] at O;exact aIy O) (by rw[I];exact hl)
        rw[I] at B;exact B
     ·rw[L5,q];refine⟨_,rfl,by simp[hL];omega,fun d hdm=>?_⟩
      obtain⟨p,hp,rfl⟩:=List.mem_map.1 hdm;obtain⟨i,z⟩:=List.mem_iff_getElem?.1 hp;exact (A i p z).2.2
   case struct fs=>
    simp only[aZp,bAw] at l;obtain⟨xs,J,hn,_,o,V,hf⟩:=DataW.trod_struct q h;have C:J=n:=by omega
    subst C;obtain⟨E,c,g⟩:=aRA (F:=iU w) (cs:=cs) (fs.toList.map fun f=>(f.offset,P.cellsOf f.type,L5 P m f.type)) 0 (by
     rw[o,aZE];exact l.2) (fun p hp=>by
     obtain⟨f,T,rfl⟩:=List.mem_map.1 hp;obtain⟨i,z⟩:=List.mem_iff_getElem?.1 T;have U:fs[i]?=some f:=by simpa using z
     have h3:=hf i f U;have hix:i < xs.length:=by rw[V];exact (Array.getElem?_eq_some_iff.1 U).1
     rw[aZj hix] at h3;exact Be J f.type _ _ m (l.1 f T) h3)
    simp only[aZ1] at c;refine⟨E,c, ?_⟩;rw[L5,q];refine⟨by rw[c.1,o],fun i f z=>?_⟩
    have:=(g _ (List.mem_map.2 ⟨f,by exact List.mem_iff_getElem?.2 ⟨i,by simpa using z⟩,rfl⟩)).2;simpa using this
   case array m' e=>
    simp only[aZp,decide_eq_true_eq] at l;obtain⟨xs,J,hn,_,o,V,hf⟩:=DataW.trod_array q h;have C:J=n:=by omega
    subst C;have S:∀ (k s:Nat),La ((List.range' s k).map fun i=>(i * P.cellsOf e,P.cellsOf e)) (s * P.cellsOf e) ((s+k) * P.cellsOf e)=true:=by
     intro k
     induction k with
     | zero=>intro s;simp[La]
     | succ k ih=>
      intro s;have:=ih (s+1);rw[List.range'_succ,aZl,La];simp only[decide_true,aZI];rw[<- Nat.succ_mul,show s+(k+1)=s+1+k by omega];exact this
    obtain⟨E,c,g⟩:=aRA (F:=iU w) (cs:=cs) ((List.range m').map fun i=>(i * P.cellsOf e,P.cellsOf e,L5 P m e)) 0 (by
     rw[o,aZE,l.2,List.range_eq_range'];have:=S m' 0;simpa[Function.comp_def] using this) (fun p hp=>by
     obtain⟨i,him,rfl⟩:=List.mem_map.1 hp;have z:=List.mem_range.1 him;have h3:=hf i z;rw[aZj (by omega)] at h3;exact Be J e _ _ m l.1 h3)
    simp only[aZ1] at c;refine⟨E,c, ?_⟩;rw[L5,q];refine⟨by rw[c.1,o],fun i z=>?_⟩
    have:=(g _ (List.mem_map.2 ⟨i,List.mem_range.2 z,rfl⟩)).2;simpa using this
def G7(P:Program)(t:TypeId):Bool:=
 match P.underlying t with
 |some (.struct _)=>true
 |some (.array _ _)=>true
 |_=>false
def okA(P:Program)(m:Nat)(t:TypeId):AV->Prop
 |.one (.dc d)=>G7 P t=false/\L5 P m t [d]
 |.agg cs=>G7 P t=true/\∃a,cs=kV a/\L5 P m t a
 |_=>False
theorem aIz{r:Reach}{C m:Nat}{t:TypeId}{v:Value}{d:DataW H}{F:L MemPlace}(f:Value.okWide P w r C t v)(D:DataW.Trod enc P w base spare held t v d F)(g:Lb P m t=true):∃av,RV (iU w) [] av v/\okA P m t av:=by
 obtain⟨n,h⟩:=D;obtain⟨A,p,z⟩:=Be n t _ _ m g h;have q:∀x:Value,v=x->G7 P t=false->(∀cs,x≠.agg cs)->∃av,RV (iU w) [] av v/\okA P m t av:=by
  intro x E h3 h4;subst E;have B:v.cells.toList=[v]:=by cases v<;>first|rfl|(exact absurd rfl (h4 _))
  rw[B] at p
  match A,p,z with
  |[y],p,z=>exact⟨.one (.dc y),.one _ _ (.dc _ _ (p.2 0 y v rfl rfl)),h3,z⟩
  |[],p,_=>simp[RDs] at p
  |_::_::_,p,_=>simp[RDs] at p
 have s:∀cs,v=.agg cs->G7 P t=true->∃av,RV (iU w) [] av v/\okA P m t av:=by
  intro cs o h0;subst o;have B:(Value.agg cs).cells.toList=cs.toList:=rfl;rw[B] at p;refine⟨.agg (kV A),.agg _ _ (by rw[kV,aZa,p.1,bAI]) (fun i c u h3 h4=>?_),h0,A,rfl,z⟩
  rw[kV,aZi] at h3;obtain⟨y,h5,rfl⟩:=Option.map_eq_some_iff.1 h3;exact .dc _ _ (p.2 i y u h5 (by simpa using h4))
 cases m with
 |zero=>simp[Lb] at g
 |succ m=>
  rw[Lb] at g;cases j:P.underlying t with
  |none=>simp[j] at g
  |some u=>
   simp only[j] at g;cases u<;>try (simp at g;done)
   case bool=>obtain⟨b,o⟩:=okWide_bool j f;exact q _ o (by rw[G7,j]) (fun cs h=>by cases h)
   case int k=>obtain⟨b,o⟩:=okWide_int j f;exact q _ o (by rw[G7,j]) (fun cs h=>by cases h)
   case string=>obtain⟨b,o⟩:=okWide_string j f;exact q _ o (by rw[G7,j]) (fun cs h=>by cases h)
   case slice e=>obtain⟨a,l,c,o⟩:=okWide_slice j f;exact q _ o (by rw[G7,j]) (fun cs h=>by cases h)
   case struct fs=>obtain⟨cs,o,_⟩:=okWide_struct j f;exact s cs o (by rw[G7,j])
   case array k e=>
    unfold Value.okWide at f;rw[j] at f;obtain⟨cs,o,_⟩:=f;exact s cs o (by rw[G7,j])
def aVS(P:Program)(m:Nat):L TypeId->L AV->Prop
 |[],[]=>True
 |t::c,a::b=>okA P m t a/\aVS P m c b
 |_,_=>False
theorem N8{r:Reach}{n m:Nat}:∀{e:L TypeId}{vs:L Value}{f:L (DataW H)}{g:L MemPlace},DataW.TrodAll enc P w base spare held e vs f g->(∀(j:Nat) t v,e[j]?=some t->vs[j]?=some v->Value.okWide P w r n t v)->(∀t∈e,Lb P m t=true)->∃a:L AV,vs.length=a.length/\(∀(i:Nat) av v,a[i]?=some av->vs[i]?=some v->RV (iU w) [] av v)/\aVS P m e a/\f.length=e.length
 | [],vs,f,g,h,_,_=>by
  obtain⟨rfl,rfl,rfl⟩:=trodAll_nil h;exact⟨[],rfl,fun i av v h=>by simp at h,trivial,rfl⟩
 | t::e,vs,f,g,h,c,b=>by
  obtain⟨v,E,d,A,p,q,rfl,rfl,rfl,B,C⟩:=trodAll_cons h;obtain⟨av,k,l⟩:=aIz (c 0 t v rfl rfl) B (b t aZu);obtain⟨a,o,s,u,z⟩:=N8 C (fun j t v h3 h4=>c (j+1) t v (by simpa using h3) (by simpa using h4)) (fun t D=>b t (aZC _ D))
  refine⟨av::a,by simp[o],fun i x y h3 h4=>?_,⟨l,u⟩,by simp[z]⟩
  cases i with
  | zero=>simp at h3 h4;subst h3;subst h4;exact k
  | succ i=>exact s i x y (by simpa using h3) (by simpa using h4)
end
end
section
section
variable {P:Program}{m:Nat}{t:TypeId}{av:AV}
theorem aBs(a:G7 P t=false)(h:okA P m t av):∃d,av=.one (.dc d)/\L5 P m t [d]:=by
 cases av with
 | one c=>cases c with
  | dc d=>exact⟨d,rfl,h.2⟩
  | _=>exact h.elim
 |agg cs=>rw[h.1] at a;cases a
 |tup l=>exact h.elim
 |junk=>exact h.elim
theorem Yv(b:P.underlying t=some .string)(h:okA P (m+1) t av):∃s:ByteArray,av=.one (.dc (.raw (.string s)))/\s.size<=maxLen:=by
 obtain⟨d,rfl,a⟩:=aBs (by rw[G7,b]) h;rw[L5,b] at a;obtain⟨i,h3,h4⟩:=a;simp only[List.cons.injEq,and_true] at h3;exact⟨i,by rw[h3],h4⟩
theorem Yw{i:Int}(h:IntKind.i64.min<=i/\i<=IntKind.i64.max):-9223372036854775808<=i/\i<=9223372036854775807:=by
 have a:IntKind.i64.min=-9223372036854775808:=by decide
 have b:IntKind.i64.max=9223372036854775807:=by decide
 omega
theorem aIA{k:IntKind}{a:L DC}(b:P.underlying t=some (.int k))(h:L5 P (m+1) t a):∃i,a=[.raw (.int k i)]/\k.min<=i/\i<=k.max:=by
 rw[L5,b] at h;exact h
