/- Part. Conditions: none. -/
import Derived.Test.YtalhnjjchkmfeaaGreatDoorQp
import Derived.Test.YtalhnjjchkmfeaaGreatDoorSg
import Derived.Test.YtalhnjjchkmfeaaGreatDoorPa
import Derived.Test.YtalhnjjchkmfeaaGreatDoorMb
import Derived.OpenShut
namespace Go.Proofs.YtalhnjjchkmfeaaGreatDoor
set_option maxHeartbeats 8000000
set_option linter.unusedSimpArgs false
set_option linter.unusedVariables false
set_option maxRecDepth 4000
section
variable {G:aF}{bb:Bool}
theorem aBu{q:aX}(h:0<=q.s/\1<=q.n/\q.s+q.n<=512):(mU [q]).2=0:=by
 have r:bP q.s q.n=0:=by
  unfold bP;rw[if_neg (by omega),if_pos (by omega),if_pos (by omega)]
 have f:q.fresh U0=true:=by
  have:=Dt [] q (fun _ h=>(by cases h)) r
  exact this
 have e:nI none U0 q=0:=by
  unfold nI;rw[r,if_neg (by decide),if_neg (by simp),if_pos f]
 unfold mU;rw[if_neg (by simp)];unfold tR;rw[e,if_neg (by decide)];unfold tR;show (if cE [q]<=4096 then (0:Int) else 8)=0
 rw[if_pos];simp[cE];omega
def Bw:aI:=⟨16,[],0,0,true,zl 16,0,[],0,0,0⟩
def rA(l:L aX):aI:=⟨128,[],0,0,false,[],0,l,cE l*256,cE l*256,cE l*256⟩
theorem aIL:Bw.W:=⟨fun x h=>(by cases h),Be 16,by decide,by decide,by decide⟩
theorem V7{l:L aX}(h:l.length<=100000):(rA l).W:=⟨fun x h=>(by cases h),fun x h=>(by cases h),aZV _,aZV _,h⟩
theorem aIM:P3 []=true:=by unfold P3;exact decide_eq_true (.inl rfl)
theorem aNj:(gY Bw).length<=40:=by
 unfold gY;split;rename_i h;rw[nN Bw (nC aIL h).bd];decide;exact aZV _
theorem aRP{i:Int}(h:0<=i/\i<=100):gI (bV Bw i)=0:=by
 unfold gI;rw[if_neg (by simp[bV,Bw,Nj]),if_neg (by show ¬ P3 []=false;rw[aIM];decide),if_neg (by simp only[bV,Bw];omega)];have e:tW (bV Bw i)=0:=rfl;have z:eY (bV Bw i)=40:=by unfold eY cZ sU qU;simp[bV,Bw,zl]
 rw[e,if_neg (by decide),z,if_neg (by decide)]
theorem aIN{q:aX}(h:(mU [q]).2=0)(i:Int):eY (bV (rA [q]) i)<=48:=by
 have b:(qU (bV (rA [q]) i)).length<=6:=by
  show (if false=true then _ else (Cj [q]).1).length<=6
  rw[if_neg (by decide)];unfold Cj;rw[Ng,h,if_neg (by decide)];show ((jI [q]).1++[0]).length<=6;have:=Tq 0 q;rw[Fo,dS,dS,bAy,aZA];show _+1<=6;omega
 unfold eY;have a:cZ (bV (rA [q]) i)=40:=by unfold cZ sU;simp[bV,rA]
 rw[a];omega
theorem aIO{q:aX}(h:0<=q.s/\1<=q.n/\q.s+q.n<=512){i:Int}(l:0<=i/\i<=100):gI (bV (rA [q]) i)=0:=by
 have b:=aBu h;have d:cE [q]=q.n:=by simp[cE]
 have j:gP [q]=q.n:=by rw[Yb b,d]
 have o:=aIN b i;unfold gI;rw[if_neg (by simp[bV,rA,Nj]),if_neg (by show ¬ P3 []=false;rw[aIM];decide),if_neg (by simp only[bV,rA];omega)];have e:tW (bV (rA [q]) i)=0:=by
  show (if false=true then _ else J8 (bV (rA [q]) i))=0
  rw[if_neg (by decide)];have c:(bV (rA [q]) i).al=q.n*256:=by show cE [q]*256=_;rw[d]
  have f:(bV (rA [q]) i).sz=q.n*256:=c;have g:(bV (rA [q]) i).vd=q.n*256:=c;have a:(bV (rA [q]) i).fi=0:=rfl;have k:gP (bV (rA [q]) i).rs=q.n:=j;unfold J8;rw[if_neg (by simp[bV,rA,Hd]),if_neg (by simp[bV,rA]),if_neg (by rw[a];decide),if_neg (not_not_intro (show (mU (bV (rA [q]) i).rs).2=0 from b)),if_neg (by rw[a];simp),if_neg (by rw[a,k];omega),if_neg (by rw[a];simp),if_neg (by rw[c,f,g];omega),if_neg (by rw[f,g];omega)]
 rw[e,if_neg (by decide),if_neg (by omega)]
theorem aNk{q:aX}(h:0<=q.s/\1<=q.n/\q.s+q.n<=512){i:Int}(b:0<=i/\i<=100):(gY (bV (rA [q]) i)).length<=48:=by
 have a:=aIO h b;unfold gY;rw[if_pos a,nN _ (nC (Qv (V7 (by simp))) a).bd];exact aIN (aBu h) i
theorem V8{r:cL}(h:r.ats=[]):hZ r=Wh r:=by
 unfold hZ Aj;have c:(nP r.ats).2=0:=by
  unfold nP;rw[h];rw[if_neg (by decide)];rw[if_neg (by simp)]
 have d:¬ 0<=Wi r:=by
  have:Wi r<0:=Am.2 (fun a b=>by rw[h] at b;cases b)
  omega
 have h3:dD r.ats=0:=by rw[h];rfl
 by_cases q:Wh r=0;rw[if_neg (not_not_intro q),if_neg (not_not_intro c),if_neg d,h3,q];rfl;rw[if_pos q]
def r00(a:Int):cL:=⟨1,1,a,0,0,0,0,[]⟩
theorem aRQ{a:Int}(h:a=1\/a=3):hZ (r00 a)=0:=by
 rw[V8 rfl];rcases h with rfl|rfl<;>rfl
theorem aIP(b:Int):(r00 b).W:=⟨fun a h=>(by cases h),aZV _⟩
noncomputable def Gv(a:Int):cL:=pN (r00 a) Bw
theorem aBv{r:cL}{a:aI}(b:hZ r=0)(h:fU r.fl=true)(f:r.nx<65535)(d:gI (bV a r.nx)=0)(g:Fs r a=false)(e:r.ats.length<32)(c:dD (pN r a).ats<=440):Put r a/\Yw r a=(pN r a,0):=by
 refine⟨⟨Ee b,h,f,d,g,e,c⟩,?_⟩;have i:U1 r=0:=by unfold U1;rw[b,h,decide_eq_true f];rfl
 have j:U2 r a=0:=by unfold U2;rw[d,g,decide_eq_true e];rfl
 unfold Yw;rw[if_neg (not_not_intro i),if_neg (not_not_intro j),if_pos c]
theorem aIQ{r:cL}{a:aI}(c:r.W)(b:a.W)(e:r.ats.length<32):(pN r a).W:=by
 refine⟨fun x d=>?_,?_⟩
 rcases Eh.1 d with h|h;exact c.at' x h;rw[h];exact Qv b;show (fJ (r.ats++[bV a r.nx])).length<=900;rw[Ad,aZA,bBe];omega
theorem Q6{a:Int}(h:a=1\/a=3):Yw (r00 a) Bw=(Gv a,0)/\hZ (Gv a)=0/\(Gv a).W/\dD (Gv a).ats<=40:=by
 have n:dD (Gv a).ats<=40:=by
  show dD (pN (r00 a) Bw).ats<=40;rw[Vc];have:=aNj;show dD []+_<=40;have e:bV Bw (r00 a).nx=Bw:=rfl;rw[e];simp only[dD,aZM,List.sum_nil];omega
 have d:fU (r00 a).fl=true:=by rcases h with rfl|rfl<;>rfl
 obtain⟨b,c⟩:=aBv (aRQ h) d (by show (0:Int)<65535;decide) (aRP (by simp[r00]):gI (bV Bw (r00 a).nx)=0) rfl (by show (0:Nat)<32;decide) (by have:dD (pN (r00 a) Bw).ats<=40:=n;omega);exact⟨c,aBk (aIP a) (fun x h=>(by cases h)) b,aIQ (aIP a) aIL (by show (0:Nat)<32;decide),n⟩
theorem aBw{a:Int}{b:aI}:b∈(Gv a).ats↔b=Bw:=by
 unfold Gv;rw[Eh];show b∈[]\/b=Bw↔b=Bw;simp
theorem aBx(a:Int):(Gv a).ats.length=1:=by
 show (fJ ([]++[bV Bw 0])).length=1;rw[Ad];rfl
noncomputable def V9(a:Int)(q:aX):cL:=pN (Gv a) (rA [q])
theorem F5{a:Int}(h:a=1\/a=3){q:aX}(d:0<=q.s/\1<=q.n/\q.s+q.n<=512):Yw (Gv a) (rA [q])=(V9 a q,0)/\hZ (V9 a q)=0/\(V9 a q).W:=by
 obtain⟨_,r,e,u⟩:=Q6 h;have p:fU (Gv a).fl=true:=by rcases h with rfl|rfl<;>rfl
 have j:=V7 (l:=[q]) (by simp);have c:(Gv a).nx=1:=rfl;have n:dD (pN (Gv a) (rA [q])).ats<=440:=by
  rw[Vc,c];have:=aNk d (i:=1) (by decide);omega
 have o:Fs (Gv a) (rA [q])=false:=by
  unfold Fs;have:((Gv a).ats.any fun b=>nV (rA [q]) b)=false:=by
   rw[bAR];intro b k;rw[aBw.1 k];simp[nV,rA,Bw]
  rw[this,Bool.and_false]
 obtain⟨f,g⟩:=aBv r p (by rw[c];decide) (by rw[c];exact aIO d (by decide)) o (by rw[aBx];decide) n;exact⟨g,aBk e (fun x h=>(by cases h)) f,aIQ e j (by rw[aBx];decide)⟩
theorem aBy{a:Int}{q:aX}{b:aI}:b∈(V9 a q).ats↔b=Bw\/b=bV (rA [q]) 1:=by
 unfold V9;rw[Eh,aBw];rfl
def Gw(n:Int):Int:=if n=5 then 3 else 1
noncomputable def Q7(n:Int)(a c b:aX):cL:=if n=0 then V9 (Gw n) a else if n=1 then V9 (Gw n) c else if n=2 then V9 (Gw n) b else Gv (Gw n)
theorem mI(n:Int):Gw n=1\/Gw n=3:=by unfold Gw;split<;>simp
def VR(q:aX):Prop:=0<=q.s/\1<=q.n/\q.s+q.n<=512
theorem Zb(n:Int){a c b:aX}(d:VR a)(e:VR c)(h3:VR b):hZ (Q7 n a c b)=0/\(Q7 n a c b).W:=by
 unfold Q7;split;exact (F5 (mI n) d).2;split;exact (F5 (mI n) e).2;split;exact (F5 (mI n) h3).2;exact⟨(Q6 (mI n)).2.1,(Q6 (mI n)).2.2.1⟩
def frR:cL:=⟨1,0,0,0,0,0,0,[]⟩
theorem F6:hZ frR=0/\frR.W:=⟨by rw[V8 rfl];rfl,⟨fun a h=>(by cases h),by decide⟩⟩
theorem aIR{r:cL}(h:hZ r=0):Gs r 1=(oQ r 1,0):=by
 unfold Gs aMt;rw[h];rfl
end
section
variable {G:aF}{bb:Bool}
theorem Zc:EV G (Tb (dU G bb)) 78 [] []=some (Bw.v,[]):=by
 have r:=aRy (G:=G) (bb:=bb) (n:=16) (by decide);have q:EV G (Tb (dU G bb)) 108 [.one (.dc (.raw (.string ⟨#[0]⟩))),vi 16] []=some (sv (zl 16),[]):=jG rfl r;refine aB rfl ?_;simp (maxSteps:=2000000) (disch:=omega) only[go_sem,h78c,q,Bw,aI.v];try rfl
theorem aNl(l:L aX)(k:Nat)(a:k<l.length):cE (l.take (k+1))=cE (l.take k)+l[k].n:=A0 l k a
theorem Zd{B:aO}(l:L aX)(b:∀q∈l,0<=q.n/\q.n<=100000)(h:cE l<=100000)(g:l.length<=100000):EV G (Tb B) 79 [cW l] []=some ((rA l).v,[]):=by
 refine aB rfl ?_;simp (maxSteps:=2000000) (disch:=omega) only[go_sem,h79c,aZz];rw[aT (fun k=>⟨(cW l::jk 1 (.one (.ptr 0 0)::vi (cE (l.take k)*256)::jk 2 (cW l::vi l.length::vi k::jk 14 []))),[.box [.dc (.raw (Zi 0)),.dc (.raw (.string ⟨#[]⟩)),.dc (.raw (Zi 0)),.dc (.raw (Zi 0)),.dc (.raw (.bool false)),.dc (.raw (.string ⟨#[]⟩)),.dc (.raw (Zi 0)),.dc (.raw (.slice none 0 0)),.dc (.raw (Zi 0)),.dc (.raw (Zi 0)),.dc (.raw (Zi 0))]]⟩) l.length ?_ ?_]
 ·rw[bAi];simp (maxSteps:=2000000) (disch:=omega) only[go_sem,h79l0,aZz,rA,aI.v,aG];try rfl
 rfl;intro k c;have d:=b _ (aZG c);have f:=aNl l k c;have h3:=iH l k (fun r a=>(b r a).1)
 have h4:=iG (l.take k) (fun r a=>(b r (aZZ a)).1)
 have e:cE (l.take k)*256+l[k].n*256=cE (l.take (k+1))*256:=by omega
 have h5:=iH l (k+1) (fun r a=>(b r a).1)
 simp (maxSteps:=2000000) (disch:=omega) only[go_sem,h79l0,aZz,aX.e,e]
theorem Gx(a:G9 G)(r:cL)(c:r.W):EV G (Tb (dU G bb)) 77 [r.v] []=some (bkv (Gs r 1),[]):=by
 have q:EV G (Tb (dU G bb)) 111 [.agg (rc9 r 1)] []=some (bkv (Gs r 1),[]):=upS (aIB (bb:=bb) a r c 1);generalize Gs r 1=E at *;obtain⟨b,e⟩:=E;refine aB rfl ?_;simp (maxSteps:=2000000) (disch:=omega) only[go_sem,h77c,q,aZW,aZR]
theorem aRR(a:G9 G):EV G (Tb (dU G bb)) 49 [] []=some (sv (oQ frR 1),[]):=by
 have q:EV G (Tb (dU G bb)) 77 [.agg [.dc (ci 1),.dc (ci 0),.dc (ci 0),.dc (ci 0),.dc (ci 0),.dc (ci 0),.dc (ci 0),.dc (.slc [])]] []=some (bkv (Gs frR 1),[]):=Gx (bb:=bb) a frR F6.2;rw[aIR F6.1] at q;generalize oQ frR 1=b at *;refine aB rfl ?_;simp (maxSteps:=2000000) (disch:=omega) only[go_sem,h49c,q]
abbrev rL(f:Int):L aV:=[.dc (ci 1),.dc (ci 1),.dc (ci f),.dc (ci 0),.dc (ci 0),.dc (ci 0),.dc (ci 0),.dc (.slc [])]
theorem aWb(L:G9 G)(n:Int)(al mi lg:aX)(r:VR al)(u:VR mi)(h3:VR lg):EV G (Tb (dU G bb)) 50 [vi n,al.v,mi.v,lg.v] []=some (sv (oQ (Q7 n al mi lg) 1),[]):=by
 have p:=Zc (G:=G) (bb:=bb);have F:EV G (Tb (dU G bb)) 79 [vl [[ci al.s,ci al.n]]] []=some ((rA [al]).v,[]):=Zd (G:=G) (B:=dU G bb) [al] (by simp;unfold VR at r;omega) (by simp[cE];unfold VR at r;omega) (by simp);have I:EV G (Tb (dU G bb)) 79 [vl [[ci mi.s,ci mi.n]]] []=some ((rA [mi]).v,[]):=Zd (G:=G) (B:=dU G bb) [mi] (by simp;unfold VR at u;omega) (by simp[cE];unfold VR at u;omega) (by simp);have J:EV G (Tb (dU G bb)) 79 [vl [[ci lg.s,ci lg.n]]] []=some ((rA [lg]).v,[]):=Zd (G:=G) (B:=dU G bb) [lg] (by simp;unfold VR at h3;omega) (by simp[cE];unfold VR at h3;omega) (by simp);have f:EV G (Tb (dU G bb)) 80 [vi 1,vi (Gw n),rfv 0 0] []=some (.tup [.agg [.dc (ci 1),.dc (ci 0),.dc (ci (Gw n)),.dc (ci 0),.dc (ci 0),.dc (ci 0),.dc (ci 0),.dc (.slc [])],tE 0],[]):=by
  have q:=upS (aVN (G:=G) (bb:=bb) 1 (Gw n) 0 0);rcases mI n with e|e
  rw[e] at q ⊢;exact q;rw[e] at q ⊢;exact q
 obtain⟨l,_,i,_⟩:=Q6 (mI n);have b:EV G (Tb (dU G bb)) 81 [.agg (rL (Gw n)),Bw.v] []=some (rcv (Yw (r00 (Gw n)) Bw),[]):=upS (Ia (G:=G) (bb:=bb) (r00 (Gw n)) (aIP _) Bw aIL);rw[l] at b;obtain⟨N,M⟩:=Zb n r u h3;have a:=Gx (bb:=bb) L (Q7 n al mi lg) M;rw[aIR N] at a;refine aB rfl ?_;by_cases y:n=0;subst y;have d:=upS (Ia (G:=G) (bb:=bb) (Gv (Gw 0)) i (rA [al]) (V7 (by simp)));rw[(F5 (mI 0) r).1] at d;have j:Q7 0 al mi lg=V9 (Gw 0) al:=by unfold Q7;simp
 rw[j] at a ⊢;have h:Gw 0=1:=rfl;rw[h] at f b d a ⊢;clear l i;generalize V9 1 al=o at *;generalize Gv 1=g at *;generalize rA [al]=D at *;generalize Bw=A at *;simp (maxSteps:=2000000) (disch:=omega) only[go_sem,h50c,p,F,f,aX.e,Int.reduceEq,decide_false,decide_true,Int.reduceNeg];rw[aT (fun k=>⟨(jk 11 (.one (.ptr 4 0)::jk 43 (.one (.bld 3 2)::vi 2::vi k::jk 16 []))),[.box [.dc (ci al.s),.dc (ci al.n)],.box [.dc (ci mi.s),.dc (ci mi.n)],.box [.dc (ci lg.s),.dc (ci lg.n)],.arr 0 11 [A.e,D.e],.box (match k with|0=>rL 1|1=>g.c|_=>o.c)]⟩) 2 ?_ ?_]
 simp (maxSteps:=2000000) (disch:=omega) only[go_sem,h50l0,a];rfl;intro k x;rcases (show k=0\/k=1 by omega) with rfl|rfl
 simp (maxSteps:=2000000) (disch:=omega) only[go_sem,h50l0,b,aI.e];rfl;simp (maxSteps:=2000000) (disch:=omega) only[go_sem,h50l0,d,aI.e];rfl;by_cases z:n=1;subst z;have d:=upS (Ia (G:=G) (bb:=bb) (Gv (Gw 1)) i (rA [mi]) (V7 (by simp)));rw[(F5 (mI 1) u).1] at d;have j:Q7 1 al mi lg=V9 (Gw 1) mi:=by unfold Q7;simp
 rw[j] at a ⊢;have h:Gw 1=1:=rfl;rw[h] at f b d a ⊢;clear l i;generalize V9 1 mi=o at *;generalize Gv 1=g at *;generalize rA [mi]=D at *;generalize Bw=A at *;simp (maxSteps:=2000000) (disch:=omega) only[go_sem,h50c,p,I,f,aX.e,Int.reduceEq,decide_false,decide_true,Int.reduceNeg];rw[aT (fun k=>⟨(jk 11 (.one (.ptr 4 0)::jk 43 (.one (.bld 3 2)::vi 2::vi k::jk 16 []))),[.box [.dc (ci al.s),.dc (ci al.n)],.box [.dc (ci mi.s),.dc (ci mi.n)],.box [.dc (ci lg.s),.dc (ci lg.n)],.arr 0 11 [A.e,D.e],.box (match k with|0=>rL 1|1=>g.c|_=>o.c)]⟩) 2 ?_ ?_]
 simp (maxSteps:=2000000) (disch:=omega) only[go_sem,h50l0,a];rfl;intro k x;rcases (show k=0\/k=1 by omega) with rfl|rfl
 simp (maxSteps:=2000000) (disch:=omega) only[go_sem,h50l0,b,aI.e];rfl;simp (maxSteps:=2000000) (disch:=omega) only[go_sem,h50l0,d,aI.e];rfl;by_cases C:n=2;subst C;have d:=upS (Ia (G:=G) (bb:=bb) (Gv (Gw 2)) i (rA [lg]) (V7 (by simp)));rw[(F5 (mI 2) h3).1] at d;have j:Q7 2 al mi lg=V9 (Gw 2) lg:=by unfold Q7;simp
 rw[j] at a ⊢;have h:Gw 2=1:=rfl;rw[h] at f b d a ⊢;clear l i;generalize V9 1 lg=o at *;generalize Gv 1=g at *;generalize rA [lg]=D at *;generalize Bw=A at *;simp (maxSteps:=2000000) (disch:=omega) only[go_sem,h50c,p,J,f,aX.e,Int.reduceEq,decide_false,decide_true,Int.reduceNeg];rw[aT (fun k=>⟨(jk 11 (.one (.ptr 4 0)::jk 43 (.one (.bld 3 2)::vi 2::vi k::jk 16 []))),[.box [.dc (ci al.s),.dc (ci al.n)],.box [.dc (ci mi.s),.dc (ci mi.n)],.box [.dc (ci lg.s),.dc (ci lg.n)],.arr 0 11 [A.e,D.e],.box (match k with|0=>rL 1|1=>g.c|_=>o.c)]⟩) 2 ?_ ?_]
 simp (maxSteps:=2000000) (disch:=omega) only[go_sem,h50l0,a];rfl;intro k x;rcases (show k=0\/k=1 by omega) with rfl|rfl
 simp (maxSteps:=2000000) (disch:=omega) only[go_sem,h50l0,b,aI.e];rfl;simp (maxSteps:=2000000) (disch:=omega) only[go_sem,h50l0,d,aI.e];rfl;have j:Q7 n al mi lg=Gv (Gw n):=by unfold Q7;rw[if_neg y,if_neg z,if_neg C]
 rw[j] at a ⊢;by_cases E:n=5;subst E;have h:Gw 5=3:=rfl;have K:Xu .i64 1 2=3:=by decide
 rw[h] at f b a ⊢;clear l i;generalize Gv 3=g at *;generalize Bw=A at *;simp (maxSteps:=2000000) (disch:=omega) only[go_sem,h50c,p,f,aX.e,Int.reduceEq,decide_false,decide_true,Int.reduceNeg,K];rw[aT (fun k=>⟨(jk 11 (.one (.ptr 4 0)::jk 43 (.one (.bld 3 1)::vi 1::vi k::jk 16 []))),[.box [.dc (ci al.s),.dc (ci al.n)],.box [.dc (ci mi.s),.dc (ci mi.n)],.box [.dc (ci lg.s),.dc (ci lg.n)],.arr 0 11 [A.e],.box (match k with|0=>rL 3|_=>g.c)]⟩) 1 ?_ ?_]
 simp (maxSteps:=2000000) (disch:=omega) only[go_sem,h50l0,a];rfl;intro k x;rw[show k=0 by omega];simp (maxSteps:=2000000) (disch:=omega) only[go_sem,h50l0,b,aI.e];rfl;have h:Gw n=1:=by unfold Gw;rw[if_neg E]
 rw[h] at f b a ⊢;clear l i;generalize Gv 1=g at *;generalize Bw=A at *;simp (maxSteps:=2000000) (disch:=omega) only[go_sem,h50c,p,f,aX.e,Int.reduceEq,y,z,C,E,decide_false,decide_true,Int.reduceNeg];rw[aT (fun k=>⟨(jk 11 (.one (.ptr 4 0)::jk 43 (.one (.bld 3 1)::vi 1::vi k::jk 16 []))),[.box [.dc (ci al.s),.dc (ci al.n)],.box [.dc (ci mi.s),.dc (ci mi.n)],.box [.dc (ci lg.s),.dc (ci lg.n)],.arr 0 11 [A.e],.box (match k with|0=>rL 1|_=>g.c)]⟩) 1 ?_ ?_]
 simp (maxSteps:=2000000) (disch:=omega) only[go_sem,h50l0,a];rfl;intro k x;rw[show k=0 by omega];simp (maxSteps:=2000000) (disch:=omega) only[go_sem,h50l0,b,aI.e];rfl
end
section
variable {G:aF}{bb:Bool}
abbrev Wa(x:Bt)(n:Int):aX:=⟨x.tb,2*n⟩
abbrev miR(x:Bt):aX:=⟨x.mi,8⟩
abbrev lgR(x:Bt):aX:=⟨x.lg,x.lc⟩
noncomputable def nX(x:Bt)(m:Int)(n:Nat):L Int:=if n<16 then oQ (Q7 n (Wa x m) (miR x) (lgR x)) 1 else oQ frR 1
noncomputable def lP(x:Bt)(m:Int):Nat->L Int
 |0=>Mf (zl (x.cl.toNat*256)) x
 |n+1=>if n<4 then qF (qF (lP x m n) (nX x m n) (x.tb.toNat+2*n) (x.tb.toNat+2*n+1)) (nX x m n) (x.mi.toNat+2*n) (x.mi.toNat+2*n+1) else qF (lP x m n) (nX x m n) (x.tb.toNat+2*n) (x.tb.toNat+2*n+1)
theorem aIS(x:Bt)(m:Int)(n:Nat):lP x m (n+1)=if n<4 then qF (qF (lP x m n) (nX x m n) (x.tb.toNat+2*n) (x.tb.toNat+2*n+1)) (nX x m n) (x.mi.toNat+2*n) (x.mi.toNat+2*n+1) else qF (lP x m n) (nX x m n) (x.tb.toNat+2*n) (x.tb.toNat+2*n+1):=rfl
noncomputable def jE(x:Bt)(m:Int):L Int:=lP x m m.toNat
structure Lw (x:Bt) (m:Int):Prop where
 ck:jP x=0
 cl:64<=x.cl/\x.cl<=512
 tb:1<=x.tb/\x.tb+2*m<x.cl
 mi:1<=x.mi/\x.mi+8<x.cl
 lg:1<=x.lg/\x.lg+x.lc<x.cl/\8<=x.lc
 nn:16<=m/\m<=96
 c1:Ev x.tb (2*m) x.mi 8=false
 c2:Ev x.tb (2*m) x.lg x.lc=false
theorem aBz{x:Bt}{m:Int}(h:aMZ x m=0):Lw x m:=by
 unfold aMZ at h;by_cases e:jP x=0;rw[if_pos e] at h;by_cases g:16<=m/\m<=96;rw[if_pos g] at h;by_cases h3:x.tb+2*m<x.cl;rw[if_pos h3] at h;by_cases h4:Ev x.tb (2*m) x.mi 8=true\/Ev x.tb (2*m) x.lg x.lc=true;rw[if_pos h4] at h;cases h;obtain⟨a,b,c,d⟩:=aMW e;obtain⟨l,o,n,p⟩:=mG.1 a;obtain⟨i,j,k⟩:=qM.1 b;have f:=Ej.1 c;exact⟨e,l,⟨i.1,h3⟩,⟨j.1,f.1⟩,⟨k.1,f.2,n.1⟩,g,by simpa using fun q=>h4 (.inl q),by simpa using fun q=>h4 (.inr q)⟩
 rw[if_neg h3] at h;cases h;rw[if_neg g] at h;cases h;rw[if_neg e] at h;exact absurd h e
theorem Lw.rs{x:Bt}{m:Int}(h:Lw x m):VR (Wa x m)/\VR (miR x)/\VR (lgR x):=by
 have:=h.cl;have:=h.tb;have:=h.mi;have:=h.lg;have:=h.nn;refine⟨⟨?_,?_,?_⟩,⟨?_,?_,?_⟩,⟨?_,?_,?_⟩⟩<;>simp only<;>omega
theorem Q8{x:Bt}{m:Int}(h:Lw x m)(n:Nat):(nX x m n).length=512/\aJ (nX x m n):=by
 obtain⟨c,d,h3⟩:=h.rs;unfold nX;split;obtain⟨a,b⟩:=Zb n c d h3;exact (Eg b a (by decide)).2;exact (Eg F6.2 F6.1 (by decide)).2
theorem pY{l b:L Int}{a c:Nat}(g:b.length=512)(d:a*256+256<=l.length)(f:c*256+256<=l.length):(qF l b a c).length=l.length:=by
 unfold qF;have e:(fE l (a*256) (b.take 256)).length=l.length:=cJ (by rw[aZD];omega);rw[cJ (by rw[e,aZK];omega),e]
theorem F7{l b:L Int}{e f:Nat}(d:aJ l)(c:aJ b):aJ (qF l b e f):=aDP (aDP d (fun x a=>c x (aZZ a))) (fun x a=>c x (bAa a))
theorem tG{x:Bt}{m:Int}(h:Lw x m):∀n:Nat,(n:Int)<=m->(lP x m n).length=x.cl.toNat*256/\aJ (lP x m n)
 | 0,_=>by
  have:=h.cl;refine⟨?_,aDP (aDP (Be _) (tC x)) (tC x)⟩;show (Mf (zl (x.cl.toNat * 256)) x).length=_;rw[aMX _ _ (by rw[aS];omega),aS]
 | n+1,e=>by
  obtain⟨c,d⟩:=tG h n (by omega);obtain⟨a,b⟩:=Q8 h n;have:=h.cl;have:=h.tb;have:=h.mi;unfold lP;split
  ·rw[pY a (by rw[pY a (by omega) (by omega)];omega) (by rw[pY a (by omega) (by omega)];omega),pY a (by omega) (by omega)];exact⟨c,F7 (F7 d b) b⟩
  ·rw[pY a (by omega) (by omega)];exact⟨c,F7 d b⟩
theorem aWc(n:Nat):List.replicate n (cK (.int .u8 0))=(zl n).map yC:=by rw[zl,List.map_replicate];rfl
theorem aIT(v:G9 G){x:Bt}{m:Int}(h:Lw x m)(N:Nat)(U:x.cl.toNat*256=N)(k:Nat)(y:(k:Int)<m):Lt [2,4,1,48,0] 4 (EC (EV G (Tb (dU G bb))) G h21l0 ⟨(jk 2 (.one (.ptr 0 0)::jk 4 (.one (.ptr 1 0)::jk 1 (.one (.bls 3 0 N 1)::jk 48 (vi m::vi k::jk 35 []))))),[x.o,.box [.dc (ci x.tb),.dc (ci (2*m))],.arr 0 1 [[ci 0],[ci 0]],yb (lP x m k)]⟩)= some ⟨(jk 2 (.one (.ptr 0 0)::jk 4 (.one (.ptr 1 0)::jk 1 (.one (.bls 3 0 N 1)::jk 48 (vi m::vi (k+1:Nat)::jk 35 []))))),[x.o,.box [.dc (ci x.tb),.dc (ci (2*m))],.arr 0 1 [[ci 0],[ci 0]],yb (lP x m (k+1))]⟩:=by
 obtain⟨E,I,J⟩:=h.rs;have j:=aRR (bb:=bb) v;have p:=aWb (bb:=bb) v k (Wa x m) (miR x) (lgR x) E I J;have i:=Bg (G:=G) (B:=dU G bb) x;have g:=Y2 (G:=G) (B:=dU G bb) x;obtain⟨f,u⟩:=Q8 h k;obtain⟨L,M⟩:=tG h k (by omega);have O:=h.cl;have R:=h.tb;have S:=h.mi;have T:=h.nn;have n:=Lc (G:=G) (B:=dU G bb) (x.tb+2*k) (by omega);have l:=Lc (G:=G) (B:=dU G bb) (x.mi+2*k) (by omega);have c:=Vx (G:=G) (B:=dU G bb) (lP x m k) (nX x m k) N (x.tb.toNat+2*k) (x.tb.toNat+2*k+1) (by omega) f u (by omega) (by omega) (by omega);have z:(qF (lP x m k) (nX x m k) (x.tb.toNat+2*k) (x.tb.toNat+2*k+1)).length=N:=by rw[pY f (by omega) (by omega)];omega
 have C:((x.tb.toNat+2*k:Nat):Int)=x.tb+2*k:=by omega
 have r:((x.tb.toNat+2*k+1:Nat):Int)=x.tb+2*k+1:=by omega
 rw[C,r] at c;have d:(k:Int)<m:=y;rw[aIS];by_cases h4:k<4;rw[if_pos h4];have b:(k:Int)<4:=by omega
 have a:(k:Int)<16:=by omega
 have e:=Vx (G:=G) (B:=dU G bb) (qF (lP x m k) (nX x m k) (x.tb.toNat+2*k) (x.tb.toNat+2*k+1)) (nX x m k) N (x.mi.toNat+2*k) (x.mi.toNat+2*k+1) z f u (by omega) (by omega) (by omega);have A:((x.mi.toNat+2*k:Nat):Int)=x.mi+2*k:=by omega
 have q:((x.mi.toNat+2*k+1:Nat):Int)=x.mi+2*k+1:=by omega
 rw[A,q] at e;generalize qF (lP x m k) (nX x m k) (x.tb.toNat+2*k) (x.tb.toNat+2*k+1)=s at *;generalize qF s (nX x m k) (x.mi.toNat+2*k) (x.mi.toNat+2*k+1)=K at *;unfold nX at c e;rw[if_pos (by omega)] at c e;generalize oQ (Q7 k (Wa x m) (miR x) (lgR x)) 1=Q at *;generalize oQ frR 1=F at *;generalize lP x m k=D at *;simp (maxSteps:=2000000) (disch:=omega) only[go_sem,h21l0,d,j,p,i,g,n,l,c,e,b,a,kS];rw[if_neg h4];have b:¬ (k:Int)<4:=by omega
 generalize qF (lP x m k) (nX x m k) (x.tb.toNat+2*k) (x.tb.toNat+2*k+1)=s at *;unfold nX at c;generalize lP x m k=D at *;by_cases h16:k<16;rw[if_pos h16] at c;have a:(k:Int)<16:=by omega
 generalize oQ (Q7 k (Wa x m) (miR x) (lgR x)) 1=Q at *;generalize oQ frR 1=F at *;simp (maxSteps:=2000000) (disch:=omega) only[go_sem,h21l0,d,j,p,i,g,n,l,c,b,a,kS];rw[if_neg h16] at c;have a:¬ (k:Int)<16:=by omega
 generalize oQ frR 1=F at *;simp (maxSteps:=2000000) (disch:=omega) only[go_sem,h21l0,d,j,p,i,g,n,l,c,b,a,kS]
theorem aDT(s:G9 G)(x:Bt)(n:Int)(h:aMZ x n=0):EV G (Tb (dU G bb)) 21 [x.v,vi n] []=some (.tup [tS (jE x n),tE 0],[]):=by
 have a:=aBz h;have c:=Aq (G:=G) (B:=dU G bb) x;have w:=kJ (G:=G) (B:=dU G bb) n 16 96;have u:=jB (G:=G) (B:=dU G bb);have f:=pV (G:=G) (B:=dU G bb);have j:=Bg (G:=G) (B:=dU G bb) x;have i:=Y2 (G:=G) (B:=dU G bb) x;have K:=a.cl;have q:=a.tb;have L:=a.mi;have M:=a.lg;have r:=a.nn;obtain⟨_,_,hf,_⟩:=aMW a.ck;have Q:x.lc<=1000:=by omega
 have g:=pW (G:=G) (B:=dU G bb) x.tb (2*n) (by omega) (by omega);have d:=Ei (G:=G) (B:=dU G bb) x.tb (2*n) x.mi 8 (by omega) (by omega) (by omega) (by omega);have e:=Ei (G:=G) (B:=dU G bb) x.tb (2*n) x.lg x.lc (by omega) (by omega) (by omega) (by omega);rw[a.ck] at c;rw[decide_eq_true r] at w;rw[a.c1] at d;rw[a.c2] at e;have h3:=q.2;obtain⟨N,b⟩:∃N:Nat,x.cl.toNat*256=N:=⟨_,rfl⟩;have E:x.cl*256=(N:Int):=by omega
 have C:=aRr (G:=G) (B:=dU G bb) (zl N) x N (aS N) (aRy (by decide)) (fun y z=>by have:=Ic a.ck y z;omega) (by omega)
 have l:lP x n 0=Mf (zl N) x:=by rw[<- b];rfl
 have F:=aWc N;obtain⟨el,J⟩:=tG a n.toNat (by omega);have p:jO (List.take N (List.map yC (lP x n n.toNat)))=some ((lP x n n.toNat).map u8):=by
  rw[aZ6 (by rw[aZz,el];omega),lL]
 have A:((n.toNat:Nat):Int)=n:=by omega
 refine aB rfl ?_;simp (maxSteps:=2000000) (disch:=omega) only[go_sem,h21c,c,w,u,f,j,i,g,d,e,h3,cB,eL,fK,aZX,aZ2,E,F,C,bAc];rw[aT (fun k=>⟨(jk 2 (.one (.ptr 0 0)::jk 4 (.one (.ptr 1 0)::jk 1 (.one (.bls 3 0 N 1)::jk 48 (vi n::vi k::jk 35 []))))),[x.o,.box [.dc (ci x.tb),.dc (ci (2*n))],.arr 0 1 [[ci 0],[ci 0]],yb (lP x n k)]⟩) n.toNat ?_ ?_]
 unfold jE;have I:List.drop 0 (List.map yC (lP x n n.toNat))=List.map yC (lP x n n.toNat):=bAq;generalize lP x n n.toNat=D at *;simp (maxSteps:=2000000) (disch:=omega) only[go_sem,h21l0,A,aZz,el,b,p,To];rw[l];rfl;exact fun k O=>aIT s a N b k (by omega)
end
section
variable {G:aF}{bb:Bool}
theorem aBA{l t:L Int}(d:t.length=256)(n c:Nat)(b:n*256+256<=l.length):Cr (fE l (n*256) t) c=if c=n then t else Cr l c:=by
 have a:(l.take (n*256)).length=n*256:=by rw[aZD];omega
 unfold Cr fE;rw[aZP];by_cases h:c=n;rw[if_pos h,h,List.drop_append_of_le_length (by omega),List.drop_eq_nil_of_le (by omega),aZR,bAS (by omega),aZ6 (by omega)];rw[if_neg h];rcases Nat.lt_or_gt_of_ne h with q|q
 rw[List.drop_append_of_le_length (by omega),bAS (by rw[aZK];omega),bAJ,bA3,bAt (by omega)];have e:(l.take (n*256)++(t++l.drop (n*256+t.length))).drop (c*256)=(l.drop (n*256+t.length)).drop (c*256-(n*256+t.length)):=by
  rw[<- aZP,bA9,List.drop_eq_nil_of_le (by rw[aZA];omega),aZR,aZA,a]
 rw[e,bAw];congr 2;omega
theorem pZ{l b:L Int}(g:b.length=512)(a d c:Nat)(e:a*256+256<=l.length)(f:d*256+256<=l.length):Cr (qF l b a d) c=if c=d then b.drop 256 else if c=a then b.take 256 else Cr l c:=by
 unfold qF;rw[aBA (by rw[aZK];omega) d c (by rw[cJ (by rw[aZD];omega)];omega),aBA (by rw[aZD];omega) a c e]
theorem Q9{l b:L Int}(a:b.length=512)(n:Nat)(c:n*256+512<=l.length):qB (qF l b n (n+1)) n (n+1)=b:=by
 unfold qB;rw[pZ a n (n+1) n (by omega) (by omega),pZ a n (n+1) (n+1) (by omega) (by omega),if_neg (by omega),if_pos rfl,if_pos rfl,bAH]
theorem pA{l b:L Int}(f:b.length=512)(n a c:Nat)(g:n*256+512<=l.length)(d:a≠n/\a≠n+1)(e:c≠n/\c≠n+1):qB (qF l b n (n+1)) a c=qB l a c:=by
 unfold qB;rw[pZ f n (n+1) a (by omega) (by omega),pZ f n (n+1) c (by omega) (by omega),if_neg d.2,if_neg d.1,if_neg e.2,if_neg e.1]
theorem aIU{a m b n:Int}(h:Ev a m b n=false):¬ (a<b+n/\b<a+m):=of_decide_eq_false h
theorem Ih{x:Bt}{m:Int}(h:Lw x m):∀n:Nat,(n:Int)<=m->(Cr (lP x m n) 0=Cr (lP x m 0) 0)/\(∀k,k<n->qB (lP x m n) (x.tb.toNat+2*k) (x.tb.toNat+2*k+1)=nX x m k)/\(∀k,k<n->k<4->qB (lP x m n) (x.mi.toNat+2*k) (x.mi.toNat+2*k+1)=nX x m k)
 |0,_=>⟨rfl,fun k b=>absurd b (Nat.not_lt_zero k),fun k b=>absurd b (Nat.not_lt_zero k)⟩
 | n+1,q=>by
  obtain⟨d,f,g⟩:=Ih h n (by omega);obtain⟨i,_⟩:=tG h n (by omega);obtain⟨a,_⟩:=Q8 h n;have j:=h.cl;have l:=h.tb;have o:=h.mi;have p:=h.nn;have s:=aIU h.c1;have r:(qF (lP x m n) (nX x m n) (x.tb.toNat+2 * n) (x.tb.toNat+2 * n+1)).length=x.cl.toNat * 256:=by rw[pY a (by omega) (by omega),i]
  rw[aIS];by_cases h4:n < 4
  ·rw[if_pos h4];refine⟨?_,fun k b=>?_,fun k b c=>?_⟩
   ·rw[pZ a _ _ _ (by omega) (by omega),if_neg (by omega),if_neg (by omega),pZ a _ _ _ (by omega) (by omega),if_neg (by omega),if_neg (by omega),d]
   ·rw[pA a _ _ _ (by omega) ⟨by omega,by omega⟩ ⟨by omega,by omega⟩];by_cases e:k=n
    ·rw[e,Q9 a _ (by omega)]
    ·rw[pA a _ _ _ (by omega) ⟨by omega,by omega⟩ ⟨by omega,by omega⟩,f k (by omega)]
   ·by_cases e:k=n
    ·rw[e,Q9 a _ (by omega)]
    ·rw[pA a _ _ _ (by omega) ⟨by omega,by omega⟩ ⟨by omega,by omega⟩,pA a _ _ _ (by omega) ⟨by omega,by omega⟩ ⟨by omega,by omega⟩,g k (by omega) c]
  ·rw[if_neg h4];refine⟨?_,fun k b=>?_,fun k b c=>?_⟩
   ·rw[pZ a _ _ _ (by omega) (by omega),if_neg (by omega),if_neg (by omega),d]
   ·by_cases e:k=n
    ·rw[e,Q9 a _ (by omega)]
    ·rw[pA a _ _ _ (by omega) ⟨by omega,by omega⟩ ⟨by omega,by omega⟩,f k (by omega)]
   ·rw[pA a _ _ _ (by omega) ⟨by omega,by omega⟩ ⟨by omega,by omega⟩,g k (by omega) c]
noncomputable def Ze(x:Bt)(m:Int)(n:Nat):cL:=if n<16 then Q7 n (Wa x m) (miR x) (lgR x) else frR
theorem aBB{x:Bt}{m:Int}(h:Lw x m)(n:Nat):dG (nX x m n)=(Ze x m n,1,0):=by
 obtain⟨c,d,h3⟩:=h.rs;unfold nX Ze;split;obtain⟨a,b⟩:=Zb n c d h3;exact (Eg b a (by decide)).1;exact (Eg F6.2 F6.1 (by decide)).1
theorem aIV(l:L Int)(h:256<=l.length):l.take 64=(Cr l 0).take 64:=by
 unfold Cr;rw[Nat.zero_mul,bAq,bA3,bAt (by decide)]
theorem Ep{x:Bt}{m:Int}(h:Lw x m):aQ (jE x m)=(x,0,0):=by
 have f:=h.cl;have g:=h.nn;obtain⟨d,_⟩:=tG h m.toNat (by omega);obtain⟨i,_⟩:=tG h 0 (by omega);obtain⟨c,_⟩:=Ih h m.toNat (by omega);have e:(jE x m).take 64=x.bs:=by
  unfold jE;rw[aIV _ (by omega),c,<- aIV _ (by omega)];exact aIr _ x (by rw[aS];omega)
 have a:(jE x m).length=x.cl.toNat*256:=d;have b:La (jE x m).length=0:=by
  rw[a];unfold La Gt;rw[if_neg (show ¬ (x.cl.toNat*256=0\/x.cl.toNat*256 % 64≠0) by omega),if_neg (show ¬ 131072<x.cl.toNat*256 by omega),if_neg (by decide),if_pos (by omega)]
 unfold aQ;rw[if_pos b];unfold qN;rw[e,aIm x h.ck,if_pos ⟨rfl,by rw[a];show x.cl=_;omega⟩];rfl
theorem aBC{x:Bt}{m:Int}(h:Lw x m):mH (jE x m)=(V9 1 (Wa x m),1,0):=by
 have b:=h.nn;obtain⟨_,a,_⟩:=Ih h m.toNat (by omega);unfold mH;rw[Ep h];have e:Ew (jE x m) x=nX x m 0:=a 0 (by omega);unfold Q2;dsimp only;rw[e,aBB h 0,if_pos rfl];rfl
theorem aBD{x:Bt}{m:Int}:¬ jA jC (V9 1 (Wa x m)).ats<0:=by
 rw[Am];intro q;have:=q (bV (rA [Wa x m]) 1) (aBy.2 (.inr rfl));simp[jC,bV,rA] at this
theorem aBE{x:Bt}{m:Int}(h:Lw x m):nR (jE x m)=bV (rA [Wa x m]) 1:=by
 have e:=aBC h;have c:¬ jA jC (mH (jE x m)).1.ats<0:=by rw[e];exact aBD
 obtain⟨K,b,_,h3,h4,_⟩:=V4 c;rw[h3];have a:=aZG b;generalize (mH (jE x m)).1.ats[K]=A at *;rw[e] at a;rcases aBy.1 a with q|q;rw[q] at h4;simp[jC,Bw] at h4;exact q
theorem aNm(q:aX):tU [q]=A1 q q.n.toNat:=by simp[tU]
theorem aRS{q:aX}(b:q.s≠-1){n k:Nat}(a:k<n):(A1 q n).getD k 0=q.s+k:=by
 unfold A1;rw[aZN,aZI,bAX a];simp[b]
theorem aRT(q:aX)(n:Nat):(A1 q n).length=n:=by simp[A1]
noncomputable def uB(x:Bt)(m:Int):L Int:=A1 (Wa x m) (2*m).toNat
theorem Er{x:Bt}{m:Int}(h:Lw x m):jD (jE x m)=uB x m:=by
 unfold jD;rw[aBE h];exact aNm _
theorem tH{x:Bt}{m:Int}(h:Lw x m){k:Nat}(a:(k:Int)<2*m):(uB x m).getD k 0=x.tb+k:=aRS (by have:=h.tb;show x.tb≠-1;omega) (by omega)
theorem Lm{x:Bt}{m:Int}:(uB x m).length=(2*m).toNat:=aRT _ _
theorem aNn{x:Bt}{m:Int}(h:Lw x m):clE x (uB x m)=0:=by
 have c:=h.tb;have d:=h.mi;have f:=h.nn;have l:=aIU h.c1;have b:=Lm (x:=x) (m:=m);have a:uA x (uB x m)=false:=by
  refine decide_eq_false ?_;rintro⟨k,i,q⟩;rw[tH h (by omega)] at q;rcases q with q|q
  simp only[bAQ] at q;rcases q with q|q|q
  omega;omega;obtain⟨j,g,e⟩:=List.mem_take_iff_getElem.1 q;have:(uB x m).getD j 0=(uB x m)[j]'(by omega):=by simp[show j<(uB x m).length by omega]
  rw[tH h (by omega)] at this;omega;omega
 unfold clE;rw[a,tH h (by omega),tH h (by omega),b,decide_eq_true (show (2*m).toNat % 2=0 by omega),decide_eq_true (show 16<=(2*m).toNat / 2/\(2*m).toNat / 2<=96 by omega),decide_eq_true (show 2<=(2*m).toNat by omega),decide_eq_true (by omega)];rfl
theorem aBF{x:Bt}{m:Int}(h:Lw x m):mX (jE x m)=0/\mO (jE x m)=0:=by
 have e:=h.tb;have f:=h.nn;have a:mX (jE x m)=0:=by
  unfold mX;rw[Ep h,aBC h,aBE h];dsimp only;rw[if_neg (by decide),if_neg (by decide),if_neg aBD];unfold En;have k:(bV (rA [Wa x m]) 1).rs=[Wa x m]:=rfl;have b:(!(bV (rA [Wa x m]) 1).res&&decide ((bV (rA [Wa x m]) 1).fi=0))=true:=rfl;rw[k,b];have c:([Wa x m].any fun r=>decide (r.s=-1))=false:=by simp;omega
  have d:([Wa x m].any fun r=>decide (r.s+r.n > x.cl))=false:=by simp;omega
  rw[c,d];rfl
 refine⟨a,?_⟩;unfold mO Mg;rw[a,if_neg (by decide),Ep h,Er h];exact aNn h
theorem Zf{x:Bt}{m:Int}(h:Lw x m){k:Nat}(g:(k:Int)<m):Lj (jE x m) x (uB x m) k=(Ze x m k,1,0):=by
 have d:=h.tb;have f:=h.nn;obtain⟨_,c,_⟩:=Ih h m.toNat (by omega);unfold Lj;rw[tH h (by omega),tH h (by omega)];have a:(x.tb+((2*k:Nat):Int)).toNat=x.tb.toNat+2*k:=by omega
 have b:(x.tb+((2*k+1:Nat):Int)).toNat=x.tb.toNat+2*k+1:=by omega
 rw[a,b];have e:qB (jE x m) (x.tb.toNat+2*k) (x.tb.toNat+2*k+1)=nX x m k:=c k (by omega);unfold Q2;rw[e,aBB h k,if_pos rfl]
end
section
variable {G:aF}{bb:Bool}
theorem aOk{x:Bt}{m:Int}(h:Lw x m):Ex (jE x m)=m.toNat:=by
 have:=h.nn;unfold Ex;rw[Er h,Lm];omega
theorem aNo(p:Nat->Prop)(n:Nat)(h:∀k,k<n->¬ p k):ix p n=n:=by
 obtain⟨b,a,_⟩:=bF p n;rcases a with q|⟨q,r⟩;exact q;exact absurd r (h _ q)
theorem aRU{x:Bt}{m:Int}(h:Lw x m):usV (jE x m)=(Za (jE x m) x (uB x m) m.toNat,0):=by
 have g:=h.nn;have e:usI (jE x m) x (uB x m)=m.toNat:=by
  unfold usI;rw[Lm];rw[show (2*m).toNat / 2=m.toNat by omega];exact aNo _ _ (fun k a q=>q (by rw[Zf h (by omega)]))
 unfold usV;rw[(aBF h).2,if_neg (by decide),Ep h,Er h,aOk h];dsimp only;rw[e,if_pos rfl]
theorem aIW(n:Int)(b e d:aX):fU (Q7 n b e d).fl=true:=by
 have c:∀f,f=1\/f=3->fU (Gv f).fl=true:=fun f h=>by rcases h with rfl|rfl<;>rfl
 have a:∀f q,f=1\/f=3->fU (V9 f q).fl=true:=fun f q h=>by rcases h with rfl|rfl<;>rfl
 unfold Q7;split;exact a _ _ (mI n);split;exact a _ _ (mI n);split;exact a _ _ (mI n);exact c _ (mI n)
theorem aNp{x:Bt}{m:Int}(h:Lw x m){k:Nat}(a:(k:Int)<m):usB (jE x m) x (uB x m) k=decide (k<16):=by
 unfold usB;rw[Zf h a];unfold Ze;by_cases q:k<16;rw[if_pos q,decide_eq_true q];exact aIW _ _ _ _;rw[if_neg q,decide_eq_false q];rfl
theorem aRV{x:Bt}{m:Int}(h:Lw x m):frV (jE x m)=if 16<m then (16,0) else (0,16):=by
 have g:=h.nn;have e:=Ig (jE x m) x (uB x m) m.toNat;have a:∀ k,16+k < m.toNat->((Za (jE x m) x (uB x m) m.toNat).drop 16).getD k true=false:=fun k d=>by
  rw[aZN,aZ9,Za,aZI,bAX d];show usB (jE x m) x (uB x m) (16+k)=false;rw[aNp h (by omega)];exact decide_eq_false (by omega)
 unfold frV;rw[aRU h];dsimp only;rw[if_neg (by decide)];have f:((Za (jE x m) x (uB x m) m.toNat).drop 16).length=m.toNat-16:=by rw[aZK,e]
 generalize (Za (jE x m) x (uB x m) m.toNat).drop 16=U at *;unfold ixB;obtain⟨i,j,h3⟩:=bF (fun k=>U.getD k true=false) U.length
 generalize ix (fun k=>U.getD k true=false) U.length=K at *
 by_cases c:16<m;have b:K=0:=by
  rcases Nat.eq_zero_or_pos K with q|q;exact q;exact absurd (a 0 (by omega)) (h3 0 q)
 rw[if_pos c,b];rw[if_neg (show ¬ 0=U.length by omega),if_neg (by decide)];rfl;rw[if_neg c,if_pos (show K=U.length by omega),if_pos (by decide)]
theorem aIX{x:Bt}{m:Int}(h:Lw x m){n:Int}(a:0<=n/\n<m):Q5 (jE x m) n=0:=by
 unfold Q5;rw[(aBF h).2,if_neg (by decide),aOk h,decide_eq_true (by omega)];rfl
theorem aRW{x:Bt}{m:Int}(h:Lw x m)(a:16<m):aNg (jE x m) 16 1=(.nil,32):=by
 have e:Lv (jE x m) 16=(Ze x m 16,1,0):=by
  unfold Lv;rw[aIX h ⟨by decide,a⟩,if_pos rfl,Ep h,Er h];exact Zf h (by omega)
 unfold aNg;rw[e];dsimp only;rw[if_neg (by decide)];have r:Ze x m 16=frR:=by unfold Ze;rw[if_neg (by decide)]
 rw[r,if_neg (by rintro⟨q,_⟩;cases q)]
def Rf:Bt:=⟨64,4,44,52,8,7⟩
theorem aWd:jP Rf=0:=by decide
theorem aIY:aMZ Rf 18=0:=by decide
def tbV:FuncId->Option HF:=fun f=>if f=4 then some h4 else none
noncomputable def T3(G:aF):HT:=⟨tbV,EV G (Tb (dU G false))⟩
theorem aWe{G:aF}:Xq Tryz.prog (T3 G):=by
 intro f h hf;change tbV f=some h at hf;unfold tbV at hf;split at hf;rename_i e;subst e;injection hf with hf;subst hf;exact⟨by kernel_rfl,_,Tryz.func4,Tryz.ntmps4,h4_ok,aTg⟩
 cases hf
theorem t3{f:FuncId}{a:L AV}{hp:L aD}{r:AV×L aD}(h:EV G (Tb (dU G false)) f a hp=some r)(b:f≠4:=by decide):EV G (T3 G) f a hp=some r:=
 jG (by show tbV f=none;exact if_neg b) h
theorem aNq{B:aO}:EV G (Tb B) 20 [] []=some (.agg [.dc (ci 64),.dc (ci 4),.dc (ci 44),.dc (ci 52),.dc (ci 8),.dc (ci 7)],[]):=by
 exact aB rfl rfl
theorem aDU(c:G9 G):EV G (T3 G) 4 [] []=some (vb true,[]):=by
 have a:=aBz aIY;obtain⟨j,b⟩:=tG a 18 (by decide);have j:(jE Rf 18).length=16384:=j;have b:aJ (jE Rf 18):=b;have k:=t3 (aNq (G:=G) (B:=dU G false));have l:EV G (T3 G) 19 [.agg [.dc (ci 64),.dc (ci 4),.dc (ci 44),.dc (ci 52),.dc (ci 8),.dc (ci 7)]] []=some (.tup [tS Rf.bs,tE 0],[]):=by
  have q:=t3 (aDL (G:=G) (B:=dU G false) Rf (As Rf) (aRy (by decide)));rw[aWd,if_pos rfl] at q;exact q
 have n:EV G (T3 G) 21 [.agg [.dc (ci 64),.dc (ci 4),.dc (ci 44),.dc (ci 52),.dc (ci 8),.dc (ci 7)],vi 18] []=some (.tup [tS (jE Rf 18),tE 0],[]):=t3 (aDT (bb:=false) c Rf 18 aIY);have i:=t3 (V6 (bb:=false) c (jE Rf 18) b (by omega));rw[aRV a,if_pos (by decide)] at i;have d:=t3 (Om (bb:=false) c (jE Rf 18) b (by omega) 3);rw[aIX a (by decide),if_pos rfl,Er a] at d;have p:(uB Rf 18).getD (2*(3:Int).toNat) 0=10:=by rw[tH a (by decide)];rfl
 rw[p] at d;have o:EV G (T3 G) 23 [sv (jE Rf 18),rfv 16 1] []=some (.tup [.agg [.dc (ci 0),.dc (ci 0),.dc (ci 0),.dc (ci 0),.dc (ci 0),.dc (ci 0),.dc (ci 0),.dc (.slc [])],tE 32],[]):=by
  have q:=t3 (aDS (bb:=false) c (jE Rf 18) b (by omega) 16 1);rw[aRW a (by decide)] at q;exact q
 have s:=K8 Rf;have e:Rf.bs.take (12:Int).toNat=[68,69,80,79,83,73,84,49,64,0,0,0]:=by decide
 have r:(dI [68,69,80,79,83,73,84,49,64,0,0,0]=(⟨#[68,69,80,79,83,73,84,49,64,0,0,0]⟩:ByteArray))=True:=eq_true (by kernel_rfl);generalize jE Rf 18=D at *;generalize Rf.bs=S at *;have g:(S.length:Int)=64:=by omega
 have f:(D.length:Int)=16384:=by omega
 refine aB (h:=h4) rfl ?_;simp (maxSteps:=2000000) (disch:=omega) only[go_sem,h4c,k,l,n,i,d,o,aC,g,f,e,r]
theorem aDV(c:G9 G):QC Tryz.prog G 4 [] (vb true):=aAC aWe (fun f a hp av g h b d=>by
 obtain⟨n,e⟩:=jW h;exact uY (aAD (dU G false)) (aIy (fun h=>by cases h)) n f a hp av g e b d) (aDU c)
end
section
open Go.ChangeShapes Go.WideShapes Go.ChangeAt Go.RowKit
def Mh(P:Program):Nat->TypeId->L DC->Prop
 |0,_,_=>False
 |n+1,t,a=>
  match P.underlying t with
  |some .bool=>∃b,a=[.raw (.bool b)]
  |some (.int k)=>∃i,a=[.raw (.int k i)]/\k.min<=i/\i<=k.max
  |some .string=>∃s:ByteArray,a=[.raw (.string s)]/\s.size<=maxLen
  |some (.slice e)=>∃es:L (L DC),a=[.slc es]/\es.length<=maxLen/\∀d∈es,Mh P n e d
  |some (.struct c)=>a.length=P.cellsOf t/\∀(i:Nat) f,c[i]?=some f->Mh P n f.type ((a.drop f.offset).take (P.cellsOf f.type))
  |some (.array m e)=>a.length=P.cellsOf t/\∀i,i<m->Mh P n e ((a.drop (i*P.cellsOf e)).take (P.cellsOf e))
  |_=>False
def Lo:L (Nat×Nat)->Nat->Nat->Bool
 |[],off,a=>decide (off=a)
 |p::l,off,a=>decide (p.1=off)&&Lo l (off+p.2) a
def Lp(P:Program):Nat->TypeId->Bool
 |0,_=>false
 |n+1,t=>
  match P.underlying t with
  |some .bool=>true
  |some (.int _)=>true
  |some .string=>true
  |some (.slice e)=>Lp P n e&&decide (0<P.cellsOf e)
  |some (.struct a)=>a.toList.all (fun f=>Lp P n f.type)&&Lo (a.toList.map fun f=>(f.offset,P.cellsOf f.type)) 0 (P.cellsOf t)
  |some (.array m e)=>Lp P n e&&decide (P.cellsOf t=m*P.cellsOf e)
  |_=>false
def RDs(F:Fz)(a:L DC)(cs:L Value):Prop:=a.length=cs.length/\∀(i:Nat) d v,a[i]?=some d->cs[i]?=some v->RD F d v
theorem aBG:∀(l:L (Nat×Nat)) (off a:Nat),Lo l off a=true->off<=a
 |[],off,a,h=>by simp[Lo] at h;omega
 | p::l,off,a,h=>by
  simp only[Lo,aZO,decide_eq_true_eq] at h;have:=aBG l _ _ h.2;omega
theorem aRX{F:Fz}{cs:L Value}:∀(l:L (Nat×Nat×(L DC->Prop))) (off:Nat),Lo (l.map fun p=>(p.1,p.2.1)) off cs.length=true->(∀p∈l,∃f,RDs F f ((cs.drop p.1).take p.2.1)/\p.2.2 f)-> ∃f,RDs F f (cs.drop off)/\∀p∈l,off<=p.1/\p.2.2 ((f.drop (p.1-off)).take p.2.1)
 | [],off,h,_=>by
  simp only[aZM,Lo,decide_eq_true_eq] at h;exact⟨[],⟨by simp[h],fun i d v j=>by simp at j⟩,fun p hp=>by cases hp⟩
 | p::l,off,h,hp=>by
  simp only[aZL,Lo,aZO,decide_eq_true_eq] at h;obtain⟨o,j⟩:=h;have y:=aBG _ _ _ j;obtain⟨a,e,s⟩:=hp p aZT;obtain⟨c,n,u⟩:=aRX l (off+p.2.1) j (fun q g=>hp q (aZ3 _ g))
  have k:a.length=p.2.1:=by rw[e.1,aZD,aZK];omega
  have b:cs.drop off=(cs.drop p.1).take p.2.1++cs.drop (off+p.2.1):=by
   rw[o,<- bAw,bAH]
  refine⟨a++c,⟨by rw[b,aZA,aZA,e.1,n.1],fun i d v h3 h4=>?_⟩,fun q g=>?_⟩
  ·rw[b] at h4;by_cases r:i < a.length
   ·rw[aZU r] at h3;rw[aZU (by rw[<- e.1];exact r)] at h4;exact e.2 i d v h3 h4
   ·rw[aZ0 (by omega)] at h3;rw[aZ0 (by rw[<- e.1];omega),<- e.1] at h4;exact n.2 _ d v h3 h4
  ·rcases bAQ.1 g with rfl | g
   ·refine⟨by omega, ?_⟩;rw[o,bAr,bAq,bAS (by omega),aZ6 (by omega)];exact s
   ·obtain⟨z,x⟩:=u q g;refine⟨by omega, ?_⟩;have:(a++c).drop (q.1 - off)=c.drop (q.1 - (off+p.2.1)):=by
     rw[bA9,bBd (by omega),aZR,k];congr 1;omega
    rw[this];exact x
theorem Gy{α:Type}{a:Nat->α->Prop}:∀n,(∀i,i<n->∃x,a i x)->∃l:L α,l.length=n/\∀(i:Nat) x,l[i]?=some x->a i x
 |0,_=>⟨[],rfl,fun i x h=>by simp at h⟩
 | n+1,h=>by
  obtain⟨l,b,hp⟩:=Gy n (fun i e=>h i (by omega))
  obtain⟨x,c⟩:=h n (by omega);refine⟨l++[x],by simp[b],fun i y d=>?_⟩
  rcases iN d with h1 | ⟨h1,rfl⟩
  ·exact hp i y h1
  ·rw[h1,b];exact c
section
variable {H:Type}{enc:TypeId×Value->H}{P:Program}{w:World}{base:Nat}{spare:Nat->Bool}{held:Bool}
theorem aDW{a:Addr}{v:Value}(h:w.cell? a=some v):a.spot=none:=by
 unfold World.cell? at h;split at h;split at h;cases h;rename_i b;cases c:a.spot with
 |none=>rfl
 |some x=>simp[c] at b
 cases h
theorem aIZ{a:Addr}(h:a.spot=none)(i:Nat):a.add i=⟨a.block,a.off+i,none⟩:=by
 unfold Addr.add;split;rename_i b;subst b;cases a;simp_all;rfl
theorem aI0{a:Addr}{v:Value}(h:w.cell? a=some v):(iY w).cell? a=some v:=by
 unfold World.cell? at h;unfold Fz.cell? iY;exact h
theorem Bm:∀(n:Nat)(t:TypeId)(cs:List Value)(x:DataW H×List MemPlace)(m:Nat),Lp P m t=true->DataW.trod enc P w base spare held n t cs=some x->∃E,RDs (iY w) E cs/\Mh P m t E
 |0,t,cs,x,m,l,h=>by simp[DataW.trod] at h
 |n+1,t,cs,x,0,l,h=>by simp[Lp] at l
 | n+1,t,cs,x,m+1,l,h=>by
  rw[Lp] at l;cases q:P.underlying t with
  | none=>simp[q] at l
  | some u=>
   simp only[q] at l;cases u<;>try (simp at l;done)
   case bool=>
    obtain⟨b,rfl,rfl⟩:=DataW.trod_bool q h;exact⟨[.raw (.bool b)],⟨rfl,fun i d v c g=>by
     cases i with
     | zero=>simp at c g;subst c;subst g;exact .raw _ rfl
     | succ i=>simp at c⟩,by rw[Mh,q];exact⟨b,rfl⟩⟩
   case int k=>
    obtain⟨i,rfl,rfl,hw⟩:=DataW.trod_int q h;refine⟨[.raw (.int k i)],⟨rfl,fun j d v c g=>?_⟩,by rw[Mh,q];exact⟨i,rfl,by simpa[Lit.wf] using hw⟩⟩
    cases j with
    | zero=>simp at c g;subst c;subst g;exact .raw _ rfl
    | succ j=>simp at c
   case string=>
    obtain⟨s,rfl,rfl,hw⟩:=DataW.trod_string q h;refine⟨[.raw (.string s)],⟨rfl,fun j d v c g=>?_⟩,by rw[Mh,q];exact⟨s,rfl,hw⟩⟩
    cases j with
    | zero=>simp at c g;subst c;subst g;exact .raw _ rfl
    | succ j=>simp at c
   case slice e=>
    simp only[aZO,decide_eq_true_eq] at l;rcases DataW.trod_slice q h with⟨rfl,_⟩ | ⟨a,len,cap,K,rest,J,hn,rfl,_,hb,hl,hcm,hel,hat,_,_⟩
    ·refine⟨[.slc []],⟨rfl,fun j d v c g=>?_⟩,by rw[Mh,q];exact⟨[],rfl,aZV _,by simp⟩⟩
     cases j with
     | zero=>simp at c g;subst c;subst g;exact .nil _ _
     | succ j=>simp at c
    ·have C:J=n:=by omega
     subst C;have key:∀ i,i < len->∃ r:List DC × List Value,w.cells? base (a.add (i * P.cellsOf e)) (P.cellsOf e)=some r.2/\RDs (iY w) r.1 r.2/\Mh P m e r.1:=by
      intro i z;have c:=hat i z;have hi2:i < K.length:=by omega
      rw[aZJ hi2] at c;obtain⟨cs',g,h3⟩:=bAk.1 c;obtain⟨E,h4,h5⟩:=Bm J e cs' _ m l.1 h3;exact⟨(E,cs'),g,h4,h5⟩
     obtain⟨L,hL,A⟩:=Gy len key;refine⟨[.slc (L.map (·.1))],⟨rfl,fun j d v c g=>?_⟩, ?_⟩
     ·cases j with
      | succ j=>simp at c
      | zero=>
       simp at c g;subst c;subst g;by_cases h0:len=0
       ·have:L=[]:=bAL (by omega);subst this;rw[h0];exact .nil _ _
       ·have y:∀ (i j:Nat) r d,L[i]?=some r->r.1[j]?=some d->∃ u,r.2[j]?=some u/\w.cell? ((a.add (i * P.cellsOf e)).add j)=some u/\j < P.cellsOf e:=by
         intro i j r d M Q;obtain⟨R,W,_⟩:=A i r M;obtain⟨_,g5,Y⟩:=World.cells?_some R;have X:j < r.2.length:=by rw[<- W.1];exact aK Q
         exact⟨_,aZJ X,by rw[Y j (by omega),aZJ X],by omega⟩
        have hsp:a.spot=none:=by
         have Z:0 < L.length:=by omega
         obtain⟨R,W,_⟩:=A 0 _ (aZJ Z);obtain⟨_,g5,Y⟩:=World.cells?_some R;have X:0 < (L[0]).2.length:=by rw[g5];exact l.2
         have g7:=Y 0 l.2;rw[aZJ X] at g7;have:=aDW g7;simp only[Nat.zero_mul] at this;simpa[Addr.add] using this
        have N:∀ i j,(a.add (i * P.cellsOf e)).add j=⟨a.block,a.off+(i * P.cellsOf e+j),none⟩:=by
         intro i j;rw[aIZ hsp,aIZ rfl,Nat.add_assoc]
        have ha:(some a:Option Addr)=some ⟨a.block,a.off,none⟩:=by cases a;simp_all
        rw[ha];have I:(L.map (·.1)).length=len:=by simp[hL]
        have B:=RD.slc (F:=iY w) a.block a.off cap (P.cellsOf e) (L.map (·.1)) (fun i j=>((L.getD i ([],[])).2).getD j undef) (fun r he'=>by
          obtain⟨p,hp,rfl⟩:=List.mem_map.1 he';obtain⟨i,z⟩:=List.mem_iff_getElem?.1 hp;obtain⟨R,W,_⟩:=A i p z;rw[W.1,(World.cells?_some R).2.1]) (fun i j r d M Q=>by
          rw[aZI] at M;obtain⟨p,hp,rfl⟩:=Option.map_eq_some_iff.1 M;obtain⟨u,D,O,hu3⟩:=y i j p d hp Q;simp only[aZN,hp,bAl,D];exact (A i p hp).2.1.2 j d u Q D) (fun i j r d M Q=>by
          rw[aZI] at M;obtain⟨p,hp,rfl⟩:=Option.map_eq_some_iff.1 M;obtain⟨u,D,O,hu3⟩:=y i j p d hp Q;simp only[aZN,hp,bAl,D];rw[N] at O;exact aI0 O) (by rw[I];exact hl)
        rw[I] at B;exact B
     ·rw[Mh,q];refine⟨_,rfl,by simp[hL];omega,fun d hdm=>?_⟩
      obtain⟨p,hp,rfl⟩:=List.mem_map.1 hdm;obtain⟨i,z⟩:=List.mem_iff_getElem?.1 hp;exact (A i p z).2.2
   case struct fs=>
    simp only[aZO,bA0] at l;obtain⟨xs,J,hn,_,o,V,hf⟩:=DataW.trod_struct q h;have C:J=n:=by omega
    subst C;obtain⟨E,c,g⟩:=aRX (F:=iY w) (cs:=cs) (fs.toList.map fun f=>(f.offset,P.cellsOf f.type,Mh P m f.type)) 0 (by
     rw[o,aZ5];exact l.2) (fun p hp=>by
     obtain⟨f,T,rfl⟩:=List.mem_map.1 hp;obtain⟨i,z⟩:=List.mem_iff_getElem?.1 T;have U:fs[i]?=some f:=by simpa using z
     have h3:=hf i f U;have hix:i < xs.length:=by rw[V];exact (Array.getElem?_eq_some_iff.1 U).1
     rw[aZJ hix] at h3;exact Bm J f.type _ _ m (l.1 f T) h3)
    simp only[bAq] at c;refine⟨E,c, ?_⟩;rw[Mh,q];refine⟨by rw[c.1,o],fun i f z=>?_⟩
    have:=(g _ (List.mem_map.2 ⟨f,by exact List.mem_iff_getElem?.2 ⟨i,by simpa using z⟩,rfl⟩)).2;simpa using this
   case array m' e=>
    simp only[aZO,decide_eq_true_eq] at l;obtain⟨xs,J,hn,_,o,V,hf⟩:=DataW.trod_array q h;have C:J=n:=by omega
    subst C;have S:∀ (k s:Nat),Lo ((List.range' s k).map fun i=>(i * P.cellsOf e,P.cellsOf e)) (s * P.cellsOf e) ((s+k) * P.cellsOf e)=true:=by
     intro k
     induction k with
     | zero=>intro s;simp[Lo]
     | succ k ih=>
      intro s;have:=ih (s+1);rw[List.range'_succ,aZL,Lo];simp only[decide_true,aZ8];rw[<- Nat.succ_mul,show s+(k+1)=s+1+k by omega];exact this
    obtain⟨E,c,g⟩:=aRX (F:=iY w) (cs:=cs) ((List.range m').map fun i=>(i * P.cellsOf e,P.cellsOf e,Mh P m e)) 0 (by
     rw[o,aZ5,l.2,List.range_eq_range'];have:=S m' 0;simpa[Function.comp_def] using this) (fun p hp=>by
     obtain⟨i,him,rfl⟩:=List.mem_map.1 hp;have z:=List.mem_range.1 him;have h3:=hf i z;rw[aZJ (by omega)] at h3;exact Bm J e _ _ m l.1 h3)
    simp only[bAq] at c;refine⟨E,c, ?_⟩;rw[Mh,q];refine⟨by rw[c.1,o],fun i z=>?_⟩
    have:=(g _ (List.mem_map.2 ⟨i,List.mem_range.2 z,rfl⟩)).2;simpa using this
def Hj(P:Program)(t:TypeId):Bool:=
 match P.underlying t with
 |some (.struct _)=>true
 |some (.array _ _)=>true
 |_=>false
def okA(P:Program)(m:Nat)(t:TypeId):AV->Prop
 |.one (.dc d)=>Hj P t=false/\Mh P m t [d]
 |.agg cs=>Hj P t=true/\∃a,cs=kY a/\Mh P m t a
 |_=>False
theorem aI1{r:Reach}{C m:Nat}{t:TypeId}{v:Value}{d:DataW H}{I:L MemPlace}(f:Value.okWide P w r C t v)(E:DataW.Trod enc P w base spare held t v d I)(g:Lp P m t=true):∃av,RV (iY w) [] av v/\okA P m t av:=by
 obtain⟨n,h⟩:=E;obtain⟨A,p,z⟩:=Bm n t _ _ m g h;have q:∀x:Value,v=x->Hj P t=false->(∀cs,x≠.agg cs)->∃av,RV (iY w) [] av v/\okA P m t av:=by
  intro x F h3 h4;subst F;have B:v.cells.toList=[v]:=by cases v<;>first|rfl|(exact absurd rfl (h4 _))
  rw[B] at p
  match A,p,z with
  |[y],p,z=>exact⟨.one (.dc y),.one _ _ (.dc _ _ (p.2 0 y v rfl rfl)),h3,z⟩
  |[],p,_=>simp[RDs] at p
  |_::_::_,p,_=>simp[RDs] at p
 have s:∀cs,v=.agg cs->Hj P t=true->∃av,RV (iY w) [] av v/\okA P m t av:=by
  intro cs o D;subst o;have B:(Value.agg cs).cells.toList=cs.toList:=rfl;rw[B] at p;refine⟨.agg (kY A),.agg _ _ (by rw[kY,aZz,p.1,bBb]) (fun i c u h3 h4=>?_),D,A,rfl,z⟩
  rw[kY,aZI] at h3;obtain⟨y,h5,rfl⟩:=Option.map_eq_some_iff.1 h3;exact .dc _ _ (p.2 i y u h5 (by simpa using h4))
 cases m with
 |zero=>simp[Lp] at g
 |succ m=>
  rw[Lp] at g;cases j:P.underlying t with
  |none=>simp[j] at g
  |some u=>
   simp only[j] at g;cases u<;>try (simp at g;done)
   case bool=>obtain⟨b,o⟩:=okWide_bool j f;exact q _ o (by rw[Hj,j]) (fun cs h=>by cases h)
   case int k=>obtain⟨b,o⟩:=okWide_int j f;exact q _ o (by rw[Hj,j]) (fun cs h=>by cases h)
   case string=>obtain⟨b,o⟩:=okWide_string j f;exact q _ o (by rw[Hj,j]) (fun cs h=>by cases h)
   case slice e=>obtain⟨a,l,c,o⟩:=okWide_slice j f;exact q _ o (by rw[Hj,j]) (fun cs h=>by cases h)
   case struct fs=>obtain⟨cs,o,_⟩:=okWide_struct j f;exact s cs o (by rw[Hj,j])
   case array k e=>
    unfold Value.okWide at f;rw[j] at f;obtain⟨cs,o,_⟩:=f;exact s cs o (by rw[Hj,j])
def aWf(P:Program)(m:Nat):L TypeId->L AV->Prop
 |[],[]=>True
 |t::c,a::b=>okA P m t a/\aWf P m c b
 |_,_=>False
theorem Ot{r:Reach}{n m:Nat}:∀{e:L TypeId}{vs:L Value}{f:L (DataW H)}{g:L MemPlace},DataW.TrodAll enc P w base spare held e vs f g-> (∀(j:Nat) t v,e[j]?=some t->vs[j]?=some v->Value.okWide P w r n t v)->(∀t∈e,Lp P m t=true)->∃a:L AV,vs.length=a.length/\(∀(i:Nat) av v,a[i]?=some av->vs[i]?=some v->RV (iY w) [] av v)/\aWf P m e a/\f.length=e.length
 | [],vs,f,g,h,_,_=>by
  obtain⟨rfl,rfl,rfl⟩:=trodAll_nil h;exact⟨[],rfl,fun i av v h=>by simp at h,trivial,rfl⟩
 | t::e,vs,f,g,h,c,b=>by
  obtain⟨v,E,d,A,p,q,rfl,rfl,rfl,B,C⟩:=trodAll_cons h;obtain⟨av,k,l⟩:=aI1 (c 0 t v rfl rfl) B (b t aZT);obtain⟨a,o,s,u,z⟩:=Ot C (fun j t v h3 h4=>c (j+1) t v (by simpa using h3) (by simpa using h4)) (fun t D=>b t (aZ3 _ D))
  refine⟨av::a,by simp[o],fun i x y h3 h4=>?_,⟨l,u⟩,by simp[z]⟩
  cases i with
  | zero=>simp at h3 h4;subst h3;subst h4;exact k
  | succ i=>exact s i x y (by simpa using h3) (by simpa using h4)
end
end
section
section
variable {P:Program}{m:Nat}{t:TypeId}{av:AV}
theorem aBH(a:Hj P t=false)(h:okA P m t av):∃d,av=.one (.dc d)/\Mh P m t [d]:=by
 cases av with
 | one c=>cases c with
  | dc d=>exact⟨d,rfl,h.2⟩
  | _=>exact h.elim
 |agg cs=>rw[h.1] at a;cases a
 |tup l=>exact h.elim
 |junk=>exact h.elim
theorem Zg(b:P.underlying t=some .string)(h:okA P (m+1) t av):∃s:ByteArray,av=.one (.dc (.raw (.string s)))/\s.size<=maxLen:=by
 obtain⟨d,rfl,a⟩:=aBH (by rw[Hj,b]) h;rw[Mh,b] at a;obtain⟨i,h3,h4⟩:=a;simp only[List.cons.injEq,and_true] at h3;exact⟨i,by rw[h3],h4⟩
theorem Zh{i:Int}(h:IntKind.i64.min<=i/\i<=IntKind.i64.max):-9223372036854775808<=i/\i<=9223372036854775807:=by
 have a:IntKind.i64.min=-9223372036854775808:=by decide
 have b:IntKind.i64.max=9223372036854775807:=by decide
 omega
theorem aI2{k:IntKind}{a:L DC}(b:P.underlying t=some (.int k))(h:Mh P (m+1) t a):∃i,a=[.raw (.int k i)]/\k.min<=i/\i<=k.max:=by
 rw[Mh,b] at h;exact h
