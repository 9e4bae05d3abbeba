/- AttributeBytes and AttributeBack return true, by their contracts. Conditions: none. -/
import Derived.Test.YthepfneloomngaaGreatDoorUw
import Derived.Test.YthepfneloomngaaGreatDoorTf
import Derived.Test.YthepfneloomngaaGreatDoorTu
import Derived.Test.YthepfneloomngaaGreatDoorUm
namespace Go.Proofs.YthepfneloomngaaGreatDoor
set_option linter.unusedSimpArgs false
set_option linter.unusedVariables false
set_option maxRecDepth 4000
section
variable {G:aE}{bb:Bool}
theorem aFD(a:aJ)(hl:a.rs.length<=1000000):EV G (Tb (bs bb)) 243 [a.v] []=some (a.v,[]):=by
 refine aA rfl ?_;have q:=Yi (G:=G) (bb:=bb) a.rs hl;simp (disch:=omega) only[go_sem,h243c,q,aJ.v,aXC]
abbrev lev(l:List aJ)(e:Int):AV:=.tup [.one (.dc (.slc (l.map aJ.e))),.one (.dc (ci e))]
theorem aFE(l:List aJ)(hW:∀a∈l,a.W)(hl:l.length<=1000):EV G (Tb (kD bb)) 191 [vl (l.map aJ.e)] []=some (lev (if Rz l=0 then dD l else []) (Rz l),[]):=by
 refine aA rfl ?_;unfold Rz;by_cases c1:l.length > 32;rw[if_pos c1];have d2:32<(l.length:Int):=by omega
 simp (disch:=omega) only[go_sem,h191c,aXC,eq_true d2];rfl;rw[if_neg c1];have d2:¬ 32<(l.length:Int):=by omega
 simp (disch:=omega) only[go_sem,h191c,aXC,d2];rw[gF (fun k=>⟨(vl (l.map aJ.e)::jk 3 (.one (.bld 0 ((l.take k).map aJ.e).length)::jk 6 (vl (l.map aJ.e)::vi l.length::vi k::jk 19 []))),[.arr 0 11 ((l.take k).map aJ.e)]⟩) (fun k=>mL l k≠0) l.length ?_ ?_]
 rotate_left
 rfl;intro k hk hn;have hz:=Classical.not_not.1 (hn k (aXF _));have q:=up (Ca (G:=G) (bb:=bb) l hW hl k hk);rw[hz] at q;have q1:=up (aFD (G:=G) (bb:=bb) l[k] (by have:=(hW _ (aXM hk)).rl;omega));have hb:((l.take k).map aJ.e).length<=1000:=by rw[aXC,aXK];omega
 have hall:=F6 (l.take k);rw[aFn l k hk];generalize (l.take k).map aJ.e=C at hb hall ⊢;simp (disch:=omega) only[go_sem,h191l0,aXC,ixA,aJ.e,q,q1,hall];rw[aXD];rfl;obtain⟨hk,hp,hn⟩:=bT (fun k=>mL l k≠0) l.length
 generalize ix (fun k=>mL l k≠0) l.length=k at *
 rcases hp with rfl|⟨hk',hz⟩;rw[if_neg (Nat.lt_irrefl _),if_pos rfl,aYh];have hs:(l.map aJ.id).Nodup:=((Cc l).1 (fun j hj=>Classical.not_not.1 (hn j hj))).2
 by_cases h0:l=[]
 ·subst h0;have q:=aKf (G:=G) (b:=bb);simp (disch:=omega) only[go_sem,h191l0,aXH,aXT,List.isEmpty_nil,q];first|done|rfl
 have hpos:0<l.length:=List.length_pos_iff.2 h0;have q:=aKe (G:=G) (b:=bb) l hs hl hpos;have hE:(l.map aJ.e).isEmpty=false:=by cases l with|nil=>exact absurd rfl h0|cons _ _=>rfl
 have ha:=oR l;obtain⟨b1,b2,b3⟩:=aKc (s:=11) (n:=l.length) (es:=(dD l).map aJ.e) (fun e he=>by obtain⟨a,_,rfl⟩:=List.mem_map.1 he;rfl) (by rw[aXC,ha])
 unfold lev;generalize (dD l).map aJ.e=M at *;simp (disch:=omega) only[go_sem,h191l0,aXC,q,hE,b1,b2,b3,M6,Nat.zero_mul,aYq];rw[if_pos hk',if_neg hz];have q:=up (Ca (G:=G) (bb:=bb) l hW hl k hk');simp (disch:=omega) only[go_sem,h191l0,aXC,ixA,aJ.e,q,hz];rfl
end
section
variable {G:aE}{bb:Bool}
end
section
variable {G:aE}{bb:Bool}
def Cv(s:List Int):Nat->Nat
 |0=>0
 |k+1=>Cv s k+1+(s.getD (Cv s k) 0 % 16+s.getD (Cv s k) 0 / 16).toNat
noncomputable def raE(s:List Int):Nat:=ix (fun k=>s.length<=Cv s k\/s.getD (Cv s k) 0=0) (s.length+1)
noncomputable def raV(s:List Int):List Int:=if Cv s (raE s)<s.length then s.take (Cv s (raE s)+1) else s
theorem Ve(s:List Int):∀k,k<=Cv s k
 |0=>aXF _
 |k+1=>by have:=Ve s k;rw[Cv];omega
theorem aFG(s:List Int):(s.length<=Cv s (raE s)\/s.getD (Cv s (raE s)) 0=0)/\∀j,j<raE s->Cv s j<s.length/\s.getD (Cv s j) 0≠0:=by
 obtain⟨h1,h2,h3⟩:=bT (fun k=>s.length<=Cv s k\/s.getD (Cv s k) 0=0) (s.length+1)
 refine⟨?_,fun j hj=>?_⟩
 rcases h2 with h2|h2;have:=Ve s (raE s);exact .inl (by unfold raE at *;omega)
 exact h2.2;have:=h3 j hj;exact⟨by omega,fun h=>this (.inr h)⟩
theorem aFH(s:List Int)(hB:aM s)(hl:s.length<=1000000):EV G (Tb (bs bb)) 302 [sv s] []=some (sv (raV s),[]):=by
 refine aA rfl ?_;simp (disch:=first|omega|(simp only[aXD,aXE,aXH,aXC,aB];omega)) only[go_sem,h302c]
 obtain⟨sp1,sp2⟩:=aFG s;rw[aR (fun k=>⟨(sv s::jk 2 (vi (Cv s k)::jk 24 [])),[]⟩) (raE s) ?_ ?_]
 rotate_left
 rfl;intro k hk;obtain⟨h1,h2⟩:=sp2 k hk;have hx:=hB _ (aXM h1);rw[cL s _ h1] at h2;have e1:(Cv s (k+1):Int)=Cv s k+(1+s[Cv s k] % 16+s[Cv s k] / 16):=by
  rw[Cv,cL s _ h1];omega
 have hu:=iW _ hx;rw[e1];generalize hp:Cv s k=p at *;have a1:=aL7 (s[p]'h1) hx;simp (disch:=first|omega|(simp only[aXD,aXE,aXH,aXC,aB];omega)) only[go_sem,h302l0,aYo,hu,h2,a1,Int.reduceToNat,Int.reducePow,Dj]
 unfold raV;generalize Cv s (raE s)=p at *;by_cases c:p<s.length;rw[if_pos c];have h2:s.getD p 0=0:=sp1.elim (fun h=>absurd h (by omega)) id
 have hx:=hB _ (aXM c);rw[cL s _ c] at h2;have hu:=iW _ hx;rw[h2] at hu;simp (disch:=first|omega|(simp only[aXD,aXE,aXH,aXC,aB];omega)) only[go_sem,h302l0,aYo,hu,h2]
 rw[if_neg c];have c':¬ (p:Int)<(s.length:Int):=by omega
 simp (disch:=first|omega|(simp only[aXD,aXE,aXH,aXC,aB];omega)) only[go_sem,h302l0,c']
theorem aFI{s:List Int}(h:aM s):aM (raV s):=by
 unfold raV;split;exact fun b hb=>h b (aX6 hb)
 exact h
def I1(s:List Int):Bool:=decide (s.getD 8 0=0)
def dHd(s:List Int):Nat:=if I1 s=true then 24 else 40
def I2(s:List Int):Nat:=(gL s 9 1).toNat
def zX(s:List Int):Nat:=(dHd s+I2 s+7) / 8*8
def dNm(s:List Int):List Int:=(s.take (dHd s+I2 s)).drop (dHd s)
def dVl(s:List Int):Nat:=(gL s 16 4).toNat
def dT(s:List Int):aJ:=⟨gL s 0 4,dNm s,gL s 14 2,gL s 12 2,true,(s.take (zX s+dVl s)).drop (zX s),0,[],0,0,0⟩
noncomputable def dF(s:List Int)(rs:List aY):aJ:=⟨gL s 0 4,dNm s,gL s 14 2,gL s 12 2,false,[],gL s 16 4,rs,gL s 28 4,gL s 32 4,gL s 36 4⟩
noncomputable def tP(s:List Int):aJ×Bool:=if s.length<24 then (aJ.nil,false) else if s.length<zX s then (aJ.nil,false) else
 if I1 s=true then (if s.length<zX s+dVl s then (aJ.nil,false) else (dT s,true)) else (dF s (J4 (raV (s.drop (zX s)))).1,decide ((J4 (raV (s.drop (zX s)))).2=0))
set_option maxHeartbeats 4000000 in
theorem aBF(s:List Int)(hB:aM s)(hl:s.length<=1000):EV G (Tb (bs bb)) 264 [sv s] []=some (.tup [(tP s).1.t,.one (bC (tP s).2)],[]):=by
 refine aA rfl ?_;unfold tP;by_cases c0:s.length<24;rw[if_pos c0];have c0':(s.length:Int)<24:=by omega
 simp only[aJ.nil];simp (disch:=first|omega|(simp only[aXD,aXE,aXH,aXC,aB];omega)) only[go_sem,h264c,eq_true c0',aL,bC,aXT]
 rfl;rw[if_neg c0];have c0':¬ (s.length:Int)<24:=by omega
 have g0:EV G (Tb (bs bb)) 300 [sv s,vi 0,vi 4] []=some (vi (gL s 0 4),[]):=Ei s hB 0 4 (by omega) (by omega) (by omega);have g14:EV G (Tb (bs bb)) 300 [sv s,vi 14,vi 2] []=some (vi (gL s 14 2),[]):=Ei s hB 14 2 (by omega) (by omega) (by omega);have g12:EV G (Tb (bs bb)) 300 [sv s,vi 12,vi 2] []=some (vi (gL s 12 2),[]):=Ei s hB 12 2 (by omega) (by omega) (by omega);have g9:EV G (Tb (bs bb)) 300 [sv s,vi 9,vi 1] []=some (vi (gL s 9 1),[]):=Ei s hB 9 1 (by omega) (by omega) (by omega);have g16:EV G (Tb (bs bb)) 300 [sv s,vi 16,vi 4] []=some (vi (gL s 16 4),[]):=Ei s hB 16 4 (by omega) (by omega) (by omega);have b9:=aFf hB 9;have b16:=tL hB 16 4 (by omega);have hx:=hB _ (aXM (show 8<s.length by omega));have hu:=iW _ hx;have e8:s.getD 8 0=s[8]:=cL s 8 (by omega);cases hr:I1 s with
 |true=>
  have hr8:s[8]=0:=by unfold I1 at hr;rw[e8] at hr;simpa using hr
  rw[hr8] at hu;have eh:dHd s=24:=by unfold dHd;rw[hr];rfl
  have e9:gL s 9 1=(I2 s:Int):=by unfold I2;omega
  have e16:gL s 16 4=(dVl s:Int):=by unfold dVl;omega
  have eA:zX s=(24+I2 s+7) / 8*8:=by unfold zX;rw[eh]
  have q1:=uO (G:=G) (bb:=bb) (24+(I2 s:Int)) (by omega);have eA':X7 (24+(I2 s:Int))=(zX s:Int):=by unfold X7;omega
  rw[eA'] at q1;rw[e9] at g9 b9;by_cases c1:s.length<zX s;rw[if_pos c1];have c1':(s.length:Int)<(zX s:Int):=by omega
  simp only[aJ.nil];simp (disch:=first|omega|(simp only[aXD,aXE,aXH,aXC,aB];omega)) only[go_sem,h264c,c0',aL,bC,aXT,Int.reduceToNat,g0,g14,g12,g9,aYo,hu,hr8,Am,q1,eq_true c1']
  rfl;rw[if_neg c1];have c1':¬ (s.length:Int)<(zX s:Int):=by omega
  rw[e16] at g16 b16;by_cases c2:s.length<zX s+dVl s;rw[if_pos c2];have c2':(s.length:Int)-(zX s:Int)<(dVl s:Int):=by omega
  simp only[aJ.nil];simp (disch:=first|omega|(simp only[aXD,aXE,aXH,aXC,aB];omega)) only[go_sem,h264c,c0',aL,bC,aXT,Int.reduceToNat,g0,g14,g12,g9,aYo,hu,hr8,Am,q1,c1',g16,eq_true c2']
  rfl;rw[if_neg c2];have c2':¬ (s.length:Int)-(zX s:Int)<(dVl s:Int):=by omega
  simp (disch:=first|omega|(simp only[aXD,aXE,aXH,aXC,aB];omega)) only[go_sem,h264c,c0',aL,bC,aXT,Int.reduceToNat,g0,g14,g12,g9,aYo,hu,hr8,Am,q1,c1',g16,c2']
  have eT:(24+(I2 s:Int)).toNat=24+I2 s:=by omega
  rw[eT];unfold dT dNm;rw[eh];rfl
 |false=>
  have hr8:¬ s[8]=0:=by unfold I1 at hr;rw[e8] at hr;simpa using hr
  have eh:dHd s=40:=by unfold dHd;rw[hr];rfl
  have e9:gL s 9 1=(I2 s:Int):=by unfold I2;omega
  have eA:zX s=(40+I2 s+7) / 8*8:=by unfold zX;rw[eh]
  have q1:=uO (G:=G) (bb:=bb) (40+(I2 s:Int)) (by omega);have eA':X7 (40+(I2 s:Int))=(zX s:Int):=by unfold X7;omega
  rw[eA'] at q1;rw[e9] at g9 b9;by_cases c1:s.length<zX s;rw[if_pos c1];have c1':(s.length:Int)<(zX s:Int):=by omega
  simp only[aJ.nil];simp (disch:=first|omega|(simp only[aXD,aXE,aXH,aXC,aB];omega)) only[go_sem,h264c,c0',aL,bC,aXT,Int.reduceToNat,g0,g14,g12,g9,aYo,hu,hr8,Am,q1,eq_true c1']
  rfl;rw[if_neg c1];have c1':¬ (s.length:Int)<(zX s:Int):=by omega
  have g28:EV G (Tb (bs bb)) 300 [sv s,vi 28,vi 4] []=some (vi (gL s 28 4),[]):=Ei s hB 28 4 (by omega) (by omega) (by omega);have g32:EV G (Tb (bs bb)) 300 [sv s,vi 32,vi 4] []=some (vi (gL s 32 4),[]):=Ei s hB 32 4 (by omega) (by omega) (by omega);have g36:EV G (Tb (bs bb)) 300 [sv s,vi 36,vi 4] []=some (vi (gL s 36 4),[]):=Ei s hB 36 4 (by omega) (by omega) (by omega);have hd:aM (s.drop (zX s)):=fun b hb=>hB b (aYl hb)
  have q2:=aFH (G:=G) (bb:=bb) (s.drop (zX s)) hd (by rw[aXS];omega);have q3:=aE7 (G:=G) (B:=bs bb) (raV (s.drop (zX s))) (aFI hd);simp (disch:=first|omega|(simp only[aXD,aXE,aXH,aXC,aB];omega)) only[go_sem,h264c,c0',aL,bC,aXT,Int.reduceToNat,g0,g14,g12,g9,aYo,hu,hr8,Am,q1,c1',g16,g28,g32,g36,q2,q3]
  have eT:(40+(I2 s:Int)).toNat=40+I2 s:=by omega
  rw[eT];unfold dF dNm;rw[eh]
theorem aFM{s:List Int}(h:(J4 s).2=0):(nA (J4 s).1).2=0:=by
 unfold J4 at h ⊢;split at h;exact absurd h (by decide);rename_i c;rw[if_neg c];unfold E9 at h ⊢;split at h;exact absurd h (by decide);rename_i c1;rw[if_neg c1];split at h;rename_i c2;exact absurd h c2;rename_i c2;rw[if_neg c2];exact Classical.not_not.1 c2
theorem Yq{s:List Int}(hB:aM s)(hl:s.length<=1000)(h:(tP s).2=true):(tP s).1.Dc:=by
 unfold tP at h ⊢;split at h;cases h;rename_i c0;rw[if_neg c0];split at h;cases h;rename_i c1;rw[if_neg c1];have b9:=aFf hB 9;have b0:=tL hB 0 4 (by omega);have b14:=Ux hB 14;have b12:=Ux hB 12;have hnm:aM (dNm s):=fun b hb=>hB b (aX6 (aYl hb))
 have hnl:(dNm s).length<=255:=by
  unfold dNm;rw[aXS,aXK];unfold I2;omega
 split at h;rename_i hr;rw[if_pos hr];split at h;cases h
 rename_i c2;rw[if_neg c2];exact⟨b0,hnm,hnl,b14,b12,fun b hb=>hB b (aX6 (aYl hb)),by
  show ((s.take (zX s+dVl s)).drop (zX s)).length<=1000;rw[aXS,aXK];omega,fun _=>⟨rfl,rfl,rfl,rfl,rfl⟩,fun g=>(by cases g)⟩
 rename_i hr;rw[if_neg hr];have hd:=aFM (by simpa using h);exact⟨b0,hnm,hnl,b14,b12,jI,aXX _,fun g=>(by cases g),fun _=>⟨rfl,hd,tL hB 16 4 (by omega),tL hB 28 4 (by omega),tL hB 32 4 (by omega),tL hB 36 4 (by omega)⟩⟩
theorem bN{a b:List Int}(ha:aM a)(hb:aM b):aM (a++b):=fun x hx=>(aYV.1 hx).elim (ha x) (hb x)
theorem I3(n:Nat):aM (List.replicate n 0):=fun x hx=>by rw[List.eq_of_mem_replicate hx];omega
theorem Lm:∀(l:List aY) (last:Int),aM (fM last l)
 |[],_=>jI
 | r::l,last=>by
  have s1:=B6 r.n;have s2:=B6 (r.s - last);rw[fM,B7];refine bN (fun x hx=>?_) (Lm l _)
  rcases aYR.1 hx with rfl | hx
  ·unfold Fa;split<;>omega
  ·unfold Rl at hx;split at hx
   ·exact cM _ _ x hx
   ·exact bN (cM _ _) (cM _ _) x hx
theorem R6{a:aJ}(h:a.Dc):aM (iT a):=by
 have hb:aM (Yb a):=by
  unfold Yb;split;exact h.va;exact bN (by rw[Ik];exact Lm _ _) (Ic _ (by decide))
 have h1:aM (J1 a):=by unfold J1;exact bN (bN (bN (bN (cM _ _) (cM _ _)) (cM _ _)) (cM _ _)) (cM _ _)
 have h2:aM (Uv a):=by
  unfold Uv;split;exact bN (bN h1 (cM _ _)) (cM _ _);exact bN (bN (bN (bN (bN (bN (bN h1 (cM _ _)) (cM _ _)) (cM _ _)) (I3 _)) (cM _ _)) (cM _ _)) (cM _ _)
 unfold iT J2 Di;exact bN (bN (cM _ _) (cM _ _)) (bN (bN (bN (bN h2 h.nm) (I3 _)) hb) (I3 _))
theorem aJ.Dc.w{a:aJ}(h:a.Dc):a.W:=by
 have h1:=h.nl;have h2:=h.vl;refine⟨h.nm,h.va,by omega,by omega,?_⟩;cases hr:a.res with
 |true=>rw[(h.t hr).1];simp
 |false=>have:=nC (h.f hr).2.1;omega
noncomputable def cK(s:List Int):aJ×Int:=if s.length > 440 then (aJ.nil,8) else
 if (tP s).2=false\/uZ (tP s).1≠s then (aJ.nil,3) else if fK (tP s).1≠0 then (aJ.nil,fK (tP s).1) else ((tP s).1,0)
set_option maxHeartbeats 4000000 in
theorem aBG(s:List Int)(hB:aM s)(hl:s.length<=1000):EV G (Tb (bs bb)) 213 [sv s] []=some (rtv (cK s),[]):=by
 refine aA rfl ?_;unfold cK;by_cases c0:s.length > 440;rw[if_pos c0];have c0':440<(s.length:Int):=by omega
 simp only[aJ.nil];simp (disch:=first|omega|(simp only[aXD,aXE,aXH,aXC,aB];omega)) only[go_sem,h213c,eq_true c0',aL,aXT]
 rfl;rw[if_neg c0];have c0':¬ 440<(s.length:Int):=by omega
 have q:=aBF (G:=G) (bb:=bb) s hB hl;have hdc:=Yq hB hl;generalize tP s=d at q hdc ⊢;obtain⟨a,b⟩:=d;cases b with
 |false=>
  rw[if_pos (.inl rfl)];simp only[aJ.nil];simp (disch:=first|omega|(simp only[aXD,aXE,aXH,aXC,aB];omega)) only[go_sem,h213c,c0',aL,aXT,q,bC]
  rfl
 |true=>
  have h:=hdc rfl;simp only at h;have q1:=Dg (G:=G) (bb:=bb) a h.bd;have q2:=B4 (G:=G) (bb:=bb) a h.w;have eS:=dR (a:=uZ a) (b:=s) (by rw[Dl h];exact R6 h) hB;by_cases c1:uZ a=s;rw[if_neg (fun g=>g.elim (fun g=>by cases g) (fun g=>g c1))]
  rw[eq_true c1] at eS;by_cases c2:fK a=0;rw[if_neg (fun g=>g c2)]
  simp (disch:=first|omega|(simp only[aXD,aXE,aXH,aXC,aB];omega)) only[go_sem,h213c,c0',aL,q,bC,q1,eS,q2,c2]
  rw[if_pos c2];simp only[aJ.nil];simp (disch:=first|omega|(simp only[aXD,aXE,aXH,aXC,aB];omega)) only[go_sem,h213c,c0',aL,aXT,q,bC,q1,eS,q2,c2]
  rfl;rw[if_pos (.inr c1)];rw[eq_false c1] at eS;simp only[aJ.nil];simp (disch:=first|omega|(simp only[aXD,aXE,aXH,aXC,aB];omega)) only[go_sem,h213c,c0',aL,aXT,q,bC,q1,eS]
  rfl
end
section
variable {G:aE}{bb:Bool}
end
section
variable {G:aE}{bb:Bool}
theorem Cd:∀(a b:List aY) (last:Int),fM last (a++b)=fM last a++fM (a.foldl Rm last) b
 |[],_,_=>rfl
 |r::a,b,last=>by rw[aYd,fM,Cd a b,fM,aXR];rfl
theorem aFN(last:Int)(r:aY):(Fa last r % 16+Fa last r / 16).toNat=(Rl last r).length:=by
 have s1:=B6 r.n;have s2:=B6 (r.s-last);unfold Fa Rl;split;rw[aB];omega;rw[aXD,aB,aB];omega
theorem Lo(p L:List Int):(p++L).getD p.length 0=L.getD 0 0:=by
 rw[aXN,aXN,aXY (aXF _),aYs]
theorem Nz(l:List aY)(rest:List Int):∀k,k<=l.length->Cv (fM 0 l++([0]++rest)) k=(fM 0 (l.take k)).length/\∀j,j<k->(fM 0 l++([0]++rest)).getD (Cv (fM 0 l++([0]++rest)) j) 0≠0
 |0,_=>⟨rfl,fun j hj=>by omega⟩
 | k+1,hk=>by
  obtain⟨h1,h2⟩:=Nz l rest k (by omega);have hkl:k < l.length:=by omega
  have e1:l=l.take k++(l[k]::l.drop (k+1)):=by rw[<- aYF hkl,aYI]
  have e2:fM 0 l=fM 0 (l.take k)++(Fa ((l.take k).foldl Rm 0) l[k]::(Rl ((l.take k).foldl Rm 0) l[k]++fM (Rm ((l.take k).foldl Rm 0) l[k]) (l.drop (k+1)))):=by
   conv=>lhs;rw[e1]
   rw[Cd,fM,B7];rfl
  have e3:(fM 0 l++([0]++rest)).getD (Cv (fM 0 l++([0]++rest)) k) 0=Fa ((l.take k).foldl Rm 0) l[k]:=by
   rw[h1]
   conv=>lhs;rw[e2]
   rw[aXR,Lo];rfl
  refine⟨?_,fun j hj=>?_⟩
  ·rw[Cv,e3,aFN,h1,aYx hkl,Cd,aXD];show _=_+(fM _ [l[k]]).length;simp only[fM,B7,aYE,aXE];omega
  ·by_cases c:j < k
   ·exact h2 j c
   ·have:j=k:=by omega
    subst this;rw[e3];exact aE8 _ _
theorem aKh(l:List aY)(rest:List Int):raV ((lF l).1++[0]++rest)=(lF l).1++[0]:=by
 rw[Ik,aXR];obtain⟨h1,h2⟩:=Nz l rest l.length (aXF _);rw[aYh] at h1;have hg:=Ve (fM 0 l++([0]++rest)) l.length;have hlen:(fM 0 l++([0]++rest)).length=(fM 0 l).length+1+rest.length:=by simp only[aXD,aXE,aXH];omega
 have hz:(fM 0 l++([0]++rest)).getD (fM 0 l).length 0=0:=by rw[Lo];rfl
 have hm:∀ j,j<=l.length->Cv (fM 0 l++([0]++rest)) j < (fM 0 l++([0]++rest)).length:=fun j hj=>by
  have h3:=(Nz l rest j hj).1;have:(fM 0 (l.take j)).length<=(fM 0 l).length:=by
   conv=>rhs;rw[<- aYI j l,Cd,aXD]
   omega
  omega
 have hE:raE (fM 0 l++([0]++rest))=l.length:=by
  unfold raE;refine aL9 (by omega) (.inr (by rw[h1];exact hz)) (fun j hj g=>?_)
  rcases g with g|g;have:=hm j (by omega);omega
  exact h2 j hj g
 unfold raV;rw[hE,if_pos (hm _ (aXF _)),h1];rw[<- aXR,aYX (by simp)]
theorem nR(p L:List Int)(k:Nat)(h:p.length<=k):(p++L).drop k=L.drop (k-p.length):=by
 rw[List.drop_append,aZc h,aX4]
theorem F9(L:List Int)(k:Nat)(h:k=0):L.drop k=L:=by subst h;rfl
theorem Yr(s:List Int)(k:Nat)(h:k<s.length):s.getD k 0=gL s k 1:=by
 rw[cL s k h];unfold gL;rw[aYF h,aZb,aYQ];show s[k]=s[k]+256*0;omega
theorem oT(z L:List Int)(a k:Nat)(ha:a=0)(h:z.length=k):gL (z++L) a k=gv z:=by subst ha;exact Nq z L k h
theorem shT{a:aJ}(h:a.Dc)(hr:a.res=true):iT a=bK a.ty 4++(bK (fQ a) 4++(bK 0 1++(bK a.nm.length 1++(bK 24 2++(bK a.fl 2++(bK a.id 2++(bK a.va.length 4++(bK (eC a) 4++(a.nm++(List.replicate (eC a-24-a.nm.length) 0++(a.va++List.replicate (fQ a-eC a-a.va.length) 0))))))))))):=by
 obtain⟨o1,o2,o3,o4,o5⟩:=Eh a;have eh:tJ a=24:=by simp[tJ,hr]
 have ebd:rU a=a.va:=by simp[rU,hr]
 have hb:=Im h;rw[eh] at o2;rw[ebd] at o3 o5;unfold iT J2 Uv J1 Di;rw[if_pos hr,if_pos hr,eh,hb,ebd];simp only[aXR];simp only[aXD,aB,aXO];have e3:=aFe (1+(1+(2+(2+(2+(4+(4+(a.nm.length+((eC a-24-a.nm.length)+a.va.length))))))))) (fQ a) (fQ a-eC a-a.va.length) (by omega) o4 (by omega);rw[e3];rfl
theorem shF{a:aJ}(h:a.Dc)(hr:a.res=false):iT a=bK a.ty 4++(bK (fQ a) 4++(bK 1 1++(bK a.nm.length 1++(bK 40 2++(bK a.fl 2++(bK a.id 2++(bK a.fi 4++(bK (a.fi+iF a.rs-1) 4++(bK (eC a) 2++(List.replicate 2 0++(bK a.al 4++(bK a.sz 4++(bK a.vd 4++(a.nm++(List.replicate (eC a-40-a.nm.length) 0++(((lF a.rs).1++[0])++List.replicate (fQ a-eC a-(rU a).length) 0)))))))))))))))):=by
 obtain⟨o1,o2,o3,o4,o5⟩:=Eh a;have hr':¬ a.res=true:=by rw[hr];decide
 have eh:tJ a=40:=by simp[tJ,hr]
 have hb:=Im h;have ef:Yb a=(lF a.rs).1++[0]:=by rw[Yb,if_neg hr']
 rw[<- hb,ef] at o3 o5 ⊢;rw[eh] at o2;unfold iT J2 Uv J1 Di;rw[if_neg hr',if_neg hr',eh,ef,Yd];simp only[aXR];simp only[aXD,aB,aXO] at o3 o5 ⊢;have e3:=aFe (1+(1+(2+(2+(2+(4+(4+(2+(2+(4+(4+(4+(a.nm.length+((eC a-40-a.nm.length)+((lF a.rs).1.length+[(0:Int)].length))))))))))))))) (fQ a) (fQ a-eC a-((lF a.rs).1.length+[(0:Int)].length)) (by omega) o4 (by omega);rw[e3];rfl
theorem aV4{a:aJ}(h:a.Dc)(hr:a.res=true):I1 (iT a)=true/\zX (iT a)=eC a/\I2 (iT a)=a.nm.length/\dVl (iT a)=a.va.length/\(iT a).getD 8 0=0/\dT (iT a)=a/\(iT a).length=fQ a/\24+a.nm.length<=eC a/\eC a+a.va.length<=fQ a:=by
 obtain⟨o1,o2,o3,o4,o5⟩:=Eh a;have eh:tJ a=24:=by simp[tJ,hr]
 have ebd:rU a=a.va:=by simp[rU,hr]
 rw[eh] at o2;rw[ebd] at o3 o5;have hlen:(iT a).length=fQ a:=by rw[<- Dl h,mI a h.bd]
 have hty:=h.ty;have hnl:=h.nl;have hid:=h.id;have hfl:=h.fl;have hvl:=h.vl;have hS:=shT h hr;have r8:gL (iT a) 8 1=0:=by
  rw[hS];simp (disch:=first|omega|(simp only[aB]<;>omega)|fail) only[gS,oT,aB,Nat.reduceSub]
  rfl
 have r9:gL (iT a) 9 1=a.nm.length:=by
  rw[hS];simp (disch:=first|omega|(simp only[aB]<;>omega)|fail) only[gS,oT,aB,Nat.reduceSub]
  exact gv1 _ (by omega)
 have r0:gL (iT a) 0 4=a.ty:=by
  rw[hS];simp (disch:=first|omega|(simp only[aB]<;>omega)|fail) only[gS,oT,aB,Nat.reduceSub]
  exact gv4 _ hty
 have r12:gL (iT a) 12 2=a.fl:=by
  rw[hS];simp (disch:=first|omega|(simp only[aB]<;>omega)|fail) only[gS,oT,aB,Nat.reduceSub]
  exact gv2 _ hfl
 have r14:gL (iT a) 14 2=a.id:=by
  rw[hS];simp (disch:=first|omega|(simp only[aB]<;>omega)|fail) only[gS,oT,aB,Nat.reduceSub]
  exact gv2 _ hid
 have r16:gL (iT a) 16 4=a.va.length:=by
  rw[hS];simp (disch:=first|omega|(simp only[aB]<;>omega)|fail) only[gS,oT,aB,Nat.reduceSub]
  exact gv4 _ (by omega)
 have rd24:(iT a).drop 24=a.nm++(List.replicate (eC a-24-a.nm.length) 0++(a.va++List.replicate (fQ a-eC a-a.va.length) 0)):=by
  rw[hS];simp (disch:=first|omega|(simp only[aB]<;>omega)|fail) only[nR,F9,aB,Nat.reduceSub]
 have rda:(iT a).drop (eC a)=a.va++List.replicate (fQ a-eC a-a.va.length) 0:=by
  have e:(iT a).drop (eC a)=((iT a).drop 24).drop (eC a-24):=by rw[List.drop_drop];congr 1;omega
  rw[e,rd24,nR _ _ _ (by omega),nR _ _ _ (by rw[aXO];omega),F9 _ _ (by rw[aXO];omega)]
 have g8:(iT a).getD 8 0=0:=by rw[Yr _ _ (by omega),r8]
 have eR:I1 (iT a)=true:=by unfold I1;rw[g8];rfl
 have eH:dHd (iT a)=24:=by unfold dHd;rw[eR];rfl
 have eS:I2 (iT a)=a.nm.length:=by unfold I2;omega
 have eA:zX (iT a)=eC a:=by unfold zX;rw[eH,eS];unfold eC;rw[eh]
 have eV:dVl (iT a)=a.va.length:=by unfold dVl;omega
 have eN:dNm (iT a)=a.nm:=by unfold dNm;rw[eH,eS,List.drop_take,rd24,show 24+a.nm.length-24=a.nm.length by omega,aYX];rfl
 refine⟨eR,eA,eS,eV,g8,?_,hlen,o2,o3⟩;obtain⟨t1,t2,t3,t4,t5⟩:=h.t hr;unfold dT;rw[eN,eA,eV,r0,r12,r14,List.drop_take,rda,show eC a+a.va.length-eC a=a.va.length by omega,aYX rfl];cases a;simp only at hr t1 t2 t3 t4 t5;subst hr;subst t1;subst t2;subst t3;subst t4;subst t5;rfl
theorem aV5{a:aJ}(h:a.Dc)(hr:a.res=false):I1 (iT a)=false/\zX (iT a)=eC a/\I2 (iT a)=a.nm.length/\(iT a).getD 8 0=1/\dF (iT a) a.rs=a/\(iT a).drop (eC a)=((lF a.rs).1++[0])++List.replicate (fQ a-eC a-(rU a).length) 0/\
  (iT a).length=fQ a/\40+a.nm.length<=eC a/\eC a+((lF a.rs).1.length+1)<=fQ a:=by
 obtain⟨o1,o2,o3,o4,o5⟩:=Eh a;have eh:tJ a=40:=by simp[tJ,hr]
 have hb:=Im h;have ef:Yb a=(lF a.rs).1++[0]:=by rw[Yb,if_neg (by rw[hr];decide)]
 have hbl:(rU a).length=(lF a.rs).1.length+1:=by rw[<- hb,ef];simp
 rw[eh] at o2;have hlen:(iT a).length=fQ a:=by rw[<- Dl h,mI a h.bd]
 have hty:=h.ty;have hnl:=h.nl;have hid:=h.id;have hfl:=h.fl;obtain⟨f1,f2,f3,f4,f5,f6⟩:=h.f hr;have hS:=shF h hr;have r8:gL (iT a) 8 1=1:=by
  rw[hS];simp (disch:=first|omega|(simp only[aB,aXO]<;>omega)|fail) only[gS,oT,aB,aXO,Nat.reduceSub]
  rfl
 have r9:gL (iT a) 9 1=a.nm.length:=by
  rw[hS];simp (disch:=first|omega|(simp only[aB,aXO]<;>omega)|fail) only[gS,oT,aB,aXO,Nat.reduceSub]
  exact gv1 _ (by omega)
 have r0:gL (iT a) 0 4=a.ty:=by
  rw[hS];simp (disch:=first|omega|(simp only[aB,aXO]<;>omega)|fail) only[gS,oT,aB,aXO,Nat.reduceSub]
  exact gv4 _ hty
 have r12:gL (iT a) 12 2=a.fl:=by
  rw[hS];simp (disch:=first|omega|(simp only[aB,aXO]<;>omega)|fail) only[gS,oT,aB,aXO,Nat.reduceSub]
  exact gv2 _ hfl
 have r14:gL (iT a) 14 2=a.id:=by
  rw[hS];simp (disch:=first|omega|(simp only[aB,aXO]<;>omega)|fail) only[gS,oT,aB,aXO,Nat.reduceSub]
  exact gv2 _ hid
 have r16:gL (iT a) 16 4=a.fi:=by
  rw[hS];simp (disch:=first|omega|(simp only[aB,aXO]<;>omega)|fail) only[gS,oT,aB,aXO,Nat.reduceSub]
  exact gv4 _ f3
 have r28:gL (iT a) 28 4=a.al:=by
  rw[hS];simp (disch:=first|omega|(simp only[aB,aXO]<;>omega)|fail) only[gS,oT,aB,aXO,Nat.reduceSub]
  exact gv4 _ f4
 have r32:gL (iT a) 32 4=a.sz:=by
  rw[hS];simp (disch:=first|omega|(simp only[aB,aXO]<;>omega)|fail) only[gS,oT,aB,aXO,Nat.reduceSub]
  exact gv4 _ f5
 have r36:gL (iT a) 36 4=a.vd:=by
  rw[hS];simp (disch:=first|omega|(simp only[aB,aXO]<;>omega)|fail) only[gS,oT,aB,aXO,Nat.reduceSub]
  exact gv4 _ f6
 have rd40:(iT a).drop 40=a.nm++(List.replicate (eC a-40-a.nm.length) 0++(((lF a.rs).1++[0])++List.replicate (fQ a-eC a-(rU a).length) 0)):=by
  rw[hS];simp (disch:=first|omega|(simp only[aB,aXO]<;>omega)|fail) only[nR,F9,aB,aXO,Nat.reduceSub]
 have rda:(iT a).drop (eC a)=((lF a.rs).1++[0])++List.replicate (fQ a-eC a-(rU a).length) 0:=by
  have e:(iT a).drop (eC a)=((iT a).drop 40).drop (eC a-40):=by rw[List.drop_drop];congr 1;omega
  rw[e,rd40,nR _ _ _ (by omega),nR _ _ _ (by rw[aXO];omega),F9 _ _ (by rw[aXO];omega)]
 have g8:(iT a).getD 8 0=1:=by rw[Yr _ _ (by omega),r8]
 have eR:I1 (iT a)=false:=by unfold I1;rw[g8];rfl
 have eH:dHd (iT a)=40:=by unfold dHd;rw[eR];rfl
 have eS:I2 (iT a)=a.nm.length:=by unfold I2;omega
 have eA:zX (iT a)=eC a:=by unfold zX;rw[eH,eS];unfold eC;rw[eh]
 have eN:dNm (iT a)=a.nm:=by unfold dNm;rw[eH,eS,List.drop_take,rd40,show 40+a.nm.length-40=a.nm.length by omega,aYX];rfl
 refine⟨eR,eA,eS,g8,?_,rda,hlen,o2,by omega⟩;unfold dF;rw[eN,r0,r12,r14,r16,r28,r32,r36];cases a;simp only at hr f1;subst hr;subst f1;rfl
theorem aFO{a:aJ}(h:a.Dc):tP (iT a)=(a,true):=by
 cases hr:a.res with
 |true=>
  obtain⟨e1,e2,e3,e4,e5,e6,e7,e8,e9⟩:=aV4 h hr;unfold tP;rw[if_neg (by omega),e2,if_neg (by omega),if_pos e1,e4,if_neg (by omega),e6]
 |false=>
  obtain⟨e1,e2,e3,e4,e5,e6,e7,e8,e9⟩:=aV5 h hr;have hc:=(h.f hr).2.1;unfold tP;rw[if_neg (by omega),e2,if_neg (by omega),if_neg (by rw[e1];decide),e6,aKh,aJU hc,e5];rfl
end
section
variable {G:aE}{bb:Bool}
end
section
variable {G:aE}{bb:Bool}
end
section
variable {G:aE}{bb:Bool}
theorem aKi{s:List Int}(hB:aM s)(hl:s.length<=1000):(cK s).1.W/\((cK s).2=0\/(cK s).1=aJ.nil):=by
 unfold cK;split;exact⟨aJ.nil_W,.inr rfl⟩;split;exact⟨aJ.nil_W,.inr rfl⟩;rename_i c;split;exact⟨aJ.nil_W,.inr rfl⟩;have h:(tP s).2=true:=by
  cases h:(tP s).2 with
  |true=>rfl
  |false=>exact absurd (.inl h) c
 exact⟨(Yq hB hl h).w,.inl rfl⟩
theorem Ce{a:aJ}(hW:a.W)(h:fK a=0):dX a=iT a/\(iT a).length=fQ a/\fQ a<=440/\fQ a % 8=0:=by
 have hO:=lA hW h;have hd:=hO.dc;refine⟨by unfold dX;rw[if_pos h,Dl hd],by rw[<- Dl hd,mI a hd.bd],?_,(Eh a).2.2.2.1⟩;have:=qH hW;unfold dX at this;rw[if_pos h,mI a hd.bd] at this;exact this
theorem aBH{a:aJ}(hW:a.W)(h:fK a=0):cK (iT a)=(a,0):=by
 obtain⟨e1,e2,e3,e4⟩:=Ce hW h;have hd:=(lA hW h).dc;have e:=aFO hd;unfold cK;rw[if_neg (by omega),e];simp only;rw[if_neg (fun g=>g.elim (fun g=>by cases g) (fun g=>g (Dl hd))),if_neg (fun g=>g h)]
theorem aKj{s:List Int}(hB:aM s)(hl:s.length<=1000)(h:(cK s).2=0):fK (cK s).1=0/\dX (cK s).1=s:=by
 unfold cK at h ⊢;split at h;exact absurd h (by decide);rename_i c0;rw[if_neg c0];split at h;exact absurd h (by decide);rename_i c1;rw[if_neg c1];split at h;rename_i c2;exact absurd h c2;rename_i c2;rw[if_neg c2];have c3:=Classical.not_not.1 c2;refine⟨c3,?_⟩;unfold dX;rw[if_pos c3];exact Classical.byContradiction (fun g=>c1 (.inr g))
end
end Go.Proofs.YthepfneloomngaaGreatDoor
