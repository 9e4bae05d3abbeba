/- Where a key is; AttributeOrder returns true, by its contract. Conditions: none. -/
import Derived.Test.YthepfneloomngaaGreatDoorUw
import Derived.Test.YthepfneloomngaaGreatDoorTf
import Derived.Test.YthepfneloomngaaGreatDoorTu
import Derived.Test.YthepfneloomngaaGreatDoorUn
namespace Go.Proofs.YthepfneloomngaaGreatDoor
set_option linter.unusedSimpArgs false
set_option linter.unusedVariables false
set_option maxRecDepth 4000
section
variable {G:aF} {bb:Bool}
theorem aEx(a:aK)(hl:a.rs.length<=1000000):EV G (Tb (bs bb)) 243 [a.v] []=some (a.v,[]):=by
 refine aA rfl ?_;have q:=Wr (G:=G) (bb:=bb) a.rs hl;simp (disch:=omega) only[go_sem,h243c,q,aK.v,aWf]
abbrev lev(l:List aK)(e:Int):AV:=.tup [.one (.dc (.slc (l.map aK.e))),.one (.dc (ci e))]
theorem aEy(l:List aK)(hW:∀ a∈l,a.W)(hl:l.length<=1000):EV G (Tb (mE bb)) 191 [vl (l.map aK.e)] []=some (lev (if Pu l=0 then dL l else []) (Pu l),[]):=by
 refine aA rfl ?_;unfold Pu;by_cases c1:l.length > 32
 ·rw[if_pos c1];have d2:32 < (l.length:Int):=by omega
  simp (disch:=omega) only[go_sem,h191c,aWf,eq_true d2];rfl
 rw[if_neg c1];have d2:¬ 32 < (l.length:Int):=by omega
 simp (disch:=omega) only[go_sem,h191c,aWf,d2];rw[jH (fun k=>⟨(vl (l.map aK.e)::jk 3 (.one (.bld 0 ((l.take k).map aK.e).length)::jk 6 (vl (l.map aK.e)::vi l.length::vi k::jk 19 []))),[.arr 0 11 ((l.take k).map aK.e)]⟩) (fun k=>lU l k≠0) l.length ?_ ?_]
 rotate_left
 ·rfl
 ·intro k hk hn;have hz:=Classical.not_not.1 (hn k (aWj _));have q:=up (Ar (G:=G) (bb:=bb) l hW hl k hk);rw[hz] at q;have q1:=up (aEx (G:=G) (bb:=bb) l[k] (by have:=(hW _ (aWq hk)).rl;omega));have hb:((l.take k).map aK.e).length<=1000:=by rw[aWf,aWm];omega
  have hall:=Lr (l.take k);rw[aKO l k hk];generalize (l.take k).map aK.e=C at hb hall ⊢;simp (disch:=omega) only[go_sem,h191l0,aWf,ixA,aK.e,q,q1,hall];rw[aWg];rfl
 obtain⟨hk,hp,hn⟩:=bZ (fun k=>lU l k≠0) l.length
 generalize ix (fun k=>lU l k≠0) l.length=k at *
 rcases hp with rfl | ⟨hk',hz⟩
 ·rw[if_neg (Nat.lt_irrefl _),if_pos rfl,aWY];have hs:(l.map aK.id).Nodup:=((At l).1 (fun j hj=>Classical.not_not.1 (hn j hj))).2
  by_cases h0:l=[]
  ·subst h0;have q:=aI2 (G:=G) (b:=bb);simp (disch:=omega) only[go_sem,h191l0,aWk,aWw,List.isEmpty_nil,q]
   first | done | rfl
  ·have hpos:0 < l.length:=List.length_pos_iff.2 h0;have q:=aI1 (G:=G) (b:=bb) l hs hl hpos;have hE:(l.map aK.e).isEmpty=false:=by cases l with | nil=>exact absurd rfl h0 | cons _ _=>rfl
   have ha:=pT l;obtain⟨b1,b2,b3⟩:=aIZ (s:=11) (n:=l.length) (es:=(dL l).map aK.e) (fun e he=>by obtain⟨a,_,rfl⟩:=List.mem_map.1 he;rfl) (by rw[aWf,ha])
   unfold lev;generalize (dL l).map aK.e=M at *;simp (disch:=omega) only[go_sem,h191l0,aWf,q,hE,b1,b2,b3,K6,Nat.zero_mul,aW7]
 ·rw[if_pos hk',if_neg hz];have q:=up (Ar (G:=G) (bb:=bb) l hW hl k hk');simp (disch:=omega) only[go_sem,h191l0,aWf,ixA,aK.e,q,hz];rfl
end
section
variable {G:aF} {bb:Bool}
end
section
variable {G:aF} {bb:Bool}
def Be(s:List Int):Nat->Nat
 | 0=>0
 | k+1=>Be s k+1+(s.getD (Be s k) 0 % 16+s.getD (Be s k) 0 / 16).toNat
noncomputable def raE(s:List Int):Nat:=ix (fun k=>s.length<=Be s k\/s.getD (Be s k) 0=0) (s.length+1)
noncomputable def raV(s:List Int):List Int:=if Be s (raE s) < s.length then s.take (Be s (raE s)+1) else s
theorem To(s:List Int):∀ k,k<=Be s k
 | 0=>aWj _
 | k+1=>by have:=To s k;rw[Be];omega
theorem aEA(s:List Int):(s.length<=Be s (raE s)\/s.getD (Be s (raE s)) 0=0)/\∀ j,j < raE s->Be s j < s.length/\s.getD (Be s j) 0≠0:=by
 obtain⟨h1,h2,h3⟩:=bZ (fun k=>s.length<=Be s k\/s.getD (Be s k) 0=0) (s.length+1)
 refine⟨?_,fun j hj=>?_⟩
 ·rcases h2 with h2 | h2
  ·have:=To s (raE s);exact .inl (by unfold raE at *;omega)
  ·exact h2.2
 ·have:=h3 j hj;exact⟨by omega,fun h=>this (.inr h)⟩
theorem aEB(s:List Int)(hB:aL s)(hl:s.length<=1000000):EV G (Tb (bs bb)) 302 [sv s] []=some (sv (raV s),[]):=by
 refine aA rfl ?_;simp (disch:=first | omega | (simp only[aWg,aWh,aWk,aWf,aB];omega)) only[go_sem,h302c]
 obtain⟨sp1,sp2⟩:=aEA s;rw[aU (fun k=>⟨(sv s::jk 2 (vi (Be s k)::jk 24 [])),[]⟩) (raE s) ?_ ?_]
 rotate_left
 ·rfl
 ·intro k hk;obtain⟨h1,h2⟩:=sp2 k hk;have hx:=hB _ (aWq h1);rw[cY s _ h1] at h2;have e1:(Be s (k+1):Int)=Be s k+(1+s[Be s k] % 16+s[Be s k] / 16):=by
   rw[Be,cY s _ h1];omega
  have hu:=iD _ hx;rw[e1];generalize hp:Be s k=p at *;have a1:=aKH (s[p]'h1) hx;simp (disch:=first | omega | (simp only[aWg,aWh,aWk,aWf,aB];omega)) only[go_sem,h302l0,aW0,hu,h2,a1,Int.reduceToNat,Int.reducePow,B3]
 unfold raV;generalize Be s (raE s)=p at *;by_cases c:p < s.length
 ·rw[if_pos c];have h2:s.getD p 0=0:=sp1.elim (fun h=>absurd h (by omega)) id
  have hx:=hB _ (aWq c);rw[cY s _ c] at h2;have hu:=iD _ hx;rw[h2] at hu;simp (disch:=first | omega | (simp only[aWg,aWh,aWk,aWf,aB];omega)) only[go_sem,h302l0,aW0,hu,h2]
 ·rw[if_neg c];have c':¬ (p:Int) < (s.length:Int):=by omega
  simp (disch:=first | omega | (simp only[aWg,aWh,aWk,aWf,aB];omega)) only[go_sem,h302l0,c']
theorem aEC{s:List Int}(h:aL s):aL (raV s):=by
 unfold raV;split
 ·exact fun b hb=>h b (aWF hb)
 ·exact h
def He(s:List Int):Bool:=decide (s.getD 8 0=0)
def dHd(s:List Int):Nat:=if He s=true then 24 else 40
def Hf(s:List Int):Nat:=(gL s 9 1).toNat
def uL(s:List Int):Nat:=(dHd s+Hf s+7) / 8 * 8
def dNm(s:List Int):List Int:=(s.take (dHd s+Hf s)).drop (dHd s)
def dVl(s:List Int):Nat:=(gL s 16 4).toNat
def dT(s:List Int):aK:=⟨gL s 0 4,dNm s,gL s 14 2,gL s 12 2,true,(s.take (uL s+dVl s)).drop (uL s),0,[],0,0,0⟩
noncomputable def dF(s:List Int)(rs:List bF):aK:=⟨gL s 0 4,dNm s,gL s 14 2,gL s 12 2,false,[],gL s 16 4,rs,gL s 28 4,gL s 32 4,gL s 36 4⟩
noncomputable def sG(s:List Int):aK × Bool:=if s.length < 24 then (aK.nil,false) else if s.length < uL s then (aK.nil,false) else
 if He s=true then (if s.length < uL s+dVl s then (aK.nil,false) else (dT s,true)) else (dF s (Ig (raV (s.drop (uL s)))).1,decide ((Ig (raV (s.drop (uL s)))).2=0))
set_option maxHeartbeats 4000000 in
theorem aAz(s:List Int)(hB:aL s)(hl:s.length<=1000):EV G (Tb (bs bb)) 264 [sv s] []=some (.tup [(sG s).1.t,.one (bC (sG s).2)],[]):=by
 refine aA rfl ?_;unfold sG;by_cases c0:s.length < 24
 ·rw[if_pos c0];have c0':(s.length:Int) < 24:=by omega
  simp only[aK.nil];simp (disch:=first | omega | (simp only[aWg,aWh,aWk,aWf,aB];omega)) only[go_sem,h264c,eq_true c0',bD,bC,aWw]
  rfl
 rw[if_neg c0];have c0':¬ (s.length:Int) < 24:=by omega
 have g0:EV G (Tb (bs bb)) 300 [sv s,vi 0,vi 4] []=some (vi (gL s 0 4),[]):=C6 s hB 0 4 (by omega) (by omega) (by omega);have g14:EV G (Tb (bs bb)) 300 [sv s,vi 14,vi 2] []=some (vi (gL s 14 2),[]):=C6 s hB 14 2 (by omega) (by omega) (by omega);have g12:EV G (Tb (bs bb)) 300 [sv s,vi 12,vi 2] []=some (vi (gL s 12 2),[]):=C6 s hB 12 2 (by omega) (by omega) (by omega);have g9:EV G (Tb (bs bb)) 300 [sv s,vi 9,vi 1] []=some (vi (gL s 9 1),[]):=C6 s hB 9 1 (by omega) (by omega) (by omega);have g16:EV G (Tb (bs bb)) 300 [sv s,vi 16,vi 4] []=some (vi (gL s 16 4),[]):=C6 s hB 16 4 (by omega) (by omega) (by omega);have b9:=aD7 hB 9;have b16:=pO hB 16 4 (by omega);have hx:=hB _ (aWq (show 8 < s.length by omega));have hu:=iD _ hx;have e8:s.getD 8 0=s[8]:=cY s 8 (by omega);cases hr:He s with
 | true=>
  have hr8:s[8]=0:=by unfold He at hr;rw[e8] at hr;simpa using hr
  rw[hr8] at hu;have eh:dHd s=24:=by unfold dHd;rw[hr];rfl
  have e9:gL s 9 1=(Hf s:Int):=by unfold Hf;omega
  have e16:gL s 16 4=(dVl s:Int):=by unfold dVl;omega
  have eA:uL s=(24+Hf s+7) / 8 * 8:=by unfold uL;rw[eh]
  have q1:=tA (G:=G) (bb:=bb) (24+(Hf s:Int)) (by omega);have eA':Wi (24+(Hf s:Int))=(uL s:Int):=by unfold Wi;omega
  rw[eA'] at q1;rw[e9] at g9 b9;by_cases c1:s.length < uL s
  ·rw[if_pos c1];have c1':(s.length:Int) < (uL s:Int):=by omega
   simp only[aK.nil];simp (disch:=first | omega | (simp only[aWg,aWh,aWk,aWf,aB];omega)) only[go_sem,h264c,c0',bD,bC,aWw,Int.reduceToNat,g0,g14,g12,g9,aW0,hu,hr8,uV,q1,eq_true c1']
   rfl
  ·rw[if_neg c1];have c1':¬ (s.length:Int) < (uL s:Int):=by omega
   rw[e16] at g16 b16;by_cases c2:s.length < uL s+dVl s
   ·rw[if_pos c2];have c2':(s.length:Int) - (uL s:Int) < (dVl s:Int):=by omega
    simp only[aK.nil];simp (disch:=first | omega | (simp only[aWg,aWh,aWk,aWf,aB];omega)) only[go_sem,h264c,c0',bD,bC,aWw,Int.reduceToNat,g0,g14,g12,g9,aW0,hu,hr8,uV,q1,c1',g16,eq_true c2']
    rfl
   ·rw[if_neg c2];have c2':¬ (s.length:Int) - (uL s:Int) < (dVl s:Int):=by omega
    simp (disch:=first | omega | (simp only[aWg,aWh,aWk,aWf,aB];omega)) only[go_sem,h264c,c0',bD,bC,aWw,Int.reduceToNat,g0,g14,g12,g9,aW0,hu,hr8,uV,q1,c1',g16,c2']
    have eT:(24+(Hf s:Int)).toNat=24+Hf s:=by omega
    rw[eT];unfold dT dNm;rw[eh];rfl
 | false=>
  have hr8:¬ s[8]=0:=by unfold He at hr;rw[e8] at hr;simpa using hr
  have eh:dHd s=40:=by unfold dHd;rw[hr];rfl
  have e9:gL s 9 1=(Hf s:Int):=by unfold Hf;omega
  have eA:uL s=(40+Hf s+7) / 8 * 8:=by unfold uL;rw[eh]
  have q1:=tA (G:=G) (bb:=bb) (40+(Hf s:Int)) (by omega);have eA':Wi (40+(Hf s:Int))=(uL s:Int):=by unfold Wi;omega
  rw[eA'] at q1;rw[e9] at g9 b9;by_cases c1:s.length < uL s
  ·rw[if_pos c1];have c1':(s.length:Int) < (uL s:Int):=by omega
   simp only[aK.nil];simp (disch:=first | omega | (simp only[aWg,aWh,aWk,aWf,aB];omega)) only[go_sem,h264c,c0',bD,bC,aWw,Int.reduceToNat,g0,g14,g12,g9,aW0,hu,hr8,uV,q1,eq_true c1']
   rfl
  ·rw[if_neg c1];have c1':¬ (s.length:Int) < (uL s:Int):=by omega
   have g28:EV G (Tb (bs bb)) 300 [sv s,vi 28,vi 4] []=some (vi (gL s 28 4),[]):=C6 s hB 28 4 (by omega) (by omega) (by omega);have g32:EV G (Tb (bs bb)) 300 [sv s,vi 32,vi 4] []=some (vi (gL s 32 4),[]):=C6 s hB 32 4 (by omega) (by omega) (by omega);have g36:EV G (Tb (bs bb)) 300 [sv s,vi 36,vi 4] []=some (vi (gL s 36 4),[]):=C6 s hB 36 4 (by omega) (by omega) (by omega);have hd:aL (s.drop (uL s)):=fun b hb=>hB b (aWT hb)
   have q2:=aEB (G:=G) (bb:=bb) (s.drop (uL s)) hd (by rw[aWt];omega);have q3:=aDZ (G:=G) (B:=bs bb) (raV (s.drop (uL s))) (aEC hd);simp (disch:=first | omega | (simp only[aWg,aWh,aWk,aWf,aB];omega)) only[go_sem,h264c,c0',bD,bC,aWw,Int.reduceToNat,g0,g14,g12,g9,aW0,hu,hr8,uV,q1,c1',g16,g28,g32,g36,q2,q3]
   have eT:(40+(Hf s:Int)).toNat=40+Hf s:=by omega
   rw[eT];unfold dF dNm;rw[eh]
theorem aEG{s:List Int}(h:(Ig s).2=0):(oQ (Ig s).1).2=0:=by
 unfold Ig at h ⊢;split at h
 ·exact absurd h (by decide)
 ·rename_i c;rw[if_neg c];unfold Dr at h ⊢;split at h
  ·exact absurd h (by decide)
  ·rename_i c1;rw[if_neg c1];split at h
   ·rename_i c2;exact absurd h c2
   ·rename_i c2;rw[if_neg c2];exact Classical.not_not.1 c2
theorem Wy{s:List Int}(hB:aL s)(hl:s.length<=1000)(h:(sG s).2=true):(sG s).1.Dc:=by
 unfold sG at h ⊢;split at h
 ·cases h
 rename_i c0;rw[if_neg c0];split at h
 ·cases h
 rename_i c1;rw[if_neg c1];have b9:=aD7 hB 9;have b0:=pO hB 0 4 (by omega);have b14:=S8 hB 14;have b12:=S8 hB 12;have hnm:aL (dNm s):=fun b hb=>hB b (aWF (aWT hb))
 have hnl:(dNm s).length<=255:=by
  unfold dNm;rw[aWt,aWm];unfold Hf;omega
 split at h
 ·rename_i hr;rw[if_pos hr];split at h
  ·cases h
  ·rename_i c2;rw[if_neg c2];exact⟨b0,hnm,hnl,b14,b12,fun b hb=>hB b (aWF (aWT hb)),by
    show ((s.take (uL s+dVl s)).drop (uL s)).length<=1000;rw[aWt,aWm];omega,fun _=>⟨rfl,rfl,rfl,rfl,rfl⟩,fun g=>(by cases g)⟩
 ·rename_i hr;rw[if_neg hr];have hd:=aEG (by simpa using h);exact⟨b0,hnm,hnl,b14,b12,lS,aWA _,fun g=>(by cases g),fun _=>⟨rfl,hd,pO hB 16 4 (by omega),pO hB 28 4 (by omega),pO hB 32 4 (by omega),pO hB 36 4 (by omega)⟩⟩
theorem bK{a b:List Int}(ha:aL a)(hb:aL b):aL (a++b):=fun x hx=>(aXy.1 hx).elim (ha x) (hb x)
theorem Hg(n:Nat):aL (List.replicate n 0):=fun x hx=>by rw[List.eq_of_mem_replicate hx];omega
theorem Js:∀ (l:List bF) (last:Int),aL (eX last l)
 | [],_=>lS
 | r::l,last=>by
  have s1:=An r.n;have s2:=An (r.s - last);rw[eX,Ao];refine bK (fun x hx=>?_) (Js l _)
  rcases aXn.1 hx with rfl | hx
  ·unfold Ds;split<;>omega
  ·unfold Ph at hx;split at hx
   ·exact cL _ _ x hx
   ·exact bK (cL _ _) (cL _ _) x hx
theorem Pz{a:aK}(h:a.Dc):aL (jA a):=by
 have hb:aL (rfb a):=by
  unfold rfb;split
  ·exact h.va
  ·exact bK (by rw[Gx];exact Js _ _) (aDO _ (by decide))
 have h1:aL (rf1 a):=by unfold rf1;exact bK (bK (bK (bK (cL _ _) (cL _ _)) (cL _ _)) (cL _ _)) (cL _ _)
 have h2:aL (rf2 a):=by
  unfold rf2;split
  ·exact bK (bK h1 (cL _ _)) (cL _ _)
  ·exact bK (bK (bK (bK (bK (bK (bK h1 (cL _ _)) (cL _ _)) (cL _ _)) (Hg _)) (cL _ _)) (cL _ _)) (cL _ _)
 unfold jA rf3 aAk;exact bK (bK (cL _ _) (cL _ _)) (bK (bK (bK (bK h2 h.nm) (Hg _)) hb) (Hg _))
theorem aK.Dc.w{a:aK}(h:a.Dc):a.W:=by
 have h1:=h.nl;have h2:=h.vl;refine⟨h.nm,h.va,by omega,by omega, ?_⟩;cases hr:a.res with
 | true=>rw[(h.t hr).1];simp
 | false=>have:=oR (h.f hr).2.1;omega
noncomputable def cK(s:List Int):aK × Int:=if s.length > 440 then (aK.nil,8) else
 if (sG s).2=false\/tU (sG s).1≠s then (aK.nil,3) else if gU (sG s).1≠0 then (aK.nil,gU (sG s).1) else ((sG s).1,0)
set_option maxHeartbeats 4000000 in
theorem aAA(s:List Int)(hB:aL s)(hl:s.length<=1000):EV G (Tb (bs bb)) 213 [sv s] []=some (rtv (cK s),[]):=by
 refine aA rfl ?_;unfold cK;by_cases c0:s.length > 440
 ·rw[if_pos c0];have c0':440 < (s.length:Int):=by omega
  simp only[aK.nil];simp (disch:=first | omega | (simp only[aWg,aWh,aWk,aWf,aB];omega)) only[go_sem,h213c,eq_true c0',bD,aWw]
  rfl
 rw[if_neg c0];have c0':¬ 440 < (s.length:Int):=by omega
 have q:=aAz (G:=G) (bb:=bb) s hB hl;have hdc:=Wy hB hl;generalize sG s=d at q hdc ⊢;obtain⟨a,b⟩:=d;cases b with
 | false=>
  rw[if_pos (.inl rfl)];simp only[aK.nil];simp (disch:=first | omega | (simp only[aWg,aWh,aWk,aWf,aB];omega)) only[go_sem,h213c,c0',bD,aWw,q,bC]
  rfl
 | true=>
  have h:=hdc rfl;simp only at h;have q1:=B0 (G:=G) (bb:=bb) a h.bd;have q2:=Am (G:=G) (bb:=bb) a h.w;have eS:=gJ (a:=tU a) (b:=s) (by rw[B5 h];exact Pz h) hB;by_cases c1:tU a=s
  ·rw[if_neg (fun g=>g.elim (fun g=>by cases g) (fun g=>g c1))]
   rw[eq_true c1] at eS;by_cases c2:gU a=0
   ·rw[if_neg (fun g=>g c2)]
    simp (disch:=first | omega | (simp only[aWg,aWh,aWk,aWf,aB];omega)) only[go_sem,h213c,c0',bD,q,bC,q1,eS,q2,c2]
   ·rw[if_pos c2];simp only[aK.nil];simp (disch:=first | omega | (simp only[aWg,aWh,aWk,aWf,aB];omega)) only[go_sem,h213c,c0',bD,aWw,q,bC,q1,eS,q2,c2]
    rfl
  ·rw[if_pos (.inr c1)];rw[eq_false c1] at eS;simp only[aK.nil];simp (disch:=first | omega | (simp only[aWg,aWh,aWk,aWf,aB];omega)) only[go_sem,h213c,c0',bD,aWw,q,bC,q1,eS]
   rfl
end
section
variable {G:aF} {bb:Bool}
end
section
variable {G:aF} {bb:Bool}
theorem Au:∀ (a b:List bF) (last:Int),eX last (a++b)=eX last a++eX (a.foldl Pi last) b
 | [],_,_=>rfl
 | r::a,b,last=>by rw[aWR,eX,Au a b,eX,aWv];rfl
theorem aEH(last:Int)(r:bF):(Ds last r % 16+Ds last r / 16).toNat=(Ph last r).length:=by
 have s1:=An r.n;have s2:=An (r.s - last);unfold Ds Ph;split
 ·rw[aB];omega
 ·rw[aWg,aB,aB];omega
theorem Jt(p L:List Int):(p++L).getD p.length 0=L.getD 0 0:=by
 rw[aWn,aWn,aWB (aWj _),aW3]
theorem Ly(l:List bF)(rest:List Int):∀ k,k<=l.length->Be (eX 0 l++([0]++rest)) k=(eX 0 (l.take k)).length/\∀ j,j < k->(eX 0 l++([0]++rest)).getD (Be (eX 0 l++([0]++rest)) j) 0≠0
 | 0,_=>⟨rfl,fun j hj=>by omega⟩
 | k+1,hk=>by
  obtain⟨h1,h2⟩:=Ly l rest k (by omega);have hkl:k < l.length:=by omega
  have e1:l=l.take k++(l[k]::l.drop (k+1)):=by rw[<- aXo hkl,aXs]
  have e2:eX 0 l=eX 0 (l.take k)++(Ds ((l.take k).foldl Pi 0) l[k]::(Ph ((l.take k).foldl Pi 0) l[k]++eX (Pi ((l.take k).foldl Pi 0) l[k]) (l.drop (k+1)))):=by
   conv=>lhs;rw[e1]
   rw[Au,eX,Ao];rfl
  have e3:(eX 0 l++([0]++rest)).getD (Be (eX 0 l++([0]++rest)) k) 0=Ds ((l.take k).foldl Pi 0) l[k]:=by
   rw[h1]
   conv=>lhs;rw[e2]
   rw[aWv,Jt];rfl
  refine⟨?_,fun j hj=>?_⟩
  ·rw[Be,e3,aEH,h1,aXe hkl,Au,aWg];show _=_+(eX _ [l[k]]).length;simp only[eX,Ao,aXr,aWh];omega
  ·by_cases c:j < k
   ·exact h2 j c
   ·have:j=k:=by omega
    subst this;rw[e3];exact aD0 _ _
theorem aI4(l:List bF)(rest:List Int):raV ((nI l).1++[0]++rest)=(nI l).1++[0]:=by
 rw[Gx,aWv];obtain⟨h1,h2⟩:=Ly l rest l.length (aWj _);rw[aWY] at h1;have hg:=To (eX 0 l++([0]++rest)) l.length;have hlen:(eX 0 l++([0]++rest)).length=(eX 0 l).length+1+rest.length:=by simp only[aWg,aWh,aWk];omega
 have hz:(eX 0 l++([0]++rest)).getD (eX 0 l).length 0=0:=by rw[Jt];rfl
 have hm:∀ j,j<=l.length->Be (eX 0 l++([0]++rest)) j < (eX 0 l++([0]++rest)).length:=fun j hj=>by
  have h3:=(Ly l rest j hj).1;have:(eX 0 (l.take j)).length<=(eX 0 l).length:=by
   conv=>rhs;rw[<- aXs j l,Au,aWg]
   omega
  omega
 have hE:raE (eX 0 l++([0]++rest))=l.length:=by
  unfold raE;refine aKJ (by omega) (.inr (by rw[h1];exact hz)) (fun j hj g=>?_)
  rcases g with g | g
  ·have:=hm j (by omega);omega
  ·exact h2 j hj g
 unfold raV;rw[hE,if_pos (hm _ (aWj _)),h1];rw[<- aWv,aXz (by simp)]
theorem mX(p L:List Int)(k:Nat)(h:p.length<=k):(p++L).drop k=L.drop (k - p.length):=by
 rw[List.drop_append,List.drop_of_length_le h,aWL]
theorem Ep(L:List Int)(k:Nat)(h:k=0):L.drop k=L:=by subst h;rfl
theorem Wz(s:List Int)(k:Nat)(h:k < s.length):s.getD k 0=gL s k 1:=by
 rw[cY s k h];unfold gL;rw[aXo h,aXO,aXq];show s[k]=s[k]+256 * 0;omega
theorem nN(z L:List Int)(a k:Nat)(ha:a=0)(h:z.length=k):gL (z++L) a k=gv z:=by subst ha;exact Lo z L k h
theorem shT{a:aK}(h:a.Dc)(hr:a.res=true):jA a=cC a.ty 4++(cC (iC a) 4++(cC 0 1++(cC a.nm.length 1++(cC 24 2++(cC a.fl 2++(cC a.id 2++(cC a.va.length 4++(cC (gY a) 4++(a.nm++(List.replicate (gY a - 24 - a.nm.length) 0++(a.va++List.replicate (iC a - gY a - a.va.length) 0))))))))))):=by
 obtain⟨o1,o2,o3,o4,o5⟩:=C5 a;have eh:Bc a=24:=by simp[Bc,hr]
 have ebd:tR a=a.va:=by simp[tR,hr]
 have hb:=Gz h;rw[eh] at o2;rw[ebd] at o3 o5;unfold jA rf3 rf2 rf1 aAk;rw[if_pos hr,if_pos hr,eh,hb,ebd];simp only[aWv];simp only[aWg,aB,aWu];have e3:=aD6 (1+(1+(2+(2+(2+(4+(4+(a.nm.length+((gY a - 24 - a.nm.length)+a.va.length))))))))) (iC a) (iC a - gY a - a.va.length) (by omega) o4 (by omega);rw[e3];rfl
theorem shF{a:aK}(h:a.Dc)(hr:a.res=false):jA a=cC a.ty 4++(cC (iC a) 4++(cC 1 1++(cC a.nm.length 1++(cC 40 2++(cC a.fl 2++(cC a.id 2++(cC a.fi 4++(cC (a.fi+jO a.rs - 1) 4++(cC (gY a) 2++(List.replicate 2 0++(cC a.al 4++(cC a.sz 4++(cC a.vd 4++(a.nm++(List.replicate (gY a - 40 - a.nm.length) 0++(((nI a.rs).1++[0])++List.replicate (iC a - gY a - (tR a).length) 0)))))))))))))))):=by
 obtain⟨o1,o2,o3,o4,o5⟩:=C5 a;have hr':¬ a.res=true:=by rw[hr];decide
 have eh:Bc a=40:=by simp[Bc,hr]
 have hb:=Gz h;have ef:rfb a=(nI a.rs).1++[0]:=by rw[rfb,if_neg hr']
 rw[<- hb,ef] at o3 o5 ⊢;rw[eh] at o2;unfold jA rf3 rf2 rf1 aAk;rw[if_neg hr',if_neg hr',eh,ef,Wo];simp only[aWv];simp only[aWg,aB,aWu] at o3 o5 ⊢;have e3:=aD6 (1+(1+(2+(2+(2+(4+(4+(2+(2+(4+(4+(4+(a.nm.length+((gY a - 40 - a.nm.length)+((nI a.rs).1.length+[(0:Int)].length))))))))))))))) (iC a) (iC a - gY a - ((nI a.rs).1.length+[(0:Int)].length)) (by omega) o4 (by omega);rw[e3];rfl
theorem aUB{a:aK}(h:a.Dc)(hr:a.res=true):He (jA a)=true/\uL (jA a)=gY a/\Hf (jA a)=a.nm.length/\dVl (jA a)=a.va.length/\(jA a).getD 8 0=0/\dT (jA a)=a/\(jA a).length=iC a/\24+a.nm.length<=gY a/\gY a+a.va.length<=iC a:=by
 obtain⟨o1,o2,o3,o4,o5⟩:=C5 a;have eh:Bc a=24:=by simp[Bc,hr]
 have ebd:tR a=a.va:=by simp[tR,hr]
 rw[eh] at o2;rw[ebd] at o3 o5;have hlen:(jA a).length=iC a:=by rw[<- B5 h,lT a h.bd]
 have hty:=h.ty;have hnl:=h.nl;have hid:=h.id;have hfl:=h.fl;have hvl:=h.vl;have hS:=shT h hr;have r8:gL (jA a) 8 1=0:=by
  rw[hS];simp (disch:=first | omega | (simp only[aB]<;>omega) | fail) only[fZ,nN,aB,Nat.reduceSub]
  rfl
 have r9:gL (jA a) 9 1=a.nm.length:=by
  rw[hS];simp (disch:=first | omega | (simp only[aB]<;>omega) | fail) only[fZ,nN,aB,Nat.reduceSub]
  exact gv1 _ (by omega)
 have r0:gL (jA a) 0 4=a.ty:=by
  rw[hS];simp (disch:=first | omega | (simp only[aB]<;>omega) | fail) only[fZ,nN,aB,Nat.reduceSub]
  exact gv4 _ hty
 have r12:gL (jA a) 12 2=a.fl:=by
  rw[hS];simp (disch:=first | omega | (simp only[aB]<;>omega) | fail) only[fZ,nN,aB,Nat.reduceSub]
  exact gv2 _ hfl
 have r14:gL (jA a) 14 2=a.id:=by
  rw[hS];simp (disch:=first | omega | (simp only[aB]<;>omega) | fail) only[fZ,nN,aB,Nat.reduceSub]
  exact gv2 _ hid
 have r16:gL (jA a) 16 4=a.va.length:=by
  rw[hS];simp (disch:=first | omega | (simp only[aB]<;>omega) | fail) only[fZ,nN,aB,Nat.reduceSub]
  exact gv4 _ (by omega)
 have rd24:(jA a).drop 24=a.nm++(List.replicate (gY a - 24 - a.nm.length) 0++(a.va++List.replicate (iC a - gY a - a.va.length) 0)):=by
  rw[hS];simp (disch:=first | omega | (simp only[aB]<;>omega) | fail) only[mX,Ep,aB,Nat.reduceSub]
 have rda:(jA a).drop (gY a)=a.va++List.replicate (iC a - gY a - a.va.length) 0:=by
  have e:(jA a).drop (gY a)=((jA a).drop 24).drop (gY a - 24):=by rw[List.drop_drop];congr 1;omega
  rw[e,rd24,mX _ _ _ (by omega),mX _ _ _ (by rw[aWu];omega),Ep _ _ (by rw[aWu];omega)]
 have g8:(jA a).getD 8 0=0:=by rw[Wz _ _ (by omega),r8]
 have eR:He (jA a)=true:=by unfold He;rw[g8];rfl
 have eH:dHd (jA a)=24:=by unfold dHd;rw[eR];rfl
 have eS:Hf (jA a)=a.nm.length:=by unfold Hf;omega
 have eA:uL (jA a)=gY a:=by unfold uL;rw[eH,eS];unfold gY;rw[eh]
 have eV:dVl (jA a)=a.va.length:=by unfold dVl;omega
 have eN:dNm (jA a)=a.nm:=by unfold dNm;rw[eH,eS,List.drop_take,rd24,show 24+a.nm.length - 24=a.nm.length by omega,aXz];rfl
 refine⟨eR,eA,eS,eV,g8, ?_,hlen,o2,o3⟩;obtain⟨t1,t2,t3,t4,t5⟩:=h.t hr;unfold dT;rw[eN,eA,eV,r0,r12,r14,List.drop_take,rda,show gY a+a.va.length - gY a=a.va.length by omega,aXz rfl];cases a;simp only at hr t1 t2 t3 t4 t5;subst hr;subst t1;subst t2;subst t3;subst t4;subst t5;rfl
theorem aUC{a:aK}(h:a.Dc)(hr:a.res=false):He (jA a)=false/\uL (jA a)=gY a/\Hf (jA a)=a.nm.length/\(jA a).getD 8 0=1/\dF (jA a) a.rs=a/\(jA a).drop (gY a)=((nI a.rs).1++[0])++List.replicate (iC a - gY a - (tR a).length) 0/\
  (jA a).length=iC a/\40+a.nm.length<=gY a/\gY a+((nI a.rs).1.length+1)<=iC a:=by
 obtain⟨o1,o2,o3,o4,o5⟩:=C5 a;have eh:Bc a=40:=by simp[Bc,hr]
 have hb:=Gz h;have ef:rfb a=(nI a.rs).1++[0]:=by rw[rfb,if_neg (by rw[hr];decide)]
 have hbl:(tR a).length=(nI a.rs).1.length+1:=by rw[<- hb,ef];simp
 rw[eh] at o2;have hlen:(jA a).length=iC a:=by rw[<- B5 h,lT a h.bd]
 have hty:=h.ty;have hnl:=h.nl;have hid:=h.id;have hfl:=h.fl;obtain⟨f1,f2,f3,f4,f5,f6⟩:=h.f hr;have hS:=shF h hr;have r8:gL (jA a) 8 1=1:=by
  rw[hS];simp (disch:=first | omega | (simp only[aB,aWu]<;>omega) | fail) only[fZ,nN,aB,aWu,Nat.reduceSub]
  rfl
 have r9:gL (jA a) 9 1=a.nm.length:=by
  rw[hS];simp (disch:=first | omega | (simp only[aB,aWu]<;>omega) | fail) only[fZ,nN,aB,aWu,Nat.reduceSub]
  exact gv1 _ (by omega)
 have r0:gL (jA a) 0 4=a.ty:=by
  rw[hS];simp (disch:=first | omega | (simp only[aB,aWu]<;>omega) | fail) only[fZ,nN,aB,aWu,Nat.reduceSub]
  exact gv4 _ hty
 have r12:gL (jA a) 12 2=a.fl:=by
  rw[hS];simp (disch:=first | omega | (simp only[aB,aWu]<;>omega) | fail) only[fZ,nN,aB,aWu,Nat.reduceSub]
  exact gv2 _ hfl
 have r14:gL (jA a) 14 2=a.id:=by
  rw[hS];simp (disch:=first | omega | (simp only[aB,aWu]<;>omega) | fail) only[fZ,nN,aB,aWu,Nat.reduceSub]
  exact gv2 _ hid
 have r16:gL (jA a) 16 4=a.fi:=by
  rw[hS];simp (disch:=first | omega | (simp only[aB,aWu]<;>omega) | fail) only[fZ,nN,aB,aWu,Nat.reduceSub]
  exact gv4 _ f3
 have r28:gL (jA a) 28 4=a.al:=by
  rw[hS];simp (disch:=first | omega | (simp only[aB,aWu]<;>omega) | fail) only[fZ,nN,aB,aWu,Nat.reduceSub]
  exact gv4 _ f4
 have r32:gL (jA a) 32 4=a.sz:=by
  rw[hS];simp (disch:=first | omega | (simp only[aB,aWu]<;>omega) | fail) only[fZ,nN,aB,aWu,Nat.reduceSub]
  exact gv4 _ f5
 have r36:gL (jA a) 36 4=a.vd:=by
  rw[hS];simp (disch:=first | omega | (simp only[aB,aWu]<;>omega) | fail) only[fZ,nN,aB,aWu,Nat.reduceSub]
  exact gv4 _ f6
 have rd40:(jA a).drop 40=a.nm++(List.replicate (gY a - 40 - a.nm.length) 0++(((nI a.rs).1++[0])++List.replicate (iC a - gY a - (tR a).length) 0)):=by
  rw[hS];simp (disch:=first | omega | (simp only[aB,aWu]<;>omega) | fail) only[mX,Ep,aB,aWu,Nat.reduceSub]
 have rda:(jA a).drop (gY a)=((nI a.rs).1++[0])++List.replicate (iC a - gY a - (tR a).length) 0:=by
  have e:(jA a).drop (gY a)=((jA a).drop 40).drop (gY a - 40):=by rw[List.drop_drop];congr 1;omega
  rw[e,rd40,mX _ _ _ (by omega),mX _ _ _ (by rw[aWu];omega),Ep _ _ (by rw[aWu];omega)]
 have g8:(jA a).getD 8 0=1:=by rw[Wz _ _ (by omega),r8]
 have eR:He (jA a)=false:=by unfold He;rw[g8];rfl
 have eH:dHd (jA a)=40:=by unfold dHd;rw[eR];rfl
 have eS:Hf (jA a)=a.nm.length:=by unfold Hf;omega
 have eA:uL (jA a)=gY a:=by unfold uL;rw[eH,eS];unfold gY;rw[eh]
 have eN:dNm (jA a)=a.nm:=by unfold dNm;rw[eH,eS,List.drop_take,rd40,show 40+a.nm.length - 40=a.nm.length by omega,aXz];rfl
 refine⟨eR,eA,eS,g8, ?_,rda,hlen,o2,by omega⟩;unfold dF;rw[eN,r0,r12,r14,r16,r28,r32,r36];cases a;simp only at hr f1;subst hr;subst f1;rfl
theorem aEI{a:aK}(h:a.Dc):sG (jA a)=(a,true):=by
 cases hr:a.res with
 | true=>
  obtain⟨e1,e2,e3,e4,e5,e6,e7,e8,e9⟩:=aUB h hr;unfold sG;rw[if_neg (by omega),e2,if_neg (by omega),if_pos e1,e4,if_neg (by omega),e6]
 | false=>
  obtain⟨e1,e2,e3,e4,e5,e6,e7,e8,e9⟩:=aUC h hr;have hc:=(h.f hr).2.1;unfold sG;rw[if_neg (by omega),e2,if_neg (by omega),if_neg (by rw[e1];decide),e6,aI4,aIH hc,e5];rfl
end
section
variable {G:aF} {bb:Bool}
end
section
variable {G:aF} {bb:Bool}
end
section
variable {G:aF} {bb:Bool}
theorem aI5{s:List Int}(hB:aL s)(hl:s.length<=1000):(cK s).1.W/\((cK s).2=0\/(cK s).1=aK.nil):=by
 unfold cK;split
 ·exact⟨aK.nil_W,.inr rfl⟩
 ·split
  ·exact⟨aK.nil_W,.inr rfl⟩
  ·rename_i c;split
   ·exact⟨aK.nil_W,.inr rfl⟩
   ·have h:(sG s).2=true:=by
     cases h:(sG s).2 with
     | true=>rfl
     | false=>exact absurd (.inl h) c
    exact⟨(Wy hB hl h).w,.inl rfl⟩
theorem Lz{a:aK}(hW:a.W)(h:gU a=0):fG a=jA a/\(jA a).length=iC a/\iC a<=440/\iC a % 8=0:=by
 have hO:=mM hW h;have hd:=hO.dc;refine⟨by unfold fG;rw[if_pos h,B5 hd],by rw[<- B5 hd,lT a hd.bd], ?_,(C5 a).2.2.2.1⟩;have:=sD hW;unfold fG at this;rw[if_pos h,lT a hd.bd] at this;exact this
theorem aAB{a:aK}(hW:a.W)(h:gU a=0):cK (jA a)=(a,0):=by
 obtain⟨e1,e2,e3,e4⟩:=Lz hW h;have hd:=(mM hW h).dc;have e:=aEI hd;unfold cK;rw[if_neg (by omega),e];simp only;rw[if_neg (fun g=>g.elim (fun g=>by cases g) (fun g=>g (B5 hd))),if_neg (fun g=>g h)]
theorem aI6{s:List Int}(hB:aL s)(hl:s.length<=1000)(h:(cK s).2=0):gU (cK s).1=0/\fG (cK s).1=s:=by
 unfold cK at h ⊢;split at h
 ·exact absurd h (by decide)
 ·rename_i c0;rw[if_neg c0];split at h
  ·exact absurd h (by decide)
  ·rename_i c1;rw[if_neg c1];split at h
   ·rename_i c2;exact absurd h c2
   ·rename_i c2;rw[if_neg c2];have c3:=Classical.not_not.1 c2;refine⟨c3, ?_⟩;unfold fG;rw[if_pos c3];exact Classical.byContradiction (fun g=>c1 (.inr g))
end
section
variable {G:aF} {bb:Bool}
end
end Go.Proofs.YthepfneloomngaaGreatDoor
