/- The law RecordTorn answers true: torn blocks are seen. Conditions: as each theorem says. -/
import Derived.Test.YtcplecjhmnblpaaGreatDoorRp
namespace Go.Proofs.YtcplecjhmnblpaaGreatDoor
set_option linter.unusedSimpArgs false
set_option linter.unusedVariables false
set_option maxRecDepth 4000
variable {G:aH} {bb:Bool}
def L9:Nat->Int
 | 0=>1
 | 1=>2
 | 2=>4
 | 3=>8
 | 4=>16
 | 5=>32
 | 6=>64
 | 7=>128
 | _=>256
theorem aF6(k:Nat):0 < L9 k:=by unfold L9;split<;>decide
theorem aJ3(k:Nat)(hk:k < 8):EV G (Tb (jH G bb)) 46 [vi k] []=some (vi (L9 k),[]):=by
 have h:k=0\/k=1\/k=2\/k=3\/k=4\/k=5\/k=6\/k=7:=by omega
 refine aB rfl ?_;rcases h with rfl | rfl | rfl | rfl | rfl | rfl | rfl | rfl
 all_goals
  unfold L9;simp (disch:=first | omega | (simp only[aQc,aQd,aQe,aQb,aA];omega)) only[go_sem,h46c,Int.reduceMul,Int.reduceToNat,Int.reducePow,aRr,Int.natCast_one,Int.cast_ofNat_Int,aQN]
  try rfl
theorem Sk:EV G (Tb (jH G bb)) 46 [vi 8] []=some (vi 256,[]):=mC (up (N7 (G:=G) (B:=bs bb)))
def mE(S:Int)(k:Nat):Bool:=decide (S / L9 k % 2=1)
def qT(a b:List Int)(f:Nat->Bool):Nat->List Int
 | 0=>[]
 | k+1=>qT a b f k++((if f k then b else a).drop (64 * k)).take 64
theorem nQ{a b:List Int}{f:Nat->Bool}(ha:a.length=512)(hb:b.length=512):∀ k,k<=8->(qT a b f k).length=64 * k
 | 0,_=>rfl
 | k+1,h=>by
  have:=nQ (f:=f) ha hb k (by omega);rw[qT,aQc,this,aQj,aQr];split<;>omega
theorem O4{a b:List Int}{f:Nat->Bool}(ha:a.length=512)(hb:b.length=512):∀ k,k<=8->∀ j,j < 64 * k->(qT a b f k).getD j 0=(if f (j / 64) then b else a).getD j 0
 | 0,_,j,hj=>by omega
 | k+1,h,j,hj=>by
  have hl:=nQ (f:=f) ha hb k (by omega);rw[qT,Hn,hl];by_cases c:j < 64 * k
  ·rw[if_pos c,O4 ha hb k (by omega) j c]
  ·rw[if_neg c,uI _ _ _ _ (by omega)];have e1:j / 64=k:=by omega
   have e2:64 * k+(j - 64 * k)=j:=by omega
   rw[e1,e2]
theorem Sl{a b:List Int}{f:Nat->Bool}(ha:aM a)(hb:aM b):∀ k,aM (qT a b f k)
 | 0=>fun x hx=>by cases hx
 | k+1=>bK (Sl ha hb k) (fun x hx=>by
   have:=aQS (aQO hx);split at this
   ·exact hb x this
   ·exact ha x this)
theorem L5{a b:List Int}{f:Nat->Bool}(ha:a.length=512)(hb:b.length=512)(v:Bool)(h:∀ i,i < 8->f i=v):qT a b f 8=if v then b else a:=by
 have hl:=nQ (f:=f) ha hb 8 (by omega);refine uH (by rw[hl];split<;>omega) (fun j hj=>?_)
 rw[O4 ha hb 8 (by omega) j (by omega),h _ (by omega)]
theorem V3{a b:List Int}{f:Nat->Bool}(ha:a.length=512)(hb:b.length=512)(haB:aM a)(hbB:aM b)(ea:eP a)(eb:eP b)(hu:dU a≠dU b){i:Nat}(hi:i < 8)(hf:f i≠f 0):¬ eP (qT a b f 8):=by
 intro hw;have hl:=nQ (f:=f) ha hb 8 (by omega);have g:=O4 (f:=f) ha hb 8 (by omega);have h1:=hw.2 i hi;rw[jS (by omega),jS (by omega),g _ (by omega),g _ (by omega),g _ (by omega),g _ (by omega)] at h1;have d1:(64 * i+62) / 64=i:=by omega
 have d2:(64 * i+62+1) / 64=i:=by omega
 rw[d1,d2] at h1;have e40:40 / 64=0:=rfl;rw[e40] at h1;have key:∀ x y:List Int,x.length=512->y.length=512->eP x->dU x≠dU y->[x.getD (64 * i+62) 0,x.getD (64 * i+62+1) 0]=[y.getD 40 0,y.getD (40+1) 0]->False:=by
  intro x y hx hy ex hxy h;have h2:=ex.2 i hi;rw[jS (by omega),jS (by omega)] at h2;rw[h2] at h;injection h with h3 h4
  injection h4 with h4 _
  refine hxy ?_;unfold dU;rw[Oi (by omega),Oi (by omega),h3,h4]
 cases h0:f 0 with
 | false=>
  have hi1:f i=true:=by cases h:f i;exact absurd (h.trans h0.symm) hf;rfl
  rw[h0,hi1] at h1;simp only[if_true,aRd,if_false] at h1;exact key b a hb ha eb (Ne.symm hu) h1
 | true=>
  have hi1:f i=false:=by cases h:f i;rfl;exact absurd (h.trans h0.symm) hf
  rw[h0,hi1] at h1;simp only[if_true,aRd,if_false] at h1;exact key a b ha hb ea hu h1
theorem aJ4{S:Int}(h:0<=S/\S < 256)(hb:∀ i,i < 8->mE S i=false):S=0:=by
 have b0:decide (S / 1 % 2=1)=false:=hb 0 (by decide);have b1:decide (S / 2 % 2=1)=false:=hb 1 (by decide);have b2:decide (S / 4 % 2=1)=false:=hb 2 (by decide);have b3:decide (S / 8 % 2=1)=false:=hb 3 (by decide);have b4:decide (S / 16 % 2=1)=false:=hb 4 (by decide);have b5:decide (S / 32 % 2=1)=false:=hb 5 (by decide);have b6:decide (S / 64 % 2=1)=false:=hb 6 (by decide);have b7:decide (S / 128 % 2=1)=false:=hb 7 (by decide);simp only[decide_eq_false_iff_not] at b0 b1 b2 b3 b4 b5 b6 b7;clear hb;have c7:S < 128:=by clear b0 b1 b2 b3 b4 b5 b6;omega
 have c6:S < 64:=by clear b0 b1 b2 b3 b4 b5 b7;omega
 have c5:S < 32:=by clear b0 b1 b2 b3 b4 b6 b7;omega
 have c4:S < 16:=by clear b0 b1 b2 b3 b5 b6 b7;omega
 have c3:S < 8:=by clear b0 b1 b2 b4 b5 b6 b7;omega
 have c2:S < 4:=by clear b0 b1 b3 b4 b5 b6 b7;omega
 have c1:S < 2:=by clear b0 b2 b3 b4 b5 b6 b7;omega
 have c0:S < 1:=by clear b1 b2 b3 b4 b5 b6 b7;omega
 clear b0 b1 b2 b3 b4 b5 b6 b7;omega
theorem aJ5{S:Int}(h:0<=S/\S < 256)(hb:∀ i,i < 8->mE S i=true):S=255:=by
 have b0:decide (S / 1 % 2=1)=true:=hb 0 (by decide);have b1:decide (S / 2 % 2=1)=true:=hb 1 (by decide);have b2:decide (S / 4 % 2=1)=true:=hb 2 (by decide);have b3:decide (S / 8 % 2=1)=true:=hb 3 (by decide);have b4:decide (S / 16 % 2=1)=true:=hb 4 (by decide);have b5:decide (S / 32 % 2=1)=true:=hb 5 (by decide);have b6:decide (S / 64 % 2=1)=true:=hb 6 (by decide);have b7:decide (S / 128 % 2=1)=true:=hb 7 (by decide);simp only[decide_eq_true_eq] at b0 b1 b2 b3 b4 b5 b6 b7;clear hb;have c7:128<=S:=by clear b0 b1 b2 b3 b4 b5 b6;omega
 have c6:192<=S:=by clear b0 b1 b2 b3 b4 b5 b7;omega
 have c5:224<=S:=by clear b0 b1 b2 b3 b4 b6 b7;omega
 have c4:240<=S:=by clear b0 b1 b2 b3 b5 b6 b7;omega
 have c3:248<=S:=by clear b0 b1 b2 b4 b5 b6 b7;omega
 have c2:252<=S:=by clear b0 b1 b3 b4 b5 b6 b7;omega
 have c1:254<=S:=by clear b0 b2 b3 b4 b5 b6 b7;omega
 have c0:255<=S:=by clear b1 b2 b3 b4 b5 b6 b7;omega
 clear b0 b1 b2 b3 b4 b5 b6 b7;omega
theorem aCb:∀ i,i < 8->mE 0 i=false:=by intro i hi;unfold mE;rw[Int.zero_ediv];rfl
theorem aCc:∀ i,i < 8->mE 255 i=true:=by
 intro i hi;have h:i=0\/i=1\/i=2\/i=3\/i=4\/i=5\/i=6\/i=7:=by omega
 rcases h with rfl | rfl | rfl | rfl | rfl | rfl | rfl | rfl<;>rfl
theorem aF7{u:Int}(h:1<=u/\u<=65535):u≠kW u:=by unfold kW;omega
def Sm:HC:=sB (sB (sB (sB (sB (sB (sB (sB (sB (sB h8c)))))))))
set_option maxHeartbeats 4000000 in
theorem aF8(a b:List Int)(ha:a.length=512)(hb:b.length=512)(S:Int)(hS:0<=S/\S < 256)(c9 d8:List DC){st:AS}
  (h0:st=⟨(jk 7 (sv a::jk 2 (sv b::jk 1 (vi S::sv []::vi (0:Nat)::jk 100 [])))),[.box (jB c9),.box (jB d8)]⟩) (d:bZ × Int × Int) (q:EV G (Tb (jH G bb)) 40 [sv (qT a b (mE S) 8)] []=some (dcv d,[]))
  (hd:S=0\/S=255->d.2.2=0) (hd2:¬ (S=0\/S=255)->d.2.2=31):
  oO false [.tmp 6] 0 (T9 (EV G (Tb (jH G bb))) G Sm (rQ 0 (EL (EV G (Tb (jH G bb))) G h8l0 [7,2,1,0,0] 2 st)))=some (vb true,[]):=by
 have q8:=Sk (G:=G) (bb:=bb);rw[bG (fun k=>⟨(jk 7 (sv a::jk 2 (sv b::jk 1 (vi S::sv (qT a b (mE S) k)::vi k::jk 100 [])))),[.box (jB c9),.box (jB d8)]⟩) 8 ?_ ?_]
 ·obtain⟨o,w,e⟩:=d;dsimp only at hd hd2 q;generalize qT a b (mE S) 8=M at *;by_cases c0:S=0
  ·have he:=hd (.inl c0);subst he;simp (disch:=omega) only[go_sem,Sm,sB,h8c,h8l0,q,eq_true c0,aQy,aQv]
  ·by_cases c1:S=255
   ·have he:=hd (.inr c1);subst he;simp (disch:=omega) only[go_sem,Sm,sB,h8c,h8l0,q,q8,c0,eq_true c1,Int.reduceSub,aQy,aQv]
   ·have he:=hd2 (by rintro (h | h)<;>contradiction)
    subst he;simp (disch:=omega) only[go_sem,Sm,sB,h8c,h8l0,q,q8,c0,c1,Int.reduceSub,aQy,aQv]
 ·rw[h0];rfl
 ·intro k hk;have qp:=aJ3 (G:=G) (bb:=bb) k hk;have hp:0 < L9 k:=aF6 k;have hp':¬ L9 k=0:=by omega
  have eD:S.tdiv (L9 k)=S / L9 k:=Int.tdiv_eq_ediv_of_nonneg hS.1;have b1:0<=S / L9 k:=Int.ediv_nonneg hS.1 (by omega);have b2:S / L9 k<=S:=Int.ediv_le_self _ hS.1;have eT:(S / L9 k).tmod 2=S / L9 k % 2:=aRJ b1;have hB:mE S k=decide (S / L9 k % 2=1):=rfl;have hM:qT a b (mE S) (k+1)=qT a b (mE S) k++((if mE S k then b else a).drop (64 * k)).take 64:=rfl
  rw[hM,hB];have hml:=nQ (f:=mE S) ha hb k (by omega);generalize qT a b (mE S) k=M at *;generalize S / L9 k=D at *;generalize L9 k=P at *;have e1:((k:Int) * 64).toNat=64 * k:=by omega
  have e2:(((k:Int)+1) * 64).toNat=64 * k+64:=by omega
  have ea:(a.take (64 * k+64)).drop (64 * k)=(a.drop (64 * k)).take 64:=Hz a (64 * k) 64;have eb:(b.take (64 * k+64)).drop (64 * k)=(b.drop (64 * k)).take 64:=Hz b (64 * k) 64;have la:((a.drop (64 * k)).take 64).length=64:=by rw[aQj,aQr];omega
  have lb:((b.drop (64 * k)).take 64).length=64:=by rw[aQj,aQr];omega
  by_cases c:D % 2=1
  ·rw[decide_eq_true c,if_pos rfl];generalize (b.drop (64 * k)).take 64=Y at *;simp (disch:=first | omega | (simp only[aQc,aQd,aQe,aQb,aA,aQk,aQj,aQr,aL,bD]<;>omega) | fail) only[go_sem,h8l0,qp,hp',eD,eT,eq_true c,e1,e2,eb,ha,hb]
  ·rw[decide_eq_false c,if_neg (by decide)];generalize (a.drop (64 * k)).take 64=Y at *;simp (disch:=first | omega | (simp only[aQc,aQd,aQe,aQb,aA,aQk,aQj,aQr,aL,bD]<;>omega) | fail) only[go_sem,h8l0,qp,hp',eD,eT,c,e1,e2,ea,ha,hb]
theorem Sn{r:bZ}(h:dG r=0){u:Int}(hu:1<=u/\u<=65535):eP (iO r u)/\dU (iO r u)=u:=by
 have hla:=wN (kX h);have hl:=qH r (68+((fF r).length:Int)) (fF r) (by omega);have:=C0 (n:=u) hl (fun j a c=>Rv _ _ _ j a c) hu
 unfold iO;exact⟨this.2.1,this.2.2⟩
theorem aCd{s:List Int}(hs:s.length=512)(h:¬ eP s):(fG s).2.2=31:=by
 unfold fG;rw[if_neg (not_not_intro hs),if_pos h]
theorem aF9{a b:List Int}(ha:a.length=512)(hb:b.length=512)(haB:aM a)(hbB:aM b)(ea:eP a)(eb:eP b)(hu:dU a≠dU b)(da:(fG a).2.2=0)(db:(fG b).2.2=0){S:Int}(hS:0<=S/\S < 256):
  (S=0\/S=255->(fG (qT a b (mE S) 8)).2.2=0)/\(¬ (S=0\/S=255)->(fG (qT a b (mE S) 8)).2.2=31):=by
 refine⟨?_,fun h=>?_⟩
 ·rintro (h | h)
  ·subst h;have e:qT a b (mE 0) 8=a:=L5 ha hb false aCb;rw[e];exact da
  ·subst h;have e:qT a b (mE 255) 8=b:=L5 ha hb true aCc;rw[e];exact db
 ·have hex:∃ i,i < 8/\mE S i≠mE S 0:=by
   refine Classical.byContradiction fun hc=>h ?_
   have hall:∀ i,i < 8->mE S i=mE S 0:=fun i hi=>Classical.byContradiction fun hb=>hc ⟨i,hi,hb⟩
   cases h0:mE S 0 with
   | false=>exact .inl (aJ4 hS fun i hi=>(hall i hi).trans h0)
   | true=>exact .inr (aJ5 hS fun i hi=>(hall i hi).trans h0)
  obtain⟨i,hi,hb'⟩:=hex;exact aCd (nQ ha hb 8 (aQf _)) (V3 ha hb haB hbB ea eb hu hi hb')
theorem aJ6{s:List Int}{r:bZ}{n:Int}(h:(rwV s r n).2=0):dG r=0/\(0<=n/\n<=2147483647)/\(fG s).2.2=0/\rwV s r n=(iO (iZ r n) (kW (fG s).2.1),0):=by
 rw[aGT] at h ⊢;split at h
 ·rename_i c;exact absurd h c
 ·rename_i c1;split at h
  ·rename_i c;exact absurd h c
  ·rename_i c2;split at h
   ·exact absurd h (show ¬ (2:Int)=0 by decide)
   ·rename_i c3;split at h
    ·exact absurd h (show ¬ (9:Int)=0 by decide)
    ·rename_i c4;split at h
     ·exact absurd h (show ¬ (13:Int)=0 by decide)
     ·rename_i c5;rw[if_neg c1,if_neg c2,if_neg c3,if_neg c4,if_neg c5];exact⟨Classical.not_not.1 c2,Classical.not_not.1 c3,Classical.not_not.1 c1,rfl⟩
set_option maxHeartbeats 8000000 in
theorem aGa(hG:G9 G)(x:bZ)(hx:∀ a∈x.ats,aM a.nm/\aM a.va)(hxl:x.ats.length<=9223372036854775807)(u:Int)(r:bZ)(hB:∀ a∈r.ats,aM a.nm/\aM a.va)(hl:r.ats.length<=9223372036854775807)(kept:Int):
  EV G (Tb (jH G true)) 8 [x.u u,r.v,vi kept] []=some (vb true,[]):=by
 have qw:=aB9 (G:=G);have q0:=mC (Ou (G:=G) (bb:=true) x hxl);have q1:=mC (Ou (G:=G) (bb:=true) r hl);have q8:=mC (mZ (G:=G) (bb:=true) u 1 65535);simp only[bZ.u,bZ.c,bZ.v,aQy,aQv] at q0 q1 ⊢;cases c0:Ot x with
 | false=>
  rw[c0] at q0;refine aB rfl ?_;simp (disch:=omega) only[go_sem,h8c,qw,q0]
 | true=>
  rw[c0] at q0;cases c1:Ot r with
  | false=>
   rw[c1] at q1;refine aB rfl ?_;simp (disch:=omega) only[go_sem,h8c,qw,q0,q1]
  | true=>
   rw[c1] at q1;have hWx:=Ov c0 hx;have hW:=Ov c1 hB;have q2:=mC (Hu (G:=G) (bb:=true) x hWx);by_cases b1:dG x=0
   ·by_cases b2:1<=u/\u<=65535
    ·obtain⟨d1,d2,d3⟩:=C5 hWx b1 b2;have q3:=mC (Sh (G:=G) (bb:=true) x hWx b1 u (by omega));have q4:=Sj (G:=G) (bb:=true) (iO x u) d3 (by omega) r hW x.ls;have q5:=Si (G:=G) (bb:=true) hG (iO x u) d3 (by omega) r hW x.ls;have q6:=mC (xX (G:=G) (bb:=true) r hW);rw[b1] at q2;rw[decide_eq_true b2] at q8;by_cases c2:(rwV (iO x u) r x.ls).2=0
     ·obtain⟨g1,g2,g3,g4⟩:=aJ6 c2;rw[d1] at g4;dsimp only at g4;have hr2:=H1 g1 g2;obtain⟨f1,f2,f3⟩:=C5 (r:=iZ r x.ls) ⟨hW.at',hW.ln⟩ hr2 (Am u);rw[g4] at q4 q5;have hSx:0<=kept % 256/\kept % 256 < 256:=by omega
      have qm:=mC (up (Kh (G:=G) (B:=bs true) kept 256 (by omega)));have qp:=Sk (G:=G) (bb:=true);have hMB:=Sl (f:=mE (kept % 256)) d3 f3 8;have hML:=nQ (f:=mE (kept % 256)) d2 f2 8 (by omega);have qd:=L4 (G:=G) (bb:=true) hG _ hMB (by omega);have he1:=Sn b1 b2;have he2:=Sn hr2 (Am u);obtain⟨hok,hno⟩:=aF9 d2 f2 d3 f3 he1.1 he2.1 (by rw[he1.2,he2.2];exact aF7 b2) (by rw[d1]) (by rw[f1]) hSx;have key:=aF8 (G:=G) (bb:=true) (iO x u) (iO (iZ r x.ls) (kW u)) d2 f2 (kept % 256) hSx [ci x.sq,ci x.li,ci x.fl,ci x.br,ci x.bq,ci x.nx,ci x.ls,.slc (x.ats.map aE.e),ci u] [ci r.sq,ci r.li,ci r.fl,ci r.br,ci r.bq,ci r.nx,ci r.ls,.slc (r.ats.map aE.e)] rfl _ qd hok hno;clear hok hno he1 he2 hMB hML qd g4 f1 d1;generalize iO (iZ r x.ls) (kW u)=Y at *;generalize iO x u=X at *;generalize kept % 256=S at *;simp only[bZ.v,bZ.c] at q2 q3 q4 q5 q6;refine aB rfl ?_;simp (maxSteps:=2000000) (disch:=omega) only[go_sem,h8c,qw,q0,q1,q2,q8,q3,q4,q5,q6,qm,qp,aL,f2,aQy,aQv];exact key
     ·generalize iO x u=X at *;generalize rwV X r x.ls=y at *;obtain⟨y1,y2⟩:=y;dsimp only at c2;simp only[bZ.v,bZ.c] at q2 q3 q4;refine aB rfl ?_;simp (maxSteps:=2000000) (disch:=omega) only[go_sem,h8c,qw,q0,q1,q2,q8,q3,q4,c2,aQy,aQv]
    ·rw[b1] at q2;rw[decide_eq_false b2] at q8;simp only[bZ.v,bZ.c] at q2;refine aB rfl ?_;simp (maxSteps:=2000000) (disch:=omega) only[go_sem,h8c,qw,q0,q1,q2,q8]
   ·generalize dG x=d at *;simp only[bZ.v,bZ.c] at q2;refine aB rfl ?_;simp (maxSteps:=2000000) (disch:=omega) only[go_sem,h8c,qw,q0,q1,q2,b1]
end Go.Proofs.YtcplecjhmnblpaaGreatDoor
