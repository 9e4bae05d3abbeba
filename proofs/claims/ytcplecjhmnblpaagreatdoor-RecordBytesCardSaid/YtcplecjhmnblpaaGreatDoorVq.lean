/- Runs of bytes, by the program. Conditions: none. -/
import Derived.Test.YtcplecjhmnblpaaGreatDoorUw
import Derived.Test.YtcplecjhmnblpaaGreatDoorTf
import Derived.Test.YtcplecjhmnblpaaGreatDoorVi
namespace Go.Proofs.YtcplecjhmnblpaaGreatDoor
set_option linter.unusedSimpArgs false
set_option linter.unusedVariables false
set_option maxRecDepth 4000
section
variable {G:aH} {bb:Bool}
theorem aA8(a:aE)(hl:a.rs.length<=1000000):EV G (Tb (bs bb)) 133 [a.v] []=some (a.v,[]):=by
  refine aB rfl ?_;have q:=Q9 (G:=G) (bb:=bb) a.rs hl;simp (disch:=omega) only[go_sem,h133c,q,aE.v,aQb]
abbrev lev(l:List aE)(e:Int):AV:=.tup [.one (.dc (.slc (l.map aE.e))),.one (.dc (ci e))]
theorem aA9(l:List aE)(hW:∀ a∈l,a.W)(hl:l.length<=1000):EV G (Tb (iM bb)) 75 [vl (l.map aE.e)] []=some (lev (if Kz l=0 then dL l else []) (Kz l),[]):=by
  refine aB rfl ?_;unfold Kz;by_cases c1:l.length > 32
  · rw[if_pos c1]
    have d2:32 < (l.length:Int):=by omega
    simp (disch:=omega) only[go_sem,h75c,aQb,eq_true d2];rfl
  rw[if_neg c1];have d2:¬ 32 < (l.length:Int):=by omega
  simp (disch:=omega) only[go_sem,h75c,aQb,d2];rw[gA (fun k=>⟨(vl (l.map aE.e)::jk 3 (.one (.bld 0 ((l.take k).map aE.e).length)::jk 6 (vl (l.map aE.e)::vi l.length::vi k::jk 19 []))),[.arr 0 11 ((l.take k).map aE.e)]⟩) (fun k=>jO l k≠0) l.length ?_ ?_]
  rotate_left
  · rfl
  · intro k hk hn
    have hz:=Classical.not_not.1 (hn k (aQf _));have q:=up (wC (G:=G) (bb:=bb) l hW hl k hk);rw[hz] at q;have q1:=up (aA8 (G:=G) (bb:=bb) l[k] (by have:=(hW _ (aQm hk)).rl;omega));have hb:((l.take k).map aE.e).length<=1000:=by rw[aQb,aQj];omega
    have hall:=Ae (l.take k);rw[aAR l k hk];generalize (l.take k).map aE.e=C at hb hall ⊢;simp (disch:=omega) only[go_sem,h75l0,aQb,ixA,aE.e,q,q1,hall];rw[aQc];rfl
  obtain⟨hk,hp,hn⟩:=bW (fun k=>jO l k≠0) l.length
  generalize ix (fun k=>jO l k≠0) l.length=k at *
  rcases hp with rfl | ⟨hk',hz⟩
  · rw[if_neg (Nat.lt_irrefl _),if_pos rfl,aQR]
    have hs:(l.map aE.id).Nodup:=((sS l).1 (fun j hj=>Classical.not_not.1 (hn j hj))).2
    by_cases h0:l=[]
    · subst h0
      have q:=aFf (G:=G) (b:=bb);simp (disch:=omega) only[go_sem,h75l0,aQe,aQn,List.isEmpty_nil,q]
      first | done | rfl
    · have hpos:0 < l.length:=List.length_pos_iff.2 h0
      have q:=aFe (G:=G) (b:=bb) l hs hl hpos;have hE:(l.map aE.e).isEmpty=false:=by cases l with | nil=>exact absurd rfl h0 | cons _ _=>rfl
      have ha:=wE l;obtain⟨b1,b2,b3⟩:=aFc (s:=11) (n:=l.length) (es:=(dL l).map aE.e) (fun e he=>by obtain⟨a,_,rfl⟩:=List.mem_map.1 he;rfl) (by rw[aQb,ha])
      unfold lev;generalize (dL l).map aE.e=M at *;simp (disch:=omega) only[go_sem,h75l0,aQb,q,hE,b1,b2,b3,Gq,Nat.zero_mul,aQ9]
  · rw[if_pos hk',if_neg hz]
    have q:=up (wC (G:=G) (bb:=bb) l hW hl k hk');simp (disch:=omega) only[go_sem,h75l0,aQb,ixA,aE.e,q,hz];rfl
theorem aBa(l:List aE)(hW:∀ a∈l,a.W)(hl:l.length<=1000):EV G (Tb (bs bb)) 95 [vl (l.map aE.e),vl (l.map aE.e)] []=some (vb true,[]):=by
  refine aB rfl ?_;simp (disch:=omega) only[go_sem,h95c,aQb];rw[bG (fun k=>⟨(vl (l.map aE.e)::vl (l.map aE.e)::jk 3 (vi k::jk 21 [])),[]⟩) l.length ?_ ?_]
  · simp (disch:=omega) only[go_sem,h95l0,aQb]
  · rfl
  · intro k hk
    have hw:=hW _ (aQm hk);have q:=aE2 (G:=G) (bb:=bb) l[k] l[k] hw hw;rw[(Vc _ _).2 rfl] at q;simp (disch:=omega) only[go_sem,h95l0,aQb,ixA,aE.e,q]
end
section
variable {G:aH} {B:aW}
def tb3(a b c:Int):Nat->Int
  | 0=>a
  | 1=>b
  | _=>c
theorem Ri(a b c:Int):tb3 a b c 0=a:=rfl
theorem wF(a b c:Int):tb3 a b c 1=b:=rfl
theorem K4(a b c:Int):tb3 a b c 2=c:=rfl
abbrev bS(l:List Int):aC:=.box [.dc (.raw (.string (eG l)))]
def mB:List Int->Int
  | [x]=>if 128<=x then x - 256 else x
  | [x,y]=>if 32768<=y * 256+x then y * 256+x - 65536 else y * 256+x
  | _=>0
def cP(bs:List Int)(a:Nat):Int × Bool × List Int:=if bs.length < a then (0,false,bs) else (mB (bs.take a),decide (sz (mB (bs.take a))=a),bs.drop a)
def gU(last h:Int)(t:List Int):bI × Bool × List Int:=
  if (1<=h % 16/\h % 16<=2)/\h / 16<=2 then
    if (cP t (h % 16).toNat).2.1=false\/h / 16=0 then (⟨-1,(cP t (h % 16).toNat).1⟩,(cP t (h % 16).toNat).2.1,(cP t (h % 16).toNat).2.2)
    else (⟨last+(cP (cP t (h % 16).toNat).2.2 (h / 16).toNat).1,(cP t (h % 16).toNat).1⟩,(cP (cP t (h % 16).toNat).2.2 (h / 16).toNat).2.1&&!decide (last+(cP (cP t (h % 16).toNat).2.2 (h / 16).toNat).1=-1),(cP (cP t (h % 16).toNat).2.2 (h / 16).toNat).2.2)
  else (⟨0,0⟩,false,t)
theorem aBc(n b:Int)(hn:0<=n/\n<=255)(hb:0<=b/\b<=255):Wd .i64 (n * 256) b=n * 256+b:=by
  obtain⟨n,rfl⟩:=aRs hn.1;obtain⟨b,rfl⟩:=aRs hb.1;have h1:((n:Int) * 256)=((n * 256:Nat):Int):=by simp
  have h2:n * 256 ||| b=n * 256+b:=by
    have:=Nat.shiftLeft_add_eq_or_of_lt (show b < 2 ^ 8 by omega) n;rw[Nat.shiftLeft_eq] at this;exact this.symm
  rw[Wd,h1,Gy,BitVec.ofInt_natCast,BitVec.ofInt_natCast,BitVec.toNat_or,BitVec.toNat_ofNat,BitVec.toNat_ofNat,aRg (by omega),aRg (by omega),h2,yE (by omega)];simp
theorem aGK(h:Int)(hh:0<=h/\h<=255):Z2 .i64 h 15=h % 16:=by
  obtain⟨n,rfl⟩:=aRs hh.1;have h2:n &&& 15=n % 16:=Nat.and_two_pow_sub_one_eq_mod n 4;have h3:(15:Int)=((15:Nat):Int):=rfl;rw[Z2,h3,Gy,BitVec.ofInt_natCast,BitVec.ofInt_natCast,BitVec.toNat_and,BitVec.toNat_ofNat,BitVec.toNat_ofNat,aRg (by omega),aRg (by omega),h2,yE (by omega)];simp
theorem xQ(n:Int):n.fdiv 16=n / 16:=Int.fdiv_eq_ediv_of_nonneg _ (by decide)
theorem iN{x:Int}{l:List Int}(h:aM (x::l)):(0<=x/\x<=255)/\aM l:=⟨h x aQt,fun b hb=>h b (aQE _ hb)⟩
theorem Vh(bs:List Int)(hB:aM bs):EV G (Tb B) 259 [.one (.ptr 0 0),vi 1] [bS bs]=some (.tup [.one (.dc (ci (cP bs 1).1)),.one (bC (cP bs 1).2.1)],[bS (cP bs 1).2.2]):=by
  refine aB rfl ?_
  match bs,hB with
  | [],hB=>
      simp (disch:=first | omega | (simp only[aQc,aQd,aQe,aQb,aA];omega)) only[go_sem,h259c,cP,aL]
      rfl
  | x::t,hB=>
    obtain⟨hx,_⟩:=iN hB;have o1:=aBc 0 x (by omega) hx;rw[Int.zero_mul,Int.zero_add] at o1;simp (disch:=first | omega | (simp only[aQc,aQd,aQe,aQb,aA];omega)) only[go_sem,h259c,Int.reduceSub]
    rw[bG (fun k=>⟨(.one (.ptr 0 0)::vi 1::jk 4 (vi (tb3 0 x x k)::vi (tb3 0 (-1) (-1) k)::jk 44 [])),[bS (x::t)]⟩) 1 ?_ ?_]
    · have hv:cP (x::t) 1=(mB [x],decide (sz (mB [x])=1),t):=by rw[cP,if_neg (by simp)];rfl
      rw[hv];simp only[mB];by_cases c:128<=x
      · have s1:=pE (G:=G) (B:=B) (x - 256) (by omega)
        simp (disch:=first | omega | (simp only[aQc,aQd,aQe,aQb,aA];omega)) only[go_sem,h259l0,wF,Int.reduceMul,Int.reduceSub,Int.reduceToNat,Int.reducePow,Nat.reducePow,Int.reduceNeg,c,s1,bC]
      · have s1:=pE (G:=G) (B:=B) x (by omega)
        simp (disch:=first | omega | (simp only[aQc,aQd,aQe,aQb,aA];omega)) only[go_sem,h259l0,wF,Int.reduceMul,Int.reduceSub,Int.reduceToNat,Int.reducePow,Nat.reducePow,Int.reduceNeg,c,s1,bC]
    · rfl
    · intro k hk
      have hk0:k=0:=by omega
      subst hk0;simp (disch:=first | omega | (simp only[aQc,aQd,aQe,aQb,aA];omega)) only[go_sem,h259l0,Ri,wF,Int.reduceMul,Int.reduceSub,Int.reduceToNat,Int.reducePow,Nat.reducePow,Int.reduceNeg,o1,Int.zero_mul]
theorem Vi(bs:List Int)(hB:aM bs):EV G (Tb B) 259 [.one (.ptr 0 0),vi 2] [bS bs]=some (.tup [.one (.dc (ci (cP bs 2).1)),.one (bC (cP bs 2).2.1)],[bS (cP bs 2).2.2]):=by
  refine aB rfl ?_
  match bs,hB with
  | [],hB=>
      simp (disch:=first | omega | (simp only[aQc,aQd,aQe,aQb,aA];omega)) only[go_sem,h259c,cP,aL]
      rfl
  | [x],hB=>
      simp (disch:=first | omega | (simp only[aQc,aQd,aQe,aQb,aA];omega)) only[go_sem,h259c,cP,aL]
      rfl
  | x::y::t,hB=>
    obtain⟨hx,hB'⟩:=iN hB;obtain⟨hy,_⟩:=iN hB';have o1:=aBc 0 y (by omega) hy;have o2:=aBc y x hy hx;rw[Int.zero_mul,Int.zero_add] at o1;simp (disch:=first | omega | (simp only[aQc,aQd,aQe,aQb,aA];omega)) only[go_sem,h259c,Int.reduceSub]
    rw[bG (fun k=>⟨(.one (.ptr 0 0)::vi 2::jk 4 (vi (tb3 0 y (y * 256+x) k)::vi (tb3 1 0 (-1) k)::jk 44 [])),[bS (x::y::t)]⟩) 2 ?_ ?_]
    · have hv:cP (x::y::t) 2=(mB [x,y],decide (sz (mB [x,y])=2),t):=by rw[cP,if_neg (by simp)];rfl
      rw[hv];simp only[mB];by_cases c:32768<=y * 256+x
      · have s1:=pE (G:=G) (B:=B) (y * 256+x - 65536) (by omega)
        simp (disch:=first | omega | (simp only[aQc,aQd,aQe,aQb,aA];omega)) only[go_sem,h259l0,K4,Int.reduceMul,Int.reduceSub,Int.reduceToNat,Int.reducePow,Nat.reducePow,Int.reduceNeg,c,s1,bC]
      · have s1:=pE (G:=G) (B:=B) (y * 256+x) (by omega)
        simp (disch:=first | omega | (simp only[aQc,aQd,aQe,aQb,aA];omega)) only[go_sem,h259l0,K4,Int.reduceMul,Int.reduceSub,Int.reduceToNat,Int.reducePow,Nat.reducePow,Int.reduceNeg,c,s1,bC]
    · rfl
    · intro k hk
      rcases (show k=0\/k=1 by omega) with rfl | rfl
      · simp (disch:=first | omega | (simp only[aQc,aQd,aQe,aQb,aA];omega)) only[go_sem,h259l0,Ri,wF,Int.reduceMul,Int.reduceSub,Int.reduceToNat,Int.reducePow,Nat.reducePow,Int.reduceNeg,o1,Int.zero_mul]
      · simp (disch:=first | omega | (simp only[aQc,aQd,aQe,aQb,aA];omega)) only[go_sem,h259l0,wF,K4,Int.reduceMul,Int.reduceSub,Int.reduceToNat,Int.reducePow,Nat.reducePow,Int.reduceNeg,o2,Int.zero_mul]
theorem K5(bs:List Int)(hB:aM bs)(a:Int)(ha:1<=a/\a<=2):EV G (Tb B) 259 [.one (.ptr 0 0),vi a] [bS bs]=some (.tup [.one (.dc (ci (cP bs a.toNat).1)),.one (bC (cP bs a.toNat).2.1)],[bS (cP bs a.toNat).2.2]):=by
  rcases (show a=1\/a=2 by omega) with rfl | rfl
  · exact Vh bs hB
  · exact Vi bs hB
theorem wG{l m:List Int}(h:aM l)(hs:∀ x∈m,x∈l):aM m:=fun b hb=>h b (hs b hb)
theorem pN{bs:List Int}(h:aM bs)(a:Nat):aM (cP bs a).2.2:=by
  unfold cP;split
  · exact h
  · exact wG h (fun x hx=>aQS hx)
theorem wH{bs:List Int}(h:aM bs)(a:Nat):-32768<=(cP bs a).1/\(cP bs a).1<=32767:=by
  unfold cP;split
  · simp
  · have h2:aM (bs.take a):=wG h (fun x hx=>aQO hx)
    simp only;generalize bs.take a=m at h2
    match m,h2 with
    | [],_=>simp[mB]
    | [x],h2=>have:=h2 x (by simp);simp only[mB];split<;>omega
    | [x,y],h2=>have:=h2 x (by simp);have:=h2 y (by simp);simp only[mB];split<;>omega
    | x::y::z::w,_=>simp[mB]
theorem Cp(bs:List Int)(a:Nat):(cP bs a).2.2.length<=bs.length:=by
  unfold cP;split
  · exact aQf _
  · simp
set_option maxHeartbeats 1000000 in
theorem aGL(last h:Int)(t:List Int)(hB:aM (h::t))(hl:-1000000000<=last/\last<=1000000000):EV G (Tb B) 231 [.one (.ptr 0 0),vi last] [bS (h::t)]=
    some (.tup [.agg [.dc (ci (gU last h t).1.s),.dc (ci (gU last h t).1.n)],.one (bC (gU last h t).2.1)],[bS (gU last h t).2.2]):=by
  refine aB rfl ?_;obtain⟨hh,hB'⟩:=iN hB;have ha:=aGK h hh;unfold gU;by_cases c1:1<=h % 16/\h % 16<=2
  · by_cases c2:h / 16<=2
    · rw[if_pos ⟨c1,c2⟩]
      have s1:=K5 (G:=G) (B:=B) t hB' (h % 16) c1;have k1:=wH hB' (h % 16).toNat;have b1:=pN hB' (h % 16).toNat;generalize cP t (h % 16).toNat=N1 at s1 k1 b1 ⊢;obtain⟨n1,ok1,t1⟩:=N1;simp only at s1 k1 b1 ⊢;by_cases c3:h / 16=0
      · rw[if_pos (Or.inr c3)]
        cases ok1
        all_goals simp (disch:=first | omega | (simp only[aQc,aQd,aQe,aQb,aA];omega)) only[go_sem,h231c,Int.reduceToNat,Int.reducePow,ha,xQ,c1,c2,c3,iX,s1,bC]
      · cases ok1
        · rw[if_pos (Or.inl rfl)]
          simp (disch:=first | omega | (simp only[aQc,aQd,aQe,aQb,aA];omega)) only[go_sem,h231c,Int.reduceToNat,Int.reducePow,ha,xQ,c1,c2,c3,iX,s1,bC]
        · rw[if_neg (by simp[c3])]
          have s2:=K5 (G:=G) (B:=B) t1 b1 (h / 16) (by omega);have k2:=wH b1 (h / 16).toNat;generalize cP t1 (h / 16).toNat=N2 at s2 k2 ⊢;obtain⟨n2,ok2,t2⟩:=N2;simp only at s2 k2 ⊢;cases ok2
          all_goals simp (disch:=first | omega | (simp only[aQc,aQd,aQe,aQb,aA];omega)) only[go_sem,h231c,Int.reduceToNat,Int.reducePow,ha,xQ,c1,c2,c3,iX,s1,s2,bC,iY]
    · rw[if_neg (by omega)]
      simp (disch:=first | omega | (simp only[aQc,aQd,aQe,aQb,aA];omega)) only[go_sem,h231c,Int.reduceToNat,Int.reducePow,ha,xQ,c1,c2,iX,bC]
  · rw[if_neg (by omega)]
    simp (disch:=first | omega | (simp only[aQc,aQd,aQe,aQb,aA];omega)) only[go_sem,h231c,Int.reduceToNat,Int.reducePow,ha,xQ,c1,iX,bC]
structure DS where
  bs:List Int
  last:Int
  out:List bI
def fM(z:DS):Option DS:=
  match z.bs with
  | []=>none
  | h::t=>if h=0 then none else if (gU z.last h t).2.1=true then some ⟨(gU z.last h t).2.2,if (gU z.last h t).1.s=-1 then z.last else (gU z.last h t).1.s,z.out++[(gU z.last h t).1]⟩ else none
def dK(s:List Int):Nat->DS
  | 0=>⟨s,0,[]⟩
  | k+1=>(fM (dK s k)).getD (dK s k)
noncomputable def uD(s:List Int):Nat:=ix (fun k=>fM (dK s k)=none) (s.length+1)
def tE(bs:List Int):Int:=match bs with
  | []=>3
  | h::t=>if h=0/\t=[] then 0 else 3
def nS(z:DS):List bI × Int:=if tE z.bs≠0 then ([],3) else if (mU z.out).2≠0 then ([],(mU z.out).2) else (z.out,0)
noncomputable def lY(s:List Int):List bI × Int:=if (s.length:Int) > 400 then ([],8) else nS (dK s (uD s))
theorem aBd(last h:Int)(t:List Int):(gU last h t).2.2.length<=t.length:=by
  unfold gU;split
  · split
    · exact Cp _ _
    · exact Nat.le_trans (Cp _ _) (Cp _ _)
  · exact aQf _
theorem Vj(last h:Int){t:List Int}(hB:aM t):aM (gU last h t).2.2:=by
  unfold gU;split
  · split
    · exact pN hB _
    · exact pN (pN hB _) _
  · exact hB
theorem aFg(last h:Int){t:List Int}(hB:aM t):(gU last h t).1.s=-1\/(gU last h t).1.s=0\/(last - 32768<=(gU last h t).1.s/\(gU last h t).1.s<=last+32767):=by
  unfold gU;split
  · split
    · exact .inl rfl
    · have:=wH (pN hB (h % 16).toNat) (h / 16).toNat
      exact .inr (.inr ⟨by simp only;omega,by simp only;omega⟩)
  · exact .inr (.inl rfl)
theorem K6(s:List Int)(hB:aM s):∀ k,(∀ j,j < k->¬ fM (dK s j)=none)->(dK s k).bs.length+k<=s.length/\(dK s k).out.length=k/\(-40000 * (k:Int)<=(dK s k).last/\(dK s k).last<=40000 * k)/\aM (dK s k).bs:=by
  intro k
  induction k with
  | zero=>intro _;exact⟨by simp[dK],rfl,by simp[dK],hB⟩
  | succ k ih=>
    intro h;obtain⟨h1,h2,h3,h4⟩:=ih (fun j hj=>h j (by omega))
    have h5:=h k (by omega);simp only[dK];generalize dK s k=z at h1 h2 h3 h4 h5 ⊢;obtain⟨bs,last,out⟩:=z;simp only at h1 h2 h3 h4 h5;cases bs with
    | nil=>exact absurd rfl h5
    | cons h t=>
      obtain⟨hh,ht⟩:=iN h4;have l1:=aBd last h t;have l2:=Vj last h ht;have l3:=aFg last h ht;simp only[fM] at h5 ⊢;split
      · rename_i c;rw[if_pos c] at h5;exact absurd rfl h5
      · rename_i c
        rw[if_neg c] at h5;split
        · simp only[aQP,aQc,aQd,aQe] at h1 ⊢
          refine⟨by omega,by omega, ?_,l2⟩;split<;>omega
        · rename_i c';rw[if_neg c'] at h5;exact absurd rfl h5
theorem E7(s:List Int)(hB:aM s):uD s<=s.length/\fM (dK s (uD s))=none/\∀ j,j < uD s->¬ fM (dK s j)=none:=by
  obtain⟨h1,h2,h3⟩:=bW (fun k=>fM (dK s k)=none) (s.length+1)
  have h4:=(K6 s hB (uD s) h3).1;refine⟨by omega, ?_,h3⟩;rcases h2 with h2 | h2
  · exact absurd h4 (by unfold uD;omega)
  · exact h2.2
theorem K7(h:Int)(t:List Int):(eG (h::t)=eG [])=False:=by
  apply eq_false;intro e;have:=congrArg ByteArray.size e;simp[aL] at this
attribute [go_sem] K7
set_option maxHeartbeats 1000000 in
theorem aBe(s:List Int)(hB:aM s):EV G (Tb B) 188 [sv s] []=some (.tup [.one (.dc (.slc ((lY s).1.map bI.e))),.one (.dc (ci (lY s).2))],[]):=by
  refine aB rfl ?_;unfold lY;by_cases c0:(s.length:Int) > 400
  · rw[if_pos c0]
    simp (disch:=first | omega | (simp only[aQc,aQd,aQe,aQb,aA];omega)) only[go_sem,h188c,aQn]
  · rw[if_neg c0]
    simp (disch:=first | omega | (simp only[aQc,aQd,aQe,aQb,aA];omega)) only[go_sem,h188c]
    rw[gA (fun k=>⟨(jk 1 (.one (.ptr 0 0)::jk 2 (.one (.bld 1 (dK s k).out.length)::vi (dK s k).last::jk 39 []))),[bS (dK s k).bs,.arr 0 2 ((dK s k).out.map bI.e)]⟩) (fun k=>fM (dK s k)=none) (s.length+1) ?_ ?_]
    · obtain⟨e1,e2,e3⟩:=E7 s hB
      obtain⟨g1,g2,g3,g4⟩:=K6 s hB _ e3;rw[show ix (fun k=>fM (dK s k)=none) (s.length+1)=uD s from rfl]
      generalize dK s (uD s)=z at *;obtain⟨bs,last,out⟩:=z;simp only at e2 g1 g2 g3 g4 ⊢;cases bs with
      | nil=>
        rw[show nS ⟨[],last,out⟩=([],3) from rfl]
        simp (disch:=first | omega | (simp only[aQc,aQd,aQe,aQb,aA];omega)) only[go_sem,h188l0,aF,aQn]
      | cons h t=>
        obtain⟨hh,ht⟩:=iN g4;by_cases c:h=0
        · subst c
          match t with
          | []=>
            have hl:=Ke out;by_cases c2:(mU out).2=0
            · rw[c2] at hl
              rw[show nS ⟨[0],last,out⟩=(out,0) by simp[nS,tE,c2]];simp (disch:=first | omega | (simp only[aQc,aQd,aQe,aQb,aA];omega)) only[go_sem,h188l0,aF,zY,hl,iE]
            · rw[show nS ⟨[0],last,out⟩=([],(mU out).2) by simp[nS,tE,c2]]
              simp (disch:=first | omega | (simp only[aQc,aQd,aQe,aQb,aA];omega)) only[go_sem,h188l0,aF,zY,hl,c2,iE,aQn]
          | x::t=>
            rw[show nS ⟨0::x::t,last,out⟩=([],3) by simp[nS,tE]];simp (disch:=first | omega | (simp only[aQc,aQd,aQe,aQb,aA];omega)) only[go_sem,h188l0,aF,aQn]
        · have r1:=aGL (G:=G) (B:=B) last h t g4 (by omega)
          simp only[fM,if_neg c] at e2;rw[show nS ⟨h::t,last,out⟩=([],3) by simp[nS,tE,c]];generalize gU last h t=r at r1 e2;obtain⟨r,ok,rest⟩:=r;cases ok
          · simp only at r1
            simp (disch:=first | omega | (simp only[aQc,aQd,aQe,aQb,aA];omega)) only[go_sem,h188l0,aF,aQn,r1,c,bC]
          · simp at e2
    · rfl
    · intro k hk hn
      obtain⟨g1,g2,g3,g4⟩:=K6 s hB k (fun j hj=>hn j (by omega))
      have e2:=hn k (aQf _);rw[show dK s (k+1)=(fM (dK s k)).getD (dK s k) from rfl]
      generalize dK s k=z at *;obtain⟨bs,last,out⟩:=z;simp only at e2 g1 g2 g3 g4 ⊢;cases bs with
      | nil=>exact absurd rfl e2
      | cons h t=>
        obtain⟨hh,ht⟩:=iN g4;by_cases c:h=0
        · simp[fM,c] at e2
        · have r1:=aGL (G:=G) (B:=B) last h t g4 (by omega)
          simp only[fM,if_neg c] at e2 ⊢;generalize gU last h t=r at r1 e2;obtain⟨⟨rs,rn⟩,ok,rest⟩:=r;cases ok
          · simp at e2
          · simp only at r1
            by_cases c2:rs=-1
            · simp (disch:=first | omega | (simp only[aQc,aQd,aQe,aQb,aA];omega)) only[go_sem,h188l0,aF,r1,c,c2,bC,iY,aQP,vU,aQc]
            · simp (disch:=first | omega | (simp only[aQc,aQd,aQe,aQb,aA];omega)) only[go_sem,h188l0,aF,r1,c,c2,bC,iY,aQP,vU,aQc]
end
end Go.Proofs.YtcplecjhmnblpaaGreatDoor
