/- The reference's checks. Conditions: none. -/
import Derived.Test.YthepfneloomngaaGreatDoorTa
import Derived.Test.YthepfneloomngaaGreatDoorCb
namespace Go.Proofs.YthepfneloomngaaGreatDoor
set_option linter.unusedSimpArgs false
set_option linter.unusedVariables false
set_option maxRecDepth 4000
section
abbrev rn(s n:Int):AV:=.agg [.dc (ci s),.dc (ci n)]
structure bF where
 s:Int
 n:Int
def bF.e(r:bF):List DC:=[ci r.s,ci r.n]
abbrev bF.v(r:bF):AV:=rn r.s r.n
abbrev gF(l:List bF):AV:=vl (l.map bF.e)
def cD(l:List bF):Int:=(l.map bF.n).sum
theorem sY(l:List bF)(k:Nat)(hk:k < l.length):cD (l.take (k+1))=cD (l.take k)+l[k].n:=by
 rw[aXe hk];simp only[cD,aWW,List.sum_append,aWp,aWw,List.sum_cons,List.sum_nil,Int.add_zero]
theorem Sx(l:List bF)(hb:∀ r∈l,0<=r.n/\r.n<=5000):0<=cD l/\cD l<=5000 * l.length:=by
 induction l with
 | nil=>simp[cD]
 | cons r l ih=>
  have h1:=hb r aWy;have h2:=ih (fun r hr=>hb r (aWG _ hr))
  have e1:cD (r::l)=r.n+cD l:=by simp[cD]
  simp only[aWh];omega
def cJ(s n:Int):Int:=if s=-1 then (if 1<=n/\n<=4096 then 0 else 2) else if 0<=s/\s<=511 then (if 1<=n/\n<=512 - s then 0 else 2) else 2
def aQ:List Int->Int
 | []=>0
 | e::l=>if e=0 then aQ l else e
theorem C2(l:List Int)(k:Nat)(h:∀ j,j < k->l.getD j 0=0):aQ l=aQ (l.drop k):=by
 induction k generalizing l with
 | zero=>rfl
 | succ k ih=>
  cases l with
  | nil=>rfl
  | cons e l=>
   have h0:e=0:=by simpa using h 0 (by omega)
   subst h0;simp only[aQ,if_true,aXJ];exact ih l (fun j hj=>by simpa using h (j+1) (by omega))
def Gc(e:Int):List DC:=[ci e]
abbrev el(l:List Int):List (List DC):=l.map Gc
def nG(a b:bF):Bool:=(decide (a.s=-1)==decide (b.s=-1))&&(decide (a.s=-1)||decide (a.s+a.n=b.s))
def bC(b:Bool):aR:=cZ (.bool b)
abbrev bx(U:List Bool):aD:=.box (U.map bC)
def Dp(U:List Bool)(s:Nat):Nat->List Bool
 | 0=>U
 | k+1=>(Dp U s k).set (s+k) true
def uS(U:List Bool)(s k:Nat):Bool:=(List.range k).all fun j=>!(U.getD (s+j) false)
theorem Gd(U:List Bool)(s k:Nat):(Dp U s k).length=U.length:=by
 induction k with
 | zero=>rfl
 | succ k ih=>simp[Dp,ih]
theorem aDs(U:List Bool)(s k j:Nat)(h:s+k<=j):(Dp U s k)[j]?=U[j]?:=by
 induction k with
 | zero=>rfl
 | succ k ih=>
  simp only[Dp];rw[aWz (by omega)];exact ih (by omega)
theorem Ou(U:List Bool)(s k:Nat):uS U s (k+1)=(uS U s k&&!(U.getD (s+k) false)):=by
 simp[uS,List.range_succ]
theorem aDt(U:List Bool)(k:Nat)(b:Bool)(h:U[k]?=some b):((U.map bC).drop k).take 1=[bC b]:=by
 have hlt:k < U.length:=aG h;have hb:U[k]=b:=by rw[aWo hlt] at h;exact Option.some.inj h
 rw[<- aXt,aXo hlt,aWp,hb];rfl
theorem aIk(U:List Bool)(k:Nat)(b:Bool)(h:k < U.length):cO (U.map bC) k [bC b]=(U.set k b).map bC:=by
 unfold cO;apply aXH;intro i;simp only[aWM];rw[List.set_eq_take_append_cons_drop];simp[h]
theorem aKv(p:Nat->Bool)(U:List Bool):(U.map bC).map (cE p)=U.map bC:=by
 rw[aWE];congr 1
def bF.into(r:bF)(U:List Bool):List Bool:=if r.s=-1 then U else Dp U r.s.toNat r.n.toNat
def bF.fresh(r:bF)(U:List Bool):Bool:=if r.s=-1 then true else uS U r.s.toNat r.n.toNat
def U0:List Bool:=List.replicate 512 false
def nH(p:Option bF)(U:List Bool)(r:bF):Int:=if cJ r.s r.n≠0 then cJ r.s r.n else if (p.any fun q=>nG q r)=true then 3 else if r.fresh U then 0 else 23
def uT(all:List bF):List bF->Option bF->List Bool->Nat->Int × Int
 | [],_,_,_=>(0,if cD all<=4096 then 0 else 8)
 | r::rest,p,U,i=>if nH p U r≠0 then ((i:Int),nH p U r) else uT all rest (some r) (r.into U) (i+1)
def oQ(l:List bF):Int × Int:=if (l.length:Int) > 64 then (0,8) else uT l l none U0 0
theorem kB{r:bF}(h:cJ r.s r.n=0):(r.s=-1/\1<=r.n/\r.n<=4096)\/∃ s n:Nat,r.s=s/\r.n=n/\s+n<=512/\1<=n:=by
 unfold cJ at h;split at h
 ·rename_i h1;split at h
  ·rename_i h2;exact .inl ⟨h1,h2.1,h2.2⟩
  ·omega
 ·split at h
  ·rename_i h1 h2;split at h
   ·rename_i h3;exact .inr ⟨r.s.toNat,r.n.toNat,by omega,by omega,by omega,by omega⟩
   ·omega
  ·omega
theorem Ov(U:List Bool)(r:bF):(r.into U).length=U.length:=by
 unfold bF.into;split
 ·rfl
 ·exact Gd _ _ _
def Uk(l:List bF)(k:Nat):List Bool:=(l.take k).foldl (fun U r=>r.into U) U0
def Ad(l:List bF)(k:Nat):Option bF:=if k=0 then none else l[k - 1]?
theorem aDu(l:List bF)(k:Nat):(Uk l k).length=512:=by
 unfold Uk;have:∀ (l:List bF) (U:List Bool),(l.foldl (fun U r=>r.into U) U).length=U.length:=by
  intro l
  induction l with
  | nil=>intro U;rfl
  | cons r l ih=>intro U;rw[aXp,ih,Ov]
 rw[this];simp[U0]
theorem V8(l:List bF)(k:Nat)(h:k < l.length):Uk l (k+1)=l[k].into (Uk l k):=by
 unfold Uk;rw[aXe h,List.foldl_append];rfl
theorem V9{l:List bF}{p:Option bF}{U:List Bool}{k:Nat}(hk:k < l.length):uT l (l.drop k) p U k=if nH p U l[k]≠0 then ((k:Int),nH p U l[k]) else uT l (l.drop (k+1)) (some l[k]) (l[k].into U) (k+1):=by
 rw[aXo hk,uT]
theorem Ow{l:List bF}{k:Nat}(U:List Bool)(hk:k < l.length):nH (Ad l k) U l[k]=if cJ l[k].s l[k].n≠0 then cJ l[k].s l[k].n else if 0 < k/\nG (l[k-1]'(by omega)) l[k]=true then 3 else if l[k].fresh U=true then 0 else 23:=by
 unfold nH Ad;by_cases h0:k=0
 ·simp[h0]
 ·have h1:l[k-1]?=some (l[k-1]'(by omega)):=aWo (by omega);have h2:0 < k:=by omega
  simp only[h0,if_false,h1,Option.any_some,h2,true_and]
theorem aDv{r:bF}(h:cJ r.s r.n=0):-9223372036854775808<=r.s+r.n/\r.s+r.n<=9223372036854775807:=by
 rcases kB h with h | ⟨s,n,h⟩<;>omega
theorem aKw{r:bF}(h:cJ r.s r.n=0):0<=r.n/\r.n<=5000:=by
 rcases kB h with h | ⟨s,n,h⟩<;>omega
theorem aM2{l:List bF}(hrg:∀ (j:Nat) r,j < l.length->l[j]?=some r->cJ r.s r.n=0):∀ r∈l,cJ r.s r.n=0:=by
 intro r hr;obtain⟨j,hj⟩:=List.mem_iff_getElem?.1 hr;exact hrg j r (aG hj) hj
def Ae(L:List (List bF)):Int:=aQ (L.map fun l=>(oQ l).2)
def K7(a b:bF):Bool:=(a.s != -1)&&((b.s != -1)&&(decide (a.s < b.s+b.n)&&decide (b.s < a.s+a.n)))
theorem aIl{r:bF}(h:cJ r.s r.n=0):1<=r.n/\r.n<=4096/\-1<=r.s/\r.s<=511:=by
 rcases kB h with h | ⟨s,n,h⟩<;>omega
theorem aUu{l:List bF}{k:Nat}(hl:l.length<=1000)(hr:∀ r∈l,cJ r.s r.n=0):0<=cD (l.take k)/\cD (l.take k)<=5000000:=by
 have h:=Sx (l.take k) (fun r h=>aKw (hr r (aWF h)))
 have:(l.take k).length<=1000:=by simp;omega
 omega
theorem aDw(l:List bF):cD (l.take l.length)=cD l:=by rw[aWY]
instance:DecidableEq bF:=fun a b=>decidable_of_iff (a.s=b.s/\a.n=b.n) ⟨fun h=>by cases a;cases b;simp_all,fun h=>by subst h;exact⟨rfl,rfl⟩⟩
theorem Wa{all:List bF}:∀ {l:List bF} {p:Option bF} {U:List Bool} {i:Nat},(uT all l p U i).2=0->∀ r∈l,cJ r.s r.n=0
 | [],_,_,_,_,r,hr=>by cases hr
 | r0::l,p,U,i,h,r,hr=>by
  rw[uT] at h;split at h
  ·rename_i h1;exact absurd h h1
  ·rename_i h1;rcases aXn.1 hr with rfl | hr
   ·have h2:nH p U r=0:=by omega
    unfold nH at h2;split at h2
    ·exact h2
    ·rename_i h3;omega
   ·exact Wa h r hr
theorem K8{l:List bF}(h:(oQ l).2=0):∀ r∈l,cJ r.s r.n=0:=by
 unfold oQ at h;split at h
 ·cases h
 ·exact Wa h
theorem oR{l:List bF}(h:(oQ l).2=0):l.length<=64:=by
 unfold oQ at h;split at h
 ·cases h
 ·omega
def Dq(R:List bF)(r:bF):List bF:=
 match R.getLast? with
 | some q=>if nG q r then R.dropLast++[⟨q.s,q.n+r.n⟩] else R++[r]
 | none=>[r]
theorem aDx(r:bF):Dq [] r=[r]:=rfl
theorem Bw(R:List bF)(q r:bF):Dq (R++[q]) r=if nG q r then R++[⟨q.s,q.n+r.n⟩] else R++[q]++[r]:=by simp[Dq]
structure aRr (R:List bF):Prop where
 el:∀ q∈R,-1<=q.s/\q.s<=1000/\0<=q.n
 sum:cD R<=1000000000
 len:R.length<=1000000
theorem Af(a b:List bF):cD (a++b)=cD a+cD b:=by simp[cD]
theorem fW(R:List bF)(h:∀ q∈R,0<=q.n):0<=cD R:=by
 induction R with
 | nil=>simp[cD]
 | cons r l ih=>
  have h1:=h r aWy;have h2:=ih (fun r hr=>h r (aWG _ hr))
  have e1:cD (r::l)=r.n+cD l:=by simp[cD]
  omega
theorem aRr.last{R:List bF}{q:bF}(h:aRr (R++[q])):-1<=q.s/\q.s<=1000/\0<=q.n/\q.n<=1000000000:=by
 have h1:=h.el q (by simp);have h2:=h.sum;have h3:=fW R (fun q hq=>(h.el q (by simp[hq])).2.2)
 rw[Af] at h2;have h4:cD [q]=q.n:=by simp[cD]
 omega
theorem aDy(R:List bF)(r:bF):cD (Dq R r)=cD R+r.n:=by
 rcases List.eq_nil_or_concat R with rfl | ⟨R',q,rfl⟩
 ·simp[Dq,cD]
 ·rw[List.concat_eq_append,Bw];split
  ·simp[Af,cD];omega
  ·simp[Af,cD];omega
def Wb(U:List Bool)(l:List bF):List Bool:=l.foldl (fun U r=>r.into U) U
theorem aDz{R:List bF}{r:bF}(hr:-1<=r.s/\r.s<=1000/\0<=r.n)(h:∀ q∈R,-1<=q.s/\q.s<=1000/\0<=q.n):∀ q∈Dq R r,-1<=q.s/\q.s<=1000/\0<=q.n:=by
 rcases List.eq_nil_or_concat R with rfl | ⟨R',q,rfl⟩
 ·rw[aDx];simpa using hr
 ·rw[List.concat_eq_append] at *;rw[Bw];have hq:=h q (by simp);intro p hp;split at hp
  ·rcases aXy.1 hp with h1 | h1
   ·exact h p (by simp[h1])
   ·have:p=⟨q.s,q.n+r.n⟩:=by simpa using h1
    subst this;simp only;omega
  ·rcases aXy.1 hp with h1 | h1
   ·exact h p h1
   ·have:p=r:=by simpa using h1
    subst this;exact hr
theorem Ox(R:List bF)(r:bF):(Dq R r).length<=R.length+1:=by
 rcases List.eq_nil_or_concat R with rfl | ⟨R',q,rfl⟩
 ·simp[Dq]
 ·rw[List.concat_eq_append,Bw];split<;>simp
def bF.has(r:bF)(c:Nat):Bool:=decide (r.s≠-1/\r.s<=c/\(c:Int) < r.s+r.n)
theorem Z9(U:List Bool)(s n c:Nat)(h:s+n<=U.length):(Dp U s n).getD c false=(U.getD c false||decide (s<=c/\c < s+n)):=by
 induction n with
 | zero=>simp[Dp];omega
 | succ n ih=>
  have ih:=ih (by omega);simp only[Dp,aWn] at ih ⊢;by_cases hc:s+n=c
  ·subst hc;rw[aWI (by rw[Gd];omega)];simp
  ·rw[aWz hc,ih];congr 1;apply decide_eq_decide.2;omega
theorem aAa(U:List Bool)(r:bF)(hU:U.length=512)(h:cJ r.s r.n=0)(c:Nat):(r.into U).getD c false=(U.getD c false||r.has c):=by
 rcases kB h with⟨h1,_⟩ | ⟨s,n,h1,h2,h3,h4⟩
 ·simp[bF.into,bF.has,h1]
 ·have hne:¬ r.s=-1:=by omega
  have e1:r.s.toNat=s:=by omega
  have e2:r.n.toNat=n:=by omega
  rw[bF.into,if_neg hne,e1,e2,Z9 U s n c (by omega),bF.has];congr 1;apply decide_eq_decide.2;omega
theorem Ge(U:List Bool)(l:List bF)(hU:U.length=512)(h:∀ r∈l,cJ r.s r.n=0)(c:Nat):(Wb U l).getD c false=(U.getD c false||l.any fun r=>r.has c):=by
 induction l generalizing U with
 | nil=>simp[Wb]
 | cons r l ih=>
  show (Wb (r.into U) l).getD c false=_;rw[ih (r.into U) (by rw[Ov,hU]) (fun r hr=>h r (aWG _ hr)),aAa U r hU (h r aWy),List.any_cons,Bool.or_assoc]
theorem aDA:U0.length=512:=aWu
theorem Wc(c:Nat):U0.getD c false=false:=by
 simp only[U0,aWn,aXh];split<;>rfl
theorem Gf(q r:bF)(hq:cJ q.s q.n=0)(hr:cJ r.s r.n=0):K7 q r=true↔∃ c,q.has c=true/\r.has c=true:=by
 have h1:=aIl hq;have h2:=aIl hr;simp only[K7,bF.has,aWs,bne_iff_ne,decide_eq_true_eq,ne_eq];constructor
 ·rintro⟨a1,a2,a3,a4⟩;by_cases h:q.s<=r.s
  ·exact⟨r.s.toNat,by omega,by omega⟩
  ·exact⟨q.s.toNat,by omega,by omega⟩
 ·rintro⟨c,b1,b2⟩;omega
theorem aAb(U:List Bool)(r:bF)(h:cJ r.s r.n=0):r.fresh U=true↔∀ c,r.has c=true->U.getD c false=false:=by
 rcases kB h with⟨h1,_⟩ | ⟨s,n,h1,h2,h3,h4⟩
 ·simp[bF.fresh,bF.has,h1]
 ·have hne:¬ r.s=-1:=by omega
  have e1:r.s.toNat=s:=by omega
  have e2:r.n.toNat=n:=by omega
  rw[bF.fresh,if_neg hne,e1,e2,uS,List.all_eq_true];simp only[List.mem_range,aXg,bF.has,decide_eq_true_eq];constructor
  ·intro hh c hc;have:=hh (c - s) (by omega);rw[show s+(c - s)=c by omega] at this;exact this
  ·intro hh j hj;exact hh (s+j) (by omega)
theorem K9(l:List bF)(r:bF)(hl:∀ q∈l,cJ q.s q.n=0)(h:cJ r.s r.n=0):r.fresh (Wb U0 l)=!(l.any fun q=>K7 q r):=by
 rw[aXu,aAb _ _ h,aXg,aXE];constructor
 ·intro hh q hq hs;obtain⟨c,h1,h2⟩:=(Gf q r (hl q hq) h).1 hs;have h3:=hh c h2;rw[Ge U0 l aDA hl,Wc,aW4,aXE] at h3;exact h3 q hq h1
 ·intro hh c hc;rw[Ge U0 l aDA hl,Wc,aW4,aXE];intro q hq h1;exact hh q hq ((Gf q r (hl q hq) h).2 ⟨c,h1,hc⟩)
def jO(l:List bF):Int:=l.foldl (fun n r=>IntKind.i64.wrap (n+r.n)) 0
theorem Jh(l:List bF)(k:Nat)(h:k < l.length):jO (l.take (k+1))=IntKind.i64.wrap (jO (l.take k)+l[k].n):=by
 rw[aXe h,jO,List.foldl_append];rfl
theorem Eh(l:List bF)(h:∀ r∈l,0<=r.n)(hs:cD l<=1000000000000):jO l=cD l:=by
 have key:∀ (l:List bF) (n:Int),0<=n->(∀ r∈l,0<=r.n)->n+cD l<=1000000000000->l.foldl (fun n r=>IntKind.i64.wrap (n+r.n)) n=n+cD l:=by
  intro l
  induction l with
  | nil=>intro n _ _ _;simp[cD]
  | cons r l ih=>
   intro n hn h hs;have h1:=h r aWy;have e1:cD (r::l)=r.n+cD l:=by simp[cD]
   have h2:=fW l (fun r hr=>h r (aWG _ hr))
   rw[aXp,Bk (by omega),ih (n+r.n) (by omega) (fun r hr=>h r (aWG _ hr)) (by omega)]
   omega
 have:=key l 0 (by omega) h (by omega);simpa[jO] using this
def Oy(R l:List bF):List bF:=l.foldl Dq R
structure Ag (l:List bF):Prop where
 el:∀ q∈l,-1<=q.s/\q.s<=1000/\0<=q.n
 sum:cD l<=100000000
 len:l.length<=100000
theorem aAc{R l:List bF}(hR:∀ q∈R,-1<=q.s/\q.s<=1000/\0<=q.n)(hl:∀ q∈l,-1<=q.s/\q.s<=1000/\0<=q.n):
  (∀ q∈Oy R l,-1<=q.s/\q.s<=1000/\0<=q.n)/\cD (Oy R l)=cD R+cD l/\(Oy R l).length<=R.length+l.length:=by
 induction l generalizing R with
 | nil=>exact⟨hR,by simp[Oy,cD],by simp[Oy]⟩
 | cons r l ih=>
  have h1:=hl r aWy;obtain⟨a,b,c⟩:=ih (R:=Dq R r) (aDz h1 hR) (fun q hq=>hl q (aWG _ hq))
  have e1:cD (r::l)=r.n+cD l:=by simp[cD]
  have h2:=Ox R r;refine⟨a, ?_, ?_⟩
  ·show cD (Oy (Dq R r) l)=_;rw[b,aDy,e1];omega
  ·show (Oy (Dq R r) l).length<=_;simp only[aWh];omega
theorem hY(l:List bF)(k:Nat)(h:∀ r∈l,0<=r.n):cD (l.take k)<=cD l:=by
 have h2:cD l=cD (l.take k)+cD (l.drop k):=by rw[<- Af,aXs]
 have:=fW (l.drop k) (fun r hr=>h r (aWT hr))
 omega
theorem Ag.n_le{l:List bF}(h:Ag l){r:bF}(hr:r∈l):r.n<=100000000:=by
 obtain⟨i,hi,rfl⟩:=List.mem_iff_getElem.1 hr;have h1:=sY l i hi;have h2:=hY l (i+1) (fun r hr=>(h.el r hr).2.2)
 have h3:=fW (l.take i) (fun r hr=>(h.el r (aWF hr)).2.2)
 have:=h.sum;omega
theorem Ag.nil:Ag []:=⟨by simp,by simp[cD],by simp⟩
def Gg(r:bF)(n:Nat):List Int:=(List.range n).map fun (k:Nat)=>if r.s=-1 then -1 else r.s+k
def Gi(l:List bF):List Int:=l.flatMap fun r=>Gg r r.n.toNat
theorem aDB(r:bF)(n:Nat):Gg r (n+1)=Gg r n++[if r.s=-1 then -1 else r.s+n]:=by
 simp[Gg,List.range_succ]
theorem aDC(l:List bF)(k:Nat)(h:k < l.length):Gi (l.take (k+1))=Gi (l.take k)++Gg l[k] l[k].n.toNat:=by
 rw[aXe h,Gi,List.flatMap_append];simp[Gi]
theorem Wd(l:List bF)(h:∀ r∈l,0<=r.n):((Gi l).length:Int)=cD l:=by
 induction l with
 | nil=>simp[Gi,cD]
 | cons r l ih=>
  have h1:=h r aWy;have:=ih (fun r hr=>h r (aWG _ hr))
  have e1:cD (r::l)=r.n+cD l:=by simp[cD]
  have e2:Gi (r::l)=Gg r r.n.toNat++Gi l:=by simp[Gi]
  have e3:(Gg r r.n.toNat).length=r.n.toNat:=by simp[Gg]
  rw[e1,e2,aWg,e3];omega
def Vol(r:bF):Prop:=(r.s=-1/\0<=r.n)\/(0<=r.s/\1<=r.n/\r.s+r.n<=512)
theorem Ag.add{l:List bF}(h:Ag l):Ag (Oy [] l):=by
 obtain⟨a,b,c⟩:=aAc (R:=[]) (by simp) h.el;have:=h.sum;have:=h.len;simp only[cD,aWw,List.sum_nil,aWk] at b c;exact⟨a,by simp only[cD] at *;omega,by omega⟩
theorem Ag.take{l:List bF}(h:Ag l)(k:Nat):Ag (l.take k):=⟨fun q hq=>h.el q (aWF hq),by have:=hY l k (fun r hr=>(h.el r hr).2.2);have:=h.sum;omega,by have:=h.len;simp;omega⟩
theorem aRs{l:List bF}(h:(oQ l).2=0):0<=cD l/\cD l<=4096:=by
 have h1:=K8 h;have h2:=oR h;refine⟨fW l (fun r hr=>(aKw (h1 r hr)).1), ?_⟩
 have key:∀ (all l:List bF) p U i,(uT all l p U i).2=0->cD all<=4096:=by
  intro all l
  induction l with
  | nil=>intro p U i h;rw[uT] at h;simp only at h;split at h<;>first | assumption | omega
  | cons r l ih=>
   intro p U i h;rw[uT] at h;split at h
   ·rename_i h1;exact absurd h h1
   ·exact ih _ _ _ h
 unfold oQ at h;split at h
 ·cases h
 ·exact key _ _ _ _ _ h
theorem Ah{l:List bF}(h:(oQ l).2=0):Ag l:=by
 have h1:=K8 h;have h2:=oR h;have h3:=aRs h;exact⟨fun q hq=>by have:=aIl (h1 q hq);omega,by omega,by omega⟩
theorem Oz(l:List bF):Ae [l]=(oQ l).2:=by
 simp only[Ae,aWp,aWw,aQ];split<;>simp_all
end
section
variable {G:aF} {B:aO}
theorem iM(n lo hi:Int):EV G (Tb B) 335 [vi n,vi lo,vi hi] []=some (vb (decide (lo<=n/\n<=hi)),[]):=by
 refine aA rfl ?_;by_cases h:lo<=n
 all_goals simp (disch:=omega) only[go_sem,h335c]
 all_goals simp[h]
theorem iN(s n:Int):EV G (Tb B) 317 [rn s n] []=some (vb (decide (s=-1)),[]):=by
 refine aA rfl ?_;simp (disch:=omega) only[go_sem,h317c]
theorem Ai(b:Bool)(e:Int):EV G (Tb B) 306 [vb b,vi e] []=some (vi (if b=true then 0 else e),[]):=by
 refine aA rfl ?_;cases b
 all_goals simp (disch:=omega) only[go_sem,h306c]
 all_goals rfl
theorem La(p:Nat->Prop):∀ n:Nat,(∀ k,k < n->¬ p k)\/∃ j,j < n/\p j/\∀ k,k < j->¬ p k
 | 0=>.inl (fun k h=>by omega)
 | n+1=>by
  rcases La p n with h | ⟨j,h1,h2,h3⟩
  ·by_cases hp:p n
   ·exact .inr ⟨n,by omega,hp,h⟩
   ·exact .inl (fun k hk=>by
     by_cases he:k=n
     ·subst he;exact hp
     ·exact h k (by omega))
  ·exact .inr ⟨j,by omega,h2,h3⟩
theorem iY(l:List Int)(j:Nat)(hj:j < l.length)(h:∀ k,k < j->¬ l.getD k 0≠0)(h1:l.getD j 0≠0):aQ l=l[j]:=by
 have h2:l.getD j 0=l[j]:=by simp[aWn,aWo hj]
 rw[C2 l j (fun k hk=>by have:=h k hk;omega),aXo hj,aQ,if_neg (by rw[<- h2];exact h1)]
theorem fX(l:List Int)(h:∀ k,k < l.length->¬ l.getD k 0≠0):aQ l=0:=by
 rw[C2 l l.length (fun k hk=>by have:=h k hk;omega),List.drop_length];rfl
theorem cY(l:List Int)(k:Nat)(h:k < l.length):l.getD k 0=l[k]:=by simp[aWn,aWo h]
theorem lG(s n:Int):EV G (Tb B) 303 [rn s n] []=some (vi (cJ s n),[]):=by
 refine aA rfl ?_;by_cases h1:s=-1
 ·by_cases h2:1<=n/\n<=4096
  all_goals simp (disch:=omega) only[go_sem,h303c,iN,iM,Ai,cJ]
 ·by_cases h2:0<=s/\s<=511
  ·by_cases h3:1<=n/\n<=512 - s
   all_goals simp (disch:=omega) only[go_sem,h303c,iN,iM,Ai,cJ]
  ·simp (disch:=omega) only[go_sem,h303c,iN,iM,Ai,cJ]
end
section
variable {G:aF} {B:aO}
theorem aDD(l:List bF)(hl:l.length<=1000000):EV G (Tb B) 307 [gF l] []=some (vi (jO l),[]):=by
 refine aA rfl ?_;simp (disch:=omega) only[go_sem,h307c,aWf];rw[aU (fun k=>⟨(jk 3 (vi (jO (l.take k))::jk 2 (gF l::vi l.length::vi k::jk 9 []))),[]⟩) l.length ?_ ?_]
 ·simp (disch:=omega) only[go_sem,h307l0,aWY]
 ·rfl
 ·intro k hk;rw[Jh l k hk];simp (disch:=omega) only[go_sem,h307l0,aWf,bF.e]
theorem Lb(q r:bF)(h:-9223372036854775808<=q.s+q.n/\q.s+q.n<=9223372036854775807):EV G (Tb B) 304 [q.v,r.v] []=some (vb (nG q r),[]):=by
 refine aA rfl ?_;unfold nG;by_cases h1:q.s=-1
 all_goals by_cases h2:r.s=-1
 all_goals simp (disch:=omega) only[go_sem,h304c,iN,h1,h2]
 all_goals simp[h1,h2]
theorem aIm(U:List Bool)(k:Nat)(h:k < U.length):((U.map bC).drop k).take 1=[.dc (.raw (.bool U[k]))]:=aDt U k _ (aWo h)
theorem aM3(U:List Bool)(k:Nat)(b:Bool)(h:k < U.length):cO (U.map bC) k [.dc (.raw (.bool b))]=(U.set k b).map bC:=aIk U k b h
theorem aRt(m:Nat)(U:List Bool):Ic m (U.map bC)=U.map bC:=by rw[zX,aKv]
theorem aM4(U:List Bool):idsL (U.map bC)=[]:=by
 induction U with
 | nil=>rfl
 | cons b U ih=>rw[aWp,idsL,ih];rfl
theorem aRu(J:List Nat)(U:List Bool):Aa J (U.map bC)=true:=by
 induction U with
 | nil=>rfl
 | cons b U ih=>rw[aWp,Aa,ih];rfl
theorem aRv(ρ:Nat->Nat)(U:List Bool):(U.map bC).map (iV ρ)=U.map bC:=by
 induction U with
 | nil=>rfl
 | cons b U ih=>rw[aWp,aWp,ih];rfl
attribute [go_sem] aKv aRt aM4 aRu aRv
theorem aDE(U:List Bool)(r:bF)(hU:U.length=512)(h:Vol r):EV G (Tb B) 305 [.one (.ptr 0 0),r.v] [bx U]=some (vb (r.fresh U),[bx (r.into U)]):=by
 refine aA rfl ?_;rcases h with⟨h1,_⟩ | ⟨h1,h2,h3⟩
 ·simp (disch:=omega) only[go_sem,h305c,iN,bF.fresh,bF.into]
 ·obtain⟨s,hs⟩:∃ s:Nat,r.s=s:=⟨r.s.toNat,by omega⟩;obtain⟨n,hn⟩:∃ n:Nat,r.n=n:=⟨r.n.toNat,by omega⟩;simp (disch:=omega) only[go_sem,h305c,iN,bF.fresh,bF.into,hs,hn];rw[aU (fun k=>⟨(.one (.ptr 0 0)::jk 2 (.one (.ptr 1 0)::jk 1 (vb (uS U s k)::vi (s+k:Nat)::jk 27 []))),[bx (Dp U s k),.box [.dc (ci s),.dc (ci n)]]⟩) n ?_ ?_]
  ·simp (disch:=omega) only[go_sem,h305l0]
  ·rfl
  ·intro k hk;have hl:=Gd U s k;rw[Ou,Dp];have getE:(Dp U s k)[s+k]'(by omega)=U.getD (s+k) false:=by
    have:=aDs U s k (s+k) (aWj _);rw[aWo (by omega)] at this;rw[aWn,<- this];rfl
   cases hf:uS U s k
   all_goals simp (disch:=omega) only[go_sem,h305l0,aIm,aM3,getE]
end
section
variable {G:aF} {B:aO}
theorem aM5:List.replicate 512 (aR.dc (.raw (.bool false)))=U0.map bC:=by rw[U0,List.map_replicate];rfl
theorem aIn(l:List bF)(k:Nat)(hk:k<=l.length)(h:∀ j,j < k->¬ nH (Ad l j) (Uk l j) (l.getD j ⟨0,0⟩)≠0):uT l l none U0 0=uT l (l.drop k) (Ad l k) (Uk l k) k:=by
 induction k with
 | zero=>rfl
 | succ k ih=>
  have e:l.getD k ⟨0,0⟩=l[k]:=by simp[aWn,aWo (show k < l.length by omega)]
  have:=h k (Nat.lt_succ_self k);rw[e] at this;rw[ih (by omega) (fun j hj=>h j (by omega)),V9 (by omega),if_neg this,V8 l k (by omega)]
  simp[Ad,aWo (show k < l.length by omega)]
theorem C3(l:List bF)(k:Nat)(h:k < l.length):l.getD k ⟨0,0⟩=l[k]:=by simp[aWn,aWo h]
theorem We{r:bF}(h:cJ r.s r.n=0):Vol r:=by
 rcases kB h with⟨h1,h2,h3⟩ | ⟨s,n,h1,h2,h3,h4⟩
 ·exact .inl ⟨h1,by omega⟩
 ·exact .inr ⟨by omega,by omega,by omega⟩
theorem Gj{l:List bF}{k:Nat}(U:List Bool)(hk:k < l.length)(h:¬ nH (Ad l k) U (l.getD k ⟨0,0⟩)≠0):cJ l[k].s l[k].n=0/\¬ (0 < k/\nG (l[k-1]'(by omega)) l[k]=true)/\l[k].fresh U=true:=by
 rw[C3 l k hk,Ow U hk] at h;by_cases h1:cJ l[k].s l[k].n≠0
 ·rw[if_pos h1] at h;exact absurd h1 h
 ·rw[if_neg h1] at h;by_cases h2:0 < k/\nG (l[k-1]'(by omega)) l[k]=true
  ·rw[if_pos h2] at h;exact absurd (by decide) h
  ·rw[if_neg h2] at h;cases h3:l[k].fresh U
   ·rw[h3] at h;exact absurd (by decide) h
   ·exact⟨by omega,h2,rfl⟩
theorem Lc(l:List bF):EV G (Tb B) 267 [gF l] []=some (.tup [.one (.dc (ci (oQ l).1)),.one (.dc (ci (oQ l).2))],[]):=by
 refine aA rfl ?_;by_cases hl:(l.length:Int) > 64
 ·simp only[oQ,if_pos hl];simp (disch:=omega) only[go_sem,h267c,aWf]
 ·simp only[oQ,if_neg hl];simp (disch:=omega) only[go_sem,h267c,aWf,List.map_replicate,aM5];rw[jH (fun k=>⟨(gF l::jk 3 (.one (.ptr 0 0)::jk 6 (gF l::vi l.length::vi k::jk 31 []))),[bx (Uk l k)]⟩) (fun k=>nH (Ad l k) (Uk l k) (l.getD k ⟨0,0⟩)≠0) l.length ?_ ?_]
  rotate_left
  ·rfl
  ·intro k hk hn;obtain⟨h1,h2,h3⟩:=Gj _ hk (hn k (aWj _));have hv:=We h1;have hU:=aDu l k;have hT:=aDE (G:=G) (B:=B) (Uk l k) l[k] hU hv;rw[h3] at hT;rw[V8 l k hk];by_cases h0:0 < k
   ·have hj:nG (l[k-1]'(by omega)) l[k]=false:=by simpa[h0] using h2
    have hb:cJ (l[k-1]'(by omega)).s (l[k-1]'(by omega)).n=0:=(Gj _ (by omega) (hn (k-1) (by omega))).1;have hb2:=aDv hb;simp (disch:=omega) only[go_sem,h267l0,aWf,bF.e,lG,h1,Lb,hj,hT]
   ·simp (disch:=omega) only[go_sem,h267l0,aWf,bF.e,lG,h1,hT]
  obtain⟨hk,hp,hn⟩:=bZ (fun k=>nH (Ad l k) (Uk l k) (l.getD k ⟨0,0⟩)≠0) l.length
  generalize ix (fun k=>nH (Ad l k) (Uk l k) (l.getD k ⟨0,0⟩)≠0) l.length=k at *
  have hrg:∀ (j:Nat) r,j < k->l[j]?=some r->cJ r.s r.n=0:=fun j r hj hr=>by
   have hlt:j < l.length:=by omega
   have:=(Gj _ hlt (hn j hj)).1;rw[aWo hlt] at hr;injection hr with hr;rwa[hr] at this
  rw[aIn l k hk hn];rcases hp with rfl | ⟨hk',hp⟩
  ·have hr:=aM2 hrg;have hw:jO l=cD l:=Eh l (fun r hm=>by have:=aIl (hr r hm);omega) (by
    have:=(aUu (l:=l) (k:=l.length) (by omega) hr).2;rw[aDw] at this;omega)
   rw[List.drop_length,uT];simp (disch:=omega) only[go_sem,h267l0,aWf,aDD,Ai,hw]
  ·have hU:=aDu l k;rw[C3 l k hk'] at hp;rw[V9 hk',if_pos hp];rw[Ow _ hk'] at hp ⊢;by_cases h1:cJ l[k].s l[k].n=0
   ·have hT:=aDE (G:=G) (B:=B) (Uk l k) l[k] hU (We h1);by_cases h2:0 < k/\nG (l[k-1]'(by omega)) l[k]=true
    ·have hb2:=aDv (hrg (k-1) (l[k-1]'(by omega)) (by omega) (aWo _));simp (disch:=omega) only[go_sem,h267l0,aWf,bF.e,lG,h1,Lb,h2]
    ·have h3:l[k].fresh (Uk l k)=false:=by
      simp only[h1,ne_eq,not_true_eq_false,if_false,if_neg h2] at hp;cases h:l[k].fresh (Uk l k)
      ·rfl
      ·rw[h] at hp;simp at hp
     rw[h3] at hT;by_cases h0:0 < k
     ·have hj:nG (l[k-1]'(by omega)) l[k]=false:=by simpa[h0] using h2
      have hb2:=aDv (hrg (k-1) (l[k-1]'(by omega)) (by omega) (aWo _));simp (disch:=omega) only[go_sem,h267l0,aWf,bF.e,lG,h1,Lb,hj,hT,h3]
     ·simp (disch:=omega) only[go_sem,h267l0,aWf,bF.e,lG,h1,hT,h3]
   ·simp (disch:=omega) only[go_sem,h267l0,aWf,bF.e,lG]
end
section
variable {G:aF} {B:aO}
def sl1(l:List bF):List DC:=[.slc (l.map bF.e)]
theorem Wf(L:List (List bF))(k:Nat)(hk:k < L.length):((L.map fun l=>(oQ l).2).getD k 0)=(oQ L[k]).2:=by simp[aWn,aWo hk]
theorem aAd(L:List (List bF))(hL:L.length<=1000):EV G (Tb B) 216 [vl (L.map sl1)] []=some (vi (Ae L),[]):=by
 refine aA rfl ?_;simp (disch:=omega) only[go_sem,h216c,aWf];rw[jH (fun k=>⟨(jk 7 (vl (L.map sl1)::vi L.length::vi k::jk 12 [])),[]⟩) (fun k=>(L.map fun l=>(oQ l).2).getD k 0≠0) L.length ?_ ?_]
 rotate_left
 ·rfl
 ·intro k hk hn;have h1:=hn k (aWj _);rw[Wf L k hk] at h1;simp (disch:=omega) only[go_sem,h216l0,aWf,sl1,Lc]
 obtain⟨hk,hp,hn⟩:=bZ (fun k=>(L.map fun l=>(oQ l).2).getD k 0≠0) L.length
 generalize ix (fun k=>(L.map fun l=>(oQ l).2).getD k 0≠0) L.length=k at *
 unfold Ae;rcases hp with rfl | ⟨hk',hp⟩
 ·rw[fX _ (by simpa using hn)];simp (disch:=omega) only[go_sem,h216l0,aWf]
 ·rw[iY _ k (by simpa using hk') hn hp];rw[Wf L k hk'] at hp;simp (disch:=omega) only[go_sem,h216l0,aWf,sl1,Lc,aW0]
theorem Ei(a:List bF):EV G (Tb B) 216 [vl [[.slc (a.map bF.e)]]] []=some (vi (Ae [a]),[]):=aAd [a] (by simp)
theorem O0(l:List bF)(s n:Int):l.map bF.e++[[.raw (.int .i64 s),.raw (.int .i64 n)]]=(l++[(⟨s,n⟩:bF)]).map bF.e:=by simp[bF.e,ci]
theorem aRw(r:bF):(bF.e r).length=2:=rfl
theorem Wg(l:List bF):fM 2 (l.map bF.e)=true:=jZ aRw l
attribute [go_sem] Wg
end
section
variable {G:aF} {B:aO}
end
section
variable {G:aF} {B:aO}
end
section
variable {G:aF} {B:aO}
theorem Gk(n lo hi:Int):EV G (Tb B) 19 [vi n,vi lo,vi hi] []=some (vb (decide (lo<=n/\n<=hi)),[]):=by
 refine aA rfl ?_;by_cases h:lo<=n
 all_goals simp (disch:=omega) only[go_sem,h19c]
 all_goals simp[h]
end
end Go.Proofs.YthepfneloomngaaGreatDoor
