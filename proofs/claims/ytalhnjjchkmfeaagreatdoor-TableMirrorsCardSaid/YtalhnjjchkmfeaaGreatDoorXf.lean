/- TableMirrors returns true for every input, and each argument reads afterwards as it read before; the variables that the row lists are laid by the program's text. Conditions: none. -/
import Derived.Test.YtalhnjjchkmfeaaGreatDoorQc
import Derived.Test.YtalhnjjchkmfeaaGreatDoorPp
import Derived.Test.YtalhnjjchkmfeaaGreatDoorQp
import Derived.Test.YtalhnjjchkmfeaaGreatDoorMf
import Derived.Test.YtalhnjjchkmfeaaGreatDoorPa
namespace Go.Proofs.YtalhnjjchkmfeaaGreatDoor
set_option maxHeartbeats 16000000
set_option linter.unusedSimpArgs false
set_option linter.unusedVariables false
set_option maxRecDepth 4000
section
variable {G:aF}{bb:Bool}
abbrev vwQ(x:Bt)(a:L aX)(N:Int):AV:=.agg [.dc (ci x.cl),.dc (ci x.tb),.dc (ci x.mi),.dc (ci x.lg),.dc (ci x.lc),.dc (ci x.se),.dc (.slc (a.map aX.e)),.dc (ci N)]
theorem Zj{B:aO}(s:L Int)(g:s.length<=200000)(x:Bt)(b:L aX)(N:Int)(j:sP b)(k a c:Nat)(n:k<=1000)(d:2*k+1<(tU b).length)(l:(tU b).getD (2*k) 0=a)(m:(tU b).getD (2*k+1) 0=c)(e:a*256+256<=s.length)(f:c*256+256<=s.length):EV G (Tb B) 25 [sv s,vwQ x b N,vi k] []=some (sv (qB s a c),[]):=by
 have t:=Kd (G:=G) (B:=B) b j;have q:=aBJ (G:=G) (B:=B) s a e g;have r:=aBJ (G:=G) (B:=B) s c f g;generalize tU b=C at *;have h:C[2*k]?=some (a:Int):=by rw[<- l,bU C (2*k) (by omega),aZJ (by omega)]
 have i:C[2*k+1]?=some (c:Int):=by rw[<- m,bU C (2*k+1) d,aZJ d]
 have o:(2*(k:Int)).toNat=2*k:=by omega
 have p:(2*(k:Int)+1).toNat=2*k+1:=by omega
 have v:(2*(k:Int))<C.length:=by omega
 have w:(2*(k:Int)+1)<C.length:=by omega
 have u:2*k<C.length:=by omega
 unfold qB;have y:(Cr s a).length=256:=tF e;have z:(Cr s c).length=256:=tF f;generalize Cr s a=U at *;generalize Cr s c=W at *;refine aB rfl ?_;simp (maxSteps:=2000000) (disch:=first|omega|(simp only[aZA,aZB,aZC,aZz,aA,aZH,aZD,aZK,aC,aS,lH,lf]<;>omega)|fail) only[go_sem,h25c,t,q,r,aC,aZz,uC,o,p,v,w,u,d,h,i]
theorem aJa{B:aO}(s:L Int)(c:s.length<=200000)(x:Bt)(d:L aX)(N:Int)(k:Nat)(b:k<=1000)(f:0<=x.mi)(h:(x.mi+2*k)*256+512<=s.length):EV G (Tb B) 26 [sv s,vwQ x d N,vi k] []=some (sv (Mj s x k),[]):=by
 have a:=Ra (G:=G) (B:=B) s (x.mi.toNat+2*k) (by omega) c;have e:((x.mi.toNat+2*k:Nat):Int)=x.mi+2*k:=by omega
 rw[e] at a;unfold Mj;generalize qB s (x.mi.toNat+2*k) (x.mi.toNat+2*k+1)=U at *;refine aB rfl ?_;simp (maxSteps:=2000000) (disch:=omega) only[go_sem,h26c,a]
theorem aWn{s:L Int}(b:aJ s)(h:mO s=0):sP (nR s).rs/\cE (nR s).rs<=4096/\∀q∈(nR s).rs,(-1<=q.s/\q.s<=1000)/\(0<=q.n/\q.n<=4096):=by
 obtain⟨e,_,_⟩:=kW b h;obtain⟨f,c,h3,_⟩:=Q4 e;obtain⟨d,a⟩:=Lh b c h3;exact Bk (qO d a)
theorem aDX(s:List Int)(f:aJ s)(m:s.length<=200000):EV G (T5 G bb) 7 [sv s] []=some (inV (mrV s),[]):=by
 have o:=aR5 (G:=G) (bb:=bb) s f m;unfold vwV at o;unfold mrV;by_cases h:mO s=0
 rw[if_pos h] at o;rw[if_pos h];obtain⟨q1,q2,i⟩:=kW f h;obtain⟨I,Y,Z⟩:=aWn f h;have J:=i.ln;have b:=i.b;have R:=b.cl;have S:=b.n;have T:=b.mi;have F:∀ k:Nat,k < 4->EV G (T5 G bb) 25 [sv s,vwQ (aQ s).1 (nR s).rs (Ex s),vi k] []=some (sv (F8 s (jD s) k),[]):=fun k l=>by
  obtain⟨a,q,O,Q,_⟩:=i.at (k:=2 * k) (by omega);obtain⟨c,r,W,X,_⟩:=i.at (k:=2 * k+1) (by omega);unfold F8;rw[q,r];exact t5 (Zj s m _ _ _ I k a c (by omega) (show _ < (jD s).length by omega) q r (by omega) (by omega))
 have E:∀k:Nat,k<4->EV G (T5 G bb) 26 [sv s,vwQ (aQ s).1 (nR s).rs (Ex s),vi k] []=some (sv (Mj s (aQ s).1 k),[]):=fun k l=>
  t5 (aJa s m _ _ _ k (by omega) (by omega) (by omega))
 have H:∀k,(dI (F8 s (jD s) k)=dI (Mj s (aQ s).1 k))=(F8 s (jD s) k=Mj s (aQ s).1 k):=fun k=>cR (kA f _ _) (kA f _ _)
 have L:=aOm s (aQ s).1 (jD s);have y:=aNA s (aQ s).1 (jD s);have w:Wj s (aQ s).1 (jD s) 0=[]:=rfl;generalize Wj s (aQ s).1 (jD s)=U at *;generalize F8 s (jD s)=P at *;generalize Mj s (aQ s).1=M at *;generalize Ex s=A at *;generalize jD s=C at *;generalize (aQ s).1=x at *;generalize (nR s).rs=K at *;refine aB (h:=h7) rfl ?_;simp (maxSteps:=2000000) (disch:=omega) only[go_sem,h7c,o];rw[aT (fun k=>⟨(sv s::jk 3 (.one (.ptr 0 0)::jk 1 (.one (.bld 1 (U k).length)::vi k::jk 26 []))),[.box [.dc (ci x.cl),.dc (ci x.tb),.dc (ci x.mi),.dc (ci x.lg),.dc (ci x.lc),.dc (ci x.se),.dc (.slc (K.map aX.e)),.dc (ci A)],.arr 0 1 (el (U k))]⟩) 4 ?_ ?_]
 simp (maxSteps:=2000000) (disch:=omega) only[go_sem,h7l0];rw[w];rfl;intro k l;have t:=F k l;have u:=E k l;have v:=H k;have N:=y k;have g:=L k;by_cases j:P k=M k;rw[if_pos j] at g;rw[g];have p:(dI (P k)=dI (M k))=True:=by rw[v];exact eq_true j
 generalize U k=V at *;generalize P k=D at *;generalize M k=z at *;have d:(k:Int)<4:=by omega
 simp (maxSteps:=2000000) (disch:=omega) only[go_sem,h7l0,d,t,u,p];rw[if_neg j] at g;rw[g];have p:(dI (P k)=dI (M k))=False:=by rw[v];exact eq_false j
 generalize U k=V at *;generalize P k=D at *;generalize M k=z at *;have d:(k:Int)<4:=by omega
 simp (maxSteps:=2000000) (disch:=omega) only[go_sem,h7l0,d,t,u,p,aG9,aZA,aZz]
 ·rw[if_neg h] at o;rw[if_neg h];refine aB (h:=h7) rfl ?_;simp (maxSteps:=2000000) (disch:=omega) only[go_sem,h7c,o,h];try rfl
end
section
variable {G:aF}{bb:Bool}
noncomputable def T1(f:FuncId)(h:HF)(C:aO):HT:=⟨fun g=>if g=f then some h else none,C⟩
theorem t1{f0:FuncId}{b:HF}{T:HT}{f:FuncId}{a:L AV}{hp:L aD}{r:AV×L aD}(h:EV G T f a hp=some r)(c:f≠f0:=by decide):EV G (T1 f0 b (EV G T)) f a hp=some r:=jG (by show (if f=f0 then some b else none)=none;exact if_neg c) h
end
section
variable {G:aF}{bb:Bool}
theorem aJb{s t c:Int}(a:0<=s/\s<=2147483647)(b:0<=t/\t<=2147483647)(h:tZ s c=tZ t c):s=t:=by
 have f:0<=El s/\El s<=2147483647:=by unfold El;omega
 have g:0<=El t/\El t<=2147483647:=by unfold El;omega
 have e:El s=El t:=by unfold tZ at h;omega
 have k:∀ x:Int,0<=x/\x<=2147483647->El x=2 * x/\x < 1073741824\/El x=2 * x - 2147483647/\1073741824<=x:=fun x d=>by
  unfold El;by_cases c:x < 1073741824
  ·left;omega
  ·right;omega
 have:=k s a;have:=k t b;omega
theorem aDY{s c d:Int}(a:0<=c/\c<=255)(b:0<=d/\d<=255)(h:tZ s c=tZ s d):c=d:=by
 unfold tZ at h;omega
theorem We:∀(b:L Int) {s t:Int},(0<=s/\s<=2147483647)->(0<=t/\t<=2147483647)->b.foldl tZ s=b.foldl tZ t->s=t
 |[],_,_,_,_,h=>h
 |c::b,s,t,a,d,h=>aJb a d (We b (Em s c) (Em t c) h)
theorem aJc{a b:L Int}{c d:Int}(e:0<=c/\c<=255)(f:0<=d/\d<=255)(h:jQ (a++c::b)=jQ (a++d::b)):c=d:=by
 unfold jQ at h;rw[List.foldl_append,List.foldl_append,bAN,bAN] at h;exact aDY e f (We b (Em _ _) (Em _ _) h)
theorem aBM{s:L Int}(h:Vo s=true):s.drop 60=bJ (jQ (s.take 60)) 4:=by
 unfold Vo at h;simp only[aZO,decide_eq_true_eq] at h;exact h.2
theorem aNB{s:L Int}(a:aJ s){k:Nat}(b:k<s.length):0<=s[k]/\s[k]<=255:=by
 have:=a _ (aZG b);omega
theorem aJd{s:L Int}(j:aJ s)(t:s.length=64){k:Nat}(r:k<64){v:Int}(n:0<=v/\v<=255)(a:v≠s[k])(h:Vo s=true):¬ Vo (s.take k++v::s.drop (k+1))=true:=by
 intro i;have l:=aNB j (show k<s.length by omega);have f:=aBM h;have b:=aBM i;have m:s=s.take k++s[k]::s.drop (k+1):=by
  rw[List.getElem_cons_drop (h:=by omega),bAH]
 by_cases c:k<60;have t1:(s.take k++v::s.drop (k+1)).take 60=s.take k++v::(s.drop (k+1)).take (59-k):=by
  rw[List.take_append,aZ6 (by rw[aZD];omega),aZD,bAt (by omega),show 60-k=(59-k)+1 by omega,bAP]
 have o:s.take 60=s.take k++s[k]::(s.drop (k+1)).take (59-k):=by
  conv=>lhs;rw[m]
  rw[List.take_append,aZ6 (by rw[aZD];omega),aZD,bAt (by omega),show 60-k=(59-k)+1 by omega,bAP]
 have g:(s.take k++v::s.drop (k+1)).drop 60=s.drop 60:=by
  rw[bA9,bBd (by rw[aZD];omega),aZR,aZD,bAt (by omega),show 60-k=(59-k)+1 by omega,bAZ,bAw];congr 1;omega
 rw[g,f,t1,o] at b;have p:=tA (s.take k++s[k]::(s.drop (k+1)).take (59-k));have q:=tA (s.take k++v::(s.drop (k+1)).take (59-k));have d:=congrArg gv b;rw[aRn _ (by omega),aRn _ (by omega)] at d;exact a (aJc l n d).symm;have t1:(s.take k++v::s.drop (k+1)).take 60=s.take 60:=by
  rw[bAS (by rw[aZD];omega),bA3,bAt (by omega)]
 rw[t1,<- f] at b;have d:(s.take k++v::s.drop (k+1))=s:=by
  rw[<- bAH 60 (s.take k++v::s.drop (k+1)),t1,b,bAH]
 have e:(s.take k++v::s.drop (k+1))[k]?=s[k]?:=by rw[d]
 rw[aZ0 (by rw[aZD];omega),aZD,bAt (by omega),bAr,bBi,aZJ (by omega)] at e;injection e with e
 exact a e
theorem aDZ{s:L Int}(o:aJ s)(h:(aQ s).2.2=0)(a:(aQ s).2.1=0)(p:s.drop (s.length-64)=(aQ s).1.bs){k:Nat}(r:k<64)(A:k<s.length){v:Int}(u:0<=v/\v<=255)(b:v≠s[k]):aQ (fE s k [v])=((aQ s).1,1,0):=by
 obtain⟨d,j,l⟩:=Y9 h;have z:=dk0 d;have e:fE s k [v]=s.take k++v::s.drop (k+1):=by unfold fE;simp
 have f:(fE s k [v]).length=s.length:=cJ (by simp;omega);have g:(fE s k [v]).take 64=(s.take 64).take k++v::(s.take 64).drop (k+1):=by
  rw[e,List.take_append,aZ6 (by rw[aZD];omega),aZD,bAt (by omega),show 64-k=(63-k)+1 by omega,bAP,bA3,bAt (by omega),bAJ,show 64-(k+1)=63-k by omega]
 have m:(fE s k [v]).drop (s.length-64)=s.drop (s.length-64):=by
  rw[e,bA9,bBd (by rw[aZD];omega),aZR,aZD,bAt (by omega),show s.length-64-k=(s.length-65-k)+1 by omega,bAZ,bAw];congr 1;omega
 have n:Vo (s.take 64)=true:=by
  unfold aQ at a h;rw[if_pos d] at a h;unfold qN at a h;by_cases c:(dR (s.take 64)).2=0/\(dR (s.take 64)).1.cl=(s.length / 256:Nat);refine Classical.byContradiction fun q=>?_
  have:=c.1;unfold dR at this;rw[if_pos (by rw[aZD];omega),if_neg q] at this;cases this;rw[if_neg c] at a h;split at a;cases a;rename_i i;rw[if_neg i] at h;cases h
 have y:¬ (dR ((fE s k [v]).take 64)).2=0:=by
  have t:k<(s.take 64).length:=by rw[aZD];omega
  have:=aJd (s:=s.take 64) (fun x w=>o x (aZZ w)) (by rw[aZD];omega) r u (by rw[List.getElem_take];exact b) n
  rw[<- g] at this;unfold dR;rw[if_pos (by rw[aZD,f];omega),if_neg this];decide
 generalize (aQ s).1=x at *;unfold aQ;rw[f,if_pos d];unfold qN;rw[f,if_neg (fun q=>y q.1),m,p,aIm _ j,if_pos ⟨rfl,l⟩]
 rfl
end
section
variable {G:aF}{bb:Bool}
theorem aOn(s:L Int)(x:Bt)(C:L Int)(k:Nat):Lj s x C k=if (dG (F8 s C k)).2.2≠0/\k<4/\(dG (Mj s x k)).2.2=0 then dG (Mj s x k) else dG (F8 s C k):=by
 unfold Lj Q2;change (if (dG (F8 s C k)).2.2=0 then dG (F8 s C k) else if (dG (if k<4 then Mj s x k else F8 s C k)).2.2=0 then dG (if k<4 then Mj s x k else F8 s C k) else dG (F8 s C k))=_
 by_cases c:(dG (F8 s C k)).2.2=0;rw[if_pos c,if_neg (fun h=>h.1 c)]
 rw[if_neg c];by_cases h4:k<4;rw[if_pos h4];by_cases d:(dG (Mj s x k)).2.2=0;rw[if_pos d,if_pos ⟨c,h4,d⟩];rw[if_neg d,if_neg (fun h=>d h.2.2)]
 rw[if_neg h4,if_neg c,if_neg (fun h=>h4 h.2.1)]
end
section
variable {G:aF}{bb:Bool}
theorem Rc{s t:L Int}{a b n:Nat}(d:a+t.length<=s.length)(h:b+n<=a\/a+t.length<=b):((fE s a t).drop b).take n=(s.drop b).take n:=by
 have c:(s.take a).length=a:=by rw[aZD];omega
 unfold fE;rcases h with h|h
 rw[aZP,List.drop_append_of_le_length (by omega),bAS (by rw[aZK];omega),bAJ,bA3,bAt (by omega)];rw[bA9,List.drop_eq_nil_of_le (by rw[aZA];omega),aZR,aZA,c,bAw];congr 2;omega
theorem aNC{s t:L Int}{a:Nat}(f:64<=a)(g:a+t.length+64<=s.length):aQ (fE s a t)=aQ s:=by
 have e:(fE s a t).length=s.length:=cJ (by omega);have c:(fE s a t).take 64=s.take 64:=by
  have:=Rc (s:=s) (t:=t) (a:=a) (b:=0) (n:=64) (by omega) (.inl (by omega));simpa using this
 have d:(fE s a t).drop (s.length-64)=s.drop (s.length-64):=by
  have:=Rc (s:=s) (t:=t) (a:=a) (b:=s.length-64) (n:=64) (by omega) (.inr (by omega));rw[aZ6 (by rw[aZK];omega),aZ6 (by rw[aZK];omega)] at this;exact this
 unfold aQ qN;rw[e,c,d]
theorem aND{s t:L Int}{p c:Nat}(a:t.length=2)(hp:p*256+256<=s.length)(h:c≠p):Cr (fE s (p*256+62) t) c=Cr s c:=by
 unfold Cr;refine Rc (by omega) ?_;rcases Nat.lt_or_gt_of_ne h with q|q
 exact .inl (by omega);exact .inr (by omega)
theorem At{s:L Int}{p q j:Nat}(hp:p*256+256<=s.length)(a:j<256):(qB s p q).getD j 0=s.getD (p*256+j) 0:=by
 have l:=tF hp;unfold qB;rw[aZN,aZU (by omega)];unfold Cr;rw[bBh a,aZ9,<- aZN]
theorem aD0{s:L Int}(a:s.length=512)(h:¬ gU s):(dG s).2.2=31:=by
 unfold dG;rw[if_neg (not_not_intro a),if_pos h]
theorem aNE{s:L Int}(h:(dG s).2.2=0):s.length=512/\gU s:=by
 unfold dG at h;by_cases c:s.length=512;rw[if_neg (not_not_intro c)] at h;by_cases d:gU s;exact⟨c,d⟩;rw[if_pos d] at h;cases h;rw[if_pos c] at h;cases h
theorem gL2{s:L Int}{a:Nat}(h:a+2<=s.length):gL s a 2=s.getD a 0+256*s.getD (a+1) 0:=by
 rw[Yn _ _ _ (by omega),Yn _ _ _ (by omega)];have b:gL s (a+1+1) 0=0:=by unfold gL;rw[bAO];rfl
 rw[b,bU s a (by omega),bU s (a+1) (by omega)];omega
def Ou(s:L Int)(a:Nat):L Int:=bJ ((gL s a 2+1) % 65536) 2
theorem aNF{s:L Int}(e:aJ s){p q:Nat}(hp:p*256+256<=s.length)(h:gU (qB s p q))(o:(qB s p q).length=512)(j:(qB (fE s (p*256+62) (Ou s (p*256+62))) p q).length=512):¬ gU (qB (fE s (p*256+62) (Ou s (p*256+62))) p q):=by
 intro i;have t:(Ou s (p*256+62)).length=2:=aA _ _;have b:=h.2 0 (by decide);have a:=i.2 0 (by decide);have r:(fE s (p*256+62) (Ou s (p*256+62))).length=s.length:=cJ (by omega);rw[nE (by omega),nE (by omega)] at b a;rw[At hp (by omega),At hp (by omega),At hp (by omega),At hp (by omega)] at b;rw[At (by omega) (by omega),At (by omega) (by omega),At (by omega) (by omega),At (by omega) (by omega)] at a;rw[rU (by omega),rU (by omega),rU (by omega),rU (by omega)] at a;rw[if_pos (by omega),if_pos (by omega),if_neg (by omega),if_neg (by omega)] at a;have k:(p*256+(64*0+62)-(p*256+62))=0:=by omega
 have l:(p*256+(64*0+62+1)-(p*256+62))=1:=by omega
 rw[k,l] at a;unfold Ou at a;rw[aDw _ _ (by decide),aDw _ _ (by decide),if_pos rfl,if_neg (by decide),gL2 (by omega)] at a;have f:=e _ (aZG (show p*256+62<s.length by omega));have g:=e _ (aZG (show p*256+62+1<s.length by omega));rw[<- bU s (p*256+62) (by omega)] at f;rw[<- bU s (p*256+62+1) (by omega)] at g;rw[show p*256+(64*0+62)=p*256+62 by omega,show p*256+(64*0+62+1)=p*256+62+1 by omega] at b;injection b with m c
 injection c with c _
 injection a with n d
 injection d with d _
 omega
theorem aNG{s:L Int}{x:Bt}{C:L Int}{k:Nat}(h:Wj s x C k=[]):∀n,n<k->F8 s C n=Mj s x n:=by
 induction k with
 |zero=>intro n a;omega
 |succ k b=>
  rw[aOm] at h;by_cases c:F8 s C k=Mj s x k;rw[if_pos c] at h;intro n a;rcases Nat.lt_or_eq_of_le (Nat.le_of_lt_succ a) with q|q
  exact b h n q;rw[q];exact c;rw[if_neg c] at h;exact absurd (congrArg List.length h) (by simp)
theorem aWo{C:L Int}(c:C.Nodup){i j:Nat}(a:i<C.length)(b:j<C.length)(h:i≠j):C.getD i 0≠C.getD j 0:=by
 rw[bU C i a,bU C j b];intro e;exact h ((List.getElem_inj c).1 e)
theorem aNH{s:L Int}(M:aJ s)(h:mO s=0)(Y:Wj s (aQ s).1 (jD s) 4=[]){n P:Nat}(v:n<4)(hP:(jD s).getD (2*n) 0=P)(t:(Lj s (aQ s).1 (jD s) n).2.2=0):Lv (fE s (P*256+62) (Ou s (P*256+62))) n=Lv s n:=by
 obtain⟨q1,q2,e⟩:=kW M h;have b:=e.b;have b2:=b.cl;have b3:=b.n;have b4:=b.tb;have b5:=b.mi;have X:=e.ln;obtain⟨a,g,H,p2,p3⟩:=e.at (k:=2*n) (by omega);have V:a=P:=by omega
 subst V;obtain⟨Q,x,r1,r2,r3⟩:=e.at (k:=2*n+1) (by omega);have O:(Ou s (a*256+62)).length=2:=aA _ _;have ls:(fE s (a*256+62) (Ou s (a*256+62))).length=s.length:=cJ (by omega);have E:=@aNF s M a Q H;have f:∀c,c≠a->Cr (fE s (a*256+62) (Ou s (a*256+62))) c=Cr s c:=fun c W=>aND O H W
 have l:aQ (fE s (a*256+62) (Ou s (a*256+62)))=aQ s:=aNC (by omega) (by omega);clear O;generalize fE s (a*256+62) (Ou s (a*256+62))=d at *;have F:(a:Int)∈jD s:=by rw[<- g,bU _ _ (by omega)];exact aZG _
 have nmi:=e.mi _ F;have I:=aNG Y
 
 have r:∀ k,k < 4->Mj d (aQ s).1 k=Mj s (aQ s).1 k:=fun k hk=>by
  unfold Mj qB;rw[f _ (by omega),f _ (by omega)]
 have D:Lu d (aQ s).1=Lu s (aQ s).1:=by
  have:=r 0 (by decide);unfold Mj at this;exact this
 
 have A:F8 s (jD s) n=qB s a Q:=by unfold F8;rw[g,x];rfl
 have m:F8 d (jD s) n=qB d a Q:=by unfold F8;rw[g,x];rfl
 have o:Lj s (aQ s).1 (jD s) n=dG (F8 s (jD s) n):=by
  rw[aOn];by_cases c:(dG (F8 s (jD s) n)).2.2≠0/\n<4/\(dG (Mj s (aQ s).1 n)).2.2=0;exact absurd (by rw[I n v];exact c.2.2) c.1;rw[if_neg c]
 rw[o] at t;have u:=(aNE t).2;rw[A] at u;have Z:(qB s a Q).length=512:=Bj H r1;have N:(qB d a Q).length=512:=Bj (by omega) (by omega);have w:=aD0 N (E u Z N);have p:Lj d (aQ s).1 (jD s) n=Lj s (aQ s).1 (jD s) n:=by
  rw[aOn,m,r n v,<- I n v,if_pos ⟨by rw[w];decide,v,t⟩,o]
 
 have K:mH d=mH s:=by
  unfold mH;rw[l,D];have C:Ew s (aQ s).1=F8 s (jD s) 0:=by
   unfold Ew F8;rw[show 2*0=0 from rfl,e.h0.1,show 0+1=1 from rfl,e.h0.2,show ((aQ s).1.tb+1).toNat=(aQ s).1.tb.toNat+1 by omega]
  by_cases c:n=0;subst c;have R:Lu s (aQ s).1=F8 s (jD s) 0:=by
   rw[I 0 v];rfl
  have q:Ew d (aQ s).1=qB d a Q:=by
   unfold Ew;have S:=e.h0.1;have T:=e.h0.2;rw[show 2*0=0 from rfl] at g x
   rw[show 0+1=1 from rfl] at x
   rw[show (aQ s).1.tb.toNat=a by omega,show a+1=Q by omega]
  unfold Q2;rw[q,C,R,if_neg (by rw[w];decide),if_pos t,if_pos t];have n0:=aWo e.nd (i:=0) (j:=2*n) (by omega) (by omega) (by omega);have n1:=aWo e.nd (i:=1) (j:=2*n) (by omega) (by omega) (by omega);have S:=e.h0.1;have T:=e.h0.2;have:Ew d (aQ s).1=Ew s (aQ s).1:=by
   unfold Ew qB;rw[f _ (by omega),f _ (by omega)]
  rw[this]
 have J:nR d=nR s:=by unfold nR;rw[K]
 have z:jD d=jD s:=by unfold jD;rw[J]
 have U:mO d=mO s:=by
  unfold mO mX Mg;rw[l,K,J,z]
 have y:Q5 d n=Q5 s n:=by
  unfold Q5 Ex;rw[U,z]
 unfold Lv;rw[y,l,z,show ((n:Int)).toNat=n from rfl,p]
end
section
variable {G:aF}{bb:Bool}
noncomputable abbrev TLm(G:aF)(b:Bool):HT:=T1 3 h3 (EV G (T5 G b))
theorem aR7{b:Bool}:Xq Tryz.prog (TLm G b):=by
 intro f h hf;change (if f=3 then some h3 else none)=some h at hf
 split at hf;rename_i e;subst e;injection hf with hf;subst hf;exact⟨by kernel_rfl,_,Tryz.func3,Tryz.ntmps3,h3_ok,aTf⟩
 cases hf
theorem Ov{b:Bool}{f:FuncId}{a:L AV}{hp:L aD}{r:AV×L aD}(h:EV G (T5 G b) f a hp=some r)(c:f≠3:=by decide):EV G (TLm G b) f a hp=some r:=t1 h c
theorem sg1(v:Int)(h:0<=v/\v<256):bJ v 1=[v]:=by
 have:v % 256=v:=by omega
 simp[bJ,Fe,this]
theorem aWp{s:L Int}(a:aJ s)(n:Int):(Lv s n).1.W:=by
 unfold Lv;by_cases h:Q5 s n=0;rw[if_pos h];unfold Lj;refine (aIG _ _ (kA a _ _) ?_).1;split;exact kA a _ _;exact kA a _ _;rw[if_neg h];exact cL.nil_W
theorem aD1(Y:G9 G)(g:EV G (T5 G bb) 4 [] []=some (vb true,[]))(s:L Int)(c:aJ s)(n a:Int):EV G (TLm G bb) 3 [sv s,vi n,vi a] []=some (vb true,[]):=by
 have j:=Ov (t5 (b:=bb) (aMY (G:=G) (B:=dU G bb) s));replace g:=Ov g;have o:=Ov (t5 (b:=bb) (bM (G:=G) (B:=dU G bb) n 0 3));have t:=Ov (t5 (b:=bb) (bM (G:=G) (B:=dU G bb) a 0 63));by_cases h:s.length<=24576\/s.length % 256≠0/\s.length<=200000
 rotate_left
 rw[decide_eq_false h] at j;refine aB (h:=h3) rfl ?_;simp (maxSteps:=2000000) (disch:=omega) only[go_sem,h3c,g,j,aZX,aZ2];rw[decide_eq_true h] at j;have Q:s.length<=200000:=by omega
 by_cases hn:0<=n/\n<=3
 rotate_left
 rw[decide_eq_false hn] at o;refine aB (h:=h3) rfl ?_;simp (maxSteps:=2000000) (disch:=omega) only[go_sem,h3c,g,j,o,aZX,aZ2];rw[decide_eq_true hn] at o;by_cases ha:0<=a/\a<=63
 rotate_left
 rw[decide_eq_false ha] at t;refine aB (h:=h3) rfl ?_;simp (maxSteps:=2000000) (disch:=omega) only[go_sem,h3c,g,j,o,t,aZX,aZ2];rw[decide_eq_true ha] at t;have p:=Ov (aDX (G:=G) (bb:=bb) s c Q);have A:=Ov (t5 (b:=bb) (Ol (G:=G) (B:=dU G bb) s c Q));by_cases I:mO s=0
 rotate_left
 have e:mrV s=([],mO s):=by unfold mrV;rw[if_neg I]
 rw[e] at p;generalize aQ s=V at *;obtain⟨x,M,d⟩:=V;generalize mO s=E at *;refine aB (h:=h3) rfl ?_;simp (maxSteps:=2000000) (disch:=omega) only[go_sem,h3c,g,j,o,t,p,A,I,aZX,aZ2];obtain⟨q1,q2,hT⟩:=kW c I;obtain⟨f,_,_,_⟩:=Q4 q1;obtain⟨O,ck,ccl⟩:=Y9 f;have dk:=dk0 O;have e:mrV s=(Wj s (aQ s).1 (jD s) 4,0):=by unfold mrV;rw[if_pos I]
 rw[e] at p;by_cases i:(aQ s).2.1=0
 rotate_left
 generalize Wj s (aQ s).1 (jD s) 4=ML at *;generalize aQ s=V at *;obtain⟨x,M,d⟩:=V;simp only at f i;subst f;refine aB (h:=h3) rfl ?_;simp (maxSteps:=2000000) (disch:=omega) only[go_sem,h3c,g,j,o,t,p,A,i,Bt.cs,aZX,aZ2];by_cases k3:Wj s (aQ s).1 (jD s) 4=[]
 rotate_left
 have k3':((Wj s (aQ s).1 (jD s) 4).length:Int) > 0:=by
  have:=List.length_pos_iff.2 k3;omega
 generalize Wj s (aQ s).1 (jD s) 4=ML at *;generalize aQ s=V at *;obtain⟨x,M,d⟩:=V;simp only at f i;subst f;subst i;refine aB (h:=h3) rfl ?_;simp (maxSteps:=2000000) (disch:=omega) only[go_sem,h3c,g,j,o,t,p,A,eq_true k3',aZz,Bt.cs,aZX,aZ2];rw[k3] at p;have Z:∀m∈(aQ s).1.fs,0<=m/\m<=4294967295:=fun m hm=>by have:=Ic ck m hm;omega
 have rb:=Ov (t5 (b:=bb) (Oj (G:=G) (B:=dU G bb) (aQ s).1 Z));have lnI:(s.length:Int)-64=((s.length-64:Nat):Int):=by omega
 have tN:((s.length:Int)-64).toNat=s.length-64:=by omega
 have K:=@cR (s.drop (s.length-64)) (aQ s).1.bs (fun x Z=>c x (bAa Z)) (tC _)
 by_cases k4:s.drop (s.length-64)=(aQ s).1.bs
 rotate_left
 rw[eq_false k4] at K;generalize (aQ s).1.bs=XB at *;generalize aQ s=V at *;obtain⟨x,M,d⟩:=V;simp only at f i;subst f;subst i;refine aB (h:=h3) rfl ?_;simp (maxSteps:=2000000) (disch:=omega) only[go_sem,h3c,g,j,o,t,p,A,rb,K,tN,aC,Bt.cs,aZX,aZ2];rw[eq_true k4] at K;have rd:=Ov (t5 (F4 (bb:=bb) Y s c Q n));by_cases w:(Lv s n).2.2=0
 rotate_left
 generalize Lv s n=R at *;obtain⟨r,u,e⟩:=R;simp only at w;generalize (aQ s).1.bs=XB at *;generalize aQ s=V at *;obtain⟨x,M,d⟩:=V;simp only at f i;subst f;subst i;refine aB (h:=h3) rfl ?_;simp (maxSteps:=2000000) (disch:=omega) only[go_sem,h3c,g,j,o,t,p,A,rb,K,tN,rd,w,aC,Bt.cs,aZW,aZR,aZX,aZ2];have N:Q5 s n=0:=by
  refine Classical.byContradiction fun q=>?_
  unfold Lv at w;rw[if_neg q] at w;exact q w
 obtain⟨_,n0,n1⟩:=aII N;have hNN:Ex s=(jD s).length / 2:=rfl;obtain⟨P,hP,p1,p2,p3⟩:=hT.at (k:=2*n.toNat) (by omega);have b:=hT.b;have pl:=Ov (t5 (Om (bb:=bb) Y s c Q n));rw[if_pos N,N,hP] at pl;have cP:((P*256+62:Nat):Int)=(P:Int)*256+64-2:=by omega
 have g2:=Ai c (P*256+62);have T:=Ov (t5 (b:=bb) (aIk (G:=G) (B:=dU G bb) s c (P*256+62) 2 (by omega) (by decide) (by omega)));rw[cP] at T;have md:=Ov (t5 (b:=bb) (Gm (G:=G) (B:=dU G bb) (gL s (P*256+62) 2+1) 65536 (by decide)));have U:=Ov (t5 (b:=bb) (kR (G:=G) (B:=dU G bb) ((gL s (P*256+62) 2+1) % 65536) 2 (by omega) (by decide)));change EV G _ _ _ _=some (sv (Ou s (P*256+62)),[]) at U
 have lt:(Ou s (P * 256+62)).length=2:=aA _ _;have pa:=Ov (t5 (b:=bb) (Vs (G:=G) (B:=dU G bb) s (Ou s (P * 256+62)) (P * 256+62) (by omega) (by omega)));rw[cP] at pa;have X:=aNH c I k3 (n:=n.toNat) (by omega) hP (by
  have:Lv s n=Lj s (aQ s).1 (jD s) n.toNat:=by unfold Lv;rw[if_pos N]
  rw[<- this];exact w)
 rw[show ((n.toNat:Nat):Int)=n by omega] at X;have bt:aJ (Ou s (P*256+62)):=cV _ _;have ls':(fE s (P*256+62) (Ou s (P*256+62))).length=s.length:=cJ (by omega);have J:=Ov (t5 (F4 (bb:=bb) Y (fE s (P*256+62) (Ou s (P*256+62))) (aDP c bt) (by omega) n));rw[X] at J;have sr:=Ov (t5 (upS (aDE (G:=G) (bb:=bb) (Lv s n).1 (aWp c n))))
 
 have z:a.toNat<s.length:=by omega
 have bA:=c _ (aZG z);have ix:Gz (sv s) a=some (vu s[a.toNat]):=by
  have:=aGR s c a (by omega);rw[bU s a.toNat z] at this;exact this
 generalize H:s[a.toNat]=l at *;have m1:=Ov (t5 (b:=bb) (Gm (G:=G) (B:=dU G bb) (l+1) 256 (by decide)));have S:=Ov (t5 (b:=bb) (kR (G:=G) (B:=dU G bb) ((l+1) % 256) 1 (by omega) (by decide)));rw[sg1 _ (by omega)] at S;have p9:=Ov (t5 (b:=bb) (Vs (G:=G) (B:=dU G bb) s [(l+1) % 256] a.toNat (by simp;omega) (by omega)));rw[show ((a.toNat:Nat):Int)=a by omega] at p9;have eS:=aDZ c f i k4 (k:=a.toNat) (by omega) z (v:=(l+1) % 256) (by omega) (by rw[H];omega);have W:aJ (fE s a.toNat [(l+1) % 256]):=aDP c (fun y hy=>by rw[List.mem_singleton.1 hy];omega)
 have l9:(fE s a.toNat [(l+1) % 256]).length=s.length:=cJ (by simp;omega);have D:=Ov (t5 (b:=bb) (Lb (G:=G) (B:=dU G bb) As (fE s a.toNat [(l+1) % 256]) W (by omega)));rw[eS] at D;have F:=Ov (t5 (b:=bb) (aIp (G:=G) (B:=dU G bb) (fE s a.toNat [(l+1) % 256]) (by omega)));have cd:Gt s.length=0:=by
  unfold La at O;by_cases q:Gt s.length=0;exact q;rw[if_pos q] at O;exact O
 rw[l9,cd] at F;have T:EV G (TLm G bb) 15 [sv s,vi ((P:Int)*256+64-2),vi 2] []=some (vi (gL s (P*256+62) 2),[]):=T;have U:EV G (TLm G bb) 13 [vi ((gL s (P*256+62) 2+1) % 65536),vi 2] []=some (sv (Ou s (P*256+62)),[]):=U;have S:EV G (TLm G bb) 13 [vi ((l+1) % 256),vi 1] []=some (sv [(l+1) % 256],[]):=S;clear eS X ck;generalize fE s (P*256+62) (Ou s (P*256+62))=S1 at *;generalize fE s a.toNat [(l+1) % 256]=S2 at *;generalize Ou s (P*256+62)=TN at *;generalize gL s (P*256+62) 2=GG at *;generalize Lv s n=R at *;obtain⟨r,u,e⟩:=R;simp only at w;subst w;generalize (aQ s).1.bs=XB at *;generalize jD s=C at *;generalize aQ s=V at *;obtain⟨x,M,d⟩:=V;simp only at f i;subst f;subst i;refine aB (h:=h3) rfl ?_;simp (maxSteps:=2000000) (disch:=omega) only[go_sem,h3c,g,j,o,t,p,A,rb,K,tN,rd,pl,T,md,U,pa,J,sr,ix,m1,S,p9,D,F,H,aC,Bt.cs,aZW,aZR,aZX,aZ2]
end
section
variable {G:aF}{B:aO}
theorem qcM{f:FuncId}{a:L AV}{r:AV}(h:EV GF (TLm GF true) f a []=some (r,[])):QC Tryz.prog GF f a r:=aAC aR7 (aNz fun _=>aDV aWh) h
theorem aYg{G:aF}:EV G (T5 G true) 4 [] []=some (vb true,[]):=t5 aWj
end
section
variable {G:aF}{bb:Bool}
open Go.ChangeShapes Go.WideShapes Go.ChangeAt Go.RowKit
set_option maxRecDepth 100000 in
theorem Bx(os:Os)(d:os.Started)(H:Type)(enc:TypeId×Value->H):ReturnsInHanded {} Tryz.checked os 3 .any (fun w c=>(Rows.tableMirrorsSpec.pre enc Tryz.prog Tryz.f3 [] false w c/\laidMetH Tryz.prog Rows.tableMirrorsRow.laid w)/\sizedMet enc Tryz.prog Tryz.f3 (OpenSpec.ofChange Rows.tableMirrorsSpec) false w c) (Rows.tableMirrorsSpec.post enc Tryz.prog Tryz.f3 false true false false):=by
 refine Lq (C:=Tryz.checked) (X:=fun w _=>laidMetH Tryz.prog Rows.tableMirrorsRow.laid w) (fun _ _ _ N h=>h.of_heap N) Tryz.own d (by kernel_rfl) Tryz.func3
  (ChangeSpec.witness_shaped (enc:=enc) (C:=Tryz.checked) (os:=os) (X:=fun w _=>laidMetH Tryz.prog Rows.tableMirrorsRow.laid w) false (World.laidAll Tryz.prog os Rows.tableMirrorsRow.laid) #[.string ⟨#[]⟩,.int .i64 0,.int .i64 0] 8 (World.laidAll_os _ _ _)
   (World.shaped_of_ZipB (by kernel_rfl) (by kernel_rfl)) (by kernel_rfl) (by kernel_rfl) (by kernel_rfl)
   (by rw[MakeChecks.laidMetH_plain _ _ _ (by kernel_rfl)];exact laidMet_laidAll _ (by kernel_rfl) (by kernel_rfl))) ?_
 intro W g c y gs l f z I R;have k:∀(j:Nat) t v,Tryz.f3.params[j]?=some t->c[j]?=some v->Value.okWide Tryz.prog W .any g t v:=f;have r:=z;obtain⟨p,q,o,J,rfl,M,O⟩:=z;have F:DataW.TrodAll enc Tryz.prog W 0 (fun _=>true) true Tryz.f3.params.toList c.toList y p:=o
 obtain⟨rfl,rfl⟩:=trodVars_none J;obtain⟨n,D,E,h3,h4⟩:=Ot (m:=7) F (fun j t v a b=>k j t v (by simpa using a) (by simpa using b)) (by
  have:Tryz.f3.params.toList.all (Lp Tryz.prog 7)=true:=by kernel_rfl
  exact fun t x=>bA0.1 this t x)
 rw[Tryz.params3] at h3
 match n,h3 with
 |[Y,Z,b2],h3=>
  obtain⟨k0,T,U,_⟩:=h3;obtain⟨s,rfl,Q,S⟩:=aI4 (m:=6) k0;obtain⟨m,rfl,hm⟩:=Wb (m:=6) T;obtain⟨a,rfl,ha⟩:=Wb (m:=6) U;have u:fZ (iY W) GF:=aWi I;have P:=qcM (aD1 (bb:=true) aWh aYg s Q m a);refine (aCh P u ⟨by simpa using D,fun i A v a b=>E i A v a (by simpa using b)⟩).mono fun e V ⟨L,K⟩=>?_
  subst L;rw[Tryz.params3] at h4
  match y,h4 with
  |[d0,d1,d2],_=>
   exact⟨_,rfl,aCi (tb:=4) Tryz.laidOut (by
    have:Tryz.f3.params.toList.all (fun t=>Tryz.prog.readableRec t&&decide (t < Tryz.prog.types.size))=true:=by kernel_rfl
    intro t x;have:=bA0.1 this t x;rw[aZO,decide_eq_true_eq] at this;exact this) rfl rfl Tryz.underlying4 r rfl K⟩
theorem gV{a b:Bool}(c:a=true)(d:b=true):(a&&b)=true:=by rw[c,d];rfl
theorem aYh:(Rows.tableMirrorsRow.wf (OpenSpec.ofChange Rows.tableMirrorsSpec))=true:=by kernel_rfl
theorem aYi:(laidOutB Tryz.pinned.checked.prog)=true:=by kernel_rfl
theorem aYj:(mapsRowed Tryz.pinned.checked.prog)=true:=by kernel_rfl
theorem aYk:(Tryz.f3.params.all (Tryz.pinned.checked.prog.readableRec ·))=true:=by kernel_rfl
theorem aYl:(namedTie Tryz.pinned.checked.prog Rows.tableMirrorsRow.named Rows.tableMirrorsSpec.vars)=true:=by kernel_rfl
theorem aYm:((Rows.tableMirrorsRow.stops==[]))=true:=by kernel_rfl
theorem aYn:((Tryz.pinned.checked.prog.stops==[]))=true:=by kernel_rfl
theorem aYo:((Rows.tableMirrorsRow.knobs==[]))=true:=by kernel_rfl
theorem aYp:((Tryz.pinned.checked.prog.stopKnobs==[]))=true:=by kernel_rfl
theorem aYq:((Rows.tableMirrorsRow.inPlace==Tryz.pinned.checked.prog.inPlace 3))=true:=by kernel_rfl
theorem aWq:((Rows.tableMirrorsRow.unfollowed==Tryz.pinned.checked.prog.unfollowed 3))=true:=by kernel_rfl
theorem aWr:((Rows.tableMirrorsRow.recurses==Tryz.pinned.checked.prog.recurses 3))=true:=by kernel_rfl
theorem aWs:((Rows.tableMirrorsRow.named==Tryz.pinned.checked.prog.varsNamed 3))=true:=by kernel_rfl
theorem aWt:((Rows.tableMirrorsRow.maps==(Tryz.f3.params.toList++Rows.tableMirrorsSpec.plain.varTypes Tryz.pinned.checked.prog).any (Tryz.pinned.checked.prog.mapsRec ·)))=true:=by kernel_rfl
theorem aWu:((Rows.tableMirrorsRow.ifaces==(Tryz.f3.params.toList++Rows.tableMirrorsSpec.plain.varTypes Tryz.pinned.checked.prog).any (Tryz.pinned.checked.prog.ifacesRec ·)))=true:=by kernel_rfl
theorem aWv:((Rows.tableMirrorsRow.mapsOut==Tryz.pinned.checked.prog.mapsAmong Tryz.f3.resultTypes.toList))=true:=by kernel_rfl
theorem aWw:((Rows.tableMirrorsRow.loops==(Tryz.f3.params.toList++Rows.tableMirrorsSpec.plain.varTypes Tryz.pinned.checked.prog).any (Tryz.pinned.checked.prog.loopsFrom ·)))=true:=by kernel_rfl
theorem aWx:((Rows.tableMirrorsRow.wideKeys==(Tryz.f3.params.toList++Rows.tableMirrorsSpec.plain.varTypes Tryz.pinned.checked.prog++Tryz.f3.resultTypes.toList).any (Tryz.pinned.checked.prog.wideKeysFrom ·)))=true:=by kernel_rfl
theorem aWy:(Rows.tableMirrorsSpec.vars.all (Tryz.pinned.checked.prog.varReadable ·))=true:=by kernel_rfl
theorem aWz:(Tryz.f3.resultTypes.all (fun t=>Tryz.pinned.checked.prog.readableRec t&&decide (t<Tryz.pinned.checked.prog.types.size)))=true:=by kernel_rfl
theorem aWA:((Rows.tableMirrorsRow.ifacesOut==Tryz.f3.resultTypes.toList.any (Tryz.pinned.checked.prog.ifacesRec ·)))=true:=by kernel_rfl
theorem aWB:((Rows.tableMirrorsRow.loopsOut==Tryz.f3.resultTypes.toList.any (Tryz.pinned.checked.prog.loopsFrom ·)))=true:=by kernel_rfl
theorem aWC:((Rows.tableMirrorsRow.plainKeys==Tryz.pinned.checked.prog.plainKeys))=true:=by kernel_rfl
theorem aWD:(Rows.tableMirrorsRow.shortTexts.isNone)=true:=by kernel_rfl
theorem aWE:(Tryz.pinned.checked.prog.stopsHeard)=true:=by kernel_rfl
theorem aWF:(Tryz.pinned.checked.prog.mayEnter)=true:=by kernel_rfl
theorem aWG:((Rows.tableMirrorsRow.lifted==Tryz.pinned.checked.prog.liftsFinal))=true:=by kernel_rfl
theorem aWH:((Tryz.pinned.checked.prog.make==some Rows.tableMirrorsRow.make))=true:=by kernel_rfl
theorem aWI:((Rows.tableMirrorsRow.kinds==(if Rows.tableMirrorsRow.domain.isEmpty then [] else Tryz.f3.params.toList.map fun t=>match Tryz.pinned.checked.prog.underlying t with|some (.int k)=>some k|_=>none)))=true:=by kernel_rfl
theorem aWJ:((Rows.tableMirrorsRow.pinned==Rows.tableMirrorsRow.pinnedBy))=true:=by kernel_rfl
theorem aWK:((Rows.tableMirrorsRow.veiled==(Tryz.f3.params.toList++Rows.tableMirrorsSpec.plain.varTypes Tryz.pinned.checked.prog++Tryz.f3.resultTypes.toList).any (Tryz.pinned.checked.prog.veiledRec ·)))=true:=by kernel_rfl
theorem aWL:(Rows.tableMirrorsRow.veiledFits Tryz.pinned.checked.prog Tryz.f3.params.toList (Tryz.f3.params.toList++Rows.tableMirrorsSpec.plain.varTypes Tryz.pinned.checked.prog++Tryz.f3.resultTypes.toList))=true:=by kernel_rfl
theorem aJe:joinedFacts Tryz.pinned.checked.prog 3 Tryz.f3 Rows.tableMirrorsSpec Rows.tableMirrorsRow=true:=(gV (gV (gV (gV (gV (gV (gV (gV (gV (gV (gV (gV (gV (gV (gV (gV (gV (gV (gV (gV (gV (gV (gV (gV (gV (gV (gV (gV (gV (gV (gV aYh aYi) aYj) aYk) aYl) aYm) aYn) aYo) aYp) aYq) aWq) aWr) aWs) aWt) aWu) aWv) aWw) aWx) aWy) aWz) aWA) aWB) aWC) aWD) aWE) aWF) aWG) aWH) aWI) aWJ) aWK) aWL)
theorem Et:Rows.TableMirrorsSaid:=
 OpenClaim.holds_of_wide 3 Tryz.f3 rfl rfl rfl rfl rfl rfl rfl ⟨rfl,rfl,rfl,rfl,rfl⟩ rfl rfl rfl rfl rfl (by kernel_rfl) Tryz.func3 aJe
  (of_decide_eq_true (by kernel_rfl)) (by unfold Func.isWrapper;first|(rw[if_pos (by decide +kernel)];kernel_rfl)|(rw[if_neg (by decide +kernel)];exact⟨rfl,rfl⟩))
  (fun os a H enc _=>Bx os a H enc)
theorem Cs(f:FuncId)(b:Func)(hf:Tryz.pinned.checked.prog.funcNamed "depository/depositorylaw11.TableMirrors"=some f)(c:Tryz.pinned.checked.prog.funcs[f]?=some b):false=Tryz.pinned.checked.prog.looks []/\∀(j:Nat) t,b.params[j]?=some t->Tryz.pinned.checked.prog.wantsStandIn t=false:=by
 obtain rfl:f=3:=Option.some.inj ((show Tryz.prog.funcNamed "depository/depositorylaw11.TableMirrors"=some 3 by kernel_rfl).symm.trans hf) |>.symm
 obtain rfl:b=Tryz.f3:=(Option.some.inj (Tryz.func3.symm.trans c)).symm;refine⟨by kernel_rfl,fun j t d=>?_⟩
 have a:Tryz.f3.params.toList.all (fun t=>!Tryz.prog.wantsStandIn t)=true:=by kernel_rfl
 have:=bA0.1 a t (by simpa using Array.mem_of_getElem? d);have e:Tryz.prog.wantsStandIn t=false:=by simpa using this
 exact e
theorem tableMirrors_holds:Rows.TableMirrorsCardSaid:=
 Claim7.holds_tied_plain_at .later [] _ _ _ _ Et (fun _ h=>by cases h) (by kernel_rfl) (fun _ h=>by cases h) tableMirrors_row_tie rfl ⟨rfl,rfl⟩ (by kernel_rfl) rfl Cs Es
