/- Codes with hints are contracts. Conditions: none. -/
import Derived.Test.YthepfneloomngaaGreatDoorNc
namespace Go.Proofs.YthepfneloomngaaGreatDoor
set_option linter.unusedSimpArgs false
set_option linter.unusedVariables false
section
variable {P:Program}{G:aE}{k:Nat}{st st' s:AS}{call:aO}
theorem aNm(g:GH)(s:AS):∃s',Gh k s s'/\aD s'=ghE g (aD s):=by
 cases g with
 |nil d sz=>
  simp only[ghE,ghN];split;rename_i hv;refine⟨_,Gh.nil (d:=d) sz ?_,by simp[aD,aP]⟩;rw[show (aD s).sl=s.sl from rfl,aXN] at hv
  cases h:s.sl[d]? with
  |none=>rw[h] at hv;cases hv
  |some x=>rw[h] at hv;simp only[aYn] at hv;rw[hv]
  exact⟨s,Gh.refl,rfl⟩
 |nilB d j sz=>
  simp only[ghE,ghB];split;rename_i id off hv;simp only[aD,bI];unfold aHU;split;rename_i cs hb;unfold aHT;split;rename_i hj;exact⟨_,Gh.nilB sz (pW hb) hj,by simp[aD,aP,aYa]⟩;exact⟨s,Gh.refl,rfl⟩;exact⟨s,Gh.refl,rfl⟩;exact⟨s,Gh.refl,rfl⟩
 |frz d=>exact fA _ s
 |bv d=>exact tD _ s
theorem aDJ(m:Nat)(c:aT):ctC m c=cG (fun id=>decide (m<=id)) c:=by
 cases c<;>simp only[ctC,cG,aT.keep,if_true]
 case ptr j o=>by_cases h:m<=j<;>simp[h]
 case bld j n=>by_cases h:m<=j<;>simp[h]
 case ept j i s o=>by_cases h:m<=j<;>simp[h]
 case bls j i s o=>by_cases h:m<=j<;>simp[h]
theorem Bk(m:Nat):∀cs,Jz m cs=cs.map (cG fun id=>decide (m<=id))
 |[]=>rfl
 |c::cs=>by simp[Jz,aDJ,Bk m cs]
theorem aNn(m:Nat)(v:AV):ctV m v=bD (fun id=>decide (m<=id)) v:=by
 cases v<;>simp only[ctV,bD,aDJ,Bk]
theorem aNo(m:Nat)(o:aC):ctO m o=cJ (fun id=>decide (m<=id)) o:=by
 cases o<;>simp only[ctO,cJ,Bk]
theorem aDK(m:Nat):∀(n:Nat) (l:List aC),ctH m n l=(l.take n).map (cJ fun id=>decide (m<=id))
 |0,l=>by simp[ctH]
 |n+1,[]=>by simp[ctH]
 |n+1,o::os=>by simp[ctH,aNo,aDK m n os]
theorem Mx(m:Nat):∀(l:List AV) (L:List Nat),SLe (l.map (bD fun id=>decide (m<=id))) (ctS m L l)
 |[],[]=>trivial
 |[],_::_=>trivial
 |x::xs,[]=>⟨.junk _,Mx m xs []⟩
 |x::xs,0::L=>⟨by rw[aNn];exact .refl _,Mx m xs L⟩
 |x::xs,(n+1)::L=>⟨.junk _,Mx m xs (n::L)⟩
theorem My(L:List Nat)(m:Nat)(hk:k<=m)(s:AS):Gh k s (jY L m s):=Gh.dropS m hk (Mx m s.sl L) (aDK m m s.hp).symm
theorem aAN(m:Nat)(o:aC):aP (ctO m o)=ctO m (aP o):=by cases o<;>rfl
theorem K4(m:Nat):∀(n:Nat) (l:List aC),(ctH m n l).map aP=ctH m n (l.map aP)
 |0,l=>by simp[ctH]
 |n+1,[]=>by simp[ctH]
 |n+1,o::os=>by simp[ctH,aAN,K4 m n os]
theorem Da(L:List Nat)(m:Nat)(s:AS):aD (jY L m s)=jY L m (aD s):=by
 simp only[aD,jY,K4]
theorem AW.le{x:dP}{Q:Exit->AS->Prop}(h:k<=st.hp.length->AW P G k x Q st):AW P G k x Q st:=
 fun c hc F γ a w hi hs hg hk=>h (by rw[<- hi.len];exact hk) c hc F γ a w hi hs hg hk
theorem aLP(hcall:cE P G call):∀(c:HC) (s:AS) (e:Exit) (st':AS),EC call G c (aD s)=some (e,st')->∀k,AW P G k c.er (fun e' s'=>e'=e/\aD s'=st') s:=by
 intro c
 induction c with
 |bad=>intro s e st' h k;simp only[EC] at h;cases h
 |skip=>intro s e st' h k;simp only[EC,Option.some.injEq,Prod.mk.injEq] at h;obtain⟨rfl,rfl⟩:=h;exact AW.skip ⟨rfl,rfl⟩
 |ret=>intro s e st' h k;simp only[EC,Option.some.injEq,Prod.mk.injEq] at h;obtain⟨rfl,rfl⟩:=h;exact AW.ret ⟨rfl,rfl⟩
 |exit id=>intro s e st' h k;simp only[EC,Option.some.injEq,Prod.mk.injEq] at h;obtain⟨rfl,rfl⟩:=h;exact AW.exit ⟨rfl,rfl⟩
 |region ops=>
  intro s e st' h k;simp only[EC] at h;obtain⟨s1,h1,h2⟩:=jZ h;injection h2 with h2 h3
  subst h2;subst h3;exact AW.region ((aDF hcall ops s st' h1).mono (fun s' h=>⟨rfl,h⟩))
 |regR L ops=>
  intro s e st' h k;simp only[EC] at h;obtain⟨s1,h1,h2⟩:=jZ h;injection h2 with h2 h3
  subst h2;subst h3;exact AW.region ((Xl hcall ops s st' h1).mono (fun s' h=>⟨rfl,h⟩))
 |drawnT L t ops=>
  intro s e st' h k;simp only[EC] at h;obtain⟨s1,h1,h2⟩:=jZ h;injection h2 with h2 h3
  subst h2;subst h3;refine AW.prm (AW.drawnT (TW.mono (fun s' ⟨p,g1,g2⟩=>?_) t s (aNk hcall t s _ h1)))
  exact⟨p,by rw[P3] at g1;exact g1,rfl,g2⟩
 |drawnF prs ops=>
  intro s e st' h k;simp only[EC] at h;obtain⟨s1,h1,h2⟩:=jZ h;injection h2 with h2 h3
  subst h2;subst h3;exact AW.le (fun hk=>Uc hcall hk h1 (fun s' h=>⟨rfl,h⟩))
 |drawn ops=>
  intro s e st' h k;simp only[EC] at h;obtain⟨s1,h1,h2⟩:=jZ h;injection h2 with h2 h3
  subst h2;subst h3;exact AW.drawn (jM.mono (fun s' h=>⟨rfl,h⟩) _ _ (Xm hcall ops s st' h1))
 |seq a b iha ihb=>
  intro s e st' h k;simp only[EC] at h;cases ha:EC call G a (aD s) with
  |none=>rw[ha] at h;cases h
  |some q=>
   obtain⟨e1,s1⟩:=q;rw[ha] at h;refine AW.seq ((iha s e1 s1 ha k).mono ?_);rintro e' s' ⟨rfl,rfl⟩;cases e' with
   |normal=>exact ihb s' e st' h k
   |_=>simp only[Option.some.injEq,Prod.mk.injEq] at h;obtain⟨rfl,rfl⟩:=h;exact⟨rfl,rfl⟩
 |cond c a b iha ihb=>
  intro s e st' h k;simp only[EC] at h;cases hb:cH (aK G (aD s).sl c) with
  |none=>rw[hb] at h;cases h
  |some t=>
   rw[hb] at h;refine AW.cond hb (fun ht=>?_) (fun ht=>?_)
   subst ht;exact iha s e st' h k;subst ht;exact ihb s e st' h k
 |block id a iha=>
  intro s e st' h k;simp only[EC] at h;cases ha:EC call G a (aD s) with
  |none=>rw[ha] at h;cases h
  |some q=>
   obtain⟨e1,s1⟩:=q;rw[ha] at h;refine AW.block ((iha s e1 s1 ha k).mono ?_);rintro e' s' ⟨rfl,rfl⟩;cases e' with
   |exit id'=>
    simp only[Hl,aHZ] at h ⊢;split at h;rename_i heq;simp only[Option.some.injEq,Prod.mk.injEq] at h;obtain⟨rfl,rfl⟩:=h;rw[if_pos heq];exact⟨rfl,rfl⟩;rename_i heq;simp only[Option.some.injEq,Prod.mk.injEq] at h;obtain⟨rfl,rfl⟩:=h;rw[if_neg heq];exact⟨rfl,rfl⟩
   |_=>simp only[Hl,aHZ,Option.some.injEq,Prod.mk.injEq] at h;obtain⟨rfl,rfl⟩:=h;exact⟨rfl,rfl⟩
 |loop L a iha=>
  intro s e st' h k;simp only[EC] at h;obtain⟨n,hn⟩:=iN h;have hm:(aD s).hp.length=s.hp.length:=by simp[aD]
  rw[hm,<- Da] at hn;refine AW.le (fun hk=>?_)
  refine AW.loopG (α:=Nat×AS) (fun z=>z.2) (fun z=>Jr (EC call G a) L s.hp.length z.1 (aD z.2)=some (e,st')) (fun z=>z.1) (n,jY L s.hp.length s) hn (My L _ hk s) (fun z hz=>?_)
  obtain⟨i,s1⟩:=z;cases i with
  |zero=>simp[Jr] at hz
  |succ i=>
   simp only[Jr] at hz;cases hr:EC call G a (aD s1) with
   |none=>rw[hr] at hz;cases hz
   |some q=>
    obtain⟨e1,s2⟩:=q;rw[hr] at hz;refine (iha s1 e1 s2 hr k).mono ?_;rintro e' s' ⟨rfl,rfl⟩;cases e' with
    |normal=>
     simp only[<- Da] at hz;exact Jv.n (i,jY L s.hp.length s') hz (Nat.lt_succ_self i) (My L _ hk s')
    |_=>simp only[Option.some.injEq,Prod.mk.injEq] at hz;obtain⟨rfl,rfl⟩:=hz;unfold Jv;exact⟨rfl,rfl⟩
 |gh g a iha=>
  intro s e st' h k;simp only[EC] at h;obtain⟨s',h1,h2⟩:=aNm (k:=k) g s;exact AW.ghost h1 (iha s' e st' (by rw[h2];exact h) k)
 |trm L a iha=>
  intro s e st' h k;simp only[EC] at h;refine AW.le (fun hk=>?_)
  exact AW.ghost (My L _ hk s) (iha _ e st' (by rw[Da];simpa[aD] using h) k)
def Ud(P:Program)(T:HT):Prop:=∀f h,T.tab f=some h->Wf P f=true/\∃fn,P.funcs[f]?=some fn/\fn.ntmps=h.nt/\fn.body.bind (bR P)=some h.code.er/\fn.results.toList.mapM (iZ P)=some h.rs
theorem tG:∀(ids:List Nat) (st:AS),(bU ids st).hp.length=st.hp.length
 |[],st=>rfl
 | id::r,st=>by
  simp only[bU];split
  ·rw[tG r];simp
  ·exact tG r st
theorem Ht{n:Nat}{o:List aC}:(o.take n).map aP=(o.map aP).take n:=aYr
theorem aIc{T:HT}(hT:Ud P T)(hcall:cE P G call){f:FuncId}{h:HF}(hf:T.tab f=some h){args:List AV}{hp0:List aC}{av:AV}{o':List aC}(he:T7 call G h args (hp0.map aP)=some (av,o')):
  Wf P f=true/\AC P G f args hp0 fun a o=>a=av/\o.map aP=o':=by
 obtain⟨ho,fn,g1,g2,g3,g4⟩:=hT f h hf;refine⟨ho,?_⟩;unfold T7 at he;cases hc:EC call G h.code ⟨args++rS (h.nt-args.length),hp0.map aP⟩ with
 |none=>rw[hc] at he;cases he
 |some q=>
  obtain⟨e,s1⟩:=q;rw[hc] at he;simp only[C8,aXC] at he;split at he;rename_i hend;cases hv:rW s1 h.rs with
  |none=>rw[hv] at he;cases he
  |some v=>
   rw[hv] at he;simp only[T6,Option.some.injEq] at he;have hA:AC P G f args hp0 (fun a o=>a=v/\o.map aP=s1.hp):=by
    refine AC.of_codeJ g1 g2 g3 g4 ((aLP hcall h.code ⟨args++rS (h.nt - args.length),hp0⟩ e s1 hc hp0.length).mono ?_);rintro e' s' ⟨rfl,rfl⟩;unfold Fin;refine⟨?_,by simpa[aD] using hend.2,v,by rw[<- C5];exact hv,rfl,rfl⟩;cases e'<;>simp[Kv] at hend ⊢
   unfold aNe at he;cases hown:h.own with
   |true=>
    rw[hown,cond_true] at he;refine AC.nz ?_;cases hkeep:(cV (fun id=>decide (hp0.length<=id)) v&&(s1.hp.take hp0.length).all (nX fun id=>decide (hp0.length<=id))) with
    |true=>
     rw[hkeep,cond_true] at he;simp only[Prod.mk.injEq] at he;obtain⟨rfl,rfl⟩:=he;simp only[aXQ] at hkeep;refine hA.gh (fun a o ⟨q1,q2⟩ hl=>?_)
     subst q1;refine⟨a,o.take hp0.length, ?_,by simp only[aXK];omega,rfl,by rw[Ht,q2]⟩;have:=Gh.drop (k:=hp0.length) (as:=⟨[a],o⟩) hp0.length (aXF _);have e1:(o.take hp0.length).map (cJ fun id=>decide (hp0.length<=id))=o.take hp0.length:=by
      conv=>rhs;rw[<- List.map_id (o.take hp0.length)]
      refine aXZ (fun x hx=>Hd ?_)
      have:=aY2.1 hkeep.2 (aP x) (by rw[<- q2,<- aYr];exact List.mem_map.2 ⟨x,hx,rfl⟩);rwa[sZ] at this
     simpa[Hc hkeep.1,e1] using this
    |false=>
     rw[hkeep,cond_false] at he;simp only[Prod.mk.injEq] at he;obtain⟨rfl,rfl⟩:=he;exact hA.gh (fun a o ⟨q1,q2⟩ hl=>⟨a,o,Gh.refl,hl,by rw[q1],q2⟩)
   |false=>
    rw[hown,cond_false] at he;simp only[Prod.mk.injEq] at he;obtain⟨rfl,rfl⟩:=he;refine AC.nz ?_;refine hA.gh (fun a o ⟨q1,q2⟩ hl=>?_)
    subst q1;obtain⟨s0,hgh0,hn0⟩:=aM3 (k:=hp0.length) (aXF hp0.length) (jE a) ⟨[a],o⟩ (Tw a);obtain⟨s2,hgh2,hn⟩:=fA (k:=hp0.length) (jE a) s0;have hgh:=hgh0.trans hgh2;have hn':aD s2=bU (jE a) (bxW hp0.length (jE a) ⟨[a],s1.hp⟩ (Tw a)):=by rw[hn,hn0];simp only[aD,q2]
    have hlen:s2.sl.length=1:=by
     have:=congrArg (fun q=>q.sl.length) hn'
     simp only[aD,lR,(Wy _ _ _ _).1] at this;simpa using this
    have hhl:s2.hp.length=o.length:=by
     have:=congrArg (fun q=>q.hp.length) hn'
     simp only[aD,tG,aXC,(Wy _ _ _ _).2] at this;rw[this,<- q2,aXC]
    obtain⟨y,hy⟩:=List.length_eq_one_iff.1 hlen;have hgd:=Gh.drop (k:=hp0.length) (as:=s2) hp0.length (aXF _);have hy2:(bU (jE a) (bxW hp0.length (jE a) ⟨[a],s1.hp⟩ (Tw a))).sl.getD 0 .junk=y:=by rw[<- hn'];simp[aD,hy]
    refine⟨bD (fun id=>decide (hp0.length<=id)) y,(s2.hp.take hp0.length).map (cJ fun id=>decide (hp0.length<=id)),?_,by simp only[aXC,aXK];omega,by rw[hy2],?_⟩
    have:=hgh.trans hgd;rw[hy] at this;simpa using this;rw[<- hn',sY,Ht];simp[aD]
  cases he
theorem qA{T:HT}(hT:Ud P T)(hB:cE P G T.base):∀n,cE P G (callN G T n)
 |0=>fun f args hp av o' h=>by simp[callN] at h
 | n+1=>fun f args hp av o' h hp0 hh=>by
  subst hh;rw[callN] at h;cases hf:T.tab f with
  | none=>rw[hf] at h;exact hB f args _ av o' h hp0 rfl
  | some x=>rw[hf] at h;exact aIc hT (qA hT hB n) hf h
theorem Qn{T:HT}(hT:Ud P T)(hB:cE P G T.base){f:FuncId}{args:List AV}{r:AV}(h:EV G T f args []=some (r,[])):QC P G f args r:=by
 obtain⟨n,hn⟩:=iN h;obtain⟨_,hA⟩:=qA hT hB n f args [] r [] hn [] rfl;exact hA.gh (fun a o ⟨h1,h2⟩ _=>⟨a,o,Gh.refl,aXX _,h1,by simpa using h2⟩)
end
end Go.Proofs.YthepfneloomngaaGreatDoor
