/- Codes with hints are contracts. Conditions: none. -/
import Derived.Test.YthepfneloomngaaGreatDoorNc
namespace Go.Proofs.YthepfneloomngaaGreatDoor
set_option linter.unusedSimpArgs false
set_option linter.unusedVariables false
section
variable {P:Program} {G:aF} {k:Nat} {st st' s:AS} {call:aO}
theorem aLX(g:GH)(s:AS):∃ s',Gh k s s'/\aE s'=ghE g (aE s):=by
 cases g with
 | nil d sz=>
  simp only[ghE,ghN];split
  ·rename_i hv;refine⟨_,Gh.nil (d:=d) sz ?_,by simp[aE,aN]⟩;rw[show (aE s).sl=s.sl from rfl,aWn] at hv
   cases h:s.sl[d]? with
   | none=>rw[h] at hv;cases hv
   | some x=>rw[h] at hv;simp only[aWX] at hv;rw[hv]
  ·exact⟨s,Gh.refl,rfl⟩
 | nilB d j sz=>
  simp only[ghE,ghB];split
  ·rename_i id off hv;simp only[aE,bH];unfold aGJ;split
   ·rename_i cs hb;unfold aGI;split
    ·rename_i hj;exact⟨_,Gh.nilB sz (pH hb) hj,by simp[aE,aN,aWM]⟩
    ·exact⟨s,Gh.refl,rfl⟩
   ·exact⟨s,Gh.refl,rfl⟩
  ·exact⟨s,Gh.refl,rfl⟩
 | frz d=>exact eL _ s
 | bv d=>exact rU _ s
theorem aCB(m:Nat)(c:aR):ctC m c=cE (fun id=>decide (m<=id)) c:=by
 cases c<;>simp only[ctC,cE,aR.keep,if_true]
 case ptr j o=>by_cases h:m<=j<;>simp[h]
 case bld j n=>by_cases h:m<=j<;>simp[h]
 case ept j i s o=>by_cases h:m<=j<;>simp[h]
 case bls j i s o=>by_cases h:m<=j<;>simp[h]
theorem zX(m:Nat):∀ cs,Ic m cs=cs.map (cE fun id=>decide (m<=id))
 | []=>rfl
 | c::cs=>by simp[Ic,aCB,zX m cs]
theorem aLY(m:Nat)(v:AV):ctV m v=bA (fun id=>decide (m<=id)) v:=by
 cases v<;>simp only[ctV,bA,aCB,zX]
theorem aLZ(m:Nat)(o:aD):ctO m o=cI (fun id=>decide (m<=id)) o:=by
 cases o<;>simp only[ctO,cI,zX]
theorem aCC(m:Nat):∀ (n:Nat) (l:List aD),ctH m n l=(l.take n).map (cI fun id=>decide (m<=id))
 | 0,l=>by simp[ctH]
 | n+1,[]=>by simp[ctH]
 | n+1,o::os=>by simp[ctH,aLZ,aCC m n os]
theorem Kz(m:Nat):∀ (l:List AV) (L:List Nat),SLe (l.map (bA fun id=>decide (m<=id))) (ctS m L l)
 | [],[]=>trivial
 | [],_::_=>trivial
 | x::xs,[]=>⟨.junk _,Kz m xs []⟩
 | x::xs,0::L=>⟨by rw[aLY];exact .refl _,Kz m xs L⟩
 | x::xs,(n+1)::L=>⟨.junk _,Kz m xs (n::L)⟩
theorem K0(L:List Nat)(m:Nat)(hk:k<=m)(s:AS):Gh k s (jL L m s):=Gh.dropS m hk (Kz m s.sl L) (aCC m m s.hp).symm
theorem Zm(m:Nat)(o:aD):aN (ctO m o)=ctO m (aN o):=by cases o<;>rfl
theorem Jg(m:Nat):∀ (n:Nat) (l:List aD),(ctH m n l).map aN=ctH m n (l.map aN)
 | 0,l=>by simp[ctH]
 | n+1,[]=>by simp[ctH]
 | n+1,o::os=>by simp[ctH,Zm,Jg m n os]
theorem Bu(L:List Nat)(m:Nat)(s:AS):aE (jL L m s)=jL L m (aE s):=by
 simp only[aE,jL,Jg]
theorem AW.le{x:dJ}{Q:Exit->AS->Prop}(h:k<=st.hp.length->AW P G k x Q st):AW P G k x Q st:=
 fun c hc F γ a w hi hs hg hk=>h (by rw[<- hi.len];exact hk) c hc F γ a w hi hs hg hk
theorem aKp(hcall:cB P G call):∀ (c:HC) (s:AS) (e:Exit) (st':AS),EC call G c (aE s)=some (e,st')->∀ k,AW P G k c.er (fun e' s'=>e'=e/\aE s'=st') s:=by
 intro c
 induction c with
 | bad=>intro s e st' h k;simp only[EC] at h;cases h
 | skip=>intro s e st' h k;simp only[EC,Option.some.injEq,Prod.mk.injEq] at h;obtain⟨rfl,rfl⟩:=h;exact AW.skip ⟨rfl,rfl⟩
 | ret=>intro s e st' h k;simp only[EC,Option.some.injEq,Prod.mk.injEq] at h;obtain⟨rfl,rfl⟩:=h;exact AW.ret ⟨rfl,rfl⟩
 | exit id=>intro s e st' h k;simp only[EC,Option.some.injEq,Prod.mk.injEq] at h;obtain⟨rfl,rfl⟩:=h;exact AW.exit ⟨rfl,rfl⟩
 | region ops=>
  intro s e st' h k;simp only[EC] at h;obtain⟨s1,h1,h2⟩:=jN h;injection h2 with h2 h3
  subst h2;subst h3;exact AW.region ((aCx hcall ops s st' h1).mono (fun s' h=>⟨rfl,h⟩))
 | regR L ops=>
  intro s e st' h k;simp only[EC] at h;obtain⟨s1,h1,h2⟩:=jN h;injection h2 with h2 h3
  subst h2;subst h3;exact AW.region ((Vz hcall ops s st' h1).mono (fun s' h=>⟨rfl,h⟩))
 | drawnT L t ops=>
  intro s e st' h k;simp only[EC] at h;obtain⟨s1,h1,h2⟩:=jN h;injection h2 with h2 h3
  subst h2;subst h3;refine AW.prm (AW.drawnT (TW.mono (fun s' ⟨p,g1,g2⟩=>?_) t s (aLV hcall t s _ h1)))
  exact⟨p,by rw[Ny] at g1;exact g1,rfl,g2⟩
 | drawnF prs ops=>
  intro s e st' h k;simp only[EC] at h;obtain⟨s1,h1,h2⟩:=jN h;injection h2 with h2 h3
  subst h2;subst h3;exact AW.le (fun hk=>Sp hcall hk h1 (fun s' h=>⟨rfl,h⟩))
 | drawn ops=>
  intro s e st' h k;simp only[EC] at h;obtain⟨s1,h1,h2⟩:=jN h;injection h2 with h2 h3
  subst h2;subst h3;exact AW.drawn (iU.mono (fun s' h=>⟨rfl,h⟩) _ _ (V0 hcall ops s st' h1))
 | seq a b iha ihb=>
  intro s e st' h k;simp only[EC] at h;cases ha:EC call G a (aE s) with
  | none=>rw[ha] at h;cases h
  | some q=>
   obtain⟨e1,s1⟩:=q;rw[ha] at h;refine AW.seq ((iha s e1 s1 ha k).mono ?_);rintro e' s' ⟨rfl,rfl⟩;cases e' with
   | normal=>exact ihb s' e st' h k
   | _=>simp only[Option.some.injEq,Prod.mk.injEq] at h;obtain⟨rfl,rfl⟩:=h;exact⟨rfl,rfl⟩
 | cond c a b iha ihb=>
  intro s e st' h k;simp only[EC] at h;cases hb:cF (aJ G (aE s).sl c) with
  | none=>rw[hb] at h;cases h
  | some t=>
   rw[hb] at h;refine AW.cond hb (fun ht=>?_) (fun ht=>?_)
   ·subst ht;exact iha s e st' h k
   ·subst ht;exact ihb s e st' h k
 | block id a iha=>
  intro s e st' h k;simp only[EC] at h;cases ha:EC call G a (aE s) with
  | none=>rw[ha] at h;cases h
  | some q=>
   obtain⟨e1,s1⟩:=q;rw[ha] at h;refine AW.block ((iha s e1 s1 ha k).mono ?_);rintro e' s' ⟨rfl,rfl⟩;cases e' with
   | exit id'=>
    simp only[Fy,aGP] at h ⊢;split at h
    ·rename_i heq;simp only[Option.some.injEq,Prod.mk.injEq] at h;obtain⟨rfl,rfl⟩:=h;rw[if_pos heq];exact⟨rfl,rfl⟩
    ·rename_i heq;simp only[Option.some.injEq,Prod.mk.injEq] at h;obtain⟨rfl,rfl⟩:=h;rw[if_neg heq];exact⟨rfl,rfl⟩
   | _=>simp only[Fy,aGP,Option.some.injEq,Prod.mk.injEq] at h;obtain⟨rfl,rfl⟩:=h;exact⟨rfl,rfl⟩
 | loop L a iha=>
  intro s e st' h k;simp only[EC] at h;obtain⟨n,hn⟩:=jM h;have hm:(aE s).hp.length=s.hp.length:=by simp[aE]
  rw[hm,<- Bu] at hn;refine AW.le (fun hk=>?_)
  refine AW.loopG (α:=Nat × AS) (fun z=>z.2) (fun z=>H3 (EC call G a) L s.hp.length z.1 (aE z.2)=some (e,st')) (fun z=>z.1) (n,jL L s.hp.length s) hn (K0 L _ hk s) (fun z hz=>?_)
  obtain⟨i,s1⟩:=z;cases i with
  | zero=>simp[H3] at hz
  | succ i=>
   simp only[H3] at hz;cases hr:EC call G a (aE s1) with
   | none=>rw[hr] at hz;cases hz
   | some q=>
    obtain⟨e1,s2⟩:=q;rw[hr] at hz;refine (iha s1 e1 s2 hr k).mono ?_;rintro e' s' ⟨rfl,rfl⟩;cases e' with
    | normal=>
     simp only[<- Bu] at hz;exact H8.n (i,jL L s.hp.length s') hz (Nat.lt_succ_self i) (K0 L _ hk s')
    | _=>simp only[Option.some.injEq,Prod.mk.injEq] at hz;obtain⟨rfl,rfl⟩:=hz;unfold H8;exact⟨rfl,rfl⟩
 | gh g a iha=>
  intro s e st' h k;simp only[EC] at h;obtain⟨s',h1,h2⟩:=aLX (k:=k) g s;exact AW.ghost h1 (iha s' e st' (by rw[h2];exact h) k)
 | trm L a iha=>
  intro s e st' h k;simp only[EC] at h;refine AW.le (fun hk=>?_)
  exact AW.ghost (K0 L _ hk s) (iha _ e st' (by rw[Bu];simpa[aE] using h) k)
def Zn(P:Program)(T:HT):Prop:=∀ f h,T.tab f=some h->Uv P f=true/\∃ fn,P.funcs[f]?=some fn/\fn.ntmps=h.nt/\fn.body.bind (bQ P)=some h.code.er/\fn.results.toList.mapM (iH P)=some h.rs
theorem rW:∀ (ids:List Nat) (st:AS),(bR ids st).hp.length=st.hp.length
 | [],st=>rfl
 | id::r,st=>by
  simp only[bR];split
  ·rw[rW r];simp
  ·exact rW r st
theorem Ga{n:Nat}{o:List aD}:(o.take n).map aN=(o.map aN).take n:=aW2
theorem aG2{T:HT}(hT:Zn P T)(hcall:cB P G call){f:FuncId}{h:HF}(hf:T.tab f=some h){args:List AV}{hp0:List aD}{av:AV}{o':List aD}(he:Sl call G h args (hp0.map aN)=some (av,o')):
  Uv P f=true/\AC P G f args hp0 fun a o=>a=av/\o.map aN=o':=by
 obtain⟨ho,fn,g1,g2,g3,g4⟩:=hT f h hf;refine⟨ho, ?_⟩;unfold Sl at he;cases hc:EC call G h.code ⟨args++qS (h.nt - args.length),hp0.map aN⟩ with
 | none=>rw[hc] at he;cases he
 | some q=>
  obtain⟨e,s1⟩:=q;rw[hc] at he;simp only[Br,aWf] at he;split at he
  ·rename_i hend;cases hv:qV s1 h.rs with
   | none=>rw[hv] at he;cases he
   | some v=>
    rw[hv] at he;simp only[Sk,Option.some.injEq] at he;have hA:AC P G f args hp0 (fun a o=>a=v/\o.map aN=s1.hp):=by
     refine AC.of_codeJ g1 g2 g3 g4 ((aKp hcall h.code ⟨args++qS (h.nt - args.length),hp0⟩ e s1 hc hp0.length).mono ?_);rintro e' s' ⟨rfl,rfl⟩;unfold Fin;refine⟨?_,by simpa[aE] using hend.2,v,by rw[<- Bo];exact hv,rfl,rfl⟩;cases e'<;>simp[I5] at hend ⊢
    unfold aLP at he;cases hown:h.own with
    | true=>
     rw[hown,cond_true] at he;refine AC.nz ?_;cases hkeep:(cU (fun id=>decide (hp0.length<=id)) v&&(s1.hp.take hp0.length).all (nD fun id=>decide (hp0.length<=id))) with
     | true=>
      rw[hkeep,cond_true] at he;simp only[Prod.mk.injEq] at he;obtain⟨rfl,rfl⟩:=he;simp only[aWs] at hkeep;refine hA.gh (fun a o ⟨q1,q2⟩ hl=>?_)
      subst q1;refine⟨a,o.take hp0.length, ?_,by simp only[aWm];omega,rfl,by rw[Ga,q2]⟩;have:=Gh.drop (k:=hp0.length) (as:=⟨[a],o⟩) hp0.length (aWj _);have e1:(o.take hp0.length).map (cI fun id=>decide (hp0.length<=id))=o.take hp0.length:=by
       conv=>rhs;rw[<- List.map_id (o.take hp0.length)]
       refine aWC (fun x hx=>Fq ?_)
       have:=List.all_eq_true.1 hkeep.2 (aN x) (by rw[<- q2,<- aW2];exact List.mem_map.2 ⟨x,hx,rfl⟩);rwa[rR] at this
      simpa[Fp hkeep.1,e1] using this
     | false=>
      rw[hkeep,cond_false] at he;simp only[Prod.mk.injEq] at he;obtain⟨rfl,rfl⟩:=he;exact hA.gh (fun a o ⟨q1,q2⟩ hl=>⟨a,o,Gh.refl,hl,by rw[q1],q2⟩)
    | false=>
     rw[hown,cond_false] at he;simp only[Prod.mk.injEq] at he;obtain⟨rfl,rfl⟩:=he;refine AC.nz ?_;refine hA.gh (fun a o ⟨q1,q2⟩ hl=>?_)
     subst q1;obtain⟨s0,hgh0,hn0⟩:=aLE (k:=hp0.length) (aWj hp0.length) (iL a) ⟨[a],o⟩ (Sc a);obtain⟨s2,hgh2,hn⟩:=eL (k:=hp0.length) (iL a) s0;have hgh:=hgh0.trans hgh2;have hn':aE s2=bR (iL a) (bxW hp0.length (iL a) ⟨[a],s1.hp⟩ (Sc a)):=by rw[hn,hn0];simp only[aE,q2]
     have hlen:s2.sl.length=1:=by
      have:=congrArg (fun q=>q.sl.length) hn'
      simp only[aE,lE,(Vf _ _ _ _).1] at this;simpa using this
     have hhl:s2.hp.length=o.length:=by
      have:=congrArg (fun q=>q.hp.length) hn'
      simp only[aE,rW,aWf,(Vf _ _ _ _).2] at this;rw[this,<- q2,aWf]
     obtain⟨y,hy⟩:=List.length_eq_one_iff.1 hlen;have hgd:=Gh.drop (k:=hp0.length) (as:=s2) hp0.length (aWj _);have hy2:(bR (iL a) (bxW hp0.length (iL a) ⟨[a],s1.hp⟩ (Sc a))).sl.getD 0 .junk=y:=by rw[<- hn'];simp[aE,hy]
     refine⟨bA (fun id=>decide (hp0.length<=id)) y,(s2.hp.take hp0.length).map (cI fun id=>decide (hp0.length<=id)), ?_,by simp only[aWf,aWm];omega,by rw[hy2], ?_⟩
     ·have:=hgh.trans hgd;rw[hy] at this;simpa using this
     ·rw[<- hn',rQ,Ga];simp[aE]
  ·cases he
theorem zY{T:HT}(hT:Zn P T)(hB:cB P G T.base):∀ n,cB P G (callN G T n)
 | 0=>fun f args hp av o' h=>by simp[callN] at h
 | n+1=>fun f args hp av o' h hp0 hh=>by
  subst hh;rw[callN] at h;cases hf:T.tab f with
  | none=>rw[hf] at h;exact hB f args _ av o' h hp0 rfl
  | some x=>rw[hf] at h;exact aG2 hT (zY hT hB n) hf h
theorem Oj{T:HT}(hT:Zn P T)(hB:cB P G T.base){f:FuncId}{args:List AV}{r:AV}(h:EV G T f args []=some (r,[])):QC P G f args r:=by
 obtain⟨n,hn⟩:=jM h;obtain⟨_,hA⟩:=zY hT hB n f args [] r [] hn [] rfl;exact hA.gh (fun a o ⟨h1,h2⟩ _=>⟨a,o,Gh.refl,aWA _,h1,by simpa using h2⟩)
end
end Go.Proofs.YthepfneloomngaaGreatDoor
