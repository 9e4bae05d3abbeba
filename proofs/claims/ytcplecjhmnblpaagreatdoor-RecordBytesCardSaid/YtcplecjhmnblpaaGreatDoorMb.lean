/- Small rules for sums and tests. Conditions: none. -/
import Derived.Test.YtcplecjhmnblpaaGreatDoorLt
import Derived.ProofKit
namespace Go.Proofs.YtcplecjhmnblpaaGreatDoor
section
section
variable {P:Program} {G:aH} {k:Nat} {hp:List aC} {s:AS} {K Q:AS->Prop}
theorem bE(id:Nat):aI (hp.map aN) id=aN (aI hp id):=by
 unfold aI;simp only[aQl,aQh];cases hp[id]?<;>rfl
theorem A5{g:Bool}{n:Nat}{x:AV}:lB (hp.map aN) g n x=lB hp g n x:=by
 unfold lB;split
 ·simp only[bE];cases aI hp _<;>rfl
 ·simp only[bE];cases aI hp _<;>rfl
 ·rfl
 ·rfl
theorem Mp{x:AV}:mF (hp.map aN) x=mF hp x:=by
 unfold mF;split
 ·rfl
 ·rfl
 ·simp only[bE];cases aI hp _<;>rfl
 ·simp only[bE];cases aI hp _<;>rfl
 ·rfl
theorem Th{n:Nat}{x:AV}{i:Int}:uM (hp.map aN) n x i=uM hp n x i:=by
 unfold uM;split
 ·rfl
 ·simp only[bE];cases aI hp _<;>rfl
 ·simp only[bE];cases aI hp _<;>rfl
 ·rfl
theorem Ti{n:Nat}{x:AV}{l r:Option AV}:kJ (hp.map aN) n x l r=kJ hp n x l r:=by
 unfold kJ;split
 ·rfl
 ·rfl
 ·simp only[bE];cases aI hp _<;>cases l<;>rfl
 ·simp only[bE];cases aI hp _<;>rfl
 ·rfl
theorem sJ{x:AV}:rC (hp.map aN) x=rC hp x:=by
 unfold rC;split
 ·rfl
 ·rfl
 ·simp only[bE];cases aI hp _<;>rfl
 ·rfl
theorem oZ{ai:AI}:cT G (aD s) ai=cT G s ai:=by
 cases ai<;>simp only[cT,aD,A5,Mp,Th,Ti]
theorem Xv{st:AS}{ai:AI}:evF G st ai=cT G st ai:=by
 unfold evF;split
 ·split
  ·rename_i h1 h2;simp only[cT,h1,h2,eK,I3];rfl
  ·rfl
 ·split
  ·rename_i h1 h2;simp only[cT,h1,h2,eK,I3];rfl
  ·rfl
 ·rfl
theorem A6:∀ (cs:List aR) (ds:List DC),A3 cs=some ds->cs=jB ds
 | [],ds,h=>by simp[A3] at h;subst h;rfl
 | c::cs,ds,h=>by
  cases c with
  | dc d=>
   simp only[A3] at h;obtain⟨ds',h1,rfl⟩:=Option.map_eq_some_iff.1 h;rw[A6 cs ds' h1];rfl
  | _=>simp[A3] at h
theorem El{size:Nat}:∀ (n:Nat) (l:List DC),l.length=n * size->(pW size n l).flatten=l/\(pW size n l).length=n/\∀ e∈pW size n l,e.length=size
 | 0,l,h=>by
  have:l=[]:=aRf (by simpa using h);subst this;exact⟨rfl,rfl,fun e he=>by cases he⟩
 | n+1,l,h=>by
  have hm:(n+1) * size=n * size+size:=Nat.succ_mul n size;obtain⟨h1,h2,h3⟩:=El (size:=size) n (l.drop size) (by simp;omega);refine⟨?_,by simp[pW,h2],fun e he=>?_⟩
  ·simp only[pW,aQ5,h1,aRy]
  ·simp only[pW,List.mem_cons] at he;rcases he with rfl | he
   ·simp;omega
   ·exact h3 e he
theorem nE{p:Nat->Bool}(o:aC):aN (cJ p o)=cJ p (aN o):=by cases o<;>rfl
theorem rL{p:Nat->Bool}(l:List aC):(l.map (cJ p)).map aN=(l.map aN).map (cJ p):=by
 simp only[aQC];exact aQz (fun o _=>nE o)
theorem mR{ρ:Nat->Nat}(o:aC):aN (fQ ρ o)=fQ ρ (aN o):=by cases o<;>rfl
theorem pA{cs:List aR}{o:aC}(h:aN o=.box cs):o=.box cs:=by cases o<;>simp_all [aN]
theorem mS{c z:Nat}{es:List (List DC)}{o:aC}(h:aN o=.arr c z es):∃ cap,o=.arr cap z es/\c=0:=by
 cases o<;>simp_all [aN]
theorem F3{dst:Option Nat}{ai:AI}{st':AS}(h:evI G dst ai (aD s)=some st')(hK:∀ s',aD s'=st'->K s'):rG P G k dst ai K s.sl s.hp:=by
 cases ai with
 | alloc z=>
  simp only[evI,Option.some.injEq] at h;exact hK _ (by rw[<- h];simp[aD,aN])
 | box x=>
  simp only[evI] at h;obtain⟨cs,h1,h2⟩:=Option.map_eq_some_iff.1 h;exact⟨cs,h1,hK _ (by rw[<- h2];simp[aD,aN])⟩
 | bslc size len zero parts=>
  simp only[evI] at h;obtain⟨cells,h1,h⟩:=aQX.1 h;obtain⟨ds,h2,h⟩:=aQX.1 h;split at h
  ·rename_i hl;injection h with h
   obtain⟨g1,g2,g3⟩:=El len ds hl;refine⟨pW size len ds, ?_,g3,g2,hK _ (by rw[<- h];simp[aD,aN])⟩;rw[g1,<- A6 _ _ h2];exact h1
  ·cases h
 | store size x v=>
  simp only[evI] at h;split at h
  ·rename_i hd;subst hd;refine⟨rfl, ?_⟩;obtain⟨vs,h1,h⟩:=aQX.1 h;unfold Pj at h;split at h
   ·rename_i id off hx
    left
    split at h
    ·rename_i cs hb;split at h
     ·rename_i hc;injection h with h
      rw[aD,bE] at hb;exact⟨id,off,cs,vs,hx,h1,pA hb,hc.1,hc.2,hK _ (by rw[<- h];simp[aD,aN,aQH])⟩
     ·cases h
    ·cases h
   ·rename_i id i z off hx
    right
    split at h
    ·rename_i c z' es hb;obtain⟨ds,h2,h⟩:=aQX.1 h;obtain⟨e,h3,h⟩:=aQX.1 h;split at h
     ·rename_i hc;injection h with h
      rw[aD,bE] at hb;obtain⟨cap,hb,_⟩:=mS hb;obtain⟨rfl,hc2,hc3⟩:=hc;refine⟨id,i,z',off,cap,es,e,ds,hx, ?_,hb,h3,hc2,hc3,hK _ (by rw[<- h];simp[aD,aN,aQH])⟩;rw[<- A6 _ _ h2];exact h1
     ·cases h
    ·cases h
   ·cases h
  ·cases h
 | app size bytes zero a x=>
  simp only[evI] at h;unfold aGh at h;split at h
  ·rename_i id n hx
   right
   split at h
   ·rename_i c z es hb;obtain⟨news,h2,h⟩:=aQX.1 h;split at h
    ·rename_i hc;injection h with h
     rw[aD,bE] at hb;obtain⟨cap,hb,_⟩:=mS hb;obtain⟨rfl,hc2,hc3,hc4⟩:=hc;rw[aD,sJ] at h2;exact⟨id,n,cap,es,news,hx,hb,hc2,h2,by simpa using hc3,hc4,fun cap' _=>hK _ (by rw[<- h];simp only[aD,aQH,rL];rfl)⟩
    ·cases h
   ·cases h
  ·rename_i hx
   left
   obtain⟨news,h2,h⟩:=aQX.1 h;split at h
   ·rename_i hc;injection h with h
    rw[aD,sJ] at h2;exact⟨hx,news,h2,by simpa using hc.1,hc.2,fun cap' _=>hK _ (by rw[<- h];simp only[aD,aQL,rL,aQb];rfl)⟩
   ·cases h
  ·cases h
 | _=>cases h
theorem A7{id:Nat}{es:List (List DC)}(o:aC):aN (Mn id es o)=Mn id es (aN o):=by cases o<;>rfl
theorem eX:∀ (ids:List Nat) (s:AS),∃ s',Gh k s s'/\aD s'=bR ids (aD s)
 | [],s=>⟨s,Gh.refl,rfl⟩
 | id::r,s=>by
  simp only[bR];split
  ·rename_i c z es hb;rw[aD,bE] at hb;obtain⟨cap,hb,_⟩:=mS hb;obtain⟨s',h1,h2⟩:=eX r ⟨s.sl.map fun v=>aZ (·==id) (Tg id es v),(s.hp.map fun o=>cJ (·==id) (Mn id es o)).set id .dead⟩
   refine⟨s',(Gh.freeze hb).trans h1, ?_⟩;rw[h2];congr 1;simp only[aD,aQH,aQC,aN];congr 2;exact aQz (fun o _=>by simp only[Function.comp_apply,nE,A7])
  ·exact eX r s
mutual
theorem rtC{J:List Nat}{n:Nat}:(c:aR)->c.keep (jV J)=true->jC (cH J n) (jC (lA J) c)=c
 | .ptr id o,h=>by simp only[jC,rtN (n:=n) (by simpa[aR.keep,jV] using h)]
 | .bld id o,h=>by simp only[jC,rtN (n:=n) (by simpa[aR.keep,jV] using h)]
 | .ept id i z o,h=>by simp only[jC,rtN (n:=n) (by simpa[aR.keep,jV] using h)]
 | .bls id i z o,h=>by simp only[jC,rtN (n:=n) (by simpa[aR.keep,jV] using h)]
 | .fn f caps,h=>by simp only[jC,rtL caps (by simpa[aR.keep] using h)]
 | .dc d,h=>rfl
 | .ref cs,h=>rfl
 | .mpc es,h=>rfl
 | .junk,h=>rfl
theorem rtL{J:List Nat}{n:Nat}:(cs:List aR)->keepL (jV J) cs=true->renL (cH J n) (renL (lA J) cs)=cs
 | [],h=>rfl
 | c::cs,h=>by
  simp only[keepL,aQp] at h;simp only[renL,rtC c h.1,rtL cs h.2]
theorem rtN{J:List Nat}{n id:Nat}(h:id∈J):cH J n (lA J id)=id:=by
 have:∀ J:List Nat,id∈J->J[lA J id]?=some id:=by
  intro J
  induction J with
  | nil=>intro h;cases h
  | cons j J ih=>
   intro h;simp only[lA];split
   ·rename_i e;simp[e]
   ·rename_i hne;rw[aRH];exact ih (by rcases List.mem_cons.1 h with h | h;exact absurd h hne;exact h)
 simp only[cH,this J h]
end
theorem nF{ρ:Nat->Nat}:∀ (cs:List aR),renL ρ cs=cs.map (jC ρ)
 | []=>rfl
 | c::cs=>by simp[renL,nF cs]
theorem rtM{J:List Nat}{n:Nat}(cs:List aR)(h:keepL (jV J) cs=true):(cs.map (jC (lA J))).map (jC (cH J n))=cs:=by
 rw[<- nF,<- nF];exact rtL cs h
theorem rtT{J:List Nat}{n:Nat}(t:TV)(h:yK (jV J) t=true):Au (cH J n) (Au (lA J) t)=t:=by
 cases t with
 | one c=>simp only[Au,rtC c h]
 | agg cs=>simp only[Au,rtM cs h]
theorem rtV{J:List Nat}{n:Nat}(v:AV)(h:cQ (jV J) v=true):cU (cH J n) (cU (lA J) v)=v:=by
 cases v with
 | one c=>simp only[cU,rtC c h]
 | agg cs=>simp only[cU,rtM cs h]
 | tup l=>
  simp only[cU,aQC];congr 1
  conv=>rhs;rw[<- List.map_id l]
  exact aQz (fun t ht=>rtT t (aRl.1 h t ht))
 | junk=>rfl
theorem rtO{J:List Nat}{n:Nat}(o:aC)(h:nD (jV J) o=true):fQ (cH J n) (fQ (lA J) o)=o:=by
 cases o with
 | box cs=>simp only[fQ,rtM cs h]
 | _=>rfl
theorem I4{α β:Type}{f:α->β}:∀ (J:List Nat) (xs l:List α),(jU J xs l).map f=jU J (xs.map f) (l.map f)
 | [],_,l=>by simp[jU]
 | j::J,[],l=>by simp[jU]
 | j::J,x::xs,l=>by simp only[jU,aQo];rw[I4 J xs];simp[aQH]
theorem I5(o:aC):gW (aN o)=gW o:=by cases o<;>rfl
theorem Mq{J:List Nat}{dst:Option Nat}{av:AV}{o0:List aC}:aD (gX J s dst av o0)=gX J (aD s) dst av (o0.map aN):=by
 have e1:∀ ρ,aN ∘ fQ ρ=fQ ρ ∘ aN:=fun ρ=>funext fun o=>mR o
 have e2:∀ p,aN ∘ cJ p=cJ p ∘ aN:=fun p=>funext fun o=>nE o
 simp only[gX,aD,aQL,I4,aQb,bE,I5,aQC,List.map_drop,e1,e2]
def cE(P:Program)(G:aH)(call:aW):Prop:=∀ f args hp av o',call f args hp=some (av,o')->∀ hp0,hp0.map aN=hp->Dq P f=true/\AC P G f args hp0 fun a o=>a=av/\o.map aN=o'
theorem rM{p:Nat->Bool}(o:aC):nD p (aN o)=nD p o:=by cases o<;>rfl
theorem pB{call:aW}(hcall:cE P G call){dst:Option Nat}{f:FuncId}{avs:List AV}{st':AS}(h:jW call dst f avs (aD s)=some st'):
  ∃ (J:List Nat) (objs:List aC) (av:AV) (o':List aC),Dq P f=true/\AC P G f (avs.map (cU (lA J))) objs (fun a o=>a=av/\o.map aN=o')/\J.Nodup/\objs.length=J.length/\
   (∀ (t j:Nat) o,J[t]?=some j->objs[t]?=some o->s.hp[j]?=some (fQ (cH J s.hp.length) o))/\avs=(avs.map (cU (lA J))).map (cU (cH J s.hp.length))/\
   ∀ a o,a=av/\o.map aN=o'->aD (gX J s dst a o)=st':=by
 unfold jW at h;simp only at h;generalize rK (aD s).hp 2000 (avs.flatMap iU) []=J at h;split at h
 ·rename_i hok;obtain⟨⟨av,o'⟩,h1,h2⟩:=Option.map_eq_some_iff.1 h;simp only[okJ,aQp] at hok;obtain⟨⟨hnd,hobj⟩,hav⟩:=hok;have hJ:=fun j hj=>aRl.1 hobj j hj
  simp only[aQp,decide_eq_true_eq,aD,aQb,bE,rM] at hJ;obtain⟨g1,g2⟩:=hcall _ _ _ _ _ h1 (J.map fun j=>fQ (lA J) (aI s.hp j)) (by
   rw[aQC];exact aQz (fun j _=>by simp only[Function.comp_apply,mR,aD,bE]))
  refine⟨J,_,av,o',g1,g2,(uY _ hnd).imp (fun h e=>by simp[e] at h),by simp,fun t j o ht ho=>?_, ?_,fun a o hao=>?_⟩
  ·rw[aQh,ht] at ho;simp at ho;subst ho;have hm:=hJ j (aQB ht);rw[rtO _ hm.2,aI,aQl,aQi hm.1];rfl
  ·rw[aQC]
   conv=>lhs;rw[<- List.map_id avs]
   exact aQz (fun v hv=>(rtV v (aRl.1 hav v hv)).symm)
  ·obtain⟨rfl,rfl⟩:=hao;rw[Mq];exact h2
 ·cases h
theorem A8{gd:Option (Nat × Bool)}{b:Bool}(h:I1 G (aD s) gd=some b):(b=true->iQ G s gd)/\(b=false->yT G s gd):=by
 cases gd with
 | none=>simp[I1] at h;subst h;exact⟨fun _=>trivial,fun h=>by cases h⟩
 | some q=>
  obtain⟨g,c⟩:=q;simp only[I1,aD] at h;split at h
  ·rename_i hv;injection h with h;subst h
   exact⟨fun h=>by (cases h),fun _=>.inr hv⟩
  ·obtain⟨d,h1,h2⟩:=Option.map_eq_some_iff.1 h;refine⟨fun hb=>?_,fun hb=>.inl ?_⟩
   ·subst hb;simp at h2;subst h2;exact h1
   ·subst hb;simp at h2;rw[h1];cases c<;>cases d<;>simp_all
theorem WR.cons{o:aY}{rest:List aY}(h:WR P G k [o] (fun s=>WR P G k rest Q s) s):WR P G k (o::rest) Q s:=by
 intro opsA l hc F γ a w hi hs hg hk QE hq;obtain⟨oper,l',rfl,h1,h2,h3,h4⟩:=mG hc;have hc1:bA P opsA [oper]=some [o]:=by
  simp[bA,cC,h1,h2,h3]
 have:=h opsA [oper] hc1 F γ a w hi hs hg hk (fun e a w=>match e with | .normal=>wpList P opsA QE l' a w | e=>QE e a w)
  (fun a' w' F' γ' s' hR hE hI hS hk'=>hR opsA l' h4 F' γ' a' w' hI hS (hg.sub hE.sub) hk' QE (fun a'' w'' F'' γ'' s'' q1 q2 q3 q4 q5=>hq a'' w'' F'' γ'' s'' q1 (hE.trans q2) q3 q4 q5))
 simp only[wpList] at this ⊢;split
 ·rename_i hw;rw[if_pos hw] at this;rcases this with h1 | ⟨h1,a',w',h2⟩
  ·exact .inl (wpQ (fun e a w hne h=>by cases e<;>first | exact absurd rfl hne | exact h) h1)
  ·exact .inr ⟨h1,a',w',h2⟩
 ·rename_i hw;rw[if_neg hw] at this;exact this
theorem Pm{call:aW}(hcall:cE P G call){o:aY}{st':AS}(hg:iQ G s o.guard)(h:aCK call G o (aD s)=some st')(hK:∀ s',aD s'=st'->K s'):WR P G k [o] K s:=by
 refine WR.guard hg rfl ?_;unfold aCK at h;split at h
 ·rename_i f args hai;rw[hai];obtain⟨s1,hgh,hn⟩:=eX (k:=k) (args.flatMap fun x=>tU (aK G (aD s).sl x)) s
  simp only at h;rw[<- hn] at h;obtain⟨J,objs,av,o',g1,g2,g3,g4,g5,g6,g7⟩:=pB hcall h;refine WR.ghost hgh (WR.call (o:=⟨o.dst,.call f args,none⟩) trivial rfl g2 g3 g4 g5 g6 (fun a o hao=>WR.nil (hK _ (g7 a o hao))))
 ·rename_i x args hai;rw[hai];obtain⟨s1,hgh,hn⟩:=eX (k:=k) (args.flatMap fun x=>tU (aK G (aD s).sl x)) s
  simp only at h;rw[<- hn] at h;split at h
  ·rename_i f caps hx;obtain⟨J,objs,av,o',g1,g2,g3,g4,g5,g6,g7⟩:=pB hcall h;exact WR.ghost hgh (WR.callv (o:=⟨o.dst,.callv x args,none⟩) trivial rfl hx g1 g2 g3 g4 g5 g6 (fun a o hao=>WR.nil (hK _ (g7 a o hao))))
  ·cases h
 ·rename_i size len zero ps hai;obtain⟨s1,hgh,hn⟩:=eX (k:=k) (ps.flatMap fun p=>tU (aK G (aD s).sl p.2)) s
  rw[<- hn] at h;exact WR.ghost hgh (rG.run (o:=⟨o.dst,o.ai,none⟩) trivial (F3 h hK))
 ·exact rG.run (o:=⟨o.dst,o.ai,none⟩) trivial (F3 h hK)
theorem vE{call:aW}(hcall:cE P G call):∀ (ops:List aY) (s:AS) (st':AS),A4 call G ops (aD s)=some st'->WR P G k ops (fun s'=>aD s'=st') s
 | [],s,st',h=>by simp[A4] at h;exact WR.nil h
 | o::l,s,st',h=>by
  simp only[A4] at h;obtain⟨b,hb,h⟩:=aQX.1 h;have hw:=A8 hb;split at h
  ·rename_i hbt;split at h
   ·obtain⟨v,hv,h⟩:=aQX.1 h;rw[I2] at h;rw[Xv,oZ] at hv;exact WR.pur (hw.1 hbt) hv (vE hcall l ⟨aO s.sl o.dst v,s.hp⟩ st' h)
   ·obtain⟨s1,h1,h⟩:=aQX.1 h;rw[aGk] at h;exact WR.cons (Pm hcall (hw.1 hbt) h1 (fun s' hs'=>vE hcall l s' st' (by rw[hs'];exact h)))
  ·rename_i hbf;rw[I2] at h;exact WR.skip (hw.2 (by simpa using hbf)) (vE hcall l ⟨aO s.sl o.dst (.tup []),s.hp⟩ st' h)
mutual
theorem rnC{ρ:Nat->Nat}:(c:aR)->c.keep (fun _=>true)=true->jC ρ c=c
 | .ptr id o,h=>by simp[aR.keep] at h
 | .bld id o,h=>by simp[aR.keep] at h
 | .ept id i z o,h=>by simp[aR.keep] at h
 | .bls id i z o,h=>by simp[aR.keep] at h
 | .fn f caps,h=>by simp only[jC,rnL caps (by simpa[aR.keep] using h)]
 | .dc d,h=>rfl
 | .ref cs,h=>rfl
 | .mpc es,h=>rfl
 | .junk,h=>rfl
theorem rnL{ρ:Nat->Nat}:(cs:List aR)->keepL (fun _=>true) cs=true->renL ρ cs=cs
 | [],h=>rfl
 | c::cs,h=>by
  simp only[keepL,aQp] at h;simp only[renL,rnC c h.1,rnL cs h.2]
end
theorem rnT{ρ:Nat->Nat}(t:TV)(h:yK (fun _=>true) t=true):Au ρ t=t:=by
 cases t with
 | one c=>simp only[Au,rnC c h]
 | agg cs=>simp only[Au,<- nF,rnL cs h]
theorem rnV{ρ:Nat->Nat}(v:AV)(h:cQ (fun _=>true) v=true):cU ρ v=v:=by
 cases v with
 | one c=>simp only[cU,rnC c h]
 | agg cs=>simp only[cU,<- nF,rnL cs h]
 | tup l=>
  simp only[cU];congr 1
  conv=>rhs;rw[<- List.map_id l]
  exact aQz (fun t ht=>rnT t (aRl.1 h t ht))
 | junk=>rfl
theorem sK{p:Nat->Bool}:∀ (cs:List aR),keepL p cs=true->cs.map (cF p)=cs
 | [],_=>rfl
 | c::cs,h=>by
  simp only[keepL,aQp] at h;rw[aQo,sK cs h.2];simp[cF,h.1]
theorem A9{p:Nat->Bool}{v:AV}(h:cQ p v=true):aZ p v=v:=by
 cases v with
 | one c=>simp only[cQ] at h;simp[aZ,cF,h]
 | agg cs=>simp only[aZ,sK cs h]
 | tup l=>
  simp only[aZ];congr 1
  conv=>rhs;rw[<- List.map_id l]
  exact aQz (fun t ht=>by
   have:=aRl.1 h t ht;cases t with
   | one c=>simp only[yK] at this;simp[qU,cF,this]
   | agg cs=>simp only[qU,sK cs this,id_eq])
 | junk=>rfl
theorem Ba{p:Nat->Bool}{o:aC}(h:nD p o=true):cJ p o=o:=by
 cases o with
 | box cs=>simp only[cJ,sK cs h]
 | _=>rfl
theorem AC.gh{f:FuncId}{args:List AV}{objs:List aC}{R R':AV->List aC->Prop}(h:AC P G f args objs R)
  (hq:∀ av o,R av o->objs.length<=o.length->∃ av' o',Gh objs.length ⟨[av],o⟩ ⟨[av'],o'⟩/\objs.length<=o'.length/\R' av' o'):AC P G f args objs R':=by
 intro F γ vs w hi hg hv;refine (h F γ vs w hi hg hv).mono ?_;rintro e w' ⟨r,av,o,F',γ',rfl,hQ,hl,hE,hI,hR⟩;obtain⟨av',o',hgh,hl',hq'⟩:=hq av o hQ hl;obtain⟨F'',γ'',hE2,hI2,hS2,hk2⟩:=hgh F' γ' { tmps:=#[r],defers:=[] } w' hI ⟨rfl,rfl,fun i a v h1 h2=>by
  cases i with
  | zero=>simp at h1 h2;subst h1;subst h2;exact hR
  | succ i=>simp at h1⟩ (by rw[hI.len];exact hl)
 exact⟨r,av',o',F'',γ'',rfl,hq',hl',hE.trans hE2,hI2,hS2.2.2 0 av' r rfl rfl⟩
theorem lJ:∀ (ids:List Nat) (st:AS),(bR ids st).sl.length=st.sl.length
 | [],st=>rfl
 | id::r,st=>by
  simp only[bR];split
  ·rw[lJ r];simp
  ·exact lJ r st
theorem Xw{call:aW}(hcall:cE P G call){o:aY}{v:AV}(h:evQ call G o (aD s)=some v):
  ∃ f args cargs r,o.ai=.call f args/\QC P G f cargs r/\∀ n,args.map (aK G s.sl)=cargs.map (cU (cH [] n))/\v=cU (cH [] n) r:=by
 unfold evQ at h;split at h
 ·rename_i f args hai;split at h
  ·rename_i hka;obtain⟨⟨av,o'⟩,h1,h⟩:=aQX.1 h;simp only at h;split at h
   ·rename_i hkv;injection h with h
    obtain⟨_,g2⟩:=hcall _ _ _ _ _ h1 [] rfl;refine⟨f,args,args.map (aK G s.sl),v,hai,g2.gh (fun a o ⟨h3,h4⟩ _=>?_),fun n=>⟨?_, ?_⟩⟩
    ·subst h3;obtain⟨s1,hgh,hn⟩:=eX (k:=0) (iU a) ⟨[a],o⟩;have hn':aD s1=bR (iU a) ⟨[a],o'⟩:=by rw[hn];simp only[aD,h4]
     have hlen:s1.sl.length=1:=by
      have:=congrArg (fun q=>q.sl.length) hn'
      simp only[aD,lJ] at this;simpa using this
     obtain⟨y,hy⟩:=List.length_eq_one_iff.1 hlen;have hgd:=Gh.drop (k:=0) (as:=s1) 0 (aQf _);refine⟨v,[], ?_,aQD _,rfl,rfl⟩;have hv:v=aZ (fun id=>decide (0<=id)) y:=by
      rw[<- h,<- hn'];simp[aD,hy]
     have:=hgh.trans hgd;rw[hy] at this;simpa[hv] using this
    ·conv=>lhs;rw[<- List.map_id (args.map (aK G s.sl))]
     exact aQz (fun x hx=>(rnV x (aRl.1 hka x hx)).symm)
    ·exact (rnV v (by rw[<- h];exact hkv)).symm
   ·cases h
  ·cases h
 ·cases h
theorem Bb{call:aW}(hcall:cE P G call):∀ (ops:List (Bool × aY)) (s:AS) (st':AS),evD call G ops (aD s)=some st'->jA P G k (fun s'=>aD s'=st') ops s
 | [],s,st',h=>by simp[evD] at h;exact h
 | (true,o)::l,s,st',h=>by
  simp only[evD] at h;obtain⟨c,hc,h⟩:=aQX.1 h;have hw:=A8 hc;cases c with
  | true=>
   simp only[if_true] at h;obtain⟨v,hv,h⟩:=aQX.1 h;rw[I2] at h;refine⟨v,.inr ⟨hw.1 rfl, ?_⟩,Bb hcall l ⟨aO s.sl o.dst v,s.hp⟩ st' h⟩;split at hv
   ·have e:(⟨(aD s).sl,Fs o.ai (aD s).hp⟩:AS)=aD ⟨s.sl,Fs o.ai s.hp⟩:=by cases o.ai<;>rfl
    rw[Xv,e,oZ] at hv;exact .inl hv
   ·exact .inr (Xw hcall hv)
  | false=>
   simp only[aRd,if_false,I2] at h;exact WD.skip (hw.2 rfl) (Bb hcall l ⟨aO s.sl o.dst (.tup []),s.hp⟩ st' h)
 | (false,o)::l,s,st',h=>by
  simp only[evD] at h;obtain⟨c,hc,h⟩:=aQX.1 h;have hw:=A8 hc;cases c with
  | true=>
   simp only[if_true,aRd,if_false] at h;obtain⟨s1,h1,h⟩:=aQX.1 h;rw[aGk] at h;have hK:∀ s',aD s'=s1->jA P G k (fun s'=>aD s'=st') l s':=fun s' hs'=>Bb hcall l s' st' (by rw[hs'];exact h)
   split at h1
   ·rename_i f args hai;obtain⟨v,hv,h2⟩:=Option.map_eq_some_iff.1 h1;obtain⟨f',args',cargs,r,g1,g2,g3⟩:=Xw hcall hv;refine .inr ⟨hw.1 rfl, ?_⟩;rw[g1];refine⟨_,uW.of g2 (g3 _).1,⟨_,_,r,[],⟨rfl,rfl⟩,rfl,rfl⟩, ?_⟩;rintro av os ⟨av0,os0,⟨rfl,rfl⟩,rfl,rfl⟩;rw[<- (g3 s.hp.length).2];refine hK _ ?_;rw[<- h2];simp[aD]
   ·rename_i x args hai;exact WD.any (hw.1 rfl) (by rw[hai];trivial) (Pm hcall (o:=⟨o.dst,o.ai,none⟩) trivial h1 hK)
   ·exact .inr ⟨hw.1 rfl,F3 h1 hK⟩
  | false=>
   simp only[aRd,if_false,I2] at h;exact WD.skip (hw.2 rfl) (Bb hcall l ⟨aO s.sl o.dst (.tup []),s.hp⟩ st' h)
theorem jA.mono{R R':AS->Prop}(hr:∀ s,R s->R' s):∀ (ops:List (Bool × aY)) (s:AS),jA P G k R ops s->jA P G k R' ops s
 | [],s,h=>hr s h
 | (true,o)::l,s,h=>by obtain⟨v,hv,h⟩:=h;exact⟨v,hv,jA.mono hr l _ h⟩
 | (false,o)::l,s,h=>V4.mono (fun s' h'=>jA.mono hr l s' h') h
theorem xA{rs:List kQ}:qM (aD s) rs=qM s rs:=by
 have h1:∀ r,fY (aD s) r=fY s r:=by
  intro r;cases r<;>simp only[fY,aD,A5]
 have h2:fY (aD s)=fY s:=funext h1;unfold qM;split<;>simp only[h2]
def TOK(P:Program)(T:Tbl):Prop:=∀ f c rs nt,T f=some (c,rs,nt)->Dq P f=true/\∃ fn,P.funcs[f]?=some fn/\fn.ntmps=nt/\fn.body.bind (bF P)=some c/\fn.results.toList.mapM (gD P)=some rs
theorem I6{T:Tbl}{run:dP->AS->Option (Exit × AS)}(hT:TOK P T)(hrun:∀ c s e st',run c (aD s)=some (e,st')->∀ k,AW P G k c (fun e' s'=>e'=e/\aD s'=st') s):cE P G (yL T run):=by
 intro f args hp av o' h hp0 hhp;subst hhp;unfold yL at h;split at h
 ·rename_i c rs nt hTf;obtain⟨ho,fn,g1,g2,g3,g4⟩:=hT f c rs nt hTf;refine⟨ho, ?_⟩;obtain⟨⟨e,s1⟩,h1,h⟩:=aQX.1 h;simp only at h;split at h
  ·rename_i hend;simp only[aQp,decide_eq_true_eq,aQb] at hend;obtain⟨v,h2,h⟩:=Option.map_eq_some_iff.1 h;have hA:AC P G f args hp0 (fun a o=>a=v/\o.map aN=s1.hp):=by
    refine AC.of_code g1 g2 g3 g4 ((hrun c ⟨args++List.replicate (nt - args.length) .junk,hp0⟩ e s1 (by simpa[aD] using h1) hp0.length).mono ?_);rintro e' s' ⟨rfl,rfl⟩;refine⟨?_,by simpa[aD] using hend.2,v,by rw[<- xA];exact h2,rfl,rfl⟩;cases e'<;>simp[Ek] at hend ⊢
   split at h
   ·rename_i hkeep;injection h with h3 h4
    subst h3;simp only[aQp,aQb] at hkeep;refine hA.gh (fun a o ⟨q1,q2⟩ hl=>?_)
    subst q1;refine⟨a,o.take hp0.length, ?_,by simp only[aQj];omega,rfl, ?_⟩
    ·have:=Gh.drop (k:=hp0.length) (as:=⟨[a],o⟩) hp0.length (aQf _);have e1:(o.take hp0.length).map (cJ fun id=>decide (hp0.length<=id))=o.take hp0.length:=by
      conv=>rhs;rw[<- List.map_id (o.take hp0.length)]
      refine aQz (fun x hx=>Ba ?_)
      have:=aRl.1 hkeep.2 (aN x) (by rw[<- q2,<- aQY];exact List.mem_map.2 ⟨x,hx,rfl⟩);rwa[rM] at this
     simpa[A9 hkeep.1,e1] using this
    ·rw[<- h4,aQY,q2,aQb]
   ·injection h with h3 h4
    subst h3;subst h4;exact hA
  ·cases h
 ·cases h
theorem aHf{T:Tbl}(hT:TOK P T):∀ (n:Nat) (c:dP) (s:AS) (e:Exit) (st':AS),vD G T n c (aD s)=some (e,st')->∀ k,AW P G k c (fun e' s'=>e'=e/\aD s'=st') s:=by
 intro n
 induction n using Nat.strongRecOn with
 | ind n0 ihs=>
  intro c s e st' h k;cases n0 with
  | zero=>simp[vD] at h
  | succ n=>
  have ih:=ihs n (Nat.lt_succ_self n);have hcall:cE P G (yL T (vD G T n)):=I6 hT ih;cases c with
  | bad=>simp only[vD] at h;cases h
  | drawnF prs ops=>simp only[vD] at h;cases h
  | drawnT t ops=>simp only[vD] at h;cases h
  | skip=>simp only[vD,Option.some.injEq,Prod.mk.injEq] at h;obtain⟨rfl,rfl⟩:=h;exact AW.skip ⟨rfl,rfl⟩
  | ret=>simp only[vD,Option.some.injEq,Prod.mk.injEq] at h;obtain⟨rfl,rfl⟩:=h;exact AW.ret ⟨rfl,rfl⟩
  | exit id=>simp only[vD,Option.some.injEq,Prod.mk.injEq] at h;obtain⟨rfl,rfl⟩:=h;exact AW.exit ⟨rfl,rfl⟩
  | region ops=>
   simp only[vD] at h;obtain⟨s1,h1,h2⟩:=Option.map_eq_some_iff.1 h;injection h2 with h2 h3
   subst h2;subst h3;exact AW.region ((vE hcall ops s s1 h1).mono (fun s' h=>⟨rfl,h⟩))
  | drawn ops=>
   simp only[vD] at h;obtain⟨s1,h1,h2⟩:=Option.map_eq_some_iff.1 h;injection h2 with h2 h3
   subst h2;subst h3;exact AW.drawn (jA.mono (fun s' h=>⟨rfl,h⟩) _ _ (Bb hcall ops s s1 h1))
  | seq a b=>
   simp only[vD] at h;obtain⟨⟨e1,s1⟩,h1,h2⟩:=aQX.1 h;refine AW.seq ((ih a s e1 s1 h1 k).mono ?_);rintro e' s' ⟨rfl,rfl⟩;cases e' with
   | normal=>exact ih b s' e st' h2 k
   | _=>simp only[Option.some.injEq,Prod.mk.injEq] at h2;obtain⟨rfl,rfl⟩:=h2;exact⟨rfl,rfl⟩
  | cond c a b=>
   simp only[vD] at h;obtain⟨t,h1,h2⟩:=aQX.1 h;refine AW.cond h1 (fun ht=>?_) (fun ht=>?_)
   ·subst ht;exact ih a s e st' h2 k
   ·subst ht;exact ih b s e st' h2 k
  | block id a=>
   simp only[vD] at h;obtain⟨⟨e1,s1⟩,h1,h2⟩:=Option.map_eq_some_iff.1 h;refine AW.block ((ih a s e1 s1 h1 k).mono ?_);rintro e' s' ⟨rfl,rfl⟩;cases e' with
   | exit id'=>
    simp only at h2 ⊢;split at h2
    ·rename_i heq;injection h2 with h2 h3
     subst h2;subst h3;rw[if_pos heq];exact⟨rfl,rfl⟩
    ·rename_i heq;injection h2 with h2 h3
     subst h2;subst h3;rw[if_neg heq];exact⟨rfl,rfl⟩
   | _=>simp only[Prod.mk.injEq] at h2;obtain⟨rfl,rfl⟩:=h2;exact⟨rfl,rfl⟩
  | loop a=>
   refine AW.loop (α:=Nat) (fun m s'=>m<=n+1/\vD G T m (.loop a) (aD s')=some (e,st')) id (n+1) ⟨aQf _,h⟩ (fun m s' hm=>?_)
   obtain⟨hm,hI⟩:=hm;cases m with
   | zero=>simp[vD] at hI
   | succ m=>
    simp only[vD] at hI;obtain⟨⟨e1,s1⟩,h1,h2⟩:=aQX.1 hI;refine (ihs m (by omega) a s' e1 s1 h1 k).mono ?_;rintro e' s'' ⟨rfl,rfl⟩;cases e' with
    | normal=>exact⟨m,⟨by omega,h2⟩,by simp⟩
    | _=>simp only[Option.some.injEq,Prod.mk.injEq] at h2;obtain⟨rfl,rfl⟩:=h2;exact⟨rfl,rfl⟩
end
end
section
def mT(call:aW)(f:FuncId)(args:List AV):Option AV:=
 (call f args []).bind fun r=>
  let v:=aZ (fun id=>decide (0<=id)) ((bR (iU r.1) ⟨[r.1],r.2⟩).sl.getD 0 .junk)
  if cQ (fun _=>true) v then some v else none
section
variable {P:Program} {G:aH} {k:Nat}
theorem QC.quiet{call:aW}(hcall:cE P G call){f:FuncId}{args:List AV}{v:AV}(h:mT call f args=some v):QC P G f args v:=by
 unfold mT at h;obtain⟨⟨av,o'⟩,h1,h⟩:=aQX.1 h;simp only at h;split at h
 ·rename_i hkv;injection h with h
  obtain⟨_,g2⟩:=hcall _ _ _ _ _ h1 [] rfl;refine g2.gh (fun a o ⟨h3,h4⟩ _=>?_)
  subst h3;obtain⟨s1,hgh,hn⟩:=eX (k:=0) (iU a) ⟨[a],o⟩;have hn':aD s1=bR (iU a) ⟨[a],o'⟩:=by rw[hn];simp only[aD,h4]
  have hlen:s1.sl.length=1:=by
   have:=congrArg (fun q=>q.sl.length) hn'
   simp only[aD,lJ] at this;simpa using this
  obtain⟨y,hy⟩:=List.length_eq_one_iff.1 hlen;have hgd:=Gh.drop (k:=0) (as:=s1) 0 (aQf _);refine⟨v,[], ?_,aQD _,rfl,rfl⟩;have hv:v=aZ (fun id=>decide (0<=id)) y:=by
   rw[<- h,<- hn'];simp[aD,hy]
  have:=hgh.trans hgd;rw[hy] at this;simpa[hv] using this
 ·cases h
theorem QC.run{T:Tbl}(hT:TOK P T)(n:Nat){f:FuncId}{args:List AV}{v:AV}(h:mT (yL T (vD G T n)) f args=some v):QC P G f args v:=
 QC.quiet (I6 hT (aHf hT n)) h
end
end
section
open Go.ChangeShapes Go.WideShapes Go.ChangeAt Go.RowKit
section
variable {H:Type} {enc:TypeId × Value->H} {P:Program} {G:aH}
def gT(W:World):Fz:=fun b=>W.heap[b]?
theorem zP(W:World):dB (gT W) [] [] W:=⟨fun _ _ h=>h,rfl,fun i _ _ h=>by simp[cB] at h,fun i _ h=>by simp[cB] at h,fun i _ _ h=>by simp at h⟩
theorem sL{W W':World}{k:Nat}{F':Fz}{γ':List OI}(h:gP k (gT W) [] W F' γ' W'):Below W.heap.size W W':=
 ⟨h.os,h.tape,h.output,h.size,fun b hb=>h.far b hb (fun i h=>by simp[cB] at h)⟩
theorem Em{f:FuncId}{avs:List AV}{args:Array Value}{W:World}(hq:QC P G f avs (vb true))(hg:dY (gT W) G)(ha:lZ (gT W) [] avs args):
  Calls P f args W fun e W'=>e=.returned (.bool true)/\Below W.heap.size W W':=by
 refine (hq (gT W) [] args W (zP W) hg ha).mono ?_;rintro e W' ⟨r,av,o,F',γ',rfl,⟨rfl,rfl⟩,_,hE,hI,hR⟩;exact⟨by rw[cY hR],sL hE⟩
theorem tL(hl:laidOutB P=true){W W':World}{sp':Nat->Bool}:∀ {ts:List TypeId} {vs:List Value} {ds:List (DataW H)} {ps:List MemPlace},(∀ t∈ts,P.readableRec t=true/\t < P.types.size)->
  DataW.TrodAll enc P W 0 (fun _=>true) true ts vs ds ps->(∀ x∈ps,W.sameAt W' x)->(∀ x∈ps,sp' x.block=true)->DataW.TrodAll enc P W' 0 sp' true ts vs ds ps
 | [],vs,ds,ps,_,h,_,_=>by
  obtain⟨rfl,rfl,rfl⟩:=trodAll_nil h;exact h
 | t::ts,vs,ds,ps,ht,h,hs,hp=>by
  obtain⟨v,vs',d,ds',p,q,rfl,rfl,rfl,h1,h2⟩:=trodAll_cons h;exact⟨p,q,WideElems.Trod_stays hl (ht t aQt).1 (ht t aQt).2 h1 (fun x hx=>hs x (List.mem_append_left _ hx)) (fun x hx=>hp x (List.mem_append_left _ hx)),
   tL hl (fun t h=>ht t (aQE _ h)) h2 (fun x hx=>hs x (List.mem_append_right _ hx)) (fun x hx=>hp x (List.mem_append_right _ hx)),rfl⟩
theorem En{f:Func}{s:ChangeSpec}{apart fresh handsOn again:Bool}{W W':World}{args:Array Value}{ds gs:List (DataW H)}{before:List MemPlace}{tb:TypeId}
  (hl:laidOutB P=true) (hts:∀ t∈f.params.toList,P.readableRec t=true/\t < P.types.size) (hvs:s.vars=[]) (hrt:f.resultTypes=#[tb]) (htb:P.underlying tb=some .bool)
  (hW:DataW.Whole enc P f.params.toList s.vars apart W args.toList ds gs before) (hs:s.fn H (ds++gs)={ results:=[.lit (.bool true)],args:=ds }) (hb:Below W.heap.size W W'):s.post enc P f apart fresh handsOn again W args (.bool true) W':=by
 have hlt:=fun p hp=>hW.lt (p:=p) hp
 have hW':=hW;obtain⟨p,q,hA,hV,hps,hz,hn⟩:=hW;rw[hvs] at hV;obtain⟨rfl,rfl⟩:=trodVars_none hV;have hpb:before=p:=by simpa using hps
 subst hpb;have hsame:∀ x∈before,W.sameAt W' x:=fun x hx=>hb.same (hlt x hx)
 have hargs:∀ sp:Nat->Bool,(∀ p∈before,sp p.block=true)->DataW.TrodAll enc P W' 0 sp true f.params.toList args.toList (s.fn H (ds++[])).args before:=fun sp hsp=>by
  rw[hs];exact tL hl hts hA hsame hsp
 have hres:∀ (b:Nat) (sp:Nat->Bool) (hd:Bool),DataW.TrodAll enc P W' b sp hd f.resultTypes.toList ((Value.bool true).resultList f.resultTypes.size) (s.fn H (ds++[])).results []:=fun b sp hd=>by
  rw[hs,hrt];exact trodAll_mk1 (shut_bool htb true)
 have hold:∀ p∈before,(fun b=>decide (b < W.heap.size)) p.block=true:=fun p hp=>by simpa using hlt p hp
 have hvars:∀ sp:Nat->Bool,DataW.TrodVars enc P W' sp s.vars (s.fn H (ds++[])).vars []:=fun sp=>by
  rw[hs,hvs];first | rfl | trivial | exact⟨rfl,rfl⟩
 refine⟨ds,[],before,[],before,[],hW',hres _ _ _,hargs _ hold,hvars _,hb.frame _,fun _=>?_⟩
 refine⟨?_,_,_,([]++before)++[],⟨[]++before,[],trodAll_append (hargs _ (fun _ _=>rfl)) (hres _ _ _),hvars _,rfl, ?_, ?_⟩, ?_⟩
 ·exact ok_one hrt rfl (by simp[Value.okWide,htb,Cell.okWide,Cell.ok])
 ·intro b off hp;have h1:=hz b off (by simpa using hp);have h2:=hsame (.cell b off) (by simpa using hp);have h3:=hb.block b (hlt (.cell b off) (by simpa using hp));simp only[World.frozen?] at h1 ⊢;rw[h3];exact h1
 ·intro ha;simpa using hn ha
 ·intro p hp _;simpa using hp
end
end
section
variable {G:aH}
theorem F4:∀ (ids:List Nat) (s t:AS),s.sl=t.sl->s.hp=t.hp.map aN->(bR ids s).sl=(bR ids t).sl
 | [],s,t,h,_=>h
 | id::r,s,t,h,hh=>by
  simp only[bR,hh,bE];cases aI t.hp id with
  | arr c z es=>
   simp only[aN];refine F4 r _ _ (by simp only[h]) ?_;simp only[aQH,aQC,aN];congr 1;exact aQz (fun o _=>by simp only[Function.comp_apply,nE,A7])
  | box cs=>exact F4 r _ _ h hh
  | dead=>exact F4 r _ _ h hh
theorem QC.frz{P:Program}{f:FuncId}{args:List AV}{v:AV}{R:AV->List aC->Prop}(h:AC P G f args [] R)
  (hR:∀ av o,R av o->aZ (fun id=>decide (0<=id)) ((bR (iU av) ⟨[av],o⟩).sl.getD 0 .junk)=v):QC P G f args v:=by
 refine h.gh (fun a o ho _=>?_)
 obtain⟨s1,hgh,hn⟩:=eX (k:=0) (iU a) ⟨[a],o⟩;have hnn:(bR (iU a) (aD ⟨[a],o⟩)).sl=(bR (iU a) ⟨[a],o⟩).sl:=F4 (iU a) _ _ rfl rfl;have hsl:s1.sl=(bR (iU a) ⟨[a],o⟩).sl:=by rw[<- hnn,<- hn];rfl
 have hlen:s1.sl.length=1:=by rw[hsl,lJ];rfl
 obtain⟨y,hy⟩:=List.length_eq_one_iff.1 hlen;have hgd:=Gh.drop (k:=0) (as:=s1) 0 (aQf _);refine⟨v,[], ?_,aQD _,rfl,rfl⟩;have hv:v=aZ (fun id=>decide (0<=id)) y:=by rw[<- hR a o ho,<- hsl,hy];rfl
 have:=hgh.trans hgd;rw[hy] at this;simpa[hv] using this
theorem QC.drop{P:Program}{f:FuncId}{args:List AV}{v:AV}(h:AC P G f args [] fun av _=>av=v)(hk:aZ (fun id=>decide (0<=id)) v=v):QC P G f args v:=by
 refine h.gh (fun a o ho _=>?_)
 subst ho;refine⟨a,[], ?_,aQD _,rfl,rfl⟩;have:=Gh.drop (k:=0) (as:=⟨[a],o⟩) 0 (aQf _);simp only[aQo,aQn,hk,aRq] at this;exact this
theorem AC.drop{P:Program}{f:FuncId}{args:List AV}{objs:List aC}{Q:AV->List aC->Prop}
  (h:AC P G f args objs fun av o=>Q (aZ (fun id=>decide (objs.length<=id)) av) ((o.take objs.length).map (cJ fun id=>decide (objs.length<=id)))):AC P G f args objs Q:=by
 refine h.gh (fun a o ho hl=>⟨_,_,(show Gh objs.length ⟨[a],o⟩ _ from Gh.drop objs.length (aQf _)),by simp only[aQb,aQj];omega,ho⟩)
end
section
section
variable {P:Program} {G:aH} {k:Nat} {st st':AS} {R:AS->Prop}
structure Tj (o:aC):Prop where
 ren:∀ ρ,fQ ρ o=o
 kill:∀ p,cJ p o=o
theorem Tj.arr(cap size:Nat)(es:List (List DC)):Tj (.arr cap size es):=⟨fun _=>rfl,fun _=>rfl⟩
theorem Tj.dcs(ds:List DC):Tj (.box (jB ds)):=by
 constructor<;>intro p<;>simp only[fQ,cJ,jB,aQC]<;>congr 1
theorem Mr{dst:Option Nat}{av:AV}{o:aC}{j:Nat}(h:gW (aI st.hp j)=true):
  gX [j] st dst av [o]=⟨aO st.sl dst (cU (cH [j] st.hp.length) av),st.hp.set j (fQ (cH [j] st.hp.length) o)⟩:=by
 have hp:∀ id,(([j]:List Nat).contains id&&!gW (aI st.hp id))=false:=by
  intro id;by_cases h0:id=j
  ·subst h0;simp[h]
  ·simp[h0]
 simp only[gX,oW hp,oX hp,jU,aQo,aQn,aRG,List.drop_nil,aQ6,aQd,aQe]
theorem WR.callB{o:aY}{rest:List aY}{f:FuncId}{args:List aJ}{cargs:List AV}{j:Nat}{o0 o1:aC}{r r':AV}(hgd:iQ G st o.guard)(ha:o.ai=.call f args)
  (hac:AC P G f cargs [o0] fun av os=>av=r/\os=[o1]) (hf0:Tj o0) (hf1:Tj o1) (hj:aI st.hp j=o0) (hb:gW o0=true)
  (hargs:args.map (aK G st.sl)=cargs.map (cU (cH [j] st.hp.length))) (hr:cU (cH [j] st.hp.length) r=r')
  (hs:(⟨aO st.sl o.dst r',st.hp.set j o1⟩:AS)=st') (h:WR P G k rest R st'):WR P G k (o::rest) R st:=by
 have hnd:o0≠.dead:=by intro e;rw[e] at hb;cases hb
 refine WR.call (J:=[j]) hgd ha hac (by simp) rfl (fun t i x ht hx=>?_) hargs (fun av os hq=>?_)
 ·cases t with
  | zero=>simp at ht hx;subst ht;subst hx;rw[hf0.ren];exact dZ hj hnd
  | succ t=>simp at ht
 ·obtain⟨rfl,rfl⟩:=hq;rw[Mr (by rw[hj];exact hb),hf1.ren,hr,hs];exact h
theorem Gh.nilB{id j:Nat}{cs:List aR}(size:Nat)(hb:aI st.hp id=.box cs)(hj:cs[j]?=some (cI (.slice none 0 0))):Gh k st ⟨st.sl,st.hp.set id (.box (cs.set j (.bld st.hp.length 0)))++[.arr 0 size []]⟩:=by
 intro F γ a w hi hs hk;have hho:=dZ hb (by simp);have hlt:id < st.hp.length:=aG hho;obtain⟨hi2,he⟩:=dB.nilp (k:=k) size hi;have hext:∀ (i:Nat) (o:OI),γ[i]?=some o->(γ++[OI.arr none 0])[i]?=some o:=fun _ _ h=>bN h
 refine⟨F,γ++[OI.arr none 0],he,⟨hi2.fz,by simp[hi.len],hi2.nd,hi2.disj,fun i o x h1 h2=>?_⟩,hs.ext (fun _ _ h=>h) hext,by simp;omega⟩
 by_cases hii:id=i
 ·subst hii;rw[aQu (by simpa using hlt),aQF hlt] at h1;injection h1 with h1;subst h1
  have hok:=hi2.ok id _ x (by rw[aQu hlt];exact hho) h2;cases x with
  | box b=>
   obtain⟨vs,T,hh,hsz,hr⟩:=hok;refine⟨vs,T,hh,by simpa using hsz,fun m c v hc hv=>?_⟩
   by_cases hm:j=m
   ·subst hm;rw[aQF (aG hj)] at hc;injection hc with hc;subst hc
    have h3:=hr j _ v hj hv;cases h3 with | dc _ _ h3=>
    cases h3;exact .bldN _ 0 (by rw[<- hi.len];simp)
   ·rw[aQx hm] at hc;exact hr m c v hc hv
  | arr b c=>exact hok.elim
  | dead=>exact hok.elim
 ·refine hi2.ok i o x ?_ h2;by_cases hl:i < st.hp.length
  ·rw[aQu (by simpa using hl),aQx hii] at h1;rw[aQu hl];exact h1
  ·rw[aQA (by simpa using Nat.le_of_not_lt hl)] at h1;rw[aQA (Nat.le_of_not_lt hl)];simpa using h1
end
end
section
def stX(G:aH)(st:AS)(size:Nat)(x v:aJ):Option AS:=
 match aK G st.sl x with
 | .one (.ptr id off)=>
  match cellsOf (aK G st.sl v) with
  | some vs=>
   match aI st.hp id with
   | .box cs=>if vs.length=size/\off+size<=cs.length then some ⟨st.sl,st.hp.set id (.box (cN cs off vs))⟩ else none
   | _=>none
  | none=>none
 | .one (.ept id i s off)=>
  match (cellsOf (aK G st.sl v)).bind dcs with
  | some ds=>
   match aI st.hp id with
   | .arr cap s' es=>
    match es[i]? with
    | some e=>if s=s'/\ds.length=size/\off+size<=e.length then some ⟨st.sl,st.hp.set id (.arr cap s' (es.set i (e.take off++ds++e.drop (off+size))))⟩ else none
    | none=>none
   | _=>none
  | none=>none
 | _=>none
def zs(z:List Value):Nat->List aR
 | 0=>[]
 | n+1=>zs z n++[cI (z.getD (n % z.length) undef)]
def fA(size:Nat):Nat->List DC->List (List DC)
 | 0,_=>[]
 | n+1,ds=>ds.take size::fA size n (ds.drop size)
def bsX(G:aH)(st:AS)(dst:Option Nat)(size len:Nat)(z:List Value)(ps:List (Nat × aJ)):Option AS:=
 match len with
 | 0=>if ps.isEmpty then some ⟨aO st.sl dst (.one (.bld st.hp.length 0)),st.hp++[.arr 0 size []]⟩ else none
 | len+1=>(iB (zs z ((len+1) * size)) (ps.map fun (j,x)=>(j * size,size,aK G st.sl x))).bind fun cs=>(dcs cs).bind fun ds=>
   if ds.length=(len+1) * size then some ⟨aO st.sl dst (vl (fA size (len+1) ds)),st.hp⟩ else none
def exX(G:aH)(st:AS)(o:aY):Option AS:=
 match o.ai with
 | .alloc z=>some ⟨aO st.sl o.dst (.one (.ptr st.hp.length 0)),st.hp++[.box (z.map cI)]⟩
 | .box x=>(cellsOf (aK G st.sl x)).map fun cs=>⟨aO st.sl o.dst (.one (.ptr st.hp.length 0)),st.hp++[.box cs]⟩
 | .store size x v=>match o.dst with | none=>stX G st size x v | some _=>none
 | .bslc size len z ps=>bsX G st o.dst size len z ps
 | ai=>(cT G st ai).map fun v=>⟨aO st.sl o.dst v,st.hp⟩
def gI(st:AS)(d:Option Nat):Option AV->Option AS
 | some v=>some ⟨aO st.sl d v,st.hp⟩
 | none=>none
def aHg(st:AS)(d:Option Nat):Option (List aR)->Option AS
 | some cs=>some ⟨aO st.sl d (.one (.ptr st.hp.length 0)),st.hp++[.box cs]⟩
 | none=>none
def stD(G:aH)(st:AS)(size:Nat)(x v:aJ):Option Nat->Option AS
 | none=>stX G st size x v
 | some _=>none
def aHh(n size:Nat)(x:AV):Option Int->Option AV
 | some i=>Wj n size x i
 | none=>none
def aCM(hp:List aC)(size:Nat)(x:AV):Option Int->Option AV
 | some i=>uM hp size x i
 | none=>none
def aCN(x:AV):Option Int->Option AV
 | some i=>Dn x i
 | none=>none
def Pn(k:IntKind):Option Int->Option AV
 | some n=>some (cX (.int k (k.wrap n)))
 | none=>none
def Po:Option ByteArray->Option AV
 | some s=>some (cX (.int .i64 s.size))
 | none=>none
def aCO:Option (List aR)->Option AV
 | some cs=>some (.agg cs)
 | none=>none
def V6(G:aH)(sl:List AV)(hp:List aC):AI->Option AV
 | .mov x=>some (aK G sl x)
 | .pick c a b=>uN (aK G sl c) (aK G sl a) (aK G sl b)
 | .load g s x=>lB hp g s (aK G sl x)
 | .bin op x y=>eK op (aK G sl x) (aK G sl y)
 | .un op x=>unV op (aK G sl x)
 | .conv k x=>Pn k (bP (aK G sl x))
 | .addo o x=>yA o (aK G sl x)
 | .ixA n s x i=>aHh n s (aK G sl x) (bP (aK G sl i))
 | .ixL s x i=>aCM hp s (aK G sl x) (bP (aK G sl i))
 | .ixS x i=>aCN (aK G sl x) (bP (aK G sl i))
 | .build z ps=>aCO (iB (z.map cI) (ps.map fun (o,s,x)=>(o,s,aK G sl x)))
 | .ext x n=>Ma (aK G sl x) n
 | .lenS x=>Po (cS (aK G sl x))
 | .lenL x=>qI (aK G sl x)
 | ai=>cT G ⟨sl,hp⟩ ai
def zQ(G:aH)(st:AS)(d:Option Nat):AI->Option AS
 | .alloc z=>some ⟨aO st.sl d (.one (.ptr st.hp.length 0)),st.hp++[.box (z.map cI)]⟩
 | .box x=>aHg st d (cellsOf (aK G st.sl x))
 | .store size x v=>stD G st size x v d
 | .bslc size len z ps=>bsX G st d size len z ps
 | ai=>gI st d (V6 G st.sl st.hp ai)
theorem Xx(G:aH)(sl:List AV)(hp:List aC)(ai:AI):V6 G sl hp ai=cT G ⟨sl,hp⟩ ai:=by
 cases ai<;>first | rfl | skip
 case conv k x=>simp only[V6,cT];cases bP (aK G sl x)<;>rfl
 case ixA n s x i=>simp only[V6,cT];cases bP (aK G sl i)<;>rfl
 case ixL s x i=>simp only[V6,cT];cases bP (aK G sl i)<;>rfl
 case ixS x i=>simp only[V6,cT];cases bP (aK G sl i)<;>rfl
 case build z ps=>simp only[V6,cT];cases iB (z.map cI) (ps.map fun (o,s,x)=>(o,s,aK G sl x))<;>rfl
 case lenS x=>simp only[V6,cT];cases cS (aK G sl x)<;>rfl
theorem tV(G:aH)(st:AS)(o:aY):zQ G st o.dst o.ai=exX G st o:=by
 obtain⟨d,ai,g⟩:=o;have key:gI st d (V6 G st.sl st.hp ai)=(cT G st ai).map fun v=>⟨aO st.sl d v,st.hp⟩:=by
  rw[Xx];cases cT G st ai<;>rfl
 cases ai<;>first | rfl | exact key | skip
 case box x=>simp only[zQ,exX];cases cellsOf (aK G st.sl x)<;>rfl
def AI.isCall:AI->Bool
 | .call _ _=>true
 | .callv _ _=>true
 | .app _ _ _ _ _=>true
 | .apps _ _=>true
 | .mk _ _ _ _ _=>true
 | .clr _ _ _=>true
 | .cpys _ _=>true
 | .cvsb _=>true
 | _=>false
def Tk(G:aH):List aY->AS->Option (List aY × AS)
 | [],st=>some ([],st)
 | o::l,st=>if o.guard=none/\o.ai.isCall=false then (exX G st o).bind fun st'=>Tk G l st' else some (o::l,st)
def unG:Option (Nat × Bool)->AI->Bool
 | none,ai=>!ai.isCall
 | some _,_=>false
def Tl(G:aH):List aY->Option AS->Option (List aY × AS)
 | _,none=>none
 | [],some st=>some ([],st)
 | o::l,some st=>bif unG o.guard o.ai then Tl G l (zQ G st o.dst o.ai) else some (o::l,st)
theorem Tm(G:aH)(l:List aY):Tl G l none=none:=by cases l<;>rfl
theorem Pp(G:aH):∀ (l:List aY) (st:AS),Tl G l (some st)=Tk G l st
 | [],st=>rfl
 | o::l,st=>by
  simp only[Tl,Tk,tV];obtain⟨d,ai,g⟩:=o;cases g with
  | some g=>simp[unG]
  | none=>
   cases hc:ai.isCall with
   | true=>simp[unG,hc]
   | false=>
    simp only[unG,hc,aRm,cond_true,true_and,if_true];cases exX G st ⟨d,ai,none⟩ with
    | none=>simp[Tm]
    | some st'=>simp[Pp G l st']
def Eo(G:aH)(g:Nat)(b:Bool):List aY->AS->Option (List aY × AS)
 | [],st=>some ([],st)
 | o::l,st=>if o.guard=some (g,b)/\o.ai.isCall=false/\o.dst≠some g then (exX G st o).bind fun st'=>Eo G g b l st' else some (o::l,st)
theorem lO:∀ {cs:List aR} {ds:List DC},dcs cs=some ds->cs=jB ds
 | [],ds,h=>by simp[dcs] at h;subst h;rfl
 | .dc d::cs,ds,h=>by
  simp only[dcs] at h;cases hc:dcs cs with
  | none=>simp[hc] at h
  | some ds'=>
   simp only[hc,aQg,Option.some.injEq] at h;subst h;rw[lO hc];rfl
 | .ptr _ _::cs,ds,h=>by simp[dcs] at h
 | .bld _ _::cs,ds,h=>by simp[dcs] at h
 | .ept _ _ _ _::cs,ds,h=>by simp[dcs] at h
 | .bls _ _ _ _::cs,ds,h=>by simp[dcs] at h
 | .ref _::cs,ds,h=>by simp[dcs] at h
 | .mpc _::cs,ds,h=>by simp[dcs] at h
 | .fn _ _::cs,ds,h=>by simp[dcs] at h
 | .junk::cs,ds,h=>by simp[dcs] at h
theorem I7(z:List Value):∀ n,zs z n=(List.range n).map fun i=>cI (z.getD (i % z.length) undef)
 | 0=>rfl
 | n+1=>by rw[zs,I7 z n,List.range_succ,aQL];rfl
theorem jX(size:Nat):∀ (n:Nat) (ds:List DC),ds.length=n * size->(fA size n ds).flatten=ds/\(∀ e∈fA size n ds,e.length=size)/\(fA size n ds).length=n
 | 0,ds,h=>by simp at h;subst h;simp[fA]
 | n+1,ds,h=>by
  have hh:ds.length=n * size+size:=by rw[h,aQK,Nat.one_mul]
  obtain⟨h1,h2,h3⟩:=jX size n (ds.drop size) (by simp;omega);refine⟨by simp[fA,h1],fun e he=>?_,by simp[fA,h3]⟩
  simp only[fA,List.mem_cons] at he;rcases he with rfl | he
  ·simp;omega
  ·exact h2 e he
section
variable {P:Program} {G:aH} {k:Nat} {st st':AS} {R:AS->Prop}
theorem WR.bsX{o:aY}{rest:List aY}{size len:Nat}{z:List Value}{ps:List (Nat × aJ)}(hgd:iQ G st o.guard)(ha:o.ai=.bslc size len z ps)
  (h:Go.Proofs.YtcplecjhmnblpaaGreatDoor.bsX G st o.dst size len z ps=some st') (hw:WR P G k rest R st'):WR P G k (o::rest) R st:=by
 unfold Go.Proofs.YtcplecjhmnblpaaGreatDoor.bsX at h;cases len with
 | zero=>
  simp only at h;split at h
  ·rename_i he;injection h with h;subst h
   have hps:ps=[]:=by cases ps with | nil=>rfl | cons=>simp at he
   subst hps;exact WR.bslc (es:=[]) hgd ha (by simp[iB,jB]) (by simp) rfl hw
  ·cases h
 | succ len=>
  simp only at h;cases hf:iB (zs z ((len+1) * size)) (ps.map fun (j,x)=>(j * size,size,aK G st.sl x)) with
  | none=>simp[hf] at h
  | some cs=>
   simp only[hf,aQq] at h;cases hd:dcs cs with
   | none=>simp[hd] at h
   | some ds=>
    simp only[hd,aQq] at h;split at h
    ·rename_i hl;injection h with h;subst h
     obtain⟨h1,h2,h3⟩:=jX size (len+1) ds hl;rw[I7] at hf;exact WR.bslcF (es:=fA size (len+1) ds) hgd ha (by rw[h1,<- lO hd];exact hf) h2 h3 hw
    ·cases h
theorem WR.stX{o:aY}{rest:List aY}{size:Nat}{x v:aJ}(hgd:iQ G st o.guard)(ha:o.ai=.store size x v)(hd0:o.dst=none)
  (h:Go.Proofs.YtcplecjhmnblpaaGreatDoor.stX G st size x v=some st') (hw:WR P G k rest R st'):WR P G k (o::rest) R st:=by
 unfold Go.Proofs.YtcplecjhmnblpaaGreatDoor.stX at h;split at h
 ·rename_i id off hx;split at h
  ·rename_i vs hv;split at h
   ·rename_i cs hb;split at h
    ·rename_i hc;injection h with h;subst h
     exact WR.store hgd ha hd0 hx hv hb hc.1 hc.2 hw
    ·cases h
   ·cases h
  ·cases h
 ·rename_i id i s off hx;split at h
  ·rename_i ds hv;split at h
   ·rename_i cap s' es hb;split at h
    ·rename_i e he;split at h
     ·rename_i hc;injection h with h;subst h
      obtain⟨rfl,hc1,hc2⟩:=hc;obtain⟨cs,hcs,hdc⟩:=aQX.1 hv;exact WR.storeE hgd ha hd0 hx (by rw[hcs,lO hdc]) hb he hc1 hc2 rfl hw
     ·cases h
    ·cases h
   ·cases h
  ·cases h
 ·cases h
theorem WR.exX{o:aY}{rest:List aY}(hgd:iQ G st o.guard)(hc:o.ai.isCall=false)(h:Go.Proofs.YtcplecjhmnblpaaGreatDoor.exX G st o=some st')(hw:WR P G k rest R st'):WR P G k (o::rest) R st:=by
 obtain⟨dst,ai,gd⟩:=o;cases ai<;>first | (simp[AI.isCall] at hc;done) | skip
 case alloc z=>simp only[Go.Proofs.YtcplecjhmnblpaaGreatDoor.exX,Option.some.injEq] at h;subst h;exact WR.alloc hgd rfl hw
 case box x=>
  simp only[Go.Proofs.YtcplecjhmnblpaaGreatDoor.exX] at h;obtain⟨cs,h1,rfl⟩:=Option.map_eq_some_iff.1 h;exact WR.box hgd rfl h1 hw
 case store size x v=>
  simp only[Go.Proofs.YtcplecjhmnblpaaGreatDoor.exX] at h;cases dst with
  | none=>exact WR.stX hgd rfl rfl h hw
  | some d=>cases h
 case bslc size len z ps=>exact WR.bsX hgd rfl h hw
 all_goals
  simp only[Go.Proofs.YtcplecjhmnblpaaGreatDoor.exX] at h;obtain⟨v,h1,rfl⟩:=Option.map_eq_some_iff.1 h;exact WR.pur hgd h1 hw
theorem aCP{o:aY}{g:Nat}(hc:o.ai.isCall=false)(hd:o.dst≠some g)(h:exX G st o=some st'):aK G st'.sl (.t g)=aK G st.sl (.t g):=by
 obtain⟨dst,ai,gd⟩:=o;cases ai<;>first | (simp[AI.isCall] at hc;done) | skip
 case alloc z=>simp only[exX,Option.some.injEq] at h;subst h;exact mH hd
 case box x=>
  simp only[exX] at h;obtain⟨cs,h1,rfl⟩:=Option.map_eq_some_iff.1 h;exact mH hd
 case store size x v=>
  simp only[exX] at h;cases dst with
  | some d=>cases h
  | none=>
   simp only[stX] at h
   repeat' (split at h)
   all_goals first | (cases h;done) | (injection h with h;subst h;rfl)
 case bslc size len z ps=>
  simp only[exX,bsX] at h;split at h
  ·split at h
   ·injection h with h;subst h;exact mH hd
   ·cases h
  ·obtain⟨cs,_,h⟩:=aQX.1 h;obtain⟨ds,_,h⟩:=aQX.1 h;split at h
   ·injection h with h;subst h;exact mH hd
   ·cases h
 all_goals
  simp only[exX] at h;obtain⟨v,h1,rfl⟩:=Option.map_eq_some_iff.1 h;exact mH hd
theorem WR.rX:∀ (ops:List aY) (st:AS) (rest:List aY) (st':AS),Tk G ops st=some (rest,st')->WR P G k rest R st'->WR P G k ops R st
 | [],st,rest,st',h,hw=>by simp[Tk] at h;obtain⟨rfl,rfl⟩:=h;exact hw
 | o::ops,st,rest,st',h,hw=>by
  simp only[Tk] at h;split at h
  ·rename_i hc;obtain⟨s1,h1,h2⟩:=aQX.1 h;exact WR.exX (by rw[hc.1];trivial) hc.2 h1 (WR.rX ops s1 rest st' h2 hw)
  ·injection h with h;injection h with h1 h2;subst h1;subst h2;exact hw
theorem WR.rGX{g:Nat}{b:Bool}:∀ (ops:List aY) (st:AS) (rest:List aY) (st':AS),cG (aK G st.sl (.t g))=some b->Eo G g b ops st=some (rest,st')->WR P G k rest R st'->WR P G k ops R st
 | [],st,rest,st',hb,h,hw=>by simp[Eo] at h;obtain⟨rfl,rfl⟩:=h;exact hw
 | o::ops,st,rest,st',hb,h,hw=>by
  simp only[Eo] at h;split at h
  ·rename_i hc;obtain⟨s1,h1,h2⟩:=aQX.1 h;exact WR.exX (by rw[hc.1];exact hb) hc.2.1 h1 (WR.rGX ops s1 rest st' (by rw[aCP hc.2.1 hc.2.2 h1];exact hb) h2 hw)
  ·injection h with h;injection h with h1 h2;subst h1;subst h2;exact hw
def nq:Nat->Nat->Bool
 | 0,0=>true
 | 0,_+1=>false
 | _+1,0=>false
 | n+1,m+1=>nq n m
theorem iI:∀ a b:Nat,nq a b=(a==b)
 | 0,0=>rfl
 | 0,b+1=>by simp[nq]
 | a+1,0=>by simp[nq]
 | a+1,b+1=>by rw[nq,iI a b,aRn];simp
def Ms:Option Nat->Nat->Bool
 | none,_=>true
 | some d,g=>!(nq d g)
def eqb:Bool->Bool->Bool
 | true,true=>true
 | false,false=>true
 | _,_=>false
theorem F5(d:Option Nat)(g:Nat):Ms d g=decide (d≠some g):=by
 cases d with
 | none=>simp[Ms]
 | some d=>by_cases h:d=g<;>simp[Ms,iI,h]
theorem xB(a b:Bool):eqb a b=(a==b):=by cases a<;>cases b<;>rfl
def guG(g:Nat)(b:Bool):Option (Nat × Bool)->Option Nat->AI->Bool
 | some (g',b'),d,ai=>nq g g'&&(eqb b b'&&!ai.isCall&&Ms d g)
 | none,_,_=>false
def Ep(G:aH)(g:Nat)(b:Bool):List aY->Option AS->Option (List aY × AS)
 | _,none=>none
 | [],some st=>some ([],st)
 | o::l,some st=>bif guG g b o.guard o.dst o.ai then Ep G g b l (zQ G st o.dst o.ai) else some (o::l,st)
theorem Mt(G:aH)(g:Nat)(b:Bool)(l:List aY):Ep G g b l none=none:=by cases l<;>rfl
theorem I8(G:aH)(g:Nat)(b:Bool):∀ (l:List aY) (st:AS),Ep G g b l (some st)=Eo G g b l st
 | [],st=>rfl
 | o::l,st=>by
  obtain⟨d,ai,gd⟩:=o;simp only[Ep,Eo];have e:zQ G st d ai=exX G st ⟨d,ai,gd⟩:=tV G st ⟨d,ai,gd⟩;rw[e];have hg:guG g b gd d ai=decide (gd=some (g,b)/\ai.isCall=false/\d≠some g):=by
   cases gd with
   | none=>simp[guG]
   | some q=>
    obtain⟨g',b'⟩:=q;simp only[guG,F5,xB,iI];rw[aRn];simp only[aQp,beq_iff_eq,aRh,decide_eq_true_eq,Option.some.injEq,Prod.mk.injEq];constructor
    ·rintro⟨rfl,⟨rfl,h1⟩,h2⟩;exact⟨⟨rfl,rfl⟩,h1,h2⟩
    ·rintro⟨⟨rfl,rfl⟩,h1,h2⟩;exact⟨rfl,⟨rfl,h1⟩,h2⟩
  rw[hg];by_cases hc:gd=some (g,b)/\ai.isCall=false/\d≠some g
  ·simp only[decide_eq_true hc,cond_true,if_pos hc];cases exX G st ⟨d,ai,gd⟩ with
   | none=>simp[Mt]
   | some st'=>simp[I8 G g b l st']
  ·simp only[decide_eq_false hc,cond_false,if_neg hc]
theorem WR.x1{o:aY}{ops rest:List aY}(_:o.guard=none)(_:o.ai.isCall=false)(h:Tl G (o::ops) (some st)=some (rest,st'))(hw:WR P G k rest R st'):WR P G k (o::ops) R st:=WR.rX _ _ _ _ (by rw[<- Pp];exact h) hw
theorem WR.xg{o:aY}{ops rest:List aY}{g:Nat}{b:Bool}(_:o.guard=some (g,b))(_:o.ai.isCall=false)(hb:cG (aK G st.sl (.t g))=some b)(h:Ep G g b (o::ops) (some st)=some (rest,st'))(hw:WR P G k rest R st'):WR P G k (o::ops) R st:=WR.rGX _ _ _ _ hb (by rw[<- I8];exact h) hw
def aHi:AI->Bool
 | .alloc _=>true
 | .box _=>true
 | .store _ _ _=>true
 | _=>false
def Mu:Bool->AI->Bool
 | true,ai=>rJ ai
 | false,ai=>aHi ai
def Er(G:aH):List (Bool × aY)->AS->Option (List (Bool × aY) × AS)
 | [],st=>some ([],st)
 | (b,o)::l,st=>if o.guard=none/\Mu b o.ai=true then (exX G st o).bind fun st'=>Er G l st' else some ((b,o)::l,st)
def tM(G:aH):List (Bool × aY)->Option AS->Option (List (Bool × aY) × AS)
 | _,none=>none
 | [],some st=>some ([],st)
 | o::l,some st=>bif unGD o.2.guard o.1 o.2.ai then tM G l (zQ G st o.2.dst o.2.ai) else some (o::l,st)
where unGD:Option (Nat × Bool)->Bool->AI->Bool
 | none,b,ai=>Mu b ai
 | some _,_,_=>false
theorem Mv(G:aH)(l:List (Bool × aY)):tM G l none=none:=by cases l<;>rfl
theorem I9(G:aH):∀ (l:List (Bool × aY)) (st:AS),tM G l (some st)=Er G l st
 | [],st=>rfl
 | o::l,st=>by
  obtain⟨b,d,ai,g⟩:=o;simp only[tM,Er];have e:zQ G st d ai=exX G st ⟨d,ai,g⟩:=tV G st ⟨d,ai,g⟩;rw[e];cases g with
  | some g=>simp[tM.unGD]
  | none=>
   cases hc:Mu b ai with
   | false=>simp[tM.unGD,hc]
   | true=>
    simp only[tM.unGD,hc,cond_true,true_and,if_true];cases exX G st ⟨d,ai,none⟩ with
    | none=>simp[Mv]
    | some st'=>simp[I9 G l st']
theorem Ja{o:aY}(h:o.ai.isPure=true):exX G st o=(cT G st o.ai).map fun v=>⟨aO st.sl o.dst v,st.hp⟩:=by
 obtain⟨dst,ai,gd⟩:=o;cases ai<;>first | (simp[AI.isPure] at h;done) | rfl
theorem WD.rX:∀ (ops:List (Bool × aY)) (st:AS) (rest:List (Bool × aY)) (st':AS),Er G ops st=some (rest,st')->jA P G k R rest st'->jA P G k R ops st
 | [],st,rest,st',h,hw=>by simp[Er] at h;obtain⟨rfl,rfl⟩:=h;exact hw
 | (b,o)::ops,st,rest,st',h,hw=>by
  simp only[Er] at h;split at h
  ·rename_i hc;obtain⟨s1,h1,h2⟩:=aQX.1 h;have hr:=WD.rX ops s1 rest st' h2 hw;obtain⟨hg,hp⟩:=hc;cases b with
   | true=>
    simp only[Mu] at hp;rw[Ja (A2 hp)] at h1;obtain⟨v,hv,rfl⟩:=Option.map_eq_some_iff.1 h1;exact⟨v,.inr ⟨by rw[hg];trivial,.inl (by rw[wY hp];exact hv)⟩,hr⟩
   | false=>
    simp only[Mu] at hp;obtain⟨dst,ai,gd⟩:=o;simp only at hg;subst hg;cases ai<;>first | (simp[aHi] at hp;done) | skip
    case alloc z=>simp only[exX,Option.some.injEq] at h1;subst h1;exact WD.allocE trivial rfl rfl hr
    case box x=>
     simp only[exX] at h1;obtain⟨cs,h3,rfl⟩:=Option.map_eq_some_iff.1 h1;exact WD.boxE trivial rfl h3 rfl hr
    case store size x v=>
     simp only[exX] at h1;cases dst with
     | some d=>cases h1
     | none=>
      simp only[stX] at h1;split at h1
      ·rename_i id off hx;split at h1
       ·rename_i vs hv;split at h1
        ·rename_i cs hb;split at h1
         ·rename_i hc;injection h1 with h1
          exact WD.storeX trivial rfl rfl hx hv hb hc.1 hc.2 h1 hr
         ·cases h1
        ·cases h1
       ·cases h1
      ·rename_i id i s off hx;split at h1
       ·rename_i ds hv;split at h1
        ·rename_i cap s' es hb;split at h1
         ·rename_i e he;split at h1
          ·rename_i hc;injection h1 with h1;subst h1
           obtain⟨rfl,hc1,hc2⟩:=hc;obtain⟨cs,hcs,hdc⟩:=aQX.1 hv;exact .inr ⟨trivial,rfl,.inr ⟨id,i,s,off,cap,es,e,ds,hx,by rw[hcs,lO hdc],hb,he,hc1,hc2,hr⟩⟩
          ·cases h1
         ·cases h1
        ·cases h1
       ·cases h1
      ·cases h1
  ·injection h with h;injection h with h1 h2;subst h1;subst h2;exact hw
theorem WD.x1{b:Bool}{o:aY}{ops rest:List (Bool × aY)}(_:o.guard=none)(_:Mu b o.ai=true)(h:tM G ((b,o)::ops) (some st)=some (rest,st'))(hw:jA P G k R rest st'):jA P G k R ((b,o)::ops) st:=WD.rX _ _ _ _ (by rw[<- I9];exact h) hw
def guD(g:Nat)(c:Bool):Bool->Option (Nat × Bool)->Option Nat->AI->Bool
 | true,some (g',c'),d,ai=>nq g g'&&(eqb c c'&&rJ ai&&Ms d g)
 | _,_,_,_=>false
def Es(G:aH)(g:Nat)(c:Bool):List (Bool × aY)->Option AS->Option (List (Bool × aY) × AS)
 | _,none=>none
 | [],some st=>some ([],st)
 | o::l,some st=>bif guD g c o.1 o.2.guard o.2.dst o.2.ai then Es G g c l (zQ G st o.2.dst o.2.ai) else some (o::l,st)
theorem Mw(G:aH)(g:Nat)(c:Bool)(l:List (Bool × aY)):Es G g c l none=none:=by cases l<;>rfl
theorem Jb(G:aH)(g:Nat)(c:Bool):∀ (l:List (Bool × aY)) (st:AS),Es G g c l (some st)=Ej G g c l st
 | [],st=>rfl
 | o::l,st=>by
  obtain⟨b,d,ai,gd⟩:=o;simp only[Es,Ej];have hg:guD g c b gd d ai=decide (b=true/\gd=some (g,c)/\rJ ai=true/\d≠some g):=by
   cases gd with
   | none=>cases b<;>simp[guD]
   | some q=>
    obtain⟨g',c'⟩:=q;cases b with
    | false=>simp[guD]
    | true=>
     simp only[guD,F5,xB,iI];rw[aRn];simp only[aQp,beq_iff_eq,decide_eq_true_eq,Option.some.injEq,Prod.mk.injEq,true_and];constructor
     ·rintro⟨rfl,⟨rfl,h1⟩,h2⟩;exact⟨⟨rfl,rfl⟩,h1,h2⟩
     ·rintro⟨⟨rfl,rfl⟩,h1,h2⟩;exact⟨rfl,⟨rfl,h1⟩,h2⟩
  rw[hg];by_cases hc:b=true/\gd=some (g,c)/\rJ ai=true/\d≠some g
  ·simp only[decide_eq_true hc,cond_true,if_pos hc];have e:zQ G st d ai=exX G st ⟨d,ai,gd⟩:=tV G st ⟨d,ai,gd⟩;rw[e,Ja (o:=⟨d,ai,gd⟩) (A2 hc.2.2.1)];cases cT G st ai with
   | none=>simp[Mw]
   | some v=>simp[Jb G g c l]
  ·simp only[decide_eq_false hc,cond_false,if_neg hc]
theorem WD.xg{b:Bool}{o:aY}{ops rest:List (Bool × aY)}{g:Nat}{c:Bool}(_:o.guard=some (g,c))(_:o.ai.isPure=true)(hb:cG (aK G st.sl (.t g))=some c)(h:Es G g c ((b,o)::ops) (some st)=some (rest,st'))(hw:jA P G k R rest st'):jA P G k R ((b,o)::ops) st:=WD.runG _ _ _ _ hb (by rw[<- Jb];exact h) hw
def skO(g:Nat)(c:Bool):Option (Nat × Bool)->Option Nat->Bool
 | some (g',c'),d=>nq g g'&&(eqb c c'&&Ms d g)
 | none,_=>false
theorem Xy(g:Nat)(c:Bool)(gd:Option (Nat × Bool))(d:Option Nat):skO g c gd d=decide (gd=some (g,c)/\d≠some g):=by
 cases gd with
 | none=>simp[skO]
 | some q=>
  obtain⟨g',c'⟩:=q;simp only[skO,F5,xB,iI];rw[aRn];simp only[aQp,beq_iff_eq,decide_eq_true_eq,Option.some.injEq,Prod.mk.injEq];constructor
  ·rintro⟨rfl,rfl,h2⟩;exact⟨⟨rfl,rfl⟩,h2⟩
  ·rintro⟨⟨rfl,rfl⟩,h2⟩;exact⟨rfl,rfl,h2⟩
def skY(g:Nat)(c:Bool):List aY->AS->List aY × AS
 | [],st=>([],st)
 | o::l,st=>bif skO g c o.guard o.dst then skY g c l ⟨aO st.sl o.dst (.tup []),st.hp⟩ else (o::l,st)
theorem Xz(g:Nat)(c:Bool):∀ (l:List aY) (st:AS),skY g c l st=skipG g c l st
 | [],st=>rfl
 | o::l,st=>by
  simp only[skY,skipG,Xy];by_cases hc:o.guard=some (g,c)/\o.dst≠some g
  ·rw[decide_eq_true hc,cond_true,if_pos hc,Xz g c l]
  ·rw[decide_eq_false hc,cond_false,if_neg hc]
def X0(g:Nat)(c:Bool):List (Bool × aY)->AS->List (Bool × aY) × AS
 | [],st=>([],st)
 | o::l,st=>bif skO g c o.2.guard o.2.dst then X0 g c l ⟨aO st.sl o.2.dst (.tup []),st.hp⟩ else (o::l,st)
theorem Pq(g:Nat)(c:Bool):∀ (l:List (Bool × aY)) (st:AS),X0 g c l st=wZ g c l st
 | [],st=>rfl
 | (b,o)::l,st=>by
  simp only[X0,wZ,Xy];by_cases hc:o.guard=some (g,c)/\o.dst≠some g
  ·rw[decide_eq_true hc,cond_true,if_pos hc,Pq g c l]
  ·rw[decide_eq_false hc,cond_false,if_neg hc]
def gN(c:Bool):AV->Bool
 | .one (.dc (.raw (.bool b)))=>eqb b (!c)
 | .tup []=>true
 | _=>false
theorem aGn{g:Nat}{c:Bool}(h:gN c (aK G st.sl (.t g))=true):yT G st (some (g,c)):=by
 show cG (aK G st.sl (.t g))=some (!c)\/aK G st.sl (.t g)=.tup [];generalize aK G st.sl (.t g)=v at h;unfold gN at h;split at h
 ·rename_i b;rw[xB,beq_iff_eq] at h;subst h;exact .inl rfl
 ·exact .inr rfl
 ·cases h
theorem WR.xs{o:aY}{ops rest:List aY}{g:Nat}{c:Bool}(_:o.guard=some (g,c))(hb:gN c (aK G st.sl (.t g))=true)(h:skY g c (o::ops) st=(rest,st'))(hw:WR P G k rest R st'):WR P G k (o::ops) R st:=WR.skipG _ _ _ _ (aGn hb) (by rw[<- Xz];exact h) hw
theorem WD.xs{b:Bool}{o:aY}{ops rest:List (Bool × aY)}{g:Nat}{c:Bool}(_:o.guard=some (g,c))(hb:gN c (aK G st.sl (.t g))=true)(h:X0 g c ((b,o)::ops) st=(rest,st'))(hw:jA P G k R rest st'):jA P G k R ((b,o)::ops) st:=WD.skipG _ _ _ _ (aGn hb) (by rw[<- Pq];exact h) hw
end
theorem aOI(a b:Nat):nq a b=decide (a=b):=by rw[iI];rfl
attribute [go_sem] eq_self decide_true decide_false rJ aOI Ms skO skY X0 gN Es guD Tl Ep tM tM.unGD unG guG cond_true cond_false zQ V6 stD aHh aCM aCN Pn Po aCO aHi Mu stX bsX zs fA dcs AI.isCall iB qL aRH List.isEmpty_nil List.isEmpty_cons
end
section
theorem ifp{c:Prop}[Decidable c]{α:Sort _}{a b:α}(h:c):ite c a b=a:=if_pos h
theorem ifn{c:Prop}[Decidable c]{α:Sort _}{a b:α}(h:¬ c):ite c a b=b:=if_neg h
section
variable {P:Program} {G:aH} {k:Nat} {st st':AS} {R:AS->Prop} {o:aY} {rest:List aY}
theorem VLe.int{k:IntKind}{a b:Int}(h:a=b):VLe (.one (.dc (.raw (.int k a)))) (.one (.dc (.raw (.int k b)))):=by subst h;exact .refl _
def tN:Nat->List AV
 | 0=>[]
 | n+1=>.junk::tN n
theorem Jc:∀ n,tN n=List.replicate n .junk
 | 0=>rfl
 | n+1=>by rw[tN,Jc n,List.replicate_succ]
theorem AC.of_codeJ{f:FuncId}{fn:Func}{n:Nat}{rs:List kQ}{ac:dP}{args:List AV}{objs:List aC}{Q:AV->List aC->Prop}(hf:P.funcs[f]?=some fn)(hn:fn.ntmps=n)
  (hc:fn.body.bind (bF P)=some ac) (hr:fn.results.toList.mapM (gD P)=some rs)
  (h:AW P G objs.length ac (Fin objs.length rs Q) ⟨args++tN (n - args.length),objs⟩):AC P G f args objs Q:=AC.of_codeF hf hn hc hr (by rw[<- Jc];exact h)
def X1:aR->aR
 | .dc (.raw (.slice none 0 0))=>.dc (.slc [])
 | .dc (.ptr cs)=>.ref cs
 | c=>c
def nzT:TV->TV
 | .one c=>.one (X1 c)
 | .agg cs=>.agg (cs.map X1)
def zR:AV->AV
 | .one c=>.one (X1 c)
 | .agg cs=>.agg (cs.map X1)
 | .tup l=>.tup (l.map nzT)
 | .junk=>.junk
theorem Mx{F:Fz}{γ:List OI}{c:aR}{v:Value}(h:RC F γ c v):RC F γ (X1 c) v:=by
 unfold X1;split
 ·cases h with | dc _ _ h=>cases h with | raw _ h=>exact .dc _ _ (.nil _ _)
 ·cases h with | dc _ _ h=>cases h with | ptr _ b off g hr hc=>exact .ref _ b off g hr hc
 ·exact h
theorem Ps{F:Fz}{γ:List OI}{cs:List aR}{vs:Array Value}(h:∀ (i:Nat) c v,cs[i]?=some c->vs[i]?=some v->RC F γ c v):∀ (i:Nat) c v,(cs.map X1)[i]?=some c->vs[i]?=some v->RC F γ c v:=by
 intro i c v hc hv;rw[aQh] at hc;obtain⟨c0,h0,rfl⟩:=Option.map_eq_some_iff.1 hc;exact Mx (h i c0 v h0 hv)
theorem X2{F:Fz}{γ:List OI}{a:AV}{v:Value}(h:RV F γ a v):RV F γ (zR a) v:=by
 cases h with
 | one c v h=>exact .one _ _ (Mx h)
 | agg cs vs hs h=>exact .agg _ _ (by simpa using hs) (Ps h)
 | tup l vs hs h=>
  refine .tup _ _ (by simpa using hs) (fun i t v ht hv=>?_)
  rw[aQh] at ht;obtain⟨t0,h0,rfl⟩:=Option.map_eq_some_iff.1 ht;cases h i t0 v h0 hv with
  | one c v h=>exact .one _ _ (Mx h)
  | agg cs vs hs h=>exact .agg _ _ (by simpa using hs) (Ps h)
 | junk v=>exact .junk v
theorem AC.nz{f:FuncId}{args:List AV}{objs:List aC}{Q:AV->List aC->Prop}(h:AC P G f args objs fun av os=>Q (zR av) os):AC P G f args objs Q:=by
 refine h.gh (fun a os ho hl=>⟨zR a,os, ?_,hl,ho⟩)
 intro F γ ac w hi hs hk;refine⟨F,γ,gP.refl _ _ _ _,hi,⟨hs.1,hs.2.1,fun i av v h1 h2=>?_⟩,hk⟩
 cases i with
 | zero=>simp at h1;subst h1;exact X2 (hs.2.2 0 a v rfl h2)
 | succ i=>simp at h1
def bsD(G:aH)(st:AS)(dst:Option Nat)(size len:Nat)(z:List Value)(ps:List (Nat × aJ)):Option AS:=
 (iB (zs z (len * size)) (ps.map fun (j,x)=>(j * size,size,aK G st.sl x))).bind fun cs=>(dcs cs).bind fun ds=>
   if ds.length=len * size then some ⟨aO st.sl dst (.one (.bld st.hp.length len)),st.hp++[.arr len size (fA size len ds)]⟩ else none
theorem WD.bs{b:aY}{l:List (Bool × aY)}{size len:Nat}{z:List Value}{ps:List (Nat × aJ)}(hgd:iQ G st b.guard)(ha:b.ai=.bslc size len z ps)
  (h:bsD G st b.dst size len z ps=some st') (hw:jA P G k R l st'):jA P G k R ((false,b)::l) st:=by
 unfold bsD at h;obtain⟨cs,hf,h⟩:=aQX.1 h;obtain⟨ds,hd,h⟩:=aQX.1 h;split at h
 ·rename_i hl;injection h with h
  obtain⟨h1,h2,h3⟩:=jX size len ds hl;rw[I7] at hf;exact WD.bslcE (es:=fA size len ds) hgd ha (by rw[h1,<- lO hd];exact hf) h2 h3 h hw
 ·cases h
def gK(b:Bool):AV->Option Bool
 | .one (.dc (.raw (.bool c)))=>some (eqb c b)
 | .tup []=>some false
 | _=>none
theorem aCR{g:Nat}{b:Bool}(h:gK b (aK G st.sl (.t g))=some true):cG (aK G st.sl (.t g))=some b:=by
 generalize aK G st.sl (.t g)=v at h;unfold gK at h;split at h
 ·rename_i c;injection h with h;rw[xB,beq_iff_eq] at h;subst h;rfl
 ·cases h
 ·cases h
theorem X3{g:Nat}{b:Bool}(h:gK b (aK G st.sl (.t g))=some false):yT G st (some (g,b)):=by
 show cG (aK G st.sl (.t g))=some (!b)\/aK G st.sl (.t g)=.tup [];generalize aK G st.sl (.t g)=v at h;unfold gK at h;split at h
 ·rename_i c;injection h with h;rw[xB] at h;left;cases b<;>cases c<;>first | rfl | cases h
 ·exact .inr rfl
 ·cases h
end
attribute [go_sem] X1 nzT zR List.map_replicate bsD aRr Int.cast_ofNat_Int decide_true decide_false iQ aRd if_false aQV aRm aQW aRi Bool.and_true Bool.and_false Mo ifp ifn aQi
attribute [go_sem] decide_eq_false_iff_not aQp Bool.or_eq_true aRh Bool.not_eq_false' beq_iff_eq bne_iff_ne ne_eq beq_eq_false_iff_ne bne_eq_false_iff_eq Bool.true_eq_false Bool.and_eq_false_iff Bool.or_eq_false_iff Decidable.not_not aQ0 Int.natCast_one
attribute [go_sem] aQ4 Nat.one_mul Nat.zero_mul Nat.mul_zero Nat.mod_one Nat.zero_mod aRg Int.toNat_zero Int.toNat_one List.length_singleton
end
end Go.Proofs.YtcplecjhmnblpaaGreatDoor
