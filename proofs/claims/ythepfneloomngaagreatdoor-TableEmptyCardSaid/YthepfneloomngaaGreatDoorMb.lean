/- Small rules for sums and tests. Conditions: none. -/
import Derived.Test.YthepfneloomngaaGreatDoorLt
import Derived.ProofKit
namespace Go.Proofs.YthepfneloomngaaGreatDoor
section
section
variable {P:Program}{G:aE}{k:Nat}{hp:List aC}{s:AS}{K Q:AS->Prop}
theorem bI(id:Nat):aI (hp.map aP) id=aP (aI hp id):=by
 unfold aI;simp only[aXN,aXI];cases hp[id]?<;>rfl
theorem G7{g:Bool}{n:Nat}{x:AV}:lG (hp.map aP) g n x=lG hp g n x:=by
 unfold lG;split;simp only[bI];cases aI hp _<;>rfl;simp only[bI];cases aI hp _<;>rfl;rfl;rfl
theorem Tl{x:AV}:mU (hp.map aP) x=mU hp x:=by
 unfold mU;split;rfl;rfl;simp only[bI];cases aI hp _<;>rfl;simp only[bI];cases aI hp _<;>rfl;rfl
theorem aAm{n:Nat}{x:AV}{i:Int}:At (hp.map aP) n x i=At hp n x i:=by
 unfold At;split;rfl;simp only[bI];cases aI hp _<;>rfl;simp only[bI];cases aI hp _<;>rfl;rfl
theorem aAn{n:Nat}{x:AV}{l r:Option AV}:kS (hp.map aP) n x l r=kS hp n x l r:=by
 unfold kS;split;rfl;rfl;simp only[bI];cases aI hp _<;>cases l<;>rfl;simp only[bI];cases aI hp _<;>rfl;rfl
theorem uE{x:AV}:qS (hp.map aP) x=qS hp x:=by
 unfold qS;split;rfl;rfl;simp only[bI];cases aI hp _<;>rfl;rfl
theorem pV{ai:AI}:cX G (aD s) ai=cX G s ai:=by
 cases ai<;>simp only[cX,aD,G7,Tl,aAm,aAn]
theorem aC6{st:AS}{ai:AI}:evF G st ai=cX G st ai:=by
 unfold evF;split;split;rename_i h1 h2;simp only[cX,h1,h2,eP,Po];rfl;rfl;split;rename_i h1 h2;simp only[cX,h1,h2,eP,Po];rfl;rfl;rfl
theorem G8:∀(cs:List aT) (ds:List DC),G5 cs=some ds->cs=mD ds
 |[],ds,h=>by simp[G5] at h;subst h;rfl
 | c::cs,ds,h=>by
  cases c with
  | dc d=>
   simp only[G5] at h;obtain⟨ds',h1,rfl⟩:=Option.map_eq_some_iff.1 h;rw[G8 cs ds' h1];rfl
  | _=>simp[G5] at h
theorem Kx{size:Nat}:∀(n:Nat) (l:List DC),l.length=n*size->(qW size n l).flatten=l/\(qW size n l).length=n/\∀e∈qW size n l,e.length=size
 | 0,l,h=>by
  have:l=[]:=aYL (by simpa using h);subst this;exact⟨rfl,rfl,fun e he=>by cases he⟩
 | n+1,l,h=>by
  have hm:(n+1) * size=n * size+size:=Nat.succ_mul n size;obtain⟨h1,h2,h3⟩:=Kx (size:=size) n (l.drop size) (by simp;omega);refine⟨?_,by simp[qW,h2],fun e he=>?_⟩
  ·simp only[qW,aYA,h1,aYI]
  ·simp only[qW,aYR] at he;rcases he with rfl | he
   ·simp;omega
   ·exact h3 e he
theorem nY{p:Nat->Bool}(o:aC):aP (cJ p o)=cJ p (aP o):=by cases o<;>rfl
theorem sY{p:Nat->Bool}(l:List aC):(l.map (cJ p)).map aP=(l.map aP).map (cJ p):=by
 simp only[aX1];exact aXZ (fun o _=>nY o)
theorem nP{ρ:Nat->Nat}(o:aC):aP (dC ρ o)=dC ρ (aP o):=by cases o<;>rfl
theorem pW{cs:List aT}{o:aC}(h:aP o=.box cs):o=.box cs:=by cases o<;>simp_all [aP]
theorem nQ{c z:Nat}{es:List (List DC)}{o:aC}(h:aP o=.arr c z es):∃cap,o=.arr cap z es/\c=0:=by
 cases o<;>simp_all [aP]
theorem Ml{dst:Option Nat}{ai:AI}{st':AS}(h:evI G dst ai (aD s)=some st')(hK:∀s',aD s'=st'->K s'):sS P G k dst ai K s.sl s.hp:=by
 cases ai with
 |alloc z=>
  simp only[evI,Option.some.injEq] at h;exact hK _ (by rw[<- h];simp[aD,aP])
 |box x=>
  simp only[evI] at h;obtain⟨cs,h1,h2⟩:=Option.map_eq_some_iff.1 h;exact⟨cs,h1,hK _ (by rw[<- h2];simp[aD,aP])⟩
 |bslc size len zero parts=>
  simp only[evI] at h;obtain⟨cells,h1,h⟩:=aYu.1 h;obtain⟨ds,h2,h⟩:=aYu.1 h;split at h;rename_i hl;injection h with h
  obtain⟨g1,g2,g3⟩:=Kx len ds hl;refine .inl ⟨qW size len ds,?_,g3,g2,hK _ (by rw[<- h];simp[aD,aP])⟩;rw[g1,<- G8 _ _ h2];exact h1;cases h
 |store size x v=>
  simp only[evI] at h;split at h;rename_i hd;subst hd;refine⟨rfl,?_⟩;obtain⟨vs,h1,h⟩:=aYu.1 h;unfold Wl at h;split at h;rename_i id off hx
  left
  split at h;rename_i cs hb;split at h;rename_i hc;injection h with h
  rw[aD,bI] at hb;exact⟨id,off,cs,vs,hx,h1,pW hb,hc.1,hc.2,hK _ (by rw[<- h];simp[aD,aP,aYa])⟩;cases h;cases h;rename_i id i z off hx
  right
  split at h;rename_i c z' es hb;obtain⟨ds,h2,h⟩:=aYu.1 h;obtain⟨e,h3,h⟩:=aYu.1 h;split at h;rename_i hc;injection h with h
  rw[aD,bI] at hb;obtain⟨cap,hb,_⟩:=nQ hb;obtain⟨rfl,hc2,hc3⟩:=hc;refine⟨id,i,z',off,cap,es,e,ds,hx,?_,hb,h3,hc2,hc3,hK _ (by rw[<- h];simp[aD,aP,aYa])⟩;rw[<- G8 _ _ h2];exact h1;cases h;cases h;cases h;cases h
 |app size bytes zero a x=>
  simp only[evI] at h;unfold aLD at h;split at h;rename_i id n hx
  right
  split at h;rename_i c z es hb;obtain⟨news,h2,h⟩:=aYu.1 h;split at h;rename_i hc;injection h with h
  rw[aD,bI] at hb;obtain⟨cap,hb,_⟩:=nQ hb;obtain⟨rfl,hc2,hc3,hc4⟩:=hc;rw[aD,uE] at h2;exact⟨id,n,cap,es,news,hx,hb,hc2,h2,by simpa using hc3,hc4,fun cap' _=>hK _ (by rw[<- h];simp only[aD,aYa,sY];rfl)⟩
  cases h;cases h;rename_i hx
  left
  obtain⟨news,h2,h⟩:=aYu.1 h;split at h;rename_i hc;injection h with h;rw[aD,uE] at h2;exact⟨hx,news,h2,by simpa using hc.1,hc.2,fun cap' _=>hK _ (by rw[<- h];simp only[aD,aYg,sY,aXC];rfl)⟩
  cases h;cases h
 |_=>cases h
theorem Ha{id:Nat}{es:List (List DC)}(o:aC):aP (Tk id es o)=Tk id es (aP o):=by cases o<;>rfl
theorem fA:∀(ids:List Nat) (s:AS),∃s',Gh k s s'/\aD s'=bU ids (aD s)
 |[],s=>⟨s,Gh.refl,rfl⟩
 | id::r,s=>by
  simp only[bU];split
  ·rename_i c z es hb;rw[aD,bI] at hb;obtain⟨cap,hb,_⟩:=nQ hb;obtain⟨s',h1,h2⟩:=fA r ⟨s.sl.map fun v=>bD (·==id) (aAl id es v),(s.hp.map fun o=>cJ (·==id) (Tk id es o)).set id .dead⟩
   refine⟨s',(Gh.freeze hb).trans h1, ?_⟩;rw[h2];congr 1;simp only[aD,aYa,aX1,aP];congr 2;exact aXZ (fun o _=>by simp only[Function.comp_apply,nY,Ha])
  ·exact fA r s
mutual
theorem rtC{J:List Nat}{n:Nat}:(c:aT)->c.keep (kF J)=true->jN (cF J n) (jN (lE J) c)=c
 |.ptr id o,h=>by simp only[jN,rtN (n:=n) (by simpa[aT.keep,kF] using h)]
 |.bld id o,h=>by simp only[jN,rtN (n:=n) (by simpa[aT.keep,kF] using h)]
 |.ept id i z o,h=>by simp only[jN,rtN (n:=n) (by simpa[aT.keep,kF] using h)]
 |.bls id i z o,h=>by simp only[jN,rtN (n:=n) (by simpa[aT.keep,kF] using h)]
 |.fn f caps,h=>by simp only[jN,rtL caps (by simpa[aT.keep] using h)]
 |.dc d,h=>rfl
 |.ref cs,h=>rfl
 |.mpc es,h=>rfl
 |.junk,h=>rfl
theorem rtL{J:List Nat}{n:Nat}:(cs:List aT)->keepL (kF J) cs=true->renL (cF J n) (renL (lE J) cs)=cs
 |[],h=>rfl
 | c::cs,h=>by
  simp only[keepL,aXQ] at h;simp only[renL,rtC c h.1,rtL cs h.2]
theorem rtN{J:List Nat}{n id:Nat}(h:id∈J):cF J n (lE J id)=id:=by
 have:∀J:List Nat,id∈J->J[lE J id]?=some id:=by
  intro J
  induction J with
  |nil=>intro h;cases h
  |cons j J ih=>
   intro h;simp only[lE];split;rename_i e;simp[e];rename_i hne;rw[aZa];exact ih (by rcases aYR.1 h with h|h;exact absurd h hne;exact h)
 simp only[cF,this J h]
end
theorem nZ{ρ:Nat->Nat}:∀(cs:List aT),renL ρ cs=cs.map (jN ρ)
 |[]=>rfl
 |c::cs=>by simp[renL,nZ cs]
theorem rtM{J:List Nat}{n:Nat}(cs:List aT)(h:keepL (kF J) cs=true):(cs.map (jN (lE J))).map (jN (cF J n))=cs:=by
 rw[<- nZ,<- nZ];exact rtL cs h
theorem rtT{J:List Nat}{n:Nat}(t:TV)(h:Ea (kF J) t=true):Gw (cF J n) (Gw (lE J) t)=t:=by
 cases t with
 |one c=>simp only[Gw,rtC c h]
 |agg cs=>simp only[Gw,rtM cs h]
theorem rtV{J:List Nat}{n:Nat}(v:AV)(h:cV (kF J) v=true):cY (cF J n) (cY (lE J) v)=v:=by
 cases v with
 |one c=>simp only[cY,rtC c h]
 |agg cs=>simp only[cY,rtM cs h]
 |tup l=>
  simp only[cY,aX1];congr 1
  conv=>rhs;rw[<- List.map_id l]
  exact aXZ (fun t ht=>rtT t (aY2.1 h t ht))
 |junk=>rfl
theorem rtO{J:List Nat}{n:Nat}(o:aC)(h:nX (kF J) o=true):dC (cF J n) (dC (lE J) o)=o:=by
 cases o with
 |box cs=>simp only[dC,rtM cs h]
 |_=>rfl
theorem Pp{α β:Type}{f:α->β}:∀(J:List Nat) (xs l:List α),(kE J xs l).map f=kE J (xs.map f) (l.map f)
 |[],_,l=>by simp[kE]
 |j::J,[],l=>by simp[kE]
 |j::J,x::xs,l=>by simp only[kE,aXL];rw[Pp J xs];simp[aYa]
theorem Pq(o:aC):hZ (aP o)=hZ o:=by cases o<;>rfl
theorem Tm{J:List Nat}{dst:Option Nat}{av:AV}{o0:List aC}:aD (iA J s dst av o0)=iA J (aD s) dst av (o0.map aP):=by
 have e1:∀ρ,aP ∘ dC ρ=dC ρ ∘ aP:=fun ρ=>funext fun o=>nP o
 have e2:∀p,aP ∘ cJ p=cJ p ∘ aP:=fun p=>funext fun o=>nY o
 simp only[iA,aD,aYg,Pp,aXC,bI,Pq,aX1,aYS,e1,e2]
def cE(P:Program)(G:aE)(call:aO):Prop:=∀f args hp av o',call f args hp=some (av,o')->∀hp0,hp0.map aP=hp->Wf P f=true/\AC P G f args hp0 fun a o=>a=av/\o.map aP=o'
theorem sZ{p:Nat->Bool}(o:aC):nX p (aP o)=nX p o:=by cases o<;>rfl
theorem pX{call:aO}(hcall:cE P G call){dst:Option Nat}{f:FuncId}{avs:List AV}{st':AS}(h:kG call dst f avs (aD s)=some st'):
  ∃ (J:List Nat) (objs:List aC) (av:AV) (o':List aC),Wf P f=true/\AC P G f (avs.map (cY (lE J))) objs (fun a o=>a=av/\o.map aP=o')/\J.Nodup/\objs.length=J.length/\
   (∀ (t j:Nat) o,J[t]?=some j->objs[t]?=some o->s.hp[j]?=some (dC (cF J s.hp.length) o))/\avs=(avs.map (cY (lE J))).map (cY (cF J s.hp.length))/\
   ∀ a o,a=av/\o.map aP=o'->aD (iA J s dst a o)=st':=by
 unfold kG at h;simp only at h;generalize sX (aD s).hp 2000 (avs.flatMap jE) []=J at h;split at h;rename_i hok;obtain⟨⟨av,o'⟩,h1,h2⟩:=Option.map_eq_some_iff.1 h;simp only[okJ,aXQ] at hok;obtain⟨⟨hnd,hobj⟩,hav⟩:=hok;have hJ:=fun j hj=>aY2.1 hobj j hj
 simp only[aXQ,decide_eq_true_eq,aD,aXC,bI,sZ] at hJ;obtain⟨g1,g2⟩:=hcall _ _ _ _ _ h1 (J.map fun j=>dC (lE J) (aI s.hp j)) (by
  rw[aX1];exact aXZ (fun j _=>by simp only[Function.comp_apply,nP,aD,bI]))
 refine⟨J,_,av,o',g1,g2,(A6 _ hnd).imp (fun h e=>by simp[e] at h),by simp,fun t j o ht ho=>?_,?_,fun a o hao=>?_⟩
 rw[aXI,ht] at ho;simp at ho;subst ho;have hm:=hJ j (aX0 ht);rw[rtO _ hm.2,aI,aXN,aXJ hm.1];rfl
 ·rw[aX1]
  conv=>lhs;rw[<- List.map_id avs]
  exact aXZ (fun v hv=>(rtV v (aY2.1 hav v hv)).symm)
 obtain⟨rfl,rfl⟩:=hao;rw[Tm];exact h2;cases h
theorem Hb{gd:Option (Nat×Bool)}{b:Bool}(h:Pm G (aD s) gd=some b):(b=true->iY G s gd)/\(b=false->Es G s gd):=by
 cases gd with
 |none=>simp[Pm] at h;subst h;exact⟨fun _=>trivial,fun h=>by cases h⟩
 |some q=>
  obtain⟨g,c⟩:=q;simp only[Pm,aD] at h;split at h;rename_i hv;injection h with h;subst h;exact⟨fun h=>by (cases h),fun _=>.inr hv⟩
  obtain⟨d,h1,h2⟩:=Option.map_eq_some_iff.1 h;refine⟨fun hb=>?_,fun hb=>.inl ?_⟩
  subst hb;simp at h2;subst h2;exact h1;subst hb;simp at h2;rw[h1];cases c<;>cases d<;>simp_all
theorem WR.cons{o:aN}{rest:List aN}(h:WR P G k [o] (fun s=>WR P G k rest Q s) s):WR P G k (o::rest) Q s:=by
 intro opsA l hc F γ a w hi hs hg hk QE hq;obtain⟨oper,l',rfl,h1,h2,h3,h4⟩:=mV hc;have hc1:bE P opsA [oper]=some [o]:=by
  simp[bE,cC,h1,h2,h3]
 have:=h opsA [oper] hc1 F γ a w hi hs hg hk (fun e a w=>match e with | .normal=>wpList P opsA QE l' a w | e=>QE e a w)
  (fun a' w' F' γ' s' hR hE hI hS hk'=>hR opsA l' h4 F' γ' a' w' hI hS (hg.sub hE.sub) hk' QE (fun a'' w'' F'' γ'' s'' q1 q2 q3 q4 q5=>hq a'' w'' F'' γ'' s'' q1 (hE.trans q2) q3 q4 q5))
 simp only[wpList] at this ⊢;split;rename_i hw;rw[if_pos hw] at this;rcases this with h1|⟨h1,a',w',h2⟩
 exact .inl (wpQ (fun e a w hne h=>by cases e<;>first|exact absurd rfl hne|exact h) h1)
 exact .inr ⟨h1,a',w',h2⟩;rename_i hw;rw[if_neg hw] at this;exact this
theorem Wo{call:aO}(hcall:cE P G call){o:aN}{st':AS}(hg:iY G s o.guard)(h:aHz call G o (aD s)=some st')(hK:∀s',aD s'=st'->K s'):WR P G k [o] K s:=by
 refine WR.guard hg rfl ?_;unfold aHz at h;split at h;rename_i f args hai;rw[hai];obtain⟨s1,hgh,hn⟩:=fA (k:=k) (args.flatMap fun x=>Af (aK G (aD s).sl x)) s
 simp only at h;rw[<- hn] at h;obtain⟨J,objs,av,o',g1,g2,g3,g4,g5,g6,g7⟩:=pX hcall h;refine WR.ghost hgh (WR.call (o:=⟨o.dst,.call f args,none⟩) trivial rfl g2 g3 g4 g5 g6 (fun a o hao=>WR.nil (hK _ (g7 a o hao))))
 rename_i x args hai;rw[hai];obtain⟨s1,hgh,hn⟩:=fA (k:=k) (args.flatMap fun x=>Af (aK G (aD s).sl x)) s
 simp only at h;rw[<- hn] at h;split at h;rename_i f caps hx;obtain⟨J,objs,av,o',g1,g2,g3,g4,g5,g6,g7⟩:=pX hcall h;exact WR.ghost hgh (WR.callv (o:=⟨o.dst,.callv x args,none⟩) trivial rfl hx g1 g2 g3 g4 g5 g6 (fun a o hao=>WR.nil (hK _ (g7 a o hao))))
 cases h;rename_i size len zero ps hai;obtain⟨s1,hgh,hn⟩:=fA (k:=k) (ps.flatMap fun p=>Af (aK G (aD s).sl p.2)) s
 rw[<- hn] at h;exact WR.ghost hgh (sS.run (o:=⟨o.dst,o.ai,none⟩) trivial (Ml h hK));exact sS.run (o:=⟨o.dst,o.ai,none⟩) trivial (Ml h hK)
theorem Ba{call:aO}(hcall:cE P G call):∀(ops:List aN) (s:AS) (st':AS),G6 call G ops (aD s)=some st'->WR P G k ops (fun s'=>aD s'=st') s
 |[],s,st',h=>by simp[G6] at h;exact WR.nil h
 | o::l,s,st',h=>by
  simp only[G6] at h;obtain⟨b,hb,h⟩:=aYu.1 h;have hw:=Hb hb;split at h
  ·rename_i hbt;split at h
   ·obtain⟨v,hv,h⟩:=aYu.1 h;rw[Pn] at h;rw[aC6,pV] at hv;exact WR.pur (hw.1 hbt) hv (Ba hcall l ⟨aQ s.sl o.dst v,s.hp⟩ st' h)
   ·obtain⟨s1,h1,h⟩:=aYu.1 h;rw[aLG] at h;exact WR.cons (Wo hcall (hw.1 hbt) h1 (fun s' hs'=>Ba hcall l s' st' (by rw[hs'];exact h)))
  ·rename_i hbf;rw[Pn] at h;exact WR.skip (hw.2 (by simpa using hbf)) (Ba hcall l ⟨aQ s.sl o.dst (.tup []),s.hp⟩ st' h)
mutual
theorem rnC{ρ:Nat->Nat}:(c:aT)->c.keep (fun _=>true)=true->jN ρ c=c
 |.ptr id o,h=>by simp[aT.keep] at h
 |.bld id o,h=>by simp[aT.keep] at h
 |.ept id i z o,h=>by simp[aT.keep] at h
 |.bls id i z o,h=>by simp[aT.keep] at h
 |.fn f caps,h=>by simp only[jN,rnL caps (by simpa[aT.keep] using h)]
 |.dc d,h=>rfl
 |.ref cs,h=>rfl
 |.mpc es,h=>rfl
 |.junk,h=>rfl
theorem rnL{ρ:Nat->Nat}:(cs:List aT)->keepL (fun _=>true) cs=true->renL ρ cs=cs
 |[],h=>rfl
 | c::cs,h=>by
  simp only[keepL,aXQ] at h;simp only[renL,rnC c h.1,rnL cs h.2]
end
theorem rnT{ρ:Nat->Nat}(t:TV)(h:Ea (fun _=>true) t=true):Gw ρ t=t:=by
 cases t with
 |one c=>simp only[Gw,rnC c h]
 |agg cs=>simp only[Gw,<- nZ,rnL cs h]
theorem rnV{ρ:Nat->Nat}(v:AV)(h:cV (fun _=>true) v=true):cY ρ v=v:=by
 cases v with
 |one c=>simp only[cY,rnC c h]
 |agg cs=>simp only[cY,<- nZ,rnL cs h]
 |tup l=>
  simp only[cY];congr 1
  conv=>rhs;rw[<- List.map_id l]
  exact aXZ (fun t ht=>rnT t (aY2.1 h t ht))
 |junk=>rfl
theorem uF{p:Nat->Bool}:∀(cs:List aT),keepL p cs=true->cs.map (cG p)=cs
 |[],_=>rfl
 | c::cs,h=>by
  simp only[keepL,aXQ] at h;rw[aXL,uF cs h.2];simp[cG,h.1]
theorem Hc{p:Nat->Bool}{v:AV}(h:cV p v=true):bD p v=v:=by
 cases v with
 |one c=>simp only[cV] at h;simp[bD,cG,h]
 |agg cs=>simp only[bD,uF cs h]
 |tup l=>
  simp only[bD];congr 1
  conv=>rhs;rw[<- List.map_id l]
  exact aXZ (fun t ht=>by
   have:=aY2.1 h t ht;cases t with
   | one c=>simp only[Ea] at this;simp[sG,cG,this]
   | agg cs=>simp only[sG,uF cs this,id_eq])
 |junk=>rfl
theorem Hd{p:Nat->Bool}{o:aC}(h:nX p o=true):cJ p o=o:=by
 cases o with
 |box cs=>simp only[cJ,uF cs h]
 |_=>rfl
theorem AC.gh{f:FuncId}{args:List AV}{objs:List aC}{R R':AV->List aC->Prop}(h:AC P G f args objs R)
  (hq:∀av o,R av o->objs.length<=o.length->∃av' o',Gh objs.length ⟨[av],o⟩ ⟨[av'],o'⟩/\objs.length<=o'.length/\R' av' o'):AC P G f args objs R':=by
 intro F γ vs w hi hg hv;refine (h F γ vs w hi hg hv).mono ?_;rintro e w' ⟨r,av,o,F',γ',rfl,hQ,hl,hE,hI,hR⟩;obtain⟨av',o',hgh,hl',hq'⟩:=hq av o hQ hl;obtain⟨F'',γ'',hE2,hI2,hS2,hk2⟩:=hgh F' γ' { tmps:=#[r],defers:=[] } w' hI ⟨rfl,rfl,fun i a v h1 h2=>by
  cases i with
  | zero=>simp at h1 h2;subst h1;subst h2;exact hR
  | succ i=>simp at h1⟩ (by rw[hI.len];exact hl)
 exact⟨r,av',o',F'',γ'',rfl,hq',hl',hE.trans hE2,hI2,hS2.2.2 0 av' r rfl rfl⟩
theorem lR:∀(ids:List Nat) (st:AS),(bU ids st).sl.length=st.sl.length
 |[],st=>rfl
 | id::r,st=>by
  simp only[bU];split
  ·rw[lR r];simp
  ·exact lR r st
theorem aC7{call:aO}(hcall:cE P G call){o:aN}{v:AV}(h:evQ call G o (aD s)=some v):
  ∃f args cargs r,o.ai=.call f args/\QC P G f cargs r/\∀n,args.map (aK G s.sl)=cargs.map (cY (cF [] n))/\v=cY (cF [] n) r:=by
 unfold evQ at h;split at h;rename_i f args hai;split at h;rename_i hka;obtain⟨⟨av,o'⟩,h1,h⟩:=aYu.1 h;simp only at h;split at h;rename_i hkv;injection h with h
 obtain⟨_,g2⟩:=hcall _ _ _ _ _ h1 [] rfl;refine⟨f,args,args.map (aK G s.sl),v,hai,g2.gh (fun a o ⟨h3,h4⟩ _=>?_),fun n=>⟨?_,?_⟩⟩
 subst h3;obtain⟨s1,hgh,hn⟩:=fA (k:=0) (jE a) ⟨[a],o⟩;have hn':aD s1=bU (jE a) ⟨[a],o'⟩:=by rw[hn];simp only[aD,h4]
 have hlen:s1.sl.length=1:=by
  have:=congrArg (fun q=>q.sl.length) hn'
  simp only[aD,lR] at this;simpa using this
 obtain⟨y,hy⟩:=List.length_eq_one_iff.1 hlen;have hgd:=Gh.drop (k:=0) (as:=s1) 0 (aXF _);refine⟨v,[], ?_,aXX _,rfl,rfl⟩;have hv:v=bD (fun id=>decide (0<=id)) y:=by
  rw[<- h,<- hn'];simp[aD,hy]
 have:=hgh.trans hgd;rw[hy] at this;simpa[hv] using this
 ·conv=>lhs;rw[<- List.map_id (args.map (aK G s.sl))]
  exact aXZ (fun x hx=>(rnV x (aY2.1 hka x hx)).symm)
 exact (rnV v (by rw[<- h];exact hkv)).symm;cases h;cases h;cases h
theorem He{call:aO}(hcall:cE P G call):∀(ops:List (Bool×aN)) (s:AS) (st':AS),evD call G ops (aD s)=some st'->jM P G k (fun s'=>aD s'=st') ops s
 |[],s,st',h=>by simp[evD] at h;exact h
 | (true,o)::l,s,st',h=>by
  simp only[evD] at h;obtain⟨c,hc,h⟩:=aYu.1 h;have hw:=Hb hc;cases c with
  | true=>
   simp only[if_true] at h;obtain⟨v,hv,h⟩:=aYu.1 h;rw[Pn] at h;refine⟨v,.inr ⟨hw.1 rfl, ?_⟩,He hcall l ⟨aQ s.sl o.dst v,s.hp⟩ st' h⟩;split at hv
   ·have e:(⟨(aD s).sl,Md o.ai (aD s).hp⟩:AS)=aD ⟨s.sl,Md o.ai s.hp⟩:=by cases o.ai<;>rfl
    rw[aC6,e,pV] at hv;exact .inl hv
   ·exact .inr (aC7 hcall hv)
  | false=>
   simp only[aYP,if_false,Pn] at h;exact WD.skip (hw.2 rfl) (He hcall l ⟨aQ s.sl o.dst (.tup []),s.hp⟩ st' h)
 | (false,o)::l,s,st',h=>by
  simp only[evD] at h;obtain⟨c,hc,h⟩:=aYu.1 h;have hw:=Hb hc;cases c with
  | true=>
   simp only[if_true,aYP,if_false] at h;obtain⟨s1,h1,h⟩:=aYu.1 h;rw[aLG] at h;have hK:∀ s',aD s'=s1->jM P G k (fun s'=>aD s'=st') l s':=fun s' hs'=>He hcall l s' st' (by rw[hs'];exact h)
   split at h1
   ·rename_i f args hai;obtain⟨v,hv,h2⟩:=Option.map_eq_some_iff.1 h1;obtain⟨f',args',cargs,r,g1,g2,g3⟩:=aC7 hcall hv;refine .inr ⟨hw.1 rfl, ?_⟩;rw[g1];refine⟨_,A4.of g2 (g3 _).1,⟨_,_,r,[],⟨rfl,rfl⟩,rfl,rfl⟩, ?_⟩;rintro av os ⟨av0,os0,⟨rfl,rfl⟩,rfl,rfl⟩;rw[<- (g3 s.hp.length).2];refine hK _ ?_;rw[<- h2];simp[aD]
   ·rename_i x args hai;exact WD.any (hw.1 rfl) (by rw[hai];trivial) (Wo hcall (o:=⟨o.dst,o.ai,none⟩) trivial h1 hK)
   ·exact .inr ⟨hw.1 rfl,Ml h1 hK⟩
  | false=>
   simp only[aYP,if_false,Pn] at h;exact WD.skip (hw.2 rfl) (He hcall l ⟨aQ s.sl o.dst (.tup []),s.hp⟩ st' h)
theorem jM.mono{R R':AS->Prop}(hr:∀s,R s->R' s):∀(ops:List (Bool×aN)) (s:AS),jM P G k R ops s->jM P G k R' ops s
 |[],s,h=>hr s h
 |(true,o)::l,s,h=>by obtain⟨v,hv,h⟩:=h;exact⟨v,hv,jM.mono hr l _ h⟩
 |(false,o)::l,s,h=>Eff.mono (fun s' h'=>jM.mono hr l s' h') h
theorem C5{rs:List kQ}:rW (aD s) rs=rW s rs:=by
 have h1:∀r,fW (aD s) r=fW s r:=by
  intro r;cases r<;>simp only[fW,aD,G7]
 have h2:fW (aD s)=fW s:=funext h1;unfold rW;split<;>simp only[h2]
def TOK(P:Program)(T:Tbl):Prop:=∀f c rs nt,T f=some (c,rs,nt)->Wf P f=true/\∃fn,P.funcs[f]?=some fn/\fn.ntmps=nt/\fn.body.bind (bR P)=some c/\fn.results.toList.mapM (iZ P)=some rs
theorem Ps{T:Tbl}{run:dP->AS->Option (Exit×AS)}(hT:TOK P T)(hrun:∀c s e st',run c (aD s)=some (e,st')->∀k,AW P G k c (fun e' s'=>e'=e/\aD s'=st') s):cE P G (Kw T run):=by
 intro f args hp av o' h hp0 hhp;subst hhp;unfold Kw at h;split at h;rename_i c rs nt hTf;obtain⟨ho,fn,g1,g2,g3,g4⟩:=hT f c rs nt hTf;refine⟨ho,?_⟩;obtain⟨⟨e,s1⟩,h1,h⟩:=aYu.1 h;simp only at h;split at h
 rename_i hend;simp only[aXQ,decide_eq_true_eq,aXC] at hend;obtain⟨v,h2,h⟩:=Option.map_eq_some_iff.1 h;have hA:AC P G f args hp0 (fun a o=>a=v/\o.map aP=s1.hp):=by
  refine AC.of_code g1 g2 g3 g4 ((hrun c ⟨args++List.replicate (nt - args.length) .junk,hp0⟩ e s1 (by simpa[aD] using h1) hp0.length).mono ?_);rintro e' s' ⟨rfl,rfl⟩;refine⟨?_,by simpa[aD] using hend.2,v,by rw[<- C5];exact h2,rfl,rfl⟩;cases e'<;>simp[Kv] at hend ⊢
 split at h;rename_i hkeep;injection h with h3 h4
 subst h3;simp only[aXQ,aXC] at hkeep;refine hA.gh (fun a o ⟨q1,q2⟩ hl=>?_)
 subst q1;refine⟨a,o.take hp0.length,?_,by simp only[aXK];omega,rfl,?_⟩
 have:=Gh.drop (k:=hp0.length) (as:=⟨[a],o⟩) hp0.length (aXF _);have e1:(o.take hp0.length).map (cJ fun id=>decide (hp0.length<=id))=o.take hp0.length:=by
  conv=>rhs;rw[<- List.map_id (o.take hp0.length)]
  refine aXZ (fun x hx=>Hd ?_)
  have:=aY2.1 hkeep.2 (aP x) (by rw[<- q2,<- aYr];exact List.mem_map.2 ⟨x,hx,rfl⟩);rwa[sZ] at this
 simpa[Hc hkeep.1,e1] using this;rw[<- h4,aYr,q2,aXC];injection h with h3 h4
 subst h3;subst h4;exact hA;cases h;cases h
theorem aMQ{T:Tbl}(hT:TOK P T):∀(n:Nat) (c:dP) (s:AS) (e:Exit) (st':AS),C4 G T n c (aD s)=some (e,st')->∀k,AW P G k c (fun e' s'=>e'=e/\aD s'=st') s:=by
 intro n
 induction n using Nat.strongRecOn with
 |ind n0 ihs=>
  intro c s e st' h k;cases n0 with
  |zero=>simp[C4] at h
  |succ n=>
  have ih:=ihs n (Nat.lt_succ_self n);have hcall:cE P G (Kw T (C4 G T n)):=Ps hT ih;cases c with
  |bad=>simp only[C4] at h;cases h
  |drawnF prs ops=>simp only[C4] at h;cases h
  |drawnT t ops=>simp only[C4] at h;cases h
  |skip=>simp only[C4,Option.some.injEq,Prod.mk.injEq] at h;obtain⟨rfl,rfl⟩:=h;exact AW.skip ⟨rfl,rfl⟩
  |ret=>simp only[C4,Option.some.injEq,Prod.mk.injEq] at h;obtain⟨rfl,rfl⟩:=h;exact AW.ret ⟨rfl,rfl⟩
  |exit id=>simp only[C4,Option.some.injEq,Prod.mk.injEq] at h;obtain⟨rfl,rfl⟩:=h;exact AW.exit ⟨rfl,rfl⟩
  |region ops=>
   simp only[C4] at h;obtain⟨s1,h1,h2⟩:=Option.map_eq_some_iff.1 h;injection h2 with h2 h3
   subst h2;subst h3;exact AW.region ((Ba hcall ops s s1 h1).mono (fun s' h=>⟨rfl,h⟩))
  |drawn ops=>
   simp only[C4] at h;obtain⟨s1,h1,h2⟩:=Option.map_eq_some_iff.1 h;injection h2 with h2 h3
   subst h2;subst h3;exact AW.drawn (jM.mono (fun s' h=>⟨rfl,h⟩) _ _ (He hcall ops s s1 h1))
  |seq a b=>
   simp only[C4] at h;obtain⟨⟨e1,s1⟩,h1,h2⟩:=aYu.1 h;refine AW.seq ((ih a s e1 s1 h1 k).mono ?_);rintro e' s' ⟨rfl,rfl⟩;cases e' with
   |normal=>exact ih b s' e st' h2 k
   |_=>simp only[Option.some.injEq,Prod.mk.injEq] at h2;obtain⟨rfl,rfl⟩:=h2;exact⟨rfl,rfl⟩
  |cond c a b=>
   simp only[C4] at h;obtain⟨t,h1,h2⟩:=aYu.1 h;refine AW.cond h1 (fun ht=>?_) (fun ht=>?_)
   subst ht;exact ih a s e st' h2 k;subst ht;exact ih b s e st' h2 k
  |block id a=>
   simp only[C4] at h;obtain⟨⟨e1,s1⟩,h1,h2⟩:=Option.map_eq_some_iff.1 h;refine AW.block ((ih a s e1 s1 h1 k).mono ?_);rintro e' s' ⟨rfl,rfl⟩;cases e' with
   |exit id'=>
    simp only at h2 ⊢;split at h2;rename_i heq;injection h2 with h2 h3
    subst h2;subst h3;rw[if_pos heq];exact⟨rfl,rfl⟩;rename_i heq;injection h2 with h2 h3
    subst h2;subst h3;rw[if_neg heq];exact⟨rfl,rfl⟩
   |_=>simp only[Prod.mk.injEq] at h2;obtain⟨rfl,rfl⟩:=h2;exact⟨rfl,rfl⟩
  |loop a=>
   refine AW.loop (α:=Nat) (fun m s'=>m<=n+1/\C4 G T m (.loop a) (aD s')=some (e,st')) id (n+1) ⟨aXF _,h⟩ (fun m s' hm=>?_)
   obtain⟨hm,hI⟩:=hm;cases m with
   |zero=>simp[C4] at hI
   |succ m=>
    simp only[C4] at hI;obtain⟨⟨e1,s1⟩,h1,h2⟩:=aYu.1 hI;refine (ihs m (by omega) a s' e1 s1 h1 k).mono ?_;rintro e' s'' ⟨rfl,rfl⟩;cases e' with
    |normal=>exact⟨m,⟨by omega,h2⟩,by simp⟩
    |_=>simp only[Option.some.injEq,Prod.mk.injEq] at h2;obtain⟨rfl,rfl⟩:=h2;exact⟨rfl,rfl⟩
end
end
section
def uG(call:aO)(f:FuncId)(args:List AV):Option AV:=
 (call f args []).bind fun r=>
  let v:=bD (fun id=>decide (0<=id)) ((bU (jE r.1) ⟨[r.1],r.2⟩).sl.getD 0 .junk)
  if cV (fun _=>true) v then some v else none
section
variable {P:Program}{G:aE}{k:Nat}
theorem QC.quiet{call:aO}(hcall:cE P G call){f:FuncId}{args:List AV}{v:AV}(h:uG call f args=some v):QC P G f args v:=by
 unfold uG at h;obtain⟨⟨av,o'⟩,h1,h⟩:=aYu.1 h;simp only at h;split at h;rename_i hkv;injection h with h
 obtain⟨_,g2⟩:=hcall _ _ _ _ _ h1 [] rfl;refine g2.gh (fun a o ⟨h3,h4⟩ _=>?_)
 subst h3;obtain⟨s1,hgh,hn⟩:=fA (k:=0) (jE a) ⟨[a],o⟩;have hn':aD s1=bU (jE a) ⟨[a],o'⟩:=by rw[hn];simp only[aD,h4]
 have hlen:s1.sl.length=1:=by
  have:=congrArg (fun q=>q.sl.length) hn'
  simp only[aD,lR] at this;simpa using this
 obtain⟨y,hy⟩:=List.length_eq_one_iff.1 hlen;have hgd:=Gh.drop (k:=0) (as:=s1) 0 (aXF _);refine⟨v,[], ?_,aXX _,rfl,rfl⟩;have hv:v=bD (fun id=>decide (0<=id)) y:=by
  rw[<- h,<- hn'];simp[aD,hy]
 have:=hgh.trans hgd;rw[hy] at this;simpa[hv] using this;cases h
theorem QC.run{T:Tbl}(hT:TOK P T)(n:Nat){f:FuncId}{args:List AV}{v:AV}(h:uG (Kw T (C4 G T n)) f args=some v):QC P G f args v:=
 QC.quiet (Ps hT (aMQ hT n)) h
end
end
section
open Go.ChangeShapes Go.WideShapes Go.ChangeAt Go.RowKit
section
variable {H:Type}{enc:TypeId×Value->H}{P:Program}{G:aE}
def iB(W:World):Fz:=fun b=>W.heap[b]?
theorem Fn(W:World):dE (iB W) [] [] W:=⟨fun _ _ h=>h,rfl,fun i _ _ h=>by simp[bZ] at h,fun i _ h=>by simp[bZ] at h,fun i _ _ h=>by simp at h⟩
theorem uH{W W':World}{k:Nat}{F':Fz}{γ':List OI}(h:gU k (iB W) [] W F' γ' W'):Below W.heap.size W W':=
 ⟨h.os,h.tape,h.output,h.size,fun b hb=>h.far b hb (fun i h=>by simp[bZ] at h)⟩
theorem aAo{f:FuncId}{avs:List AV}{args:Array Value}{W:World}(hq:QC P G f avs (vb true))(hg:eU (iB W) G)(ha:lP (iB W) [] avs args):
  Calls P f args W fun e W'=>e=.returned (.bool true)/\Below W.heap.size W W':=by
 refine (hq (iB W) [] args W (Fn W) hg ha).mono ?_;rintro e W' ⟨r,av,o,F',γ',rfl,⟨rfl,rfl⟩,_,hE,hI,hR⟩;exact⟨by rw[cO hR],uH hE⟩
theorem zS(hl:laidOutB P=true){W W':World}{sp':Nat->Bool}:∀{ts:List TypeId}{vs:List Value}{ds:List (DataW H)}{ps:List MemPlace},(∀t∈ts,P.readableRec t=true/\t<P.types.size)->
  DataW.TrodAll enc P W 0 (fun _=>true) true ts vs ds ps->(∀x∈ps,W.sameAt W' x)->(∀x∈ps,sp' x.block=true)->DataW.TrodAll enc P W' 0 sp' true ts vs ds ps
 | [],vs,ds,ps,_,h,_,_=>by
  obtain⟨rfl,rfl,rfl⟩:=trodAll_nil h;exact h
 | t::ts,vs,ds,ps,ht,h,hs,hp=>by
  obtain⟨v,vs',d,ds',p,q,rfl,rfl,rfl,h1,h2⟩:=trodAll_cons h;exact⟨p,q,WideElems.Trod_stays hl (ht t aXV).1 (ht t aXV).2 h1 (fun x hx=>hs x (List.mem_append_left _ hx)) (fun x hx=>hp x (List.mem_append_left _ hx)),
   zS hl (fun t h=>ht t (aX3 _ h)) h2 (fun x hx=>hs x (List.mem_append_right _ hx)) (fun x hx=>hp x (List.mem_append_right _ hx)),rfl⟩
theorem aAp{f:Func}{s:ChangeSpec}{apart fresh handsOn again:Bool}{W W':World}{args:Array Value}{ds gs:List (DataW H)}{before:List MemPlace}{tb:TypeId}
  (hl:laidOutB P=true) (hts:∀t∈f.params.toList,P.readableRec t=true/\t<P.types.size) (hvs:s.vars=[]) (hrt:f.resultTypes=#[tb]) (htb:P.underlying tb=some .bool)
  (hW:DataW.Whole enc P f.params.toList s.vars apart W args.toList ds gs before) (hs:s.fn H (ds++gs)={ results:=[.lit (.bool true)],args:=ds }) (hb:Below W.heap.size W W'):s.post enc P f apart fresh handsOn again W args (.bool true) W':=by
 have hlt:=fun p hp=>hW.lt (p:=p) hp
 have hW':=hW;obtain⟨p,q,hA,hV,hps,hz,hn⟩:=hW;rw[hvs] at hV;obtain⟨rfl,rfl⟩:=trodVars_none hV;have hpb:before=p:=by simpa using hps
 subst hpb;have hsame:∀x∈before,W.sameAt W' x:=fun x hx=>hb.same (hlt x hx)
 have hargs:∀ sp:Nat->Bool,(∀ p∈before,sp p.block=true)->DataW.TrodAll enc P W' 0 sp true f.params.toList args.toList (s.fn H (ds++[])).args before:=fun sp hsp=>by
  rw[hs];exact zS hl hts hA hsame hsp
 have hres:∀ (b:Nat) (sp:Nat->Bool) (hd:Bool),DataW.TrodAll enc P W' b sp hd f.resultTypes.toList ((Value.bool true).resultList f.resultTypes.size) (s.fn H (ds++[])).results []:=fun b sp hd=>by
  rw[hs,hrt];exact trodAll_mk1 (shut_bool htb true)
 have hold:∀p∈before,(fun b=>decide (b<W.heap.size)) p.block=true:=fun p hp=>by simpa using hlt p hp
 have hvars:∀ sp:Nat->Bool,DataW.TrodVars enc P W' sp s.vars (s.fn H (ds++[])).vars []:=fun sp=>by
  rw[hs,hvs];first | rfl | trivial | exact⟨rfl,rfl⟩
 refine⟨ds,[],before,[],before,[],hW',hres _ _ _,hargs _ hold,hvars _,hb.frame _,fun _=>?_⟩
 refine⟨?_,_,_,([]++before)++[],⟨[]++before,[],trodAll_append (hargs _ (fun _ _=>rfl)) (hres _ _ _),hvars _,rfl,?_,?_⟩,?_⟩
 exact ok_one hrt rfl (by simp[Value.okWide,htb,Cell.okWide,Cell.ok]);intro b off hp;have h1:=hz b off (by simpa using hp);have h2:=hsame (.cell b off) (by simpa using hp);have h3:=hb.block b (hlt (.cell b off) (by simpa using hp));simp only[World.frozen?] at h1 ⊢;rw[h3];exact h1;intro ha;simpa using hn ha;intro p hp _;simpa using hp
end
end
section
variable {G:aE}
theorem Mm:∀(ids:List Nat) (s t:AS),s.sl=t.sl->s.hp=t.hp.map aP->(bU ids s).sl=(bU ids t).sl
 |[],s,t,h,_=>h
 | id::r,s,t,h,hh=>by
  simp only[bU,hh,bI];cases aI t.hp id with
  | arr c z es=>
   simp only[aP];refine Mm r _ _ (by simp only[h]) ?_;simp only[aYa,aX1,aP];congr 1;exact aXZ (fun o _=>by simp only[Function.comp_apply,nY,Ha])
  | box cs=>exact Mm r _ _ h hh
  | dead=>exact Mm r _ _ h hh
theorem QC.frz{P:Program}{f:FuncId}{args:List AV}{v:AV}{R:AV->List aC->Prop}(h:AC P G f args [] R)
  (hR:∀av o,R av o->bD (fun id=>decide (0<=id)) ((bU (jE av) ⟨[av],o⟩).sl.getD 0 .junk)=v):QC P G f args v:=by
 refine h.gh (fun a o ho _=>?_)
 obtain⟨s1,hgh,hn⟩:=fA (k:=0) (jE a) ⟨[a],o⟩;have hnn:(bU (jE a) (aD ⟨[a],o⟩)).sl=(bU (jE a) ⟨[a],o⟩).sl:=Mm (jE a) _ _ rfl rfl;have hsl:s1.sl=(bU (jE a) ⟨[a],o⟩).sl:=by rw[<- hnn,<- hn];rfl
 have hlen:s1.sl.length=1:=by rw[hsl,lR];rfl
 obtain⟨y,hy⟩:=List.length_eq_one_iff.1 hlen;have hgd:=Gh.drop (k:=0) (as:=s1) 0 (aXF _);refine⟨v,[],?_,aXX _,rfl,rfl⟩;have hv:v=bD (fun id=>decide (0<=id)) y:=by rw[<- hR a o ho,<- hsl,hy];rfl
 have:=hgh.trans hgd;rw[hy] at this;simpa[hv] using this
theorem QC.drop{P:Program}{f:FuncId}{args:List AV}{v:AV}(h:AC P G f args [] fun av _=>av=v)(hk:bD (fun id=>decide (0<=id)) v=v):QC P G f args v:=by
 refine h.gh (fun a o ho _=>?_)
 subst ho;refine⟨a,[],?_,aXX _,rfl,rfl⟩;have:=Gh.drop (k:=0) (as:=⟨[a],o⟩) 0 (aXF _);simp only[aXL,aXT,hk,aYQ] at this;exact this
theorem AC.drop{P:Program}{f:FuncId}{args:List AV}{objs:List aC}{Q:AV->List aC->Prop}
  (h:AC P G f args objs fun av o=>Q (bD (fun id=>decide (objs.length<=id)) av) ((o.take objs.length).map (cJ fun id=>decide (objs.length<=id)))):AC P G f args objs Q:=by
 refine h.gh (fun a o ho hl=>⟨_,_,(show Gh objs.length ⟨[a],o⟩ _ from Gh.drop objs.length (aXF _)),by simp only[aXC,aXK];omega,ho⟩)
end
section
section
variable {P:Program}{G:aE}{k:Nat}{st st':AS}{R:AS->Prop}
structure aAq (o:aC):Prop where
 ren:∀ρ,dC ρ o=o
 kill:∀p,cJ p o=o
theorem aAq.arr(cap size:Nat)(es:List (List DC)):aAq (.arr cap size es):=⟨fun _=>rfl,fun _=>rfl⟩
theorem aAq.dcs(ds:List DC):aAq (.box (mD ds)):=by
 constructor<;>intro p<;>simp only[dC,cJ,mD,aX1]<;>congr 1
theorem Tn{dst:Option Nat}{av:AV}{o:aC}{j:Nat}(h:hZ (aI st.hp j)=true):
  iA [j] st dst av [o]=⟨aQ st.sl dst (cY (cF [j] st.hp.length) av),st.hp.set j (dC (cF [j] st.hp.length) o)⟩:=by
 have hp:∀id,(([j]:List Nat).contains id&&!hZ (aI st.hp id))=false:=by
  intro id;by_cases h0:id=j;subst h0;simp[h];simp[h0]
 simp only[iA,pS hp,pT hp,kE,aXL,aXT,aY7,List.drop_nil,aYE,aXE,aXH]
theorem WR.callB{o:aN}{rest:List aN}{f:FuncId}{args:List aH}{cargs:List AV}{j:Nat}{o0 o1:aC}{r r':AV}(hgd:iY G st o.guard)(ha:o.ai=.call f args)
  (hac:AC P G f cargs [o0] fun av os=>av=r/\os=[o1]) (hf0:aAq o0) (hf1:aAq o1) (hj:aI st.hp j=o0) (hb:hZ o0=true)
  (hargs:args.map (aK G st.sl)=cargs.map (cY (cF [j] st.hp.length))) (hr:cY (cF [j] st.hp.length) r=r')
  (hs:(⟨aQ st.sl o.dst r',st.hp.set j o1⟩:AS)=st') (h:WR P G k rest R st'):WR P G k (o::rest) R st:=by
 have hnd:o0≠.dead:=by intro e;rw[e] at hb;cases hb
 refine WR.call (J:=[j]) hgd ha hac (by simp) rfl (fun t i x ht hx=>?_) hargs (fun av os hq=>?_)
 cases t with
 |zero=>simp at ht hx;subst ht;subst hx;rw[hf0.ren];exact eG hj hnd
 |succ t=>simp at ht
 obtain⟨rfl,rfl⟩:=hq;rw[Tn (by rw[hj];exact hb),hf1.ren,hr,hs];exact h
theorem Gh.nilB{id j:Nat}{cs:List aT}(size:Nat)(hb:aI st.hp id=.box cs)(hj:cs[j]?=some (dA (.slice none 0 0))):Gh k st ⟨st.sl,st.hp.set id (.box (cs.set j (.bld st.hp.length 0)))++[.arr 0 size []]⟩:=by
 intro F γ a w hi hs hk;have hho:=eG hb (by simp);have hlt:id<st.hp.length:=aG hho;obtain⟨hi2,he⟩:=dE.nilp (k:=k) size hi;have hext:∀(i:Nat) (o:OI),γ[i]?=some o->(γ++[OI.arr none 0])[i]?=some o:=fun _ _ h=>bQ h
 refine⟨F,γ++[OI.arr none 0],he,⟨hi2.fz,by simp[hi.len],hi2.nd,hi2.disj,fun i o x h1 h2=>?_⟩,hs.ext (fun _ _ h=>h) hext,by simp;omega⟩
 by_cases hii:id=i;subst hii;rw[aXU (by simpa using hlt),aX7 hlt] at h1;injection h1 with h1;subst h1
 have hok:=hi2.ok id _ x (by rw[aXU hlt];exact hho) h2;cases x with
 |box b=>
  obtain⟨vs,T,hh,hsz,hr⟩:=hok;refine⟨vs,T,hh,by simpa using hsz,fun m c v hc hv=>?_⟩
  by_cases hm:j=m
  ·subst hm;rw[aX7 (aG hj)] at hc;injection hc with hc;subst hc
   have h3:=hr j _ v hj hv;cases h3 with|dc _ _ h3=>
   cases h3;exact .bldN _ 0 (by rw[<- hi.len];simp)
  rw[aXW hm] at hc;exact hr m c v hc hv
 |arr b c=>exact hok.elim
 |dead=>exact hok.elim
 refine hi2.ok i o x ?_ h2;by_cases hl:i<st.hp.length;rw[aXU (by simpa using hl),aXW hii] at h1;rw[aXU hl];exact h1;rw[aXY (by simpa using Nat.le_of_not_lt hl)] at h1;rw[aXY (Nat.le_of_not_lt hl)];simpa using h1
end
end
section
def stX(G:aE)(st:AS)(size:Nat)(x v:aH):Option AS:=
 match aK G st.sl x with
 |.one (.ptr id off)=>
  match cellsOf (aK G st.sl v) with
  |some vs=>
   match aI st.hp id with
   |.box cs=>if vs.length=size/\off+size<=cs.length then some ⟨st.sl,st.hp.set id (.box (cQ cs off vs))⟩ else none
   |_=>none
  |none=>none
 |.one (.ept id i s off)=>
  match (cellsOf (aK G st.sl v)).bind dcs with
  |some ds=>
   match aI st.hp id with
   |.arr cap s' es=>
    match es[i]? with
    |some e=>if s=s'/\ds.length=size/\off+size<=e.length then some ⟨st.sl,st.hp.set id (.arr cap s' (es.set i (e.take off++ds++e.drop (off+size))))⟩ else none
    |none=>none
   |_=>none
  |none=>none
 |_=>none
def zs(z:List Value):Nat->List aT
 |0=>[]
 |n+1=>zs z n++[dA (z.getD (n % z.length) undef)]
def fE(size:Nat):Nat->List DC->List (List DC)
 |0,_=>[]
 |n+1,ds=>ds.take size::fE size n (ds.drop size)
def bsX(G:aE)(st:AS)(dst:Option Nat)(size len:Nat)(z:List Value)(ps:List (Nat×aH)):Option AS:=
 match len with
 |0=>if ps.isEmpty then some ⟨aQ st.sl dst (.one (.bld st.hp.length 0)),st.hp++[.arr 0 size []]⟩ else none
 |len+1=>(gX (zs z ((len+1)*size)) (ps.map fun (j,x)=>(j*size,size,aK G st.sl x))).bind fun cs=>(dcs cs).bind fun ds=>
  if ds.length=(len+1)*size then some ⟨aQ st.sl dst (vl (fE size (len+1) ds)),st.hp⟩ else none
def exX(G:aE)(st:AS)(o:aN):Option AS:=
 match o.ai with
 |.alloc z=>some ⟨aQ st.sl o.dst (.one (.ptr st.hp.length 0)),st.hp++[.box (z.map dA)]⟩
 |.box x=>(cellsOf (aK G st.sl x)).map fun cs=>⟨aQ st.sl o.dst (.one (.ptr st.hp.length 0)),st.hp++[.box cs]⟩
 |.store size x v=>match o.dst with|none=>stX G st size x v|some _=>none
 |.bslc size len z ps=>bsX G st o.dst size len z ps
 |ai=>(cX G st ai).map fun v=>⟨aQ st.sl o.dst v,st.hp⟩
def fX(st:AS)(d:Option Nat):Option AV->Option AS
 |some v=>some ⟨aQ st.sl d v,st.hp⟩
 |none=>none
def aMR(st:AS)(d:Option Nat):Option (List aT)->Option AS
 |some cs=>some ⟨aQ st.sl d (.one (.ptr st.hp.length 0)),st.hp++[.box cs]⟩
 |none=>none
def stD(G:aE)(st:AS)(size:Nat)(x v:aH):Option Nat->Option AS
 |none=>stX G st size x v
 |some _=>none
def aMS(n size:Nat)(x:AV):Option Int->Option AV
 |some i=>aCk n size x i
 |none=>none
def aHB(hp:List aC)(size:Nat)(x:AV):Option Int->Option AV
 |some i=>At hp size x i
 |none=>none
def aHC(x:AV):Option Int->Option AV
 |some i=>Gm x i
 |none=>none
def aMT(n:Nat)(x:AV):Option Int->Option AV
 |some i=>S6 n x i
 |none=>none
def Wp(k:IntKind):Option Int->Option AV
 |some n=>some (dG (.int k (k.wrap n)))
 |none=>none
def Wq:Option ByteArray->Option AV
 |some s=>some (dG (.int .i64 s.size))
 |none=>none
def aHD:Option (List aT)->Option AV
 |some cs=>some (.agg cs)
 |none=>none
def evX(G:aE)(sl:List AV)(hp:List aC):AI->Option AV
 |.mov x=>some (aK G sl x)
 |.pick c a b=>Au (aK G sl c) (aK G sl a) (aK G sl b)
 |.load g s x=>lG hp g s (aK G sl x)
 |.bin op x y=>eP op (aK G sl x) (aK G sl y)
 |.un op x=>unV op (aK G sl x)
 |.conv k x=>Wp k (bH (aK G sl x))
 |.addo o x=>D0 o (aK G sl x)
 |.ixA n s x i=>aMS n s (aK G sl x) (bH (aK G sl i))
 |.ixL s x i=>aHB hp s (aK G sl x) (bH (aK G sl i))
 |.ixS x i=>aHC (aK G sl x) (bH (aK G sl i))
 |.ixV n x i=>aMT n (aK G sl x) (bH (aK G sl i))
 |.s2p n x=>Zv n (aK G sl x)
 |.build z ps=>aHD (gX (z.map dA) (ps.map fun (o,s,x)=>(o,s,aK G sl x)))
 |.ext x n=>S5 (aK G sl x) n
 |.lenS x=>Wq (dB (aK G sl x))
 |.lenL x=>rR (aK G sl x)
 |ai=>cX G ⟨sl,hp⟩ ai
def Fo(G:aE)(st:AS)(d:Option Nat):AI->Option AS
 |.alloc z=>some ⟨aQ st.sl d (.one (.ptr st.hp.length 0)),st.hp++[.box (z.map dA)]⟩
 |.box x=>aMR st d (cellsOf (aK G st.sl x))
 |.store size x v=>stD G st size x v d
 |.bslc size len z ps=>bsX G st d size len z ps
 |ai=>fX st d (evX G st.sl st.hp ai)
theorem aC8(G:aE)(sl:List AV)(hp:List aC)(ai:AI):evX G sl hp ai=cX G ⟨sl,hp⟩ ai:=by
 cases ai<;>first|rfl|skip
 case conv k x=>simp only[evX,cX];cases bH (aK G sl x)<;>rfl
 case ixA n s x i=>simp only[evX,cX];cases bH (aK G sl i)<;>rfl
 case ixL s x i=>simp only[evX,cX];cases bH (aK G sl i)<;>rfl
 case ixS x i=>simp only[evX,cX];cases bH (aK G sl i)<;>rfl
 case ixV n x i=>simp only[evX,cX];cases bH (aK G sl i)<;>rfl
 case build z ps=>simp only[evX,cX];cases gX (z.map dA) (ps.map fun (o,s,x)=>(o,s,aK G sl x))<;>rfl
 case lenS x=>simp only[evX,cX];cases dB (aK G sl x)<;>rfl
theorem Ag(G:aE)(st:AS)(o:aN):Fo G st o.dst o.ai=exX G st o:=by
 obtain⟨d,ai,g⟩:=o;have key:fX st d (evX G st.sl st.hp ai)=(cX G st ai).map fun v=>⟨aQ st.sl d v,st.hp⟩:=by
  rw[aC8];cases cX G st ai<;>rfl
 cases ai<;>first|rfl|exact key|skip
 case box x=>simp only[Fo,exX];cases cellsOf (aK G st.sl x)<;>rfl
def AI.isCall:AI->Bool
 |.call _ _=>true
 |.callv _ _=>true
 |.app _ _ _ _ _=>true
 |.apps _ _=>true
 |.mk _ _ _ _ _=>true
 |.clr _ _ _=>true
 |.cpys _ _=>true
 |.cvsb _=>true
 |_=>false
def aAs(G:aE):List aN->AS->Option (List aN×AS)
 |[],st=>some ([],st)
 |o::l,st=>if o.guard=none/\o.ai.isCall=false then (exX G st o).bind fun st'=>aAs G l st' else some (o::l,st)
def unG:Option (Nat×Bool)->AI->Bool
 |none,ai=>!ai.isCall
 |some _,_=>false
def aAt(G:aE):List aN->Option AS->Option (List aN×AS)
 |_,none=>none
 |[],some st=>some ([],st)
 |o::l,some st=>bif unG o.guard o.ai then aAt G l (Fo G st o.dst o.ai) else some (o::l,st)
theorem aAu(G:aE)(l:List aN):aAt G l none=none:=by cases l<;>rfl
theorem Wr(G:aE):∀(l:List aN) (st:AS),aAt G l (some st)=aAs G l st
 |[],st=>rfl
 | o::l,st=>by
  simp only[aAt,aAs,Ag];obtain⟨d,ai,g⟩:=o;cases g with
  | some g=>simp[unG]
  | none=>
   cases hc:ai.isCall with
   | true=>simp[unG,hc]
   | false=>
    simp only[unG,hc,aX5,cond_true,true_and,if_true];cases exX G st ⟨d,ai,none⟩ with
    | none=>simp[aAu]
    | some st'=>simp[Wr G l st']
def Ky(G:aE)(g:Nat)(b:Bool):List aN->AS->Option (List aN×AS)
 |[],st=>some ([],st)
 |o::l,st=>if o.guard=some (g,b)/\o.ai.isCall=false/\o.dst≠some g then (exX G st o).bind fun st'=>Ky G g b l st' else some (o::l,st)
theorem lY:∀{cs:List aT}{ds:List DC},dcs cs=some ds->cs=mD ds
 |[],ds,h=>by simp[dcs] at h;subst h;rfl
 | .dc d::cs,ds,h=>by
  simp only[dcs] at h;cases hc:dcs cs with
  | none=>simp[hc] at h
  | some ds'=>
   simp only[hc,aXG,Option.some.injEq] at h;subst h;rw[lY hc];rfl
 |.ptr _ _::cs,ds,h=>by simp[dcs] at h
 |.bld _ _::cs,ds,h=>by simp[dcs] at h
 |.ept _ _ _ _::cs,ds,h=>by simp[dcs] at h
 |.bls _ _ _ _::cs,ds,h=>by simp[dcs] at h
 |.ref _::cs,ds,h=>by simp[dcs] at h
 |.mpc _::cs,ds,h=>by simp[dcs] at h
 |.fn _ _::cs,ds,h=>by simp[dcs] at h
 |.junk::cs,ds,h=>by simp[dcs] at h
theorem Kz(z:List Value):∀n,zs z n=(List.range n).map fun i=>dA (z.getD (i % z.length) undef)
 |0=>rfl
 |n+1=>by rw[zs,Kz z n,List.range_succ,aYg];rfl
theorem kH(size:Nat):∀(n:Nat) (ds:List DC),ds.length=n*size->(fE size n ds).flatten=ds/\(∀e∈fE size n ds,e.length=size)/\(fE size n ds).length=n
 |0,ds,h=>by simp at h;subst h;simp[fE]
 | n+1,ds,h=>by
  have hh:ds.length=n * size+size:=by rw[h,aYf,Nat.one_mul]
  obtain⟨h1,h2,h3⟩:=kH size n (ds.drop size) (by simp;omega);refine⟨by simp[fE,h1],fun e he=>?_,by simp[fE,h3]⟩
  simp only[fE,aYR] at he;rcases he with rfl | he
  ·simp;omega
  ·exact h2 e he
section
variable {P:Program}{G:aE}{k:Nat}{st st':AS}{R:AS->Prop}
theorem WR.bsX{o:aN}{rest:List aN}{size len:Nat}{z:List Value}{ps:List (Nat×aH)}(hgd:iY G st o.guard)(ha:o.ai=.bslc size len z ps)
  (h:Go.Proofs.YthepfneloomngaaGreatDoor.bsX G st o.dst size len z ps=some st') (hw:WR P G k rest R st'):WR P G k (o::rest) R st:=by
 unfold Go.Proofs.YthepfneloomngaaGreatDoor.bsX at h;cases len with
 |zero=>
  simp only at h;split at h;rename_i he;injection h with h;subst h
  have hps:ps=[]:=by cases ps with|nil=>rfl|cons=>simp at he
  subst hps;exact WR.bslc (es:=[]) hgd ha (by simp[gX,mD]) (by simp) rfl hw;cases h
 |succ len=>
  simp only at h;cases hf:gX (zs z ((len+1)*size)) (ps.map fun (j,x)=>(j*size,size,aK G st.sl x)) with
  |none=>simp[hf] at h
  |some cs=>
   simp only[hf,aXP] at h;cases hd:dcs cs with
   |none=>simp[hd] at h
   |some ds=>
    simp only[hd,aXP] at h;split at h;rename_i hl;injection h with h;subst h
    obtain⟨h1,h2,h3⟩:=kH size (len+1) ds hl;rw[Kz] at hf;exact WR.bslcF (es:=fE size (len+1) ds) hgd ha (by rw[h1,<- lY hd];exact hf) h2 h3 hw;cases h
theorem WR.stX{o:aN}{rest:List aN}{size:Nat}{x v:aH}(hgd:iY G st o.guard)(ha:o.ai=.store size x v)(hd0:o.dst=none)
  (h:Go.Proofs.YthepfneloomngaaGreatDoor.stX G st size x v=some st') (hw:WR P G k rest R st'):WR P G k (o::rest) R st:=by
 unfold Go.Proofs.YthepfneloomngaaGreatDoor.stX at h;split at h;rename_i id off hx;split at h;rename_i vs hv;split at h;rename_i cs hb;split at h;rename_i hc;injection h with h;subst h
 exact WR.store hgd ha hd0 hx hv hb hc.1 hc.2 hw;cases h;cases h;cases h;rename_i id i s off hx;split at h;rename_i ds hv;split at h;rename_i cap s' es hb;split at h;rename_i e he;split at h;rename_i hc;injection h with h;subst h
 obtain⟨rfl,hc1,hc2⟩:=hc;obtain⟨cs,hcs,hdc⟩:=aYu.1 hv;exact WR.storeE hgd ha hd0 hx (by rw[hcs,lY hdc]) hb he hc1 hc2 rfl hw;cases h;cases h;cases h;cases h;cases h
theorem WR.exX{o:aN}{rest:List aN}(hgd:iY G st o.guard)(hc:o.ai.isCall=false)(h:Go.Proofs.YthepfneloomngaaGreatDoor.exX G st o=some st')(hw:WR P G k rest R st'):WR P G k (o::rest) R st:=by
 obtain⟨dst,ai,gd⟩:=o;cases ai<;>first|(simp[AI.isCall] at hc;done)|skip
 case alloc z=>simp only[Go.Proofs.YthepfneloomngaaGreatDoor.exX,Option.some.injEq] at h;subst h;exact WR.alloc hgd rfl hw
 case box x=>
  simp only[Go.Proofs.YthepfneloomngaaGreatDoor.exX] at h;obtain⟨cs,h1,rfl⟩:=Option.map_eq_some_iff.1 h;exact WR.box hgd rfl h1 hw
 case store size x v=>
  simp only[Go.Proofs.YthepfneloomngaaGreatDoor.exX] at h;cases dst with
  |none=>exact WR.stX hgd rfl rfl h hw
  |some d=>cases h
 case bslc size len z ps=>exact WR.bsX hgd rfl h hw
 all_goals
  simp only[Go.Proofs.YthepfneloomngaaGreatDoor.exX] at h;obtain⟨v,h1,rfl⟩:=Option.map_eq_some_iff.1 h;exact WR.pur hgd h1 hw
theorem aHE{o:aN}{g:Nat}(hc:o.ai.isCall=false)(hd:o.dst≠some g)(h:exX G st o=some st'):aK G st'.sl (.t g)=aK G st.sl (.t g):=by
 obtain⟨dst,ai,gd⟩:=o;cases ai<;>first|(simp[AI.isCall] at hc;done)|skip
 case alloc z=>simp only[exX,Option.some.injEq] at h;subst h;exact mW hd
 case box x=>
  simp only[exX] at h;obtain⟨cs,h1,rfl⟩:=Option.map_eq_some_iff.1 h;exact mW hd
 case store size x v=>
  simp only[exX] at h;cases dst with
  |some d=>cases h
  |none=>
   simp only[stX] at h
   repeat' (split at h)
   all_goals first|(cases h;done)|(injection h with h;subst h;rfl)
 case bslc size len z ps=>
  simp only[exX,bsX] at h;split at h;split at h;injection h with h;subst h;exact mW hd
  cases h;obtain⟨cs,_,h⟩:=aYu.1 h;obtain⟨ds,_,h⟩:=aYu.1 h;split at h;injection h with h;subst h;exact mW hd
  cases h
 all_goals
  simp only[exX] at h;obtain⟨v,h1,rfl⟩:=Option.map_eq_some_iff.1 h;exact mW hd
theorem WR.rX:∀(ops:List aN) (st:AS) (rest:List aN) (st':AS),aAs G ops st=some (rest,st')->WR P G k rest R st'->WR P G k ops R st
 |[],st,rest,st',h,hw=>by simp[aAs] at h;obtain⟨rfl,rfl⟩:=h;exact hw
 | o::ops,st,rest,st',h,hw=>by
  simp only[aAs] at h;split at h
  ·rename_i hc;obtain⟨s1,h1,h2⟩:=aYu.1 h;exact WR.exX (by rw[hc.1];trivial) hc.2 h1 (WR.rX ops s1 rest st' h2 hw)
  ·injection h with h;injection h with h1 h2;subst h1;subst h2;exact hw
theorem WR.rGX{g:Nat}{b:Bool}:∀(ops:List aN) (st:AS) (rest:List aN) (st':AS),cH (aK G st.sl (.t g))=some b->Ky G g b ops st=some (rest,st')->WR P G k rest R st'->WR P G k ops R st
 |[],st,rest,st',hb,h,hw=>by simp[Ky] at h;obtain⟨rfl,rfl⟩:=h;exact hw
 | o::ops,st,rest,st',hb,h,hw=>by
  simp only[Ky] at h;split at h
  ·rename_i hc;obtain⟨s1,h1,h2⟩:=aYu.1 h;exact WR.exX (by rw[hc.1];exact hb) hc.2.1 h1 (WR.rGX ops s1 rest st' (by rw[aHE hc.2.1 hc.2.2 h1];exact hb) h2 hw)
  ·injection h with h;injection h with h1 h2;subst h1;subst h2;exact hw
def nq:Nat->Nat->Bool
 |0,0=>true
 |0,_+1=>false
 |_+1,0=>false
 |n+1,m+1=>nq n m
theorem iM:∀a b:Nat,nq a b=(a==b)
 |0,0=>rfl
 |0,b+1=>by simp[nq]
 |a+1,0=>by simp[nq]
 |a+1,b+1=>by rw[nq,iM a b,aYN];simp
def To:Option Nat->Nat->Bool
 |none,_=>true
 |some d,g=>!(nq d g)
def eqb:Bool->Bool->Bool
 |true,true=>true
 |false,false=>true
 |_,_=>false
theorem Mn(d:Option Nat)(g:Nat):To d g=decide (d≠some g):=by
 cases d with
 |none=>simp[To]
 |some d=>by_cases h:d=g<;>simp[To,iM,h]
theorem C6(a b:Bool):eqb a b=(a==b):=by cases a<;>cases b<;>rfl
def guG(g:Nat)(b:Bool):Option (Nat×Bool)->Option Nat->AI->Bool
 |some (g',b'),d,ai=>nq g g'&&(eqb b b'&&!ai.isCall&&To d g)
 |none,_,_=>false
def K0(G:aE)(g:Nat)(b:Bool):List aN->Option AS->Option (List aN×AS)
 |_,none=>none
 |[],some st=>some ([],st)
 |o::l,some st=>bif guG g b o.guard o.dst o.ai then K0 G g b l (Fo G st o.dst o.ai) else some (o::l,st)
theorem Tp(G:aE)(g:Nat)(b:Bool)(l:List aN):K0 G g b l none=none:=by cases l<;>rfl
theorem Pt(G:aE)(g:Nat)(b:Bool):∀(l:List aN) (st:AS),K0 G g b l (some st)=Ky G g b l st
 |[],st=>rfl
 | o::l,st=>by
  obtain⟨d,ai,gd⟩:=o;simp only[K0,Ky];have e:Fo G st d ai=exX G st ⟨d,ai,gd⟩:=Ag G st ⟨d,ai,gd⟩;rw[e];have hg:guG g b gd d ai=decide (gd=some (g,b)/\ai.isCall=false/\d≠some g):=by
   cases gd with
   | none=>simp[guG]
   | some q=>
    obtain⟨g',b'⟩:=q;simp only[guG,Mn,C6,iM];rw[aYN];simp only[aXQ,beq_iff_eq,aYC,decide_eq_true_eq,Option.some.injEq,Prod.mk.injEq];constructor
    ·rintro⟨rfl,⟨rfl,h1⟩,h2⟩;exact⟨⟨rfl,rfl⟩,h1,h2⟩
    ·rintro⟨⟨rfl,rfl⟩,h1,h2⟩;exact⟨rfl,⟨rfl,h1⟩,h2⟩
  rw[hg];by_cases hc:gd=some (g,b)/\ai.isCall=false/\d≠some g
  ·simp only[decide_eq_true hc,cond_true,if_pos hc];cases exX G st ⟨d,ai,gd⟩ with
   | none=>simp[Tp]
   | some st'=>simp[Pt G g b l st']
  ·simp only[decide_eq_false hc,cond_false,if_neg hc]
theorem WR.x1{o:aN}{ops rest:List aN}(_:o.guard=none)(_:o.ai.isCall=false)(h:aAt G (o::ops) (some st)=some (rest,st'))(hw:WR P G k rest R st'):WR P G k (o::ops) R st:=WR.rX _ _ _ _ (by rw[<- Wr];exact h) hw
theorem WR.xg{o:aN}{ops rest:List aN}{g:Nat}{b:Bool}(_:o.guard=some (g,b))(_:o.ai.isCall=false)(hb:cH (aK G st.sl (.t g))=some b)(h:K0 G g b (o::ops) (some st)=some (rest,st'))(hw:WR P G k rest R st'):WR P G k (o::ops) R st:=WR.rGX _ _ _ _ hb (by rw[<- Pt];exact h) hw
def aMU:AI->Bool
 |.alloc _=>true
 |.box _=>true
 |.store _ _ _=>true
 |_=>false
def Tq:Bool->AI->Bool
 |true,ai=>sW ai
 |false,ai=>aMU ai
def K1(G:aE):List (Bool×aN)->AS->Option (List (Bool×aN)×AS)
 |[],st=>some ([],st)
 |(b,o)::l,st=>if o.guard=none/\Tq b o.ai=true then (exX G st o).bind fun st'=>K1 G l st' else some ((b,o)::l,st)
def zT(G:aE):List (Bool×aN)->Option AS->Option (List (Bool×aN)×AS)
 |_,none=>none
 |[],some st=>some ([],st)
 |o::l,some st=>bif unGD o.2.guard o.1 o.2.ai then zT G l (Fo G st o.2.dst o.2.ai) else some (o::l,st)
where unGD:Option (Nat×Bool)->Bool->AI->Bool
 |none,b,ai=>Tq b ai
 |some _,_,_=>false
theorem Tr(G:aE)(l:List (Bool×aN)):zT G l none=none:=by cases l<;>rfl
theorem Pu(G:aE):∀(l:List (Bool×aN)) (st:AS),zT G l (some st)=K1 G l st
 |[],st=>rfl
 | o::l,st=>by
  obtain⟨b,d,ai,g⟩:=o;simp only[zT,K1];have e:Fo G st d ai=exX G st ⟨d,ai,g⟩:=Ag G st ⟨d,ai,g⟩;rw[e];cases g with
  | some g=>simp[zT.unGD]
  | none=>
   cases hc:Tq b ai with
   | false=>simp[zT.unGD,hc]
   | true=>
    simp only[zT.unGD,hc,cond_true,true_and,if_true];cases exX G st ⟨d,ai,none⟩ with
    | none=>simp[Tr]
    | some st'=>simp[Pu G l st']
theorem Pv{o:aN}(h:o.ai.isPure=true):exX G st o=(cX G st o.ai).map fun v=>⟨aQ st.sl o.dst v,st.hp⟩:=by
 obtain⟨dst,ai,gd⟩:=o;cases ai<;>first|(simp[AI.isPure] at h;done)|rfl
theorem WD.rX:∀(ops:List (Bool×aN)) (st:AS) (rest:List (Bool×aN)) (st':AS),K1 G ops st=some (rest,st')->jM P G k R rest st'->jM P G k R ops st
 |[],st,rest,st',h,hw=>by simp[K1] at h;obtain⟨rfl,rfl⟩:=h;exact hw
 | (b,o)::ops,st,rest,st',h,hw=>by
  simp only[K1] at h;split at h
  ·rename_i hc;obtain⟨s1,h1,h2⟩:=aYu.1 h;have hr:=WD.rX ops s1 rest st' h2 hw;obtain⟨hg,hp⟩:=hc;cases b with
   | true=>
    simp only[Tq] at hp;rw[Pv (G4 hp)] at h1;obtain⟨v,hv,rfl⟩:=Option.map_eq_some_iff.1 h1;exact⟨v,.inr ⟨by rw[hg];trivial,.inl (by rw[C2 hp];exact hv)⟩,hr⟩
   | false=>
    simp only[Tq] at hp;obtain⟨dst,ai,gd⟩:=o;simp only at hg;subst hg;cases ai<;>first | (simp[aMU] at hp;done) | skip
    case alloc z=>simp only[exX,Option.some.injEq] at h1;subst h1;exact WD.allocE trivial rfl rfl hr
    case box x=>
     simp only[exX] at h1;obtain⟨cs,h3,rfl⟩:=Option.map_eq_some_iff.1 h1;exact WD.boxE trivial rfl h3 rfl hr
    case store size x v=>
     simp only[exX] at h1;cases dst with
     | some d=>cases h1
     | none=>
      simp only[stX] at h1;split at h1
      ·rename_i id off hx;split at h1
       ·rename_i vs hv;split at h1
        ·rename_i cs hb;split at h1
         ·rename_i hc;injection h1 with h1
          exact WD.storeX trivial rfl rfl hx hv hb hc.1 hc.2 h1 hr
         ·cases h1
        ·cases h1
       ·cases h1
      ·rename_i id i s off hx;split at h1
       ·rename_i ds hv;split at h1
        ·rename_i cap s' es hb;split at h1
         ·rename_i e he;split at h1
          ·rename_i hc;injection h1 with h1;subst h1
           obtain⟨rfl,hc1,hc2⟩:=hc;obtain⟨cs,hcs,hdc⟩:=aYu.1 hv;exact .inr ⟨trivial,rfl,.inr ⟨id,i,s,off,cap,es,e,ds,hx,by rw[hcs,lY hdc],hb,he,hc1,hc2,hr⟩⟩
          ·cases h1
         ·cases h1
        ·cases h1
       ·cases h1
      ·cases h1
  ·injection h with h;injection h with h1 h2;subst h1;subst h2;exact hw
theorem WD.x1{b:Bool}{o:aN}{ops rest:List (Bool×aN)}(_:o.guard=none)(_:Tq b o.ai=true)(h:zT G ((b,o)::ops) (some st)=some (rest,st'))(hw:jM P G k R rest st'):jM P G k R ((b,o)::ops) st:=WD.rX _ _ _ _ (by rw[<- Pu];exact h) hw
def guD(g:Nat)(c:Bool):Bool->Option (Nat×Bool)->Option Nat->AI->Bool
 |true,some (g',c'),d,ai=>nq g g'&&(eqb c c'&&sW ai&&To d g)
 |_,_,_,_=>false
def K2(G:aE)(g:Nat)(c:Bool):List (Bool×aN)->Option AS->Option (List (Bool×aN)×AS)
 |_,none=>none
 |[],some st=>some ([],st)
 |o::l,some st=>bif guD g c o.1 o.2.guard o.2.dst o.2.ai then K2 G g c l (Fo G st o.2.dst o.2.ai) else some (o::l,st)
theorem Ts(G:aE)(g:Nat)(c:Bool)(l:List (Bool×aN)):K2 G g c l none=none:=by cases l<;>rfl
theorem Pw(G:aE)(g:Nat)(c:Bool):∀(l:List (Bool×aN)) (st:AS),K2 G g c l (some st)=Ku G g c l st
 |[],st=>rfl
 | o::l,st=>by
  obtain⟨b,d,ai,gd⟩:=o;simp only[K2,Ku];have hg:guD g c b gd d ai=decide (b=true/\gd=some (g,c)/\sW ai=true/\d≠some g):=by
   cases gd with
   | none=>cases b<;>simp[guD]
   | some q=>
    obtain⟨g',c'⟩:=q;cases b with
    | false=>simp[guD]
    | true=>
     simp only[guD,Mn,C6,iM];rw[aYN];simp only[aXQ,beq_iff_eq,decide_eq_true_eq,Option.some.injEq,Prod.mk.injEq,true_and];constructor
     ·rintro⟨rfl,⟨rfl,h1⟩,h2⟩;exact⟨⟨rfl,rfl⟩,h1,h2⟩
     ·rintro⟨⟨rfl,rfl⟩,h1,h2⟩;exact⟨rfl,⟨rfl,h1⟩,h2⟩
  rw[hg];by_cases hc:b=true/\gd=some (g,c)/\sW ai=true/\d≠some g
  ·simp only[decide_eq_true hc,cond_true,if_pos hc];have e:Fo G st d ai=exX G st ⟨d,ai,gd⟩:=Ag G st ⟨d,ai,gd⟩;rw[e,Pv (o:=⟨d,ai,gd⟩) (G4 hc.2.2.1)];cases cX G st ai with
   | none=>simp[Ts]
   | some v=>simp[Pw G g c l]
  ·simp only[decide_eq_false hc,cond_false,if_neg hc]
theorem WD.xg{b:Bool}{o:aN}{ops rest:List (Bool×aN)}{g:Nat}{c:Bool}(_:o.guard=some (g,c))(_:o.ai.isPure=true)(hb:cH (aK G st.sl (.t g))=some c)(h:K2 G g c ((b,o)::ops) (some st)=some (rest,st'))(hw:jM P G k R rest st'):jM P G k R ((b,o)::ops) st:=WD.runG _ _ _ _ hb (by rw[<- Pw];exact h) hw
def skO(g:Nat)(c:Bool):Option (Nat×Bool)->Option Nat->Bool
 |some (g',c'),d=>nq g g'&&(eqb c c'&&To d g)
 |none,_=>false
theorem aC9(g:Nat)(c:Bool)(gd:Option (Nat×Bool))(d:Option Nat):skO g c gd d=decide (gd=some (g,c)/\d≠some g):=by
 cases gd with
 |none=>simp[skO]
 |some q=>
  obtain⟨g',c'⟩:=q;simp only[skO,Mn,C6,iM];rw[aYN];simp only[aXQ,beq_iff_eq,decide_eq_true_eq,Option.some.injEq,Prod.mk.injEq];constructor;rintro⟨rfl,rfl,h2⟩;exact⟨⟨rfl,rfl⟩,h2⟩;rintro⟨⟨rfl,rfl⟩,h2⟩;exact⟨rfl,rfl,h2⟩
def skY(g:Nat)(c:Bool):List aN->AS->List aN×AS
 |[],st=>([],st)
 |o::l,st=>bif skO g c o.guard o.dst then skY g c l ⟨aQ st.sl o.dst (.tup []),st.hp⟩ else (o::l,st)
theorem aDa(g:Nat)(c:Bool):∀(l:List aN) (st:AS),skY g c l st=skipG g c l st
 |[],st=>rfl
 | o::l,st=>by
  simp only[skY,skipG,aC9];by_cases hc:o.guard=some (g,c)/\o.dst≠some g
  ·rw[decide_eq_true hc,cond_true,if_pos hc,aDa g c l]
  ·rw[decide_eq_false hc,cond_false,if_neg hc]
def aDb(g:Nat)(c:Bool):List (Bool×aN)->AS->List (Bool×aN)×AS
 |[],st=>([],st)
 |o::l,st=>bif skO g c o.2.guard o.2.dst then aDb g c l ⟨aQ st.sl o.2.dst (.tup []),st.hp⟩ else (o::l,st)
theorem Ws(g:Nat)(c:Bool):∀(l:List (Bool×aN)) (st:AS),aDb g c l st=C3 g c l st
 |[],st=>rfl
 | (b,o)::l,st=>by
  simp only[aDb,C3,aC9];by_cases hc:o.guard=some (g,c)/\o.dst≠some g
  ·rw[decide_eq_true hc,cond_true,if_pos hc,Ws g c l]
  ·rw[decide_eq_false hc,cond_false,if_neg hc]
def gN(c:Bool):AV->Bool
 |.one (.dc (.raw (.bool b)))=>eqb b (!c)
 |.tup []=>true
 |_=>false
theorem aLJ{g:Nat}{c:Bool}(h:gN c (aK G st.sl (.t g))=true):Es G st (some (g,c)):=by
 show cH (aK G st.sl (.t g))=some (!c)\/aK G st.sl (.t g)=.tup [];generalize aK G st.sl (.t g)=v at h;unfold gN at h;split at h;rename_i b;rw[C6,beq_iff_eq] at h;subst h;exact .inl rfl;exact .inr rfl;cases h
theorem WR.xs{o:aN}{ops rest:List aN}{g:Nat}{c:Bool}(_:o.guard=some (g,c))(hb:gN c (aK G st.sl (.t g))=true)(h:skY g c (o::ops) st=(rest,st'))(hw:WR P G k rest R st'):WR P G k (o::ops) R st:=WR.skipG _ _ _ _ (aLJ hb) (by rw[<- aDa];exact h) hw
theorem WD.xs{b:Bool}{o:aN}{ops rest:List (Bool×aN)}{g:Nat}{c:Bool}(_:o.guard=some (g,c))(hb:gN c (aK G st.sl (.t g))=true)(h:aDb g c ((b,o)::ops) st=(rest,st'))(hw:jM P G k R rest st'):jM P G k R ((b,o)::ops) st:=WD.skipG _ _ _ _ (aLJ hb) (by rw[<- Ws];exact h) hw
end
theorem aVv(a b:Nat):nq a b=decide (a=b):=by rw[iM];rfl
attribute [go_sem] eq_self decide_true decide_false sW aVv To skO skY aDb gN K2 guD aAt K0 zT zT.unGD unG guG cond_true cond_false Fo evX stD aMS aHB aHC Wp Wq aHD aMU Tq stX bsX zs fE dcs AI.isCall gX rV aZa List.isEmpty_nil List.isEmpty_cons
end
section
theorem ifp{c:Prop}[Decidable c]{α:Sort _}{a b:α}(h:c):ite c a b=a:=if_pos h
theorem ifn{c:Prop}[Decidable c]{α:Sort _}{a b:α}(h:¬ c):ite c a b=b:=if_neg h
section
variable {P:Program}{G:aE}{k:Nat}{st st':AS}{R:AS->Prop}{o:aN}{rest:List aN}
theorem VLe.int{k:IntKind}{a b:Int}(h:a=b):VLe (.one (.dc (.raw (.int k a)))) (.one (.dc (.raw (.int k b)))):=by subst h;exact .refl _
def rS:Nat->List AV
 |0=>[]
 |n+1=>.junk::rS n
theorem Px:∀n,rS n=List.replicate n .junk
 |0=>rfl
 |n+1=>by rw[rS,Px n,List.replicate_succ]
theorem AC.of_codeJ{f:FuncId}{fn:Func}{n:Nat}{rs:List kQ}{ac:dP}{args:List AV}{objs:List aC}{Q:AV->List aC->Prop}(hf:P.funcs[f]?=some fn)(hn:fn.ntmps=n)
 (hc:fn.body.bind (bR P)=some ac) (hr:fn.results.toList.mapM (iZ P)=some rs)
 (h:AW P G objs.length ac (Fin objs.length rs Q) ⟨args++rS (n-args.length),objs⟩):AC P G f args objs Q:=AC.of_codeF hf hn hc hr (by rw[<- Px];exact h)
def nzC:aT->aT
 |.dc (.raw (.slice none 0 0))=>.dc (.slc [])
 |.dc (.ptr cs)=>.ref cs
 |c=>c
def nzT:TV->TV
 |.one c=>.one (nzC c)
 |.agg cs=>.agg (cs.map nzC)
def Ev:AV->AV
 |.one c=>.one (nzC c)
 |.agg cs=>.agg (cs.map nzC)
 |.tup l=>.tup (l.map nzT)
 |.junk=>.junk
theorem Tt{F:Fz}{γ:List OI}{c:aT}{v:Value}(h:RC F γ c v):RC F γ (nzC c) v:=by
 unfold nzC;split;cases h with|dc _ _ h=>cases h with|raw _ h=>exact .dc _ _ (.nil _ _)
 cases h with|dc _ _ h=>cases h with|ptr _ b off g hr hc=>exact .ref _ b off g hr hc
 exact h
theorem Wt{F:Fz}{γ:List OI}{cs:List aT}{vs:Array Value}(h:∀(i:Nat) c v,cs[i]?=some c->vs[i]?=some v->RC F γ c v):∀(i:Nat) c v,(cs.map nzC)[i]?=some c->vs[i]?=some v->RC F γ c v:=by
 intro i c v hc hv;rw[aXI] at hc;obtain⟨c0,h0,rfl⟩:=Option.map_eq_some_iff.1 hc;exact Tt (h i c0 v h0 hv)
theorem aDd{F:Fz}{γ:List OI}{a:AV}{v:Value}(h:RV F γ a v):RV F γ (Ev a) v:=by
 cases h with
 |one c v h=>exact .one _ _ (Tt h)
 |agg cs vs hs h=>exact .agg _ _ (by simpa using hs) (Wt h)
 |tup l vs hs h=>
  refine .tup _ _ (by simpa using hs) (fun i t v ht hv=>?_)
  rw[aXI] at ht;obtain⟨t0,h0,rfl⟩:=Option.map_eq_some_iff.1 ht;cases h i t0 v h0 hv with
  |one c v h=>exact .one _ _ (Tt h)
  |agg cs vs hs h=>exact .agg _ _ (by simpa using hs) (Wt h)
 |junk v=>exact .junk v
theorem AC.nz{f:FuncId}{args:List AV}{objs:List aC}{Q:AV->List aC->Prop}(h:AC P G f args objs fun av os=>Q (Ev av) os):AC P G f args objs Q:=by
 refine h.gh (fun a os ho hl=>⟨Ev a,os,?_,hl,ho⟩)
 intro F γ ac w hi hs hk;refine⟨F,γ,gU.refl _ _ _ _,hi,⟨hs.1,hs.2.1,fun i av v h1 h2=>?_⟩,hk⟩
 cases i with
 |zero=>simp at h1;subst h1;exact aDd (hs.2.2 0 a v rfl h2)
 |succ i=>simp at h1
def bsD(G:aE)(st:AS)(dst:Option Nat)(size len:Nat)(z:List Value)(ps:List (Nat×aH)):Option AS:=
 (gX (zs z (len*size)) (ps.map fun (j,x)=>(j*size,size,aK G st.sl x))).bind fun cs=>(dcs cs).bind fun ds=>
  if ds.length=len*size then some ⟨aQ st.sl dst (.one (.bld st.hp.length len)),st.hp++[.arr len size (fE size len ds)]⟩ else none
theorem WD.bs{b:aN}{l:List (Bool×aN)}{size len:Nat}{z:List Value}{ps:List (Nat×aH)}(hgd:iY G st b.guard)(ha:b.ai=.bslc size len z ps)
  (h:bsD G st b.dst size len z ps=some st') (hw:jM P G k R l st'):jM P G k R ((false,b)::l) st:=by
 unfold bsD at h;obtain⟨cs,hf,h⟩:=aYu.1 h;obtain⟨ds,hd,h⟩:=aYu.1 h;split at h;rename_i hl;injection h with h
 obtain⟨h1,h2,h3⟩:=kH size len ds hl;rw[Kz] at hf;exact WD.bslcE (es:=fE size len ds) hgd ha (by rw[h1,<- lY hd];exact hf) h2 h3 h hw;cases h
def gK(b:Bool):AV->Option Bool
 |.one (.dc (.raw (.bool c)))=>some (eqb c b)
 |.tup []=>some false
 |_=>none
theorem aHG{g:Nat}{b:Bool}(h:gK b (aK G st.sl (.t g))=some true):cH (aK G st.sl (.t g))=some b:=by
 generalize aK G st.sl (.t g)=v at h;unfold gK at h;split at h;rename_i c;injection h with h;rw[C6,beq_iff_eq] at h;subst h;rfl
 cases h;cases h
theorem aDe{g:Nat}{b:Bool}(h:gK b (aK G st.sl (.t g))=some false):Es G st (some (g,b)):=by
 show cH (aK G st.sl (.t g))=some (!b)\/aK G st.sl (.t g)=.tup [];generalize aK G st.sl (.t g)=v at h;unfold gK at h;split at h;rename_i c;injection h with h;rw[C6] at h;left;cases b<;>cases c<;>first|rfl|cases h
 exact .inr rfl;cases h
end
attribute [go_sem] nzC nzT Ev List.map_replicate bsD Int.natCast_zero Int.cast_ofNat_Int decide_true decide_false iY aYP if_false aYc aX5 aYb aYj Bool.and_true Bool.and_false C1 ifp ifn aXJ
attribute [go_sem] decide_eq_false_iff_not aXQ Bool.or_eq_true aYC Bool.not_eq_false' beq_iff_eq bne_iff_ne ne_eq beq_eq_false_iff_ne bne_eq_false_iff_eq Bool.true_eq_false Bool.and_eq_false_iff Bool.or_eq_false_iff Decidable.not_not Int.natCast_add Int.natCast_one
attribute [go_sem] aYv Nat.one_mul Nat.zero_mul Nat.mul_zero Nat.mod_one Nat.zero_mod aYB Int.toNat_zero Int.toNat_one List.length_singleton
end
end Go.Proofs.YthepfneloomngaaGreatDoor
