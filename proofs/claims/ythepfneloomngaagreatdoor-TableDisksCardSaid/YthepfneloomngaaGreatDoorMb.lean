/- Small rules for sums and tests. Conditions: none. -/
import Derived.Test.YthepfneloomngaaGreatDoorLt
import Derived.ProofKit
namespace Go.Proofs.YthepfneloomngaaGreatDoor
section
section
variable {P:Program} {G:aF} {k:Nat} {hp:List aD} {s:AS} {K Q:AS->Prop}
theorem bH(id:Nat):aI (hp.map aN) id=aN (aI hp id):=by
 unfold aI;simp only[aWn,aWl];cases hp[id]?<;>rfl
theorem Fl{g:Bool}{n:Nat}{x:AV}:kW (hp.map aN) g n x=kW hp g n x:=by
 unfold kW;split
 ·simp only[bH];cases aI hp _<;>rfl
 ·simp only[bH];cases aI hp _<;>rfl
 ·rfl
 ·rfl
theorem Rz{x:AV}:mC (hp.map aN) x=mC hp x:=by
 unfold mC;split
 ·rfl
 ·rfl
 ·simp only[bH];cases aI hp _<;>rfl
 ·simp only[bH];cases aI hp _<;>rfl
 ·rfl
theorem Yv{n:Nat}{x:AV}{i:Int}:uZ (hp.map aN) n x i=uZ hp n x i:=by
 unfold uZ;split
 ·rfl
 ·simp only[bH];cases aI hp _<;>rfl
 ·simp only[bH];cases aI hp _<;>rfl
 ·rfl
theorem Yw{n:Nat}{x:AV}{l r:Option AV}:kI (hp.map aN) n x l r=kI hp n x l r:=by
 unfold kI;split
 ·rfl
 ·rfl
 ·simp only[bH];cases aI hp _<;>cases l<;>rfl
 ·simp only[bH];cases aI hp _<;>rfl
 ·rfl
theorem sS{x:AV}:qA (hp.map aN) x=qA hp x:=by
 unfold qA;split
 ·rfl
 ·rfl
 ·simp only[bH];cases aI hp _<;>rfl
 ·rfl
theorem pG{ai:AI}:cW G (aE s) ai=cW G s ai:=by
 cases ai<;>simp only[cW,aE,Fl,Rz,Yv,Yw]
theorem aBY{st:AS}{ai:AI}:evF G st ai=cW G st ai:=by
 unfold evF;split
 ·split
  ·rename_i h1 h2;simp only[cW,h1,h2,eC,Ni];rfl
  ·rfl
 ·split
  ·rename_i h1 h2;simp only[cW,h1,h2,eC,Ni];rfl
  ·rfl
 ·rfl
theorem Fm:∀ (cs:List aR) (ds:List DC),Fj cs=some ds->cs=lQ ds
 | [],ds,h=>by simp[Fj] at h;subst h;rfl
 | c::cs,ds,h=>by
  cases c with
  | dc d=>
   simp only[Fj] at h;obtain⟨ds',h1,rfl⟩:=Option.map_eq_some_iff.1 h;rw[Fm cs ds' h1];rfl
  | _=>simp[Fj] at h
theorem I7{size:Nat}:∀ (n:Nat) (l:List DC),l.length=n * size->(qE size n l).flatten=l/\(qE size n l).length=n/\∀ e∈qE size n l,e.length=size
 | 0,l,h=>by
  have:l=[]:=aXl (by simpa using h);subst this;exact⟨rfl,rfl,fun e he=>by cases he⟩
 | n+1,l,h=>by
  have hm:(n+1) * size=n * size+size:=Nat.succ_mul n size;obtain⟨h1,h2,h3⟩:=I7 (size:=size) n (l.drop size) (by simp;omega);refine⟨?_,by simp[qE,h2],fun e he=>?_⟩
  ·simp only[qE,aXc,h1,aXs]
  ·simp only[qE,aXn] at he;rcases he with rfl | he
   ·simp;omega
   ·exact h3 e he
theorem nE{p:Nat->Bool}(o:aD):aN (cI p o)=cI p (aN o):=by cases o<;>rfl
theorem rQ{p:Nat->Bool}(l:List aD):(l.map (cI p)).map aN=(l.map aN).map (cI p):=by
 simp only[aWE];exact aWC (fun o _=>nE o)
theorem mV{ρ:Nat->Nat}(o:aD):aN (dP ρ o)=dP ρ (aN o):=by cases o<;>rfl
theorem pH{cs:List aR}{o:aD}(h:aN o=.box cs):o=.box cs:=by cases o<;>simp_all [aN]
theorem mW{c z:Nat}{es:List (List DC)}{o:aD}(h:aN o=.arr c z es):∃ cap,o=.arr cap z es/\c=0:=by
 cases o<;>simp_all [aN]
theorem Kn{dst:Option Nat}{ai:AI}{st':AS}(h:evI G dst ai (aE s)=some st')(hK:∀ s',aE s'=st'->K s'):rK P G k dst ai K s.sl s.hp:=by
 cases ai with
 | alloc z=>
  simp only[evI,Option.some.injEq] at h;exact hK _ (by rw[<- h];simp[aE,aN])
 | box x=>
  simp only[evI] at h;obtain⟨cs,h1,h2⟩:=Option.map_eq_some_iff.1 h;exact⟨cs,h1,hK _ (by rw[<- h2];simp[aE,aN])⟩
 | bslc size len zero parts=>
  simp only[evI] at h;obtain⟨cells,h1,h⟩:=aW5.1 h;obtain⟨ds,h2,h⟩:=aW5.1 h;split at h
  ·rename_i hl;injection h with h
   obtain⟨g1,g2,g3⟩:=I7 len ds hl;refine .inl ⟨qE size len ds, ?_,g3,g2,hK _ (by rw[<- h];simp[aE,aN])⟩;rw[g1,<- Fm _ _ h2];exact h1
  ·cases h
 | store size x v=>
  simp only[evI] at h;split at h
  ·rename_i hd;subst hd;refine⟨rfl, ?_⟩;obtain⟨vs,h1,h⟩:=aW5.1 h;unfold U2 at h;split at h
   ·rename_i id off hx
    left
    split at h
    ·rename_i cs hb;split at h
     ·rename_i hc;injection h with h
      rw[aE,bH] at hb;exact⟨id,off,cs,vs,hx,h1,pH hb,hc.1,hc.2,hK _ (by rw[<- h];simp[aE,aN,aWM])⟩
     ·cases h
    ·cases h
   ·rename_i id i z off hx
    right
    split at h
    ·rename_i c z' es hb;obtain⟨ds,h2,h⟩:=aW5.1 h;obtain⟨e,h3,h⟩:=aW5.1 h;split at h
     ·rename_i hc;injection h with h
      rw[aE,bH] at hb;obtain⟨cap,hb,_⟩:=mW hb;obtain⟨rfl,hc2,hc3⟩:=hc;refine⟨id,i,z',off,cap,es,e,ds,hx, ?_,hb,h3,hc2,hc3,hK _ (by rw[<- h];simp[aE,aN,aWM])⟩;rw[<- Fm _ _ h2];exact h1
     ·cases h
    ·cases h
   ·cases h
  ·cases h
 | app size bytes zero a x=>
  simp only[evI] at h;unfold aKd at h;split at h
  ·rename_i id n hx
   right
   split at h
   ·rename_i c z es hb;obtain⟨news,h2,h⟩:=aW5.1 h;split at h
    ·rename_i hc;injection h with h
     rw[aE,bH] at hb;obtain⟨cap,hb,_⟩:=mW hb;obtain⟨rfl,hc2,hc3,hc4⟩:=hc;rw[aE,sS] at h2;exact⟨id,n,cap,es,news,hx,hb,hc2,h2,by simpa using hc3,hc4,fun cap' _=>hK _ (by rw[<- h];simp only[aE,aWM,rQ];rfl)⟩
    ·cases h
   ·cases h
  ·rename_i hx
   left
   obtain⟨news,h2,h⟩:=aW5.1 h;split at h
   ·rename_i hc;injection h with h
    rw[aE,sS] at h2;exact⟨hx,news,h2,by simpa using hc.1,hc.2,fun cap' _=>hK _ (by rw[<- h];simp only[aE,aWW,rQ,aWf];rfl)⟩
   ·cases h
  ·cases h
 | _=>cases h
theorem Fn{id:Nat}{es:List (List DC)}(o:aD):aN (Rw id es o)=Rw id es (aN o):=by cases o<;>rfl
theorem eL:∀ (ids:List Nat) (s:AS),∃ s',Gh k s s'/\aE s'=bR ids (aE s)
 | [],s=>⟨s,Gh.refl,rfl⟩
 | id::r,s=>by
  simp only[bR];split
  ·rename_i c z es hb;rw[aE,bH] at hb;obtain⟨cap,hb,_⟩:=mW hb;obtain⟨s',h1,h2⟩:=eL r ⟨s.sl.map fun v=>bA (·==id) (Yu id es v),(s.hp.map fun o=>cI (·==id) (Rw id es o)).set id .dead⟩
   refine⟨s',(Gh.freeze hb).trans h1, ?_⟩;rw[h2];congr 1;simp only[aE,aWM,aWE,aN];congr 2;exact aWC (fun o _=>by simp only[Function.comp_apply,nE,Fn])
  ·exact eL r s
mutual
theorem rtC{J:List Nat}{n:Nat}:(c:aR)->c.keep (jU J)=true->iV (cG J n) (iV (kV J) c)=c
 | .ptr id o,h=>by simp only[iV,rtN (n:=n) (by simpa[aR.keep,jU] using h)]
 | .bld id o,h=>by simp only[iV,rtN (n:=n) (by simpa[aR.keep,jU] using h)]
 | .ept id i z o,h=>by simp only[iV,rtN (n:=n) (by simpa[aR.keep,jU] using h)]
 | .bls id i z o,h=>by simp only[iV,rtN (n:=n) (by simpa[aR.keep,jU] using h)]
 | .fn f caps,h=>by simp only[iV,rtL caps (by simpa[aR.keep] using h)]
 | .dc d,h=>rfl
 | .ref cs,h=>rfl
 | .mpc es,h=>rfl
 | .junk,h=>rfl
theorem rtL{J:List Nat}{n:Nat}:(cs:List aR)->keepL (jU J) cs=true->renL (cG J n) (renL (kV J) cs)=cs
 | [],h=>rfl
 | c::cs,h=>by
  simp only[keepL,aWs] at h;simp only[renL,rtC c h.1,rtL cs h.2]
theorem rtN{J:List Nat}{n id:Nat}(h:id∈J):cG J n (kV J id)=id:=by
 have:∀ J:List Nat,id∈J->J[kV J id]?=some id:=by
  intro J
  induction J with
  | nil=>intro h;cases h
  | cons j J ih=>
   intro h;simp only[kV];split
   ·rename_i e;simp[e]
   ·rename_i hne;rw[aXN];exact ih (by rcases aXn.1 h with h | h;exact absurd h hne;exact h)
 simp only[cG,this J h]
end
theorem nF{ρ:Nat->Nat}:∀ (cs:List aR),renL ρ cs=cs.map (iV ρ)
 | []=>rfl
 | c::cs=>by simp[renL,nF cs]
theorem rtM{J:List Nat}{n:Nat}(cs:List aR)(h:keepL (jU J) cs=true):(cs.map (iV (kV J))).map (iV (cG J n))=cs:=by
 rw[<- nF,<- nF];exact rtL cs h
theorem rtT{J:List Nat}{n:Nat}(t:TV)(h:Cz (jU J) t=true):Fa (cG J n) (Fa (kV J) t)=t:=by
 cases t with
 | one c=>simp only[Fa,rtC c h]
 | agg cs=>simp only[Fa,rtM cs h]
theorem rtV{J:List Nat}{n:Nat}(v:AV)(h:cU (jU J) v=true):dB (cG J n) (dB (kV J) v)=v:=by
 cases v with
 | one c=>simp only[dB,rtC c h]
 | agg cs=>simp only[dB,rtM cs h]
 | tup l=>
  simp only[dB,aWE];congr 1
  conv=>rhs;rw[<- List.map_id l]
  exact aWC (fun t ht=>rtT t (List.all_eq_true.1 h t ht))
 | junk=>rfl
theorem rtO{J:List Nat}{n:Nat}(o:aD)(h:nD (jU J) o=true):dP (cG J n) (dP (kV J) o)=o:=by
 cases o with
 | box cs=>simp only[dP,rtM cs h]
 | _=>rfl
theorem Nj{α β:Type}{f:α->β}:∀ (J:List Nat) (xs l:List α),(jT J xs l).map f=jT J (xs.map f) (l.map f)
 | [],_,l=>by simp[jT]
 | j::J,[],l=>by simp[jT]
 | j::J,x::xs,l=>by simp only[jT,aWp];rw[Nj J xs];simp[aWM]
theorem Nk(o:aD):gQ (aN o)=gQ o:=by cases o<;>rfl
theorem R0{J:List Nat}{dst:Option Nat}{av:AV}{o0:List aD}:aE (gR J s dst av o0)=gR J (aE s) dst av (o0.map aN):=by
 have e1:∀ ρ,aN ∘ dP ρ=dP ρ ∘ aN:=fun ρ=>funext fun o=>mV o
 have e2:∀ p,aN ∘ cI p=cI p ∘ aN:=fun p=>funext fun o=>nE o
 simp only[gR,aE,aWW,Nj,aWf,bH,Nk,aWE,aXt,e1,e2]
def cB(P:Program)(G:aF)(call:aO):Prop:=∀ f args hp av o',call f args hp=some (av,o')->∀ hp0,hp0.map aN=hp->Uv P f=true/\AC P G f args hp0 fun a o=>a=av/\o.map aN=o'
theorem rR{p:Nat->Bool}(o:aD):nD p (aN o)=nD p o:=by cases o<;>rfl
theorem pI{call:aO}(hcall:cB P G call){dst:Option Nat}{f:FuncId}{avs:List AV}{st':AS}(h:jV call dst f avs (aE s)=some st'):
  ∃ (J:List Nat) (objs:List aD) (av:AV) (o':List aD),Uv P f=true/\AC P G f (avs.map (dB (kV J))) objs (fun a o=>a=av/\o.map aN=o')/\J.Nodup/\objs.length=J.length/\
   (∀ (t j:Nat) o,J[t]?=some j->objs[t]?=some o->s.hp[j]?=some (dP (cG J s.hp.length) o))/\avs=(avs.map (dB (kV J))).map (dB (cG J s.hp.length))/\
   ∀ a o,a=av/\o.map aN=o'->aE (gR J s dst a o)=st':=by
 unfold jV at h;simp only at h;generalize rP (aE s).hp 2000 (avs.flatMap iL) []=J at h;split at h
 ·rename_i hok;obtain⟨⟨av,o'⟩,h1,h2⟩:=Option.map_eq_some_iff.1 h;simp only[okJ,aWs] at hok;obtain⟨⟨hnd,hobj⟩,hav⟩:=hok;have hJ:=fun j hj=>List.all_eq_true.1 hobj j hj
  simp only[aWs,decide_eq_true_eq,aE,aWf,bH,rR] at hJ;obtain⟨g1,g2⟩:=hcall _ _ _ _ _ h1 (J.map fun j=>dP (kV J) (aI s.hp j)) (by
   rw[aWE];exact aWC (fun j _=>by simp only[Function.comp_apply,mV,aE,bH]))
  refine⟨J,_,av,o',g1,g2,(zK _ hnd).imp (fun h e=>by simp[e] at h),by simp,fun t j o ht ho=>?_, ?_,fun a o hao=>?_⟩
  ·rw[aWl,ht] at ho;simp at ho;subst ho;have hm:=hJ j (aWD ht);rw[rtO _ hm.2,aI,aWn,aWo hm.1];rfl
  ·rw[aWE]
   conv=>lhs;rw[<- List.map_id avs]
   exact aWC (fun v hv=>(rtV v (List.all_eq_true.1 hav v hv)).symm)
  ·obtain⟨rfl,rfl⟩:=hao;rw[R0];exact h2
 ·cases h
theorem Fo{gd:Option (Nat × Bool)}{b:Bool}(h:Ng G (aE s) gd=some b):(b=true->iG G s gd)/\(b=false->Dg G s gd):=by
 cases gd with
 | none=>simp[Ng] at h;subst h;exact⟨fun _=>trivial,fun h=>by cases h⟩
 | some q=>
  obtain⟨g,c⟩:=q;simp only[Ng,aE] at h;split at h
  ·rename_i hv;injection h with h;subst h
   exact⟨fun h=>by (cases h),fun _=>.inr hv⟩
  ·obtain⟨d,h1,h2⟩:=Option.map_eq_some_iff.1 h;refine⟨fun hb=>?_,fun hb=>.inl ?_⟩
   ·subst hb;simp at h2;subst h2;exact h1
   ·subst hb;simp at h2;rw[h1];cases c<;>cases d<;>simp_all
theorem WR.cons{o:aM}{rest:List aM}(h:WR P G k [o] (fun s=>WR P G k rest Q s) s):WR P G k (o::rest) Q s:=by
 intro opsA l hc F γ a w hi hs hg hk QE hq;obtain⟨oper,l',rfl,h1,h2,h3,h4⟩:=mF hc;have hc1:bB P opsA [oper]=some [o]:=by
  simp[bB,bY,h1,h2,h3]
 have:=h opsA [oper] hc1 F γ a w hi hs hg hk (fun e a w=>match e with | .normal=>wpList P opsA QE l' a w | e=>QE e a w)
  (fun a' w' F' γ' s' hR hE hI hS hk'=>hR opsA l' h4 F' γ' a' w' hI hS (hg.sub hE.sub) hk' QE (fun a'' w'' F'' γ'' s'' q1 q2 q3 q4 q5=>hq a'' w'' F'' γ'' s'' q1 (hE.trans q2) q3 q4 q5))
 simp only[wpList] at this ⊢;split
 ·rename_i hw;rw[if_pos hw] at this;rcases this with h1 | ⟨h1,a',w',h2⟩
  ·exact .inl (wpQ (fun e a w hne h=>by cases e<;>first | exact absurd rfl hne | exact h) h1)
  ·exact .inr ⟨h1,a',w',h2⟩
 ·rename_i hw;rw[if_neg hw] at this;exact this
theorem U5{call:aO}(hcall:cB P G call){o:aM}{st':AS}(hg:iG G s o.guard)(h:aGo call G o (aE s)=some st')(hK:∀ s',aE s'=st'->K s'):WR P G k [o] K s:=by
 refine WR.guard hg rfl ?_;unfold aGo at h;split at h
 ·rename_i f args hai;rw[hai];obtain⟨s1,hgh,hn⟩:=eL (k:=k) (args.flatMap fun x=>uP (aJ G (aE s).sl x)) s
  simp only at h;rw[<- hn] at h;obtain⟨J,objs,av,o',g1,g2,g3,g4,g5,g6,g7⟩:=pI hcall h;refine WR.ghost hgh (WR.call (o:=⟨o.dst,.call f args,none⟩) trivial rfl g2 g3 g4 g5 g6 (fun a o hao=>WR.nil (hK _ (g7 a o hao))))
 ·rename_i x args hai;rw[hai];obtain⟨s1,hgh,hn⟩:=eL (k:=k) (args.flatMap fun x=>uP (aJ G (aE s).sl x)) s
  simp only at h;rw[<- hn] at h;split at h
  ·rename_i f caps hx;obtain⟨J,objs,av,o',g1,g2,g3,g4,g5,g6,g7⟩:=pI hcall h;exact WR.ghost hgh (WR.callv (o:=⟨o.dst,.callv x args,none⟩) trivial rfl hx g1 g2 g3 g4 g5 g6 (fun a o hao=>WR.nil (hK _ (g7 a o hao))))
  ·cases h
 ·rename_i size len zero ps hai;obtain⟨s1,hgh,hn⟩:=eL (k:=k) (ps.flatMap fun p=>uP (aJ G (aE s).sl p.2)) s
  rw[<- hn] at h;exact WR.ghost hgh (rK.run (o:=⟨o.dst,o.ai,none⟩) trivial (Kn h hK))
 ·exact rK.run (o:=⟨o.dst,o.ai,none⟩) trivial (Kn h hK)
theorem zP{call:aO}(hcall:cB P G call):∀ (ops:List aM) (s:AS) (st':AS),Fk call G ops (aE s)=some st'->WR P G k ops (fun s'=>aE s'=st') s
 | [],s,st',h=>by simp[Fk] at h;exact WR.nil h
 | o::l,s,st',h=>by
  simp only[Fk] at h;obtain⟨b,hb,h⟩:=aW5.1 h;have hw:=Fo hb;split at h
  ·rename_i hbt;split at h
   ·obtain⟨v,hv,h⟩:=aW5.1 h;rw[Nh] at h;rw[aBY,pG] at hv;exact WR.pur (hw.1 hbt) hv (zP hcall l ⟨aP s.sl o.dst v,s.hp⟩ st' h)
   ·obtain⟨s1,h1,h⟩:=aW5.1 h;rw[aKg] at h;exact WR.cons (U5 hcall (hw.1 hbt) h1 (fun s' hs'=>zP hcall l s' st' (by rw[hs'];exact h)))
  ·rename_i hbf;rw[Nh] at h;exact WR.skip (hw.2 (by simpa using hbf)) (zP hcall l ⟨aP s.sl o.dst (.tup []),s.hp⟩ st' h)
mutual
theorem rnC{ρ:Nat->Nat}:(c:aR)->c.keep (fun _=>true)=true->iV ρ c=c
 | .ptr id o,h=>by simp[aR.keep] at h
 | .bld id o,h=>by simp[aR.keep] at h
 | .ept id i z o,h=>by simp[aR.keep] at h
 | .bls id i z o,h=>by simp[aR.keep] at h
 | .fn f caps,h=>by simp only[iV,rnL caps (by simpa[aR.keep] using h)]
 | .dc d,h=>rfl
 | .ref cs,h=>rfl
 | .mpc es,h=>rfl
 | .junk,h=>rfl
theorem rnL{ρ:Nat->Nat}:(cs:List aR)->keepL (fun _=>true) cs=true->renL ρ cs=cs
 | [],h=>rfl
 | c::cs,h=>by
  simp only[keepL,aWs] at h;simp only[renL,rnC c h.1,rnL cs h.2]
end
theorem rnT{ρ:Nat->Nat}(t:TV)(h:Cz (fun _=>true) t=true):Fa ρ t=t:=by
 cases t with
 | one c=>simp only[Fa,rnC c h]
 | agg cs=>simp only[Fa,<- nF,rnL cs h]
theorem rnV{ρ:Nat->Nat}(v:AV)(h:cU (fun _=>true) v=true):dB ρ v=v:=by
 cases v with
 | one c=>simp only[dB,rnC c h]
 | agg cs=>simp only[dB,<- nF,rnL cs h]
 | tup l=>
  simp only[dB];congr 1
  conv=>rhs;rw[<- List.map_id l]
  exact aWC (fun t ht=>rnT t (List.all_eq_true.1 h t ht))
 | junk=>rfl
theorem sU{p:Nat->Bool}:∀ (cs:List aR),keepL p cs=true->cs.map (cE p)=cs
 | [],_=>rfl
 | c::cs,h=>by
  simp only[keepL,aWs] at h;rw[aWp,sU cs h.2];simp[cE,h.1]
theorem Fp{p:Nat->Bool}{v:AV}(h:cU p v=true):bA p v=v:=by
 cases v with
 | one c=>simp only[cU] at h;simp[bA,cE,h]
 | agg cs=>simp only[bA,sU cs h]
 | tup l=>
  simp only[bA];congr 1
  conv=>rhs;rw[<- List.map_id l]
  exact aWC (fun t ht=>by
   have:=List.all_eq_true.1 h t ht;cases t with
   | one c=>simp only[Cz] at this;simp[qZ,cE,this]
   | agg cs=>simp only[qZ,sU cs this,id_eq])
 | junk=>rfl
theorem Fq{p:Nat->Bool}{o:aD}(h:nD p o=true):cI p o=o:=by
 cases o with
 | box cs=>simp only[cI,sU cs h]
 | _=>rfl
theorem AC.gh{f:FuncId}{args:List AV}{objs:List aD}{R R':AV->List aD->Prop}(h:AC P G f args objs R)
  (hq:∀ av o,R av o->objs.length<=o.length->∃ av' o',Gh objs.length ⟨[av],o⟩ ⟨[av'],o'⟩/\objs.length<=o'.length/\R' av' o'):AC P G f args objs R':=by
 intro F γ vs w hi hg hv;refine (h F γ vs w hi hg hv).mono ?_;rintro e w' ⟨r,av,o,F',γ',rfl,hQ,hl,hE,hI,hR⟩;obtain⟨av',o',hgh,hl',hq'⟩:=hq av o hQ hl;obtain⟨F'',γ'',hE2,hI2,hS2,hk2⟩:=hgh F' γ' { tmps:=#[r],defers:=[] } w' hI ⟨rfl,rfl,fun i a v h1 h2=>by
  cases i with
  | zero=>simp at h1 h2;subst h1;subst h2;exact hR
  | succ i=>simp at h1⟩ (by rw[hI.len];exact hl)
 exact⟨r,av',o',F'',γ'',rfl,hq',hl',hE.trans hE2,hI2,hS2.2.2 0 av' r rfl rfl⟩
theorem lE:∀ (ids:List Nat) (st:AS),(bR ids st).sl.length=st.sl.length
 | [],st=>rfl
 | id::r,st=>by
  simp only[bR];split
  ·rw[lE r];simp
  ·exact lE r st
theorem aBZ{call:aO}(hcall:cB P G call){o:aM}{v:AV}(h:evQ call G o (aE s)=some v):
  ∃ f args cargs r,o.ai=.call f args/\QC P G f cargs r/\∀ n,args.map (aJ G s.sl)=cargs.map (dB (cG [] n))/\v=dB (cG [] n) r:=by
 unfold evQ at h;split at h
 ·rename_i f args hai;split at h
  ·rename_i hka;obtain⟨⟨av,o'⟩,h1,h⟩:=aW5.1 h;simp only at h;split at h
   ·rename_i hkv;injection h with h
    obtain⟨_,g2⟩:=hcall _ _ _ _ _ h1 [] rfl;refine⟨f,args,args.map (aJ G s.sl),v,hai,g2.gh (fun a o ⟨h3,h4⟩ _=>?_),fun n=>⟨?_, ?_⟩⟩
    ·subst h3;obtain⟨s1,hgh,hn⟩:=eL (k:=0) (iL a) ⟨[a],o⟩;have hn':aE s1=bR (iL a) ⟨[a],o'⟩:=by rw[hn];simp only[aE,h4]
     have hlen:s1.sl.length=1:=by
      have:=congrArg (fun q=>q.sl.length) hn'
      simp only[aE,lE] at this;simpa using this
     obtain⟨y,hy⟩:=List.length_eq_one_iff.1 hlen;have hgd:=Gh.drop (k:=0) (as:=s1) 0 (aWj _);refine⟨v,[], ?_,aWA _,rfl,rfl⟩;have hv:v=bA (fun id=>decide (0<=id)) y:=by
      rw[<- h,<- hn'];simp[aE,hy]
     have:=hgh.trans hgd;rw[hy] at this;simpa[hv] using this
    ·conv=>lhs;rw[<- List.map_id (args.map (aJ G s.sl))]
     exact aWC (fun x hx=>(rnV x (List.all_eq_true.1 hka x hx)).symm)
    ·exact (rnV v (by rw[<- h];exact hkv)).symm
   ·cases h
  ·cases h
 ·cases h
theorem Fr{call:aO}(hcall:cB P G call):∀ (ops:List (Bool × aM)) (s:AS) (st':AS),evD call G ops (aE s)=some st'->iU P G k (fun s'=>aE s'=st') ops s
 | [],s,st',h=>by simp[evD] at h;exact h
 | (true,o)::l,s,st',h=>by
  simp only[evD] at h;obtain⟨c,hc,h⟩:=aW5.1 h;have hw:=Fo hc;cases c with
  | true=>
   simp only[if_true] at h;obtain⟨v,hv,h⟩:=aW5.1 h;rw[Nh] at h;refine⟨v,.inr ⟨hw.1 rfl, ?_⟩,Fr hcall l ⟨aP s.sl o.dst v,s.hp⟩ st' h⟩;split at hv
   ·have e:(⟨(aE s).sl,Kf o.ai (aE s).hp⟩:AS)=aE ⟨s.sl,Kf o.ai s.hp⟩:=by cases o.ai<;>rfl
    rw[aBY,e,pG] at hv;exact .inl hv
   ·exact .inr (aBZ hcall hv)
  | false=>
   simp only[aXx,if_false,Nh] at h;exact WD.skip (hw.2 rfl) (Fr hcall l ⟨aP s.sl o.dst (.tup []),s.hp⟩ st' h)
 | (false,o)::l,s,st',h=>by
  simp only[evD] at h;obtain⟨c,hc,h⟩:=aW5.1 h;have hw:=Fo hc;cases c with
  | true=>
   simp only[if_true,aXx,if_false] at h;obtain⟨s1,h1,h⟩:=aW5.1 h;rw[aKg] at h;have hK:∀ s',aE s'=s1->iU P G k (fun s'=>aE s'=st') l s':=fun s' hs'=>Fr hcall l s' st' (by rw[hs'];exact h)
   split at h1
   ·rename_i f args hai;obtain⟨v,hv,h2⟩:=Option.map_eq_some_iff.1 h1;obtain⟨f',args',cargs,r,g1,g2,g3⟩:=aBZ hcall hv;refine .inr ⟨hw.1 rfl, ?_⟩;rw[g1];refine⟨_,zI.of g2 (g3 _).1,⟨_,_,r,[],⟨rfl,rfl⟩,rfl,rfl⟩, ?_⟩;rintro av os ⟨av0,os0,⟨rfl,rfl⟩,rfl,rfl⟩;rw[<- (g3 s.hp.length).2];refine hK _ ?_;rw[<- h2];simp[aE]
   ·rename_i x args hai;exact WD.any (hw.1 rfl) (by rw[hai];trivial) (U5 hcall (o:=⟨o.dst,o.ai,none⟩) trivial h1 hK)
   ·exact .inr ⟨hw.1 rfl,Kn h1 hK⟩
  | false=>
   simp only[aXx,if_false,Nh] at h;exact WD.skip (hw.2 rfl) (Fr hcall l ⟨aP s.sl o.dst (.tup []),s.hp⟩ st' h)
theorem iU.mono{R R':AS->Prop}(hr:∀ s,R s->R' s):∀ (ops:List (Bool × aM)) (s:AS),iU P G k R ops s->iU P G k R' ops s
 | [],s,h=>hr s h
 | (true,o)::l,s,h=>by obtain⟨v,hv,h⟩:=h;exact⟨v,hv,iU.mono hr l _ h⟩
 | (false,o)::l,s,h=>Eff.mono (fun s' h'=>iU.mono hr l s' h') h
theorem Bo{rs:List kE}:qV (aE s) rs=qV s rs:=by
 have h1:∀ r,fA (aE s) r=fA s r:=by
  intro r;cases r<;>simp only[fA,aE,Fl]
 have h2:fA (aE s)=fA s:=funext h1;unfold qV;split<;>simp only[h2]
def TOK(P:Program)(T:Tbl):Prop:=∀ f c rs nt,T f=some (c,rs,nt)->Uv P f=true/\∃ fn,P.funcs[f]?=some fn/\fn.ntmps=nt/\fn.body.bind (bQ P)=some c/\fn.results.toList.mapM (iH P)=some rs
theorem Nl{T:Tbl}{run:dJ->AS->Option (Exit × AS)}(hT:TOK P T)(hrun:∀ c s e st',run c (aE s)=some (e,st')->∀ k,AW P G k c (fun e' s'=>e'=e/\aE s'=st') s):cB P G (I6 T run):=by
 intro f args hp av o' h hp0 hhp;subst hhp;unfold I6 at h;split at h
 ·rename_i c rs nt hTf;obtain⟨ho,fn,g1,g2,g3,g4⟩:=hT f c rs nt hTf;refine⟨ho, ?_⟩;obtain⟨⟨e,s1⟩,h1,h⟩:=aW5.1 h;simp only at h;split at h
  ·rename_i hend;simp only[aWs,decide_eq_true_eq,aWf] at hend;obtain⟨v,h2,h⟩:=Option.map_eq_some_iff.1 h;have hA:AC P G f args hp0 (fun a o=>a=v/\o.map aN=s1.hp):=by
    refine AC.of_code g1 g2 g3 g4 ((hrun c ⟨args++List.replicate (nt - args.length) .junk,hp0⟩ e s1 (by simpa[aE] using h1) hp0.length).mono ?_);rintro e' s' ⟨rfl,rfl⟩;refine⟨?_,by simpa[aE] using hend.2,v,by rw[<- Bo];exact h2,rfl,rfl⟩;cases e'<;>simp[I5] at hend ⊢
   split at h
   ·rename_i hkeep;injection h with h3 h4
    subst h3;simp only[aWs,aWf] at hkeep;refine hA.gh (fun a o ⟨q1,q2⟩ hl=>?_)
    subst q1;refine⟨a,o.take hp0.length, ?_,by simp only[aWm];omega,rfl, ?_⟩
    ·have:=Gh.drop (k:=hp0.length) (as:=⟨[a],o⟩) hp0.length (aWj _);have e1:(o.take hp0.length).map (cI fun id=>decide (hp0.length<=id))=o.take hp0.length:=by
      conv=>rhs;rw[<- List.map_id (o.take hp0.length)]
      refine aWC (fun x hx=>Fq ?_)
      have:=List.all_eq_true.1 hkeep.2 (aN x) (by rw[<- q2,<- aW2];exact List.mem_map.2 ⟨x,hx,rfl⟩);rwa[rR] at this
     simpa[Fp hkeep.1,e1] using this
    ·rw[<- h4,aW2,q2,aWf]
   ·injection h with h3 h4
    subst h3;subst h4;exact hA
  ·cases h
 ·cases h
theorem aLr{T:Tbl}(hT:TOK P T):∀ (n:Nat) (c:dJ) (s:AS) (e:Exit) (st':AS),Bn G T n c (aE s)=some (e,st')->∀ k,AW P G k c (fun e' s'=>e'=e/\aE s'=st') s:=by
 intro n
 induction n using Nat.strongRecOn with
 | ind n0 ihs=>
  intro c s e st' h k;cases n0 with
  | zero=>simp[Bn] at h
  | succ n=>
  have ih:=ihs n (Nat.lt_succ_self n);have hcall:cB P G (I6 T (Bn G T n)):=Nl hT ih;cases c with
  | bad=>simp only[Bn] at h;cases h
  | drawnF prs ops=>simp only[Bn] at h;cases h
  | drawnT t ops=>simp only[Bn] at h;cases h
  | skip=>simp only[Bn,Option.some.injEq,Prod.mk.injEq] at h;obtain⟨rfl,rfl⟩:=h;exact AW.skip ⟨rfl,rfl⟩
  | ret=>simp only[Bn,Option.some.injEq,Prod.mk.injEq] at h;obtain⟨rfl,rfl⟩:=h;exact AW.ret ⟨rfl,rfl⟩
  | exit id=>simp only[Bn,Option.some.injEq,Prod.mk.injEq] at h;obtain⟨rfl,rfl⟩:=h;exact AW.exit ⟨rfl,rfl⟩
  | region ops=>
   simp only[Bn] at h;obtain⟨s1,h1,h2⟩:=Option.map_eq_some_iff.1 h;injection h2 with h2 h3
   subst h2;subst h3;exact AW.region ((zP hcall ops s s1 h1).mono (fun s' h=>⟨rfl,h⟩))
  | drawn ops=>
   simp only[Bn] at h;obtain⟨s1,h1,h2⟩:=Option.map_eq_some_iff.1 h;injection h2 with h2 h3
   subst h2;subst h3;exact AW.drawn (iU.mono (fun s' h=>⟨rfl,h⟩) _ _ (Fr hcall ops s s1 h1))
  | seq a b=>
   simp only[Bn] at h;obtain⟨⟨e1,s1⟩,h1,h2⟩:=aW5.1 h;refine AW.seq ((ih a s e1 s1 h1 k).mono ?_);rintro e' s' ⟨rfl,rfl⟩;cases e' with
   | normal=>exact ih b s' e st' h2 k
   | _=>simp only[Option.some.injEq,Prod.mk.injEq] at h2;obtain⟨rfl,rfl⟩:=h2;exact⟨rfl,rfl⟩
  | cond c a b=>
   simp only[Bn] at h;obtain⟨t,h1,h2⟩:=aW5.1 h;refine AW.cond h1 (fun ht=>?_) (fun ht=>?_)
   ·subst ht;exact ih a s e st' h2 k
   ·subst ht;exact ih b s e st' h2 k
  | block id a=>
   simp only[Bn] at h;obtain⟨⟨e1,s1⟩,h1,h2⟩:=Option.map_eq_some_iff.1 h;refine AW.block ((ih a s e1 s1 h1 k).mono ?_);rintro e' s' ⟨rfl,rfl⟩;cases e' with
   | exit id'=>
    simp only at h2 ⊢;split at h2
    ·rename_i heq;injection h2 with h2 h3
     subst h2;subst h3;rw[if_pos heq];exact⟨rfl,rfl⟩
    ·rename_i heq;injection h2 with h2 h3
     subst h2;subst h3;rw[if_neg heq];exact⟨rfl,rfl⟩
   | _=>simp only[Prod.mk.injEq] at h2;obtain⟨rfl,rfl⟩:=h2;exact⟨rfl,rfl⟩
  | loop a=>
   refine AW.loop (α:=Nat) (fun m s'=>m<=n+1/\Bn G T m (.loop a) (aE s')=some (e,st')) id (n+1) ⟨aWj _,h⟩ (fun m s' hm=>?_)
   obtain⟨hm,hI⟩:=hm;cases m with
   | zero=>simp[Bn] at hI
   | succ m=>
    simp only[Bn] at hI;obtain⟨⟨e1,s1⟩,h1,h2⟩:=aW5.1 hI;refine (ihs m (by omega) a s' e1 s1 h1 k).mono ?_;rintro e' s'' ⟨rfl,rfl⟩;cases e' with
    | normal=>exact⟨m,⟨by omega,h2⟩,by simp⟩
    | _=>simp only[Option.some.injEq,Prod.mk.injEq] at h2;obtain⟨rfl,rfl⟩:=h2;exact⟨rfl,rfl⟩
end
end
section
def sV(call:aO)(f:FuncId)(args:List AV):Option AV:=
 (call f args []).bind fun r=>
  let v:=bA (fun id=>decide (0<=id)) ((bR (iL r.1) ⟨[r.1],r.2⟩).sl.getD 0 .junk)
  if cU (fun _=>true) v then some v else none
section
variable {P:Program} {G:aF} {k:Nat}
theorem QC.quiet{call:aO}(hcall:cB P G call){f:FuncId}{args:List AV}{v:AV}(h:sV call f args=some v):QC P G f args v:=by
 unfold sV at h;obtain⟨⟨av,o'⟩,h1,h⟩:=aW5.1 h;simp only at h;split at h
 ·rename_i hkv;injection h with h
  obtain⟨_,g2⟩:=hcall _ _ _ _ _ h1 [] rfl;refine g2.gh (fun a o ⟨h3,h4⟩ _=>?_)
  subst h3;obtain⟨s1,hgh,hn⟩:=eL (k:=0) (iL a) ⟨[a],o⟩;have hn':aE s1=bR (iL a) ⟨[a],o'⟩:=by rw[hn];simp only[aE,h4]
  have hlen:s1.sl.length=1:=by
   have:=congrArg (fun q=>q.sl.length) hn'
   simp only[aE,lE] at this;simpa using this
  obtain⟨y,hy⟩:=List.length_eq_one_iff.1 hlen;have hgd:=Gh.drop (k:=0) (as:=s1) 0 (aWj _);refine⟨v,[], ?_,aWA _,rfl,rfl⟩;have hv:v=bA (fun id=>decide (0<=id)) y:=by
   rw[<- h,<- hn'];simp[aE,hy]
  have:=hgh.trans hgd;rw[hy] at this;simpa[hv] using this
 ·cases h
theorem QC.run{T:Tbl}(hT:TOK P T)(n:Nat){f:FuncId}{args:List AV}{v:AV}(h:sV (I6 T (Bn G T n)) f args=some v):QC P G f args v:=
 QC.quiet (Nl hT (aLr hT n)) h
end
end
section
open Go.ChangeShapes Go.WideShapes Go.ChangeAt Go.RowKit
section
variable {H:Type} {enc:TypeId × Value->H} {P:Program} {G:aF}
def gG(W:World):Fz:=fun b=>W.heap[b]?
theorem D9(W:World):dC (gG W) [] [] W:=⟨fun _ _ h=>h,rfl,fun i _ _ h=>by simp[bX] at h,fun i _ h=>by simp[bX] at h,fun i _ _ h=>by simp at h⟩
theorem sW{W W':World}{k:Nat}{F':Fz}{γ':List OI}(h:gA k (gG W) [] W F' γ' W'):Below W.heap.size W W':=
 ⟨h.os,h.tape,h.output,h.size,fun b hb=>h.far b hb (fun i h=>by simp[bX] at h)⟩
theorem I8{f:FuncId}{avs:List AV}{args:Array Value}{W:World}(hq:QC P G f avs (vb true))(hg:dS (gG W) G)(ha:lC (gG W) [] avs args):
  Calls P f args W fun e W'=>e=.returned (.bool true)/\Below W.heap.size W W':=by
 refine (hq (gG W) [] args W (D9 W) hg ha).mono ?_;rintro e W' ⟨r,av,o,F',γ',rfl,⟨rfl,rfl⟩,_,hE,hI,hR⟩;exact⟨by rw[cM hR],sW hE⟩
theorem uH(hl:laidOutB P=true){W W':World}{sp':Nat->Bool}:∀ {ts:List TypeId} {vs:List Value} {ds:List (DataW H)} {ps:List MemPlace},(∀ t∈ts,P.readableRec t=true/\t < P.types.size)->
  DataW.TrodAll enc P W 0 (fun _=>true) true ts vs ds ps->(∀ x∈ps,W.sameAt W' x)->(∀ x∈ps,sp' x.block=true)->DataW.TrodAll enc P W' 0 sp' true ts vs ds ps
 | [],vs,ds,ps,_,h,_,_=>by
  obtain⟨rfl,rfl,rfl⟩:=trodAll_nil h;exact h
 | t::ts,vs,ds,ps,ht,h,hs,hp=>by
  obtain⟨v,vs',d,ds',p,q,rfl,rfl,rfl,h1,h2⟩:=trodAll_cons h;exact⟨p,q,WideElems.Trod_stays hl (ht t aWy).1 (ht t aWy).2 h1 (fun x hx=>hs x (List.mem_append_left _ hx)) (fun x hx=>hp x (List.mem_append_left _ hx)),
   uH hl (fun t h=>ht t (aWG _ h)) h2 (fun x hx=>hs x (List.mem_append_right _ hx)) (fun x hx=>hp x (List.mem_append_right _ hx)),rfl⟩
theorem I9{f:Func}{s:ChangeSpec}{apart fresh handsOn again:Bool}{W W':World}{args:Array Value}{ds gs:List (DataW H)}{before:List MemPlace}{tb:TypeId}
  (hl:laidOutB P=true) (hts:∀ t∈f.params.toList,P.readableRec t=true/\t < P.types.size) (hvs:s.vars=[]) (hrt:f.resultTypes=#[tb]) (htb:P.underlying tb=some .bool)
  (hW:DataW.Whole enc P f.params.toList s.vars apart W args.toList ds gs before) (hs:s.fn H (ds++gs)={ results:=[.lit (.bool true)],args:=ds }) (hb:Below W.heap.size W W'):s.post enc P f apart fresh handsOn again W args (.bool true) W':=by
 have hlt:=fun p hp=>hW.lt (p:=p) hp
 have hW':=hW;obtain⟨p,q,hA,hV,hps,hz,hn⟩:=hW;rw[hvs] at hV;obtain⟨rfl,rfl⟩:=trodVars_none hV;have hpb:before=p:=by simpa using hps
 subst hpb;have hsame:∀ x∈before,W.sameAt W' x:=fun x hx=>hb.same (hlt x hx)
 have hargs:∀ sp:Nat->Bool,(∀ p∈before,sp p.block=true)->DataW.TrodAll enc P W' 0 sp true f.params.toList args.toList (s.fn H (ds++[])).args before:=fun sp hsp=>by
  rw[hs];exact uH hl hts hA hsame hsp
 have hres:∀ (b:Nat) (sp:Nat->Bool) (hd:Bool),DataW.TrodAll enc P W' b sp hd f.resultTypes.toList ((Value.bool true).resultList f.resultTypes.size) (s.fn H (ds++[])).results []:=fun b sp hd=>by
  rw[hs,hrt];exact trodAll_mk1 (shut_bool htb true)
 have hold:∀ p∈before,(fun b=>decide (b < W.heap.size)) p.block=true:=fun p hp=>by simpa using hlt p hp
 have hvars:∀ sp:Nat->Bool,DataW.TrodVars enc P W' sp s.vars (s.fn H (ds++[])).vars []:=fun sp=>by
  rw[hs,hvs];first | rfl | trivial | exact⟨rfl,rfl⟩
 refine⟨ds,[],before,[],before,[],hW',hres _ _ _,hargs _ hold,hvars _,hb.frame _,fun _=>?_⟩
 refine⟨?_,_,_,([]++before)++[],⟨[]++before,[],trodAll_append (hargs _ (fun _ _=>rfl)) (hres _ _ _),hvars _,rfl, ?_, ?_⟩, ?_⟩
 ·exact ok_one hrt rfl (by simp[Value.okWide,htb,Cell.okWide,Cell.ok])
 ·intro b off hp;have h1:=hz b off (by simpa using hp);have h2:=hsame (.cell b off) (by simpa using hp);have h3:=hb.block b (hlt (.cell b off) (by simpa using hp));simp only[World.frozen?] at h1 ⊢;rw[h3];exact h1
 ·intro ha;simpa using hn ha
 ·intro p hp _;simpa using hp
end
end
section
variable {G:aF}
theorem Ko:∀ (ids:List Nat) (s t:AS),s.sl=t.sl->s.hp=t.hp.map aN->(bR ids s).sl=(bR ids t).sl
 | [],s,t,h,_=>h
 | id::r,s,t,h,hh=>by
  simp only[bR,hh,bH];cases aI t.hp id with
  | arr c z es=>
   simp only[aN];refine Ko r _ _ (by simp only[h]) ?_;simp only[aWM,aWE,aN];congr 1;exact aWC (fun o _=>by simp only[Function.comp_apply,nE,Fn])
  | box cs=>exact Ko r _ _ h hh
  | dead=>exact Ko r _ _ h hh
theorem QC.frz{P:Program}{f:FuncId}{args:List AV}{v:AV}{R:AV->List aD->Prop}(h:AC P G f args [] R)
  (hR:∀ av o,R av o->bA (fun id=>decide (0<=id)) ((bR (iL av) ⟨[av],o⟩).sl.getD 0 .junk)=v):QC P G f args v:=by
 refine h.gh (fun a o ho _=>?_)
 obtain⟨s1,hgh,hn⟩:=eL (k:=0) (iL a) ⟨[a],o⟩;have hnn:(bR (iL a) (aE ⟨[a],o⟩)).sl=(bR (iL a) ⟨[a],o⟩).sl:=Ko (iL a) _ _ rfl rfl;have hsl:s1.sl=(bR (iL a) ⟨[a],o⟩).sl:=by rw[<- hnn,<- hn];rfl
 have hlen:s1.sl.length=1:=by rw[hsl,lE];rfl
 obtain⟨y,hy⟩:=List.length_eq_one_iff.1 hlen;have hgd:=Gh.drop (k:=0) (as:=s1) 0 (aWj _);refine⟨v,[], ?_,aWA _,rfl,rfl⟩;have hv:v=bA (fun id=>decide (0<=id)) y:=by rw[<- hR a o ho,<- hsl,hy];rfl
 have:=hgh.trans hgd;rw[hy] at this;simpa[hv] using this
theorem QC.drop{P:Program}{f:FuncId}{args:List AV}{v:AV}(h:AC P G f args [] fun av _=>av=v)(hk:bA (fun id=>decide (0<=id)) v=v):QC P G f args v:=by
 refine h.gh (fun a o ho _=>?_)
 subst ho;refine⟨a,[], ?_,aWA _,rfl,rfl⟩;have:=Gh.drop (k:=0) (as:=⟨[a],o⟩) 0 (aWj _);simp only[aWp,aWw,hk,aXq] at this;exact this
theorem AC.drop{P:Program}{f:FuncId}{args:List AV}{objs:List aD}{Q:AV->List aD->Prop}
  (h:AC P G f args objs fun av o=>Q (bA (fun id=>decide (objs.length<=id)) av) ((o.take objs.length).map (cI fun id=>decide (objs.length<=id)))):AC P G f args objs Q:=by
 refine h.gh (fun a o ho hl=>⟨_,_,(show Gh objs.length ⟨[a],o⟩ _ from Gh.drop objs.length (aWj _)),by simp only[aWf,aWm];omega,ho⟩)
end
section
section
variable {P:Program} {G:aF} {k:Nat} {st st':AS} {R:AS->Prop}
structure Yx (o:aD):Prop where
 ren:∀ ρ,dP ρ o=o
 kill:∀ p,cI p o=o
theorem Yx.arr(cap size:Nat)(es:List (List DC)):Yx (.arr cap size es):=⟨fun _=>rfl,fun _=>rfl⟩
theorem Yx.dcs(ds:List DC):Yx (.box (lQ ds)):=by
 constructor<;>intro p<;>simp only[dP,cI,lQ,aWE]<;>congr 1
theorem R3{dst:Option Nat}{av:AV}{o:aD}{j:Nat}(h:gQ (aI st.hp j)=true):
  gR [j] st dst av [o]=⟨aP st.sl dst (dB (cG [j] st.hp.length) av),st.hp.set j (dP (cG [j] st.hp.length) o)⟩:=by
 have hp:∀ id,(([j]:List Nat).contains id&&!gQ (aI st.hp id))=false:=by
  intro id;by_cases h0:id=j
  ·subst h0;simp[h]
  ·simp[h0]
 simp only[gR,pD hp,pE hp,jT,aWp,aWw,aXJ,List.drop_nil,aXr,aWh,aWk]
theorem WR.callB{o:aM}{rest:List aM}{f:FuncId}{args:List aH}{cargs:List AV}{j:Nat}{o0 o1:aD}{r r':AV}(hgd:iG G st o.guard)(ha:o.ai=.call f args)
  (hac:AC P G f cargs [o0] fun av os=>av=r/\os=[o1]) (hf0:Yx o0) (hf1:Yx o1) (hj:aI st.hp j=o0) (hb:gQ o0=true)
  (hargs:args.map (aJ G st.sl)=cargs.map (dB (cG [j] st.hp.length))) (hr:dB (cG [j] st.hp.length) r=r')
  (hs:(⟨aP st.sl o.dst r',st.hp.set j o1⟩:AS)=st') (h:WR P G k rest R st'):WR P G k (o::rest) R st:=by
 have hnd:o0≠.dead:=by intro e;rw[e] at hb;cases hb
 refine WR.call (J:=[j]) hgd ha hac (by simp) rfl (fun t i x ht hx=>?_) hargs (fun av os hq=>?_)
 ·cases t with
  | zero=>simp at ht hx;subst ht;subst hx;rw[hf0.ren];exact dU hj hnd
  | succ t=>simp at ht
 ·obtain⟨rfl,rfl⟩:=hq;rw[R3 (by rw[hj];exact hb),hf1.ren,hr,hs];exact h
theorem Gh.nilB{id j:Nat}{cs:List aR}(size:Nat)(hb:aI st.hp id=.box cs)(hj:cs[j]?=some (cZ (.slice none 0 0))):Gh k st ⟨st.sl,st.hp.set id (.box (cs.set j (.bld st.hp.length 0)))++[.arr 0 size []]⟩:=by
 intro F γ a w hi hs hk;have hho:=dU hb (by simp);have hlt:id < st.hp.length:=aG hho;obtain⟨hi2,he⟩:=dC.nilp (k:=k) size hi;have hext:∀ (i:Nat) (o:OI),γ[i]?=some o->(γ++[OI.arr none 0])[i]?=some o:=fun _ _ h=>bN h
 refine⟨F,γ++[OI.arr none 0],he,⟨hi2.fz,by simp[hi.len],hi2.nd,hi2.disj,fun i o x h1 h2=>?_⟩,hs.ext (fun _ _ h=>h) hext,by simp;omega⟩
 by_cases hii:id=i
 ·subst hii;rw[aWx (by simpa using hlt),aWI hlt] at h1;injection h1 with h1;subst h1
  have hok:=hi2.ok id _ x (by rw[aWx hlt];exact hho) h2;cases x with
  | box b=>
   obtain⟨vs,T,hh,hsz,hr⟩:=hok;refine⟨vs,T,hh,by simpa using hsz,fun m c v hc hv=>?_⟩
   by_cases hm:j=m
   ·subst hm;rw[aWI (aG hj)] at hc;injection hc with hc;subst hc
    have h3:=hr j _ v hj hv;cases h3 with | dc _ _ h3=>
    cases h3;exact .bldN _ 0 (by rw[<- hi.len];simp)
   ·rw[aWz hm] at hc;exact hr m c v hc hv
  | arr b c=>exact hok.elim
  | dead=>exact hok.elim
 ·refine hi2.ok i o x ?_ h2;by_cases hl:i < st.hp.length
  ·rw[aWx (by simpa using hl),aWz hii] at h1;rw[aWx hl];exact h1
  ·rw[aWB (by simpa using Nat.le_of_not_lt hl)] at h1;rw[aWB (Nat.le_of_not_lt hl)];simpa using h1
end
end
section
def stX(G:aF)(st:AS)(size:Nat)(x v:aH):Option AS:=
 match aJ G st.sl x with
 | .one (.ptr id off)=>
  match cellsOf (aJ G st.sl v) with
  | some vs=>
   match aI st.hp id with
   | .box cs=>if vs.length=size/\off+size<=cs.length then some ⟨st.sl,st.hp.set id (.box (cO cs off vs))⟩ else none
   | _=>none
  | none=>none
 | .one (.ept id i s off)=>
  match (cellsOf (aJ G st.sl v)).bind dcs with
  | some ds=>
   match aI st.hp id with
   | .arr cap s' es=>
    match es[i]? with
    | some e=>if s=s'/\ds.length=size/\off+size<=e.length then some ⟨st.sl,st.hp.set id (.arr cap s' (es.set i (e.take off++ds++e.drop (off+size))))⟩ else none
    | none=>none
   | _=>none
  | none=>none
 | _=>none
def zs(z:List Value):Nat->List aR
 | 0=>[]
 | n+1=>zs z n++[cZ (z.getD (n % z.length) undef)]
def eO(size:Nat):Nat->List DC->List (List DC)
 | 0,_=>[]
 | n+1,ds=>ds.take size::eO size n (ds.drop size)
def bsX(G:aF)(st:AS)(dst:Option Nat)(size len:Nat)(z:List Value)(ps:List (Nat × aH)):Option AS:=
 match len with
 | 0=>if ps.isEmpty then some ⟨aP st.sl dst (.one (.bld st.hp.length 0)),st.hp++[.arr 0 size []]⟩ else none
 | len+1=>(gD (zs z ((len+1) * size)) (ps.map fun (j,x)=>(j * size,size,aJ G st.sl x))).bind fun cs=>(dcs cs).bind fun ds=>
   if ds.length=(len+1) * size then some ⟨aP st.sl dst (vl (eO size (len+1) ds)),st.hp⟩ else none
def exX(G:aF)(st:AS)(o:aM):Option AS:=
 match o.ai with
 | .alloc z=>some ⟨aP st.sl o.dst (.one (.ptr st.hp.length 0)),st.hp++[.box (z.map cZ)]⟩
 | .box x=>(cellsOf (aJ G st.sl x)).map fun cs=>⟨aP st.sl o.dst (.one (.ptr st.hp.length 0)),st.hp++[.box cs]⟩
 | .store size x v=>match o.dst with | none=>stX G st size x v | some _=>none
 | .bslc size len z ps=>bsX G st o.dst size len z ps
 | ai=>(cW G st ai).map fun v=>⟨aP st.sl o.dst v,st.hp⟩
def fF(st:AS)(d:Option Nat):Option AV->Option AS
 | some v=>some ⟨aP st.sl d v,st.hp⟩
 | none=>none
def aLs(st:AS)(d:Option Nat):Option (List aR)->Option AS
 | some cs=>some ⟨aP st.sl d (.one (.ptr st.hp.length 0)),st.hp++[.box cs]⟩
 | none=>none
def stD(G:aF)(st:AS)(size:Nat)(x v:aH):Option Nat->Option AS
 | none=>stX G st size x v
 | some _=>none
def aLt(n size:Nat)(x:AV):Option Int->Option AV
 | some i=>aBc n size x i
 | none=>none
def aGq(hp:List aD)(size:Nat)(x:AV):Option Int->Option AV
 | some i=>uZ hp size x i
 | none=>none
def aGr(x:AV):Option Int->Option AV
 | some i=>E1 x i
 | none=>none
def aLu(n:Nat)(x:AV):Option Int->Option AV
 | some i=>Rj n x i
 | none=>none
def U6(k:IntKind):Option Int->Option AV
 | some n=>some (dD (.int k (k.wrap n)))
 | none=>none
def U7:Option ByteArray->Option AV
 | some s=>some (dD (.int .i64 s.size))
 | none=>none
def aGs:Option (List aR)->Option AV
 | some cs=>some (.agg cs)
 | none=>none
def Yy(G:aF)(sl:List AV)(hp:List aD):AI->Option AV
 | .mov x=>some (aJ G sl x)
 | .pick c a b=>yY (aJ G sl c) (aJ G sl a) (aJ G sl b)
 | .load g s x=>kW hp g s (aJ G sl x)
 | .bin op x y=>eC op (aJ G sl x) (aJ G sl y)
 | .un op x=>unV op (aJ G sl x)
 | .conv k x=>U6 k (bE (aJ G sl x))
 | .addo o x=>Cr o (aJ G sl x)
 | .ixA n s x i=>aLt n s (aJ G sl x) (bE (aJ G sl i))
 | .ixL s x i=>aGq hp s (aJ G sl x) (bE (aJ G sl i))
 | .ixS x i=>aGr (aJ G sl x) (bE (aJ G sl i))
 | .ixV n x i=>aLu n (aJ G sl x) (bE (aJ G sl i))
 | .s2p n x=>X4 n (aJ G sl x)
 | .build z ps=>aGs (gD (z.map cZ) (ps.map fun (o,s,x)=>(o,s,aJ G sl x)))
 | .ext x n=>Ri (aJ G sl x) n
 | .lenS x=>U7 (dA (aJ G sl x))
 | .lenL x=>qR (aJ G sl x)
 | ai=>cW G ⟨sl,hp⟩ ai
def Ea(G:aF)(st:AS)(d:Option Nat):AI->Option AS
 | .alloc z=>some ⟨aP st.sl d (.one (.ptr st.hp.length 0)),st.hp++[.box (z.map cZ)]⟩
 | .box x=>aLs st d (cellsOf (aJ G st.sl x))
 | .store size x v=>stD G st size x v d
 | .bslc size len z ps=>bsX G st d size len z ps
 | ai=>fF st d (Yy G st.sl st.hp ai)
theorem aB0(G:aF)(sl:List AV)(hp:List aD)(ai:AI):Yy G sl hp ai=cW G ⟨sl,hp⟩ ai:=by
 cases ai<;>first | rfl | skip
 case conv k x=>simp only[Yy,cW];cases bE (aJ G sl x)<;>rfl
 case ixA n s x i=>simp only[Yy,cW];cases bE (aJ G sl i)<;>rfl
 case ixL s x i=>simp only[Yy,cW];cases bE (aJ G sl i)<;>rfl
 case ixS x i=>simp only[Yy,cW];cases bE (aJ G sl i)<;>rfl
 case ixV n x i=>simp only[Yy,cW];cases bE (aJ G sl i)<;>rfl
 case build z ps=>simp only[Yy,cW];cases gD (z.map cZ) (ps.map fun (o,s,x)=>(o,s,aJ G sl x))<;>rfl
 case lenS x=>simp only[Yy,cW];cases dA (aJ G sl x)<;>rfl
theorem uQ(G:aF)(st:AS)(o:aM):Ea G st o.dst o.ai=exX G st o:=by
 obtain⟨d,ai,g⟩:=o;have key:fF st d (Yy G st.sl st.hp ai)=(cW G st ai).map fun v=>⟨aP st.sl d v,st.hp⟩:=by
  rw[aB0];cases cW G st ai<;>rfl
 cases ai<;>first | rfl | exact key | skip
 case box x=>simp only[Ea,exX];cases cellsOf (aJ G st.sl x)<;>rfl
def AI.isCall:AI->Bool
 | .call _ _=>true
 | .callv _ _=>true
 | .app _ _ _ _ _=>true
 | .apps _ _=>true
 | .mk _ _ _ _ _=>true
 | .clr _ _ _=>true
 | .cpys _ _=>true
 | .cvsb _=>true
 | _=>false
def Yz(G:aF):List aM->AS->Option (List aM × AS)
 | [],st=>some ([],st)
 | o::l,st=>if o.guard=none/\o.ai.isCall=false then (exX G st o).bind fun st'=>Yz G l st' else some (o::l,st)
def unG:Option (Nat × Bool)->AI->Bool
 | none,ai=>!ai.isCall
 | some _,_=>false
def Y0(G:aF):List aM->Option AS->Option (List aM × AS)
 | _,none=>none
 | [],some st=>some ([],st)
 | o::l,some st=>bif unG o.guard o.ai then Y0 G l (Ea G st o.dst o.ai) else some (o::l,st)
theorem Y1(G:aF)(l:List aM):Y0 G l none=none:=by cases l<;>rfl
theorem U8(G:aF):∀ (l:List aM) (st:AS),Y0 G l (some st)=Yz G l st
 | [],st=>rfl
 | o::l,st=>by
  simp only[Y0,Yz,uQ];obtain⟨d,ai,g⟩:=o;cases g with
  | some g=>simp[unG]
  | none=>
   cases hc:ai.isCall with
   | true=>simp[unG,hc]
   | false=>
    simp only[unG,hc,aWO,cond_true,true_and,if_true];cases exX G st ⟨d,ai,none⟩ with
    | none=>simp[Y1]
    | some st'=>simp[U8 G l st']
def Ja(G:aF)(g:Nat)(b:Bool):List aM->AS->Option (List aM × AS)
 | [],st=>some ([],st)
 | o::l,st=>if o.guard=some (g,b)/\o.ai.isCall=false/\o.dst≠some g then (exX G st o).bind fun st'=>Ja G g b l st' else some (o::l,st)
theorem lL:∀ {cs:List aR} {ds:List DC},dcs cs=some ds->cs=lQ ds
 | [],ds,h=>by simp[dcs] at h;subst h;rfl
 | .dc d::cs,ds,h=>by
  simp only[dcs] at h;cases hc:dcs cs with
  | none=>simp[hc] at h
  | some ds'=>
   simp only[hc,aWi,Option.some.injEq] at h;subst h;rw[lL hc];rfl
 | .ptr _ _::cs,ds,h=>by simp[dcs] at h
 | .bld _ _::cs,ds,h=>by simp[dcs] at h
 | .ept _ _ _ _::cs,ds,h=>by simp[dcs] at h
 | .bls _ _ _ _::cs,ds,h=>by simp[dcs] at h
 | .ref _::cs,ds,h=>by simp[dcs] at h
 | .mpc _::cs,ds,h=>by simp[dcs] at h
 | .fn _ _::cs,ds,h=>by simp[dcs] at h
 | .junk::cs,ds,h=>by simp[dcs] at h
theorem Jb(z:List Value):∀ n,zs z n=(List.range n).map fun i=>cZ (z.getD (i % z.length) undef)
 | 0=>rfl
 | n+1=>by rw[zs,Jb z n,List.range_succ,aWW];rfl
theorem jW(size:Nat):∀ (n:Nat) (ds:List DC),ds.length=n * size->(eO size n ds).flatten=ds/\(∀ e∈eO size n ds,e.length=size)/\(eO size n ds).length=n
 | 0,ds,h=>by simp at h;subst h;simp[eO]
 | n+1,ds,h=>by
  have hh:ds.length=n * size+size:=by rw[h,aWQ,Nat.one_mul]
  obtain⟨h1,h2,h3⟩:=jW size n (ds.drop size) (by simp;omega);refine⟨by simp[eO,h1],fun e he=>?_,by simp[eO,h3]⟩
  simp only[eO,aXn] at he;rcases he with rfl | he
  ·simp;omega
  ·exact h2 e he
section
variable {P:Program} {G:aF} {k:Nat} {st st':AS} {R:AS->Prop}
theorem WR.bsX{o:aM}{rest:List aM}{size len:Nat}{z:List Value}{ps:List (Nat × aH)}(hgd:iG G st o.guard)(ha:o.ai=.bslc size len z ps)
  (h:Go.Proofs.YthepfneloomngaaGreatDoor.bsX G st o.dst size len z ps=some st') (hw:WR P G k rest R st'):WR P G k (o::rest) R st:=by
 unfold Go.Proofs.YthepfneloomngaaGreatDoor.bsX at h;cases len with
 | zero=>
  simp only at h;split at h
  ·rename_i he;injection h with h;subst h
   have hps:ps=[]:=by cases ps with | nil=>rfl | cons=>simp at he
   subst hps;exact WR.bslc (es:=[]) hgd ha (by simp[gD,lQ]) (by simp) rfl hw
  ·cases h
 | succ len=>
  simp only at h;cases hf:gD (zs z ((len+1) * size)) (ps.map fun (j,x)=>(j * size,size,aJ G st.sl x)) with
  | none=>simp[hf] at h
  | some cs=>
   simp only[hf,aWr] at h;cases hd:dcs cs with
   | none=>simp[hd] at h
   | some ds=>
    simp only[hd,aWr] at h;split at h
    ·rename_i hl;injection h with h;subst h
     obtain⟨h1,h2,h3⟩:=jW size (len+1) ds hl;rw[Jb] at hf;exact WR.bslcF (es:=eO size (len+1) ds) hgd ha (by rw[h1,<- lL hd];exact hf) h2 h3 hw
    ·cases h
theorem WR.stX{o:aM}{rest:List aM}{size:Nat}{x v:aH}(hgd:iG G st o.guard)(ha:o.ai=.store size x v)(hd0:o.dst=none)
  (h:Go.Proofs.YthepfneloomngaaGreatDoor.stX G st size x v=some st') (hw:WR P G k rest R st'):WR P G k (o::rest) R st:=by
 unfold Go.Proofs.YthepfneloomngaaGreatDoor.stX at h;split at h
 ·rename_i id off hx;split at h
  ·rename_i vs hv;split at h
   ·rename_i cs hb;split at h
    ·rename_i hc;injection h with h;subst h
     exact WR.store hgd ha hd0 hx hv hb hc.1 hc.2 hw
    ·cases h
   ·cases h
  ·cases h
 ·rename_i id i s off hx;split at h
  ·rename_i ds hv;split at h
   ·rename_i cap s' es hb;split at h
    ·rename_i e he;split at h
     ·rename_i hc;injection h with h;subst h
      obtain⟨rfl,hc1,hc2⟩:=hc;obtain⟨cs,hcs,hdc⟩:=aW5.1 hv;exact WR.storeE hgd ha hd0 hx (by rw[hcs,lL hdc]) hb he hc1 hc2 rfl hw
     ·cases h
    ·cases h
   ·cases h
  ·cases h
 ·cases h
theorem WR.exX{o:aM}{rest:List aM}(hgd:iG G st o.guard)(hc:o.ai.isCall=false)(h:Go.Proofs.YthepfneloomngaaGreatDoor.exX G st o=some st')(hw:WR P G k rest R st'):WR P G k (o::rest) R st:=by
 obtain⟨dst,ai,gd⟩:=o;cases ai<;>first | (simp[AI.isCall] at hc;done) | skip
 case alloc z=>simp only[Go.Proofs.YthepfneloomngaaGreatDoor.exX,Option.some.injEq] at h;subst h;exact WR.alloc hgd rfl hw
 case box x=>
  simp only[Go.Proofs.YthepfneloomngaaGreatDoor.exX] at h;obtain⟨cs,h1,rfl⟩:=Option.map_eq_some_iff.1 h;exact WR.box hgd rfl h1 hw
 case store size x v=>
  simp only[Go.Proofs.YthepfneloomngaaGreatDoor.exX] at h;cases dst with
  | none=>exact WR.stX hgd rfl rfl h hw
  | some d=>cases h
 case bslc size len z ps=>exact WR.bsX hgd rfl h hw
 all_goals
  simp only[Go.Proofs.YthepfneloomngaaGreatDoor.exX] at h;obtain⟨v,h1,rfl⟩:=Option.map_eq_some_iff.1 h;exact WR.pur hgd h1 hw
theorem aGt{o:aM}{g:Nat}(hc:o.ai.isCall=false)(hd:o.dst≠some g)(h:exX G st o=some st'):aJ G st'.sl (.t g)=aJ G st.sl (.t g):=by
 obtain⟨dst,ai,gd⟩:=o;cases ai<;>first | (simp[AI.isCall] at hc;done) | skip
 case alloc z=>simp only[exX,Option.some.injEq] at h;subst h;exact mG hd
 case box x=>
  simp only[exX] at h;obtain⟨cs,h1,rfl⟩:=Option.map_eq_some_iff.1 h;exact mG hd
 case store size x v=>
  simp only[exX] at h;cases dst with
  | some d=>cases h
  | none=>
   simp only[stX] at h
   repeat' (split at h)
   all_goals first | (cases h;done) | (injection h with h;subst h;rfl)
 case bslc size len z ps=>
  simp only[exX,bsX] at h;split at h
  ·split at h
   ·injection h with h;subst h;exact mG hd
   ·cases h
  ·obtain⟨cs,_,h⟩:=aW5.1 h;obtain⟨ds,_,h⟩:=aW5.1 h;split at h
   ·injection h with h;subst h;exact mG hd
   ·cases h
 all_goals
  simp only[exX] at h;obtain⟨v,h1,rfl⟩:=Option.map_eq_some_iff.1 h;exact mG hd
theorem WR.rX:∀ (ops:List aM) (st:AS) (rest:List aM) (st':AS),Yz G ops st=some (rest,st')->WR P G k rest R st'->WR P G k ops R st
 | [],st,rest,st',h,hw=>by simp[Yz] at h;obtain⟨rfl,rfl⟩:=h;exact hw
 | o::ops,st,rest,st',h,hw=>by
  simp only[Yz] at h;split at h
  ·rename_i hc;obtain⟨s1,h1,h2⟩:=aW5.1 h;exact WR.exX (by rw[hc.1];trivial) hc.2 h1 (WR.rX ops s1 rest st' h2 hw)
  ·injection h with h;injection h with h1 h2;subst h1;subst h2;exact hw
theorem WR.rGX{g:Nat}{b:Bool}:∀ (ops:List aM) (st:AS) (rest:List aM) (st':AS),cF (aJ G st.sl (.t g))=some b->Ja G g b ops st=some (rest,st')->WR P G k rest R st'->WR P G k ops R st
 | [],st,rest,st',hb,h,hw=>by simp[Ja] at h;obtain⟨rfl,rfl⟩:=h;exact hw
 | o::ops,st,rest,st',hb,h,hw=>by
  simp only[Ja] at h;split at h
  ·rename_i hc;obtain⟨s1,h1,h2⟩:=aW5.1 h;exact WR.exX (by rw[hc.1];exact hb) hc.2.1 h1 (WR.rGX ops s1 rest st' (by rw[aGt hc.2.1 hc.2.2 h1];exact hb) h2 hw)
  ·injection h with h;injection h with h1 h2;subst h1;subst h2;exact hw
def nq:Nat->Nat->Bool
 | 0,0=>true
 | 0,_+1=>false
 | _+1,0=>false
 | n+1,m+1=>nq n m
theorem iA:∀ a b:Nat,nq a b=(a==b)
 | 0,0=>rfl
 | 0,b+1=>by simp[nq]
 | a+1,0=>by simp[nq]
 | a+1,b+1=>by rw[nq,iA a b,aXu];simp
def R4:Option Nat->Nat->Bool
 | none,_=>true
 | some d,g=>!(nq d g)
def eqb:Bool->Bool->Bool
 | true,true=>true
 | false,false=>true
 | _,_=>false
theorem Kp(d:Option Nat)(g:Nat):R4 d g=decide (d≠some g):=by
 cases d with
 | none=>simp[R4]
 | some d=>by_cases h:d=g<;>simp[R4,iA,h]
theorem Bp(a b:Bool):eqb a b=(a==b):=by cases a<;>cases b<;>rfl
def guG(g:Nat)(b:Bool):Option (Nat × Bool)->Option Nat->AI->Bool
 | some (g',b'),d,ai=>nq g g'&&(eqb b b'&&!ai.isCall&&R4 d g)
 | none,_,_=>false
def Jc(G:aF)(g:Nat)(b:Bool):List aM->Option AS->Option (List aM × AS)
 | _,none=>none
 | [],some st=>some ([],st)
 | o::l,some st=>bif guG g b o.guard o.dst o.ai then Jc G g b l (Ea G st o.dst o.ai) else some (o::l,st)
theorem R5(G:aF)(g:Nat)(b:Bool)(l:List aM):Jc G g b l none=none:=by cases l<;>rfl
theorem Nn(G:aF)(g:Nat)(b:Bool):∀ (l:List aM) (st:AS),Jc G g b l (some st)=Ja G g b l st
 | [],st=>rfl
 | o::l,st=>by
  obtain⟨d,ai,gd⟩:=o;simp only[Jc,Ja];have e:Ea G st d ai=exX G st ⟨d,ai,gd⟩:=uQ G st ⟨d,ai,gd⟩;rw[e];have hg:guG g b gd d ai=decide (gd=some (g,b)/\ai.isCall=false/\d≠some g):=by
   cases gd with
   | none=>simp[guG]
   | some q=>
    obtain⟨g',b'⟩:=q;simp only[guG,Kp,Bp,iA];rw[aXu];simp only[aWs,beq_iff_eq,aXg,decide_eq_true_eq,Option.some.injEq,Prod.mk.injEq];constructor
    ·rintro⟨rfl,⟨rfl,h1⟩,h2⟩;exact⟨⟨rfl,rfl⟩,h1,h2⟩
    ·rintro⟨⟨rfl,rfl⟩,h1,h2⟩;exact⟨rfl,⟨rfl,h1⟩,h2⟩
  rw[hg];by_cases hc:gd=some (g,b)/\ai.isCall=false/\d≠some g
  ·simp only[decide_eq_true hc,cond_true,if_pos hc];cases exX G st ⟨d,ai,gd⟩ with
   | none=>simp[R5]
   | some st'=>simp[Nn G g b l st']
  ·simp only[decide_eq_false hc,cond_false,if_neg hc]
theorem WR.x1{o:aM}{ops rest:List aM}(_:o.guard=none)(_:o.ai.isCall=false)(h:Y0 G (o::ops) (some st)=some (rest,st'))(hw:WR P G k rest R st'):WR P G k (o::ops) R st:=WR.rX _ _ _ _ (by rw[<- U8];exact h) hw
theorem WR.xg{o:aM}{ops rest:List aM}{g:Nat}{b:Bool}(_:o.guard=some (g,b))(_:o.ai.isCall=false)(hb:cF (aJ G st.sl (.t g))=some b)(h:Jc G g b (o::ops) (some st)=some (rest,st'))(hw:WR P G k rest R st'):WR P G k (o::ops) R st:=WR.rGX _ _ _ _ hb (by rw[<- Nn];exact h) hw
def aLv:AI->Bool
 | .alloc _=>true
 | .box _=>true
 | .store _ _ _=>true
 | _=>false
def R6:Bool->AI->Bool
 | true,ai=>rO ai
 | false,ai=>aLv ai
def Jd(G:aF):List (Bool × aM)->AS->Option (List (Bool × aM) × AS)
 | [],st=>some ([],st)
 | (b,o)::l,st=>if o.guard=none/\R6 b o.ai=true then (exX G st o).bind fun st'=>Jd G l st' else some ((b,o)::l,st)
def uI(G:aF):List (Bool × aM)->Option AS->Option (List (Bool × aM) × AS)
 | _,none=>none
 | [],some st=>some ([],st)
 | o::l,some st=>bif unGD o.2.guard o.1 o.2.ai then uI G l (Ea G st o.2.dst o.2.ai) else some (o::l,st)
where unGD:Option (Nat × Bool)->Bool->AI->Bool
 | none,b,ai=>R6 b ai
 | some _,_,_=>false
theorem R7(G:aF)(l:List (Bool × aM)):uI G l none=none:=by cases l<;>rfl
theorem Np(G:aF):∀ (l:List (Bool × aM)) (st:AS),uI G l (some st)=Jd G l st
 | [],st=>rfl
 | o::l,st=>by
  obtain⟨b,d,ai,g⟩:=o;simp only[uI,Jd];have e:Ea G st d ai=exX G st ⟨d,ai,g⟩:=uQ G st ⟨d,ai,g⟩;rw[e];cases g with
  | some g=>simp[uI.unGD]
  | none=>
   cases hc:R6 b ai with
   | false=>simp[uI.unGD,hc]
   | true=>
    simp only[uI.unGD,hc,cond_true,true_and,if_true];cases exX G st ⟨d,ai,none⟩ with
    | none=>simp[R7]
    | some st'=>simp[Np G l st']
theorem Nq{o:aM}(h:o.ai.isPure=true):exX G st o=(cW G st o.ai).map fun v=>⟨aP st.sl o.dst v,st.hp⟩:=by
 obtain⟨dst,ai,gd⟩:=o;cases ai<;>first | (simp[AI.isPure] at h;done) | rfl
theorem WD.rX:∀ (ops:List (Bool × aM)) (st:AS) (rest:List (Bool × aM)) (st':AS),Jd G ops st=some (rest,st')->iU P G k R rest st'->iU P G k R ops st
 | [],st,rest,st',h,hw=>by simp[Jd] at h;obtain⟨rfl,rfl⟩:=h;exact hw
 | (b,o)::ops,st,rest,st',h,hw=>by
  simp only[Jd] at h;split at h
  ·rename_i hc;obtain⟨s1,h1,h2⟩:=aW5.1 h;have hr:=WD.rX ops s1 rest st' h2 hw;obtain⟨hg,hp⟩:=hc;cases b with
   | true=>
    simp only[R6] at hp;rw[Nq (Fi hp)] at h1;obtain⟨v,hv,rfl⟩:=Option.map_eq_some_iff.1 h1;exact⟨v,.inr ⟨by rw[hg];trivial,.inl (by rw[Bl hp];exact hv)⟩,hr⟩
   | false=>
    simp only[R6] at hp;obtain⟨dst,ai,gd⟩:=o;simp only at hg;subst hg;cases ai<;>first | (simp[aLv] at hp;done) | skip
    case alloc z=>simp only[exX,Option.some.injEq] at h1;subst h1;exact WD.allocE trivial rfl rfl hr
    case box x=>
     simp only[exX] at h1;obtain⟨cs,h3,rfl⟩:=Option.map_eq_some_iff.1 h1;exact WD.boxE trivial rfl h3 rfl hr
    case store size x v=>
     simp only[exX] at h1;cases dst with
     | some d=>cases h1
     | none=>
      simp only[stX] at h1;split at h1
      ·rename_i id off hx;split at h1
       ·rename_i vs hv;split at h1
        ·rename_i cs hb;split at h1
         ·rename_i hc;injection h1 with h1
          exact WD.storeX trivial rfl rfl hx hv hb hc.1 hc.2 h1 hr
         ·cases h1
        ·cases h1
       ·cases h1
      ·rename_i id i s off hx;split at h1
       ·rename_i ds hv;split at h1
        ·rename_i cap s' es hb;split at h1
         ·rename_i e he;split at h1
          ·rename_i hc;injection h1 with h1;subst h1
           obtain⟨rfl,hc1,hc2⟩:=hc;obtain⟨cs,hcs,hdc⟩:=aW5.1 hv;exact .inr ⟨trivial,rfl,.inr ⟨id,i,s,off,cap,es,e,ds,hx,by rw[hcs,lL hdc],hb,he,hc1,hc2,hr⟩⟩
          ·cases h1
         ·cases h1
        ·cases h1
       ·cases h1
      ·cases h1
  ·injection h with h;injection h with h1 h2;subst h1;subst h2;exact hw
theorem WD.x1{b:Bool}{o:aM}{ops rest:List (Bool × aM)}(_:o.guard=none)(_:R6 b o.ai=true)(h:uI G ((b,o)::ops) (some st)=some (rest,st'))(hw:iU P G k R rest st'):iU P G k R ((b,o)::ops) st:=WD.rX _ _ _ _ (by rw[<- Np];exact h) hw
def guD(g:Nat)(c:Bool):Bool->Option (Nat × Bool)->Option Nat->AI->Bool
 | true,some (g',c'),d,ai=>nq g g'&&(eqb c c'&&rO ai&&R4 d g)
 | _,_,_,_=>false
def Je(G:aF)(g:Nat)(c:Bool):List (Bool × aM)->Option AS->Option (List (Bool × aM) × AS)
 | _,none=>none
 | [],some st=>some ([],st)
 | o::l,some st=>bif guD g c o.1 o.2.guard o.2.dst o.2.ai then Je G g c l (Ea G st o.2.dst o.2.ai) else some (o::l,st)
theorem R8(G:aF)(g:Nat)(c:Bool)(l:List (Bool × aM)):Je G g c l none=none:=by cases l<;>rfl
theorem Nr(G:aF)(g:Nat)(c:Bool):∀ (l:List (Bool × aM)) (st:AS),Je G g c l (some st)=I4 G g c l st
 | [],st=>rfl
 | o::l,st=>by
  obtain⟨b,d,ai,gd⟩:=o;simp only[Je,I4];have hg:guD g c b gd d ai=decide (b=true/\gd=some (g,c)/\rO ai=true/\d≠some g):=by
   cases gd with
   | none=>cases b<;>simp[guD]
   | some q=>
    obtain⟨g',c'⟩:=q;cases b with
    | false=>simp[guD]
    | true=>
     simp only[guD,Kp,Bp,iA];rw[aXu];simp only[aWs,beq_iff_eq,decide_eq_true_eq,Option.some.injEq,Prod.mk.injEq,true_and];constructor
     ·rintro⟨rfl,⟨rfl,h1⟩,h2⟩;exact⟨⟨rfl,rfl⟩,h1,h2⟩
     ·rintro⟨⟨rfl,rfl⟩,h1,h2⟩;exact⟨rfl,⟨rfl,h1⟩,h2⟩
  rw[hg];by_cases hc:b=true/\gd=some (g,c)/\rO ai=true/\d≠some g
  ·simp only[decide_eq_true hc,cond_true,if_pos hc];have e:Ea G st d ai=exX G st ⟨d,ai,gd⟩:=uQ G st ⟨d,ai,gd⟩;rw[e,Nq (o:=⟨d,ai,gd⟩) (Fi hc.2.2.1)];cases cW G st ai with
   | none=>simp[R8]
   | some v=>simp[Nr G g c l]
  ·simp only[decide_eq_false hc,cond_false,if_neg hc]
theorem WD.xg{b:Bool}{o:aM}{ops rest:List (Bool × aM)}{g:Nat}{c:Bool}(_:o.guard=some (g,c))(_:o.ai.isPure=true)(hb:cF (aJ G st.sl (.t g))=some c)(h:Je G g c ((b,o)::ops) (some st)=some (rest,st'))(hw:iU P G k R rest st'):iU P G k R ((b,o)::ops) st:=WD.runG _ _ _ _ hb (by rw[<- Nr];exact h) hw
def skO(g:Nat)(c:Bool):Option (Nat × Bool)->Option Nat->Bool
 | some (g',c'),d=>nq g g'&&(eqb c c'&&R4 d g)
 | none,_=>false
theorem aB1(g:Nat)(c:Bool)(gd:Option (Nat × Bool))(d:Option Nat):skO g c gd d=decide (gd=some (g,c)/\d≠some g):=by
 cases gd with
 | none=>simp[skO]
 | some q=>
  obtain⟨g',c'⟩:=q;simp only[skO,Kp,Bp,iA];rw[aXu];simp only[aWs,beq_iff_eq,decide_eq_true_eq,Option.some.injEq,Prod.mk.injEq];constructor
  ·rintro⟨rfl,rfl,h2⟩;exact⟨⟨rfl,rfl⟩,h2⟩
  ·rintro⟨⟨rfl,rfl⟩,h2⟩;exact⟨rfl,rfl,h2⟩
def skY(g:Nat)(c:Bool):List aM->AS->List aM × AS
 | [],st=>([],st)
 | o::l,st=>bif skO g c o.guard o.dst then skY g c l ⟨aP st.sl o.dst (.tup []),st.hp⟩ else (o::l,st)
theorem aB2(g:Nat)(c:Bool):∀ (l:List aM) (st:AS),skY g c l st=skipG g c l st
 | [],st=>rfl
 | o::l,st=>by
  simp only[skY,skipG,aB1];by_cases hc:o.guard=some (g,c)/\o.dst≠some g
  ·rw[decide_eq_true hc,cond_true,if_pos hc,aB2 g c l]
  ·rw[decide_eq_false hc,cond_false,if_neg hc]
def aB3(g:Nat)(c:Bool):List (Bool × aM)->AS->List (Bool × aM) × AS
 | [],st=>([],st)
 | o::l,st=>bif skO g c o.2.guard o.2.dst then aB3 g c l ⟨aP st.sl o.2.dst (.tup []),st.hp⟩ else (o::l,st)
theorem U9(g:Nat)(c:Bool):∀ (l:List (Bool × aM)) (st:AS),aB3 g c l st=Bm g c l st
 | [],st=>rfl
 | (b,o)::l,st=>by
  simp only[aB3,Bm,aB1];by_cases hc:o.guard=some (g,c)/\o.dst≠some g
  ·rw[decide_eq_true hc,cond_true,if_pos hc,U9 g c l]
  ·rw[decide_eq_false hc,cond_false,if_neg hc]
def gN(c:Bool):AV->Bool
 | .one (.dc (.raw (.bool b)))=>eqb b (!c)
 | .tup []=>true
 | _=>false
theorem aKj{g:Nat}{c:Bool}(h:gN c (aJ G st.sl (.t g))=true):Dg G st (some (g,c)):=by
 show cF (aJ G st.sl (.t g))=some (!c)\/aJ G st.sl (.t g)=.tup [];generalize aJ G st.sl (.t g)=v at h;unfold gN at h;split at h
 ·rename_i b;rw[Bp,beq_iff_eq] at h;subst h;exact .inl rfl
 ·exact .inr rfl
 ·cases h
theorem WR.xs{o:aM}{ops rest:List aM}{g:Nat}{c:Bool}(_:o.guard=some (g,c))(hb:gN c (aJ G st.sl (.t g))=true)(h:skY g c (o::ops) st=(rest,st'))(hw:WR P G k rest R st'):WR P G k (o::ops) R st:=WR.skipG _ _ _ _ (aKj hb) (by rw[<- aB2];exact h) hw
theorem WD.xs{b:Bool}{o:aM}{ops rest:List (Bool × aM)}{g:Nat}{c:Bool}(_:o.guard=some (g,c))(hb:gN c (aJ G st.sl (.t g))=true)(h:aB3 g c ((b,o)::ops) st=(rest,st'))(hw:iU P G k R rest st'):iU P G k R ((b,o)::ops) st:=WD.skipG _ _ _ _ (aKj hb) (by rw[<- U9];exact h) hw
end
theorem aT3(a b:Nat):nq a b=decide (a=b):=by rw[iA];rfl
attribute [go_sem] eq_self decide_true decide_false rO aT3 R4 skO skY aB3 gN Je guD Y0 Jc uI uI.unGD unG guG cond_true cond_false Ea Yy stD aLt aGq aGr U6 U7 aGs aLv R6 stX bsX zs eO dcs AI.isCall gD qU aXN List.isEmpty_nil List.isEmpty_cons
end
section
theorem ifp{c:Prop}[Decidable c]{α:Sort _}{a b:α}(h:c):ite c a b=a:=if_pos h
theorem ifn{c:Prop}[Decidable c]{α:Sort _}{a b:α}(h:¬ c):ite c a b=b:=if_neg h
section
variable {P:Program} {G:aF} {k:Nat} {st st':AS} {R:AS->Prop} {o:aM} {rest:List aM}
theorem VLe.int{k:IntKind}{a b:Int}(h:a=b):VLe (.one (.dc (.raw (.int k a)))) (.one (.dc (.raw (.int k b)))):=by subst h;exact .refl _
def qS:Nat->List AV
 | 0=>[]
 | n+1=>.junk::qS n
theorem Ns:∀ n,qS n=List.replicate n .junk
 | 0=>rfl
 | n+1=>by rw[qS,Ns n,List.replicate_succ]
theorem AC.of_codeJ{f:FuncId}{fn:Func}{n:Nat}{rs:List kE}{ac:dJ}{args:List AV}{objs:List aD}{Q:AV->List aD->Prop}(hf:P.funcs[f]?=some fn)(hn:fn.ntmps=n)
  (hc:fn.body.bind (bQ P)=some ac) (hr:fn.results.toList.mapM (iH P)=some rs)
  (h:AW P G objs.length ac (Fin objs.length rs Q) ⟨args++qS (n - args.length),objs⟩):AC P G f args objs Q:=AC.of_codeF hf hn hc hr (by rw[<- Ns];exact h)
def nzC:aR->aR
 | .dc (.raw (.slice none 0 0))=>.dc (.slc [])
 | .dc (.ptr cs)=>.ref cs
 | c=>c
def nzT:TV->TV
 | .one c=>.one (nzC c)
 | .agg cs=>.agg (cs.map nzC)
def Dj:AV->AV
 | .one c=>.one (nzC c)
 | .agg cs=>.agg (cs.map nzC)
 | .tup l=>.tup (l.map nzT)
 | .junk=>.junk
theorem R9{F:Fz}{γ:List OI}{c:aR}{v:Value}(h:RC F γ c v):RC F γ (nzC c) v:=by
 unfold nzC;split
 ·cases h with | dc _ _ h=>cases h with | raw _ h=>exact .dc _ _ (.nil _ _)
 ·cases h with | dc _ _ h=>cases h with | ptr _ b off g hr hc=>exact .ref _ b off g hr hc
 ·exact h
theorem Va{F:Fz}{γ:List OI}{cs:List aR}{vs:Array Value}(h:∀ (i:Nat) c v,cs[i]?=some c->vs[i]?=some v->RC F γ c v):∀ (i:Nat) c v,(cs.map nzC)[i]?=some c->vs[i]?=some v->RC F γ c v:=by
 intro i c v hc hv;rw[aWl] at hc;obtain⟨c0,h0,rfl⟩:=Option.map_eq_some_iff.1 hc;exact R9 (h i c0 v h0 hv)
theorem aB5{F:Fz}{γ:List OI}{a:AV}{v:Value}(h:RV F γ a v):RV F γ (Dj a) v:=by
 cases h with
 | one c v h=>exact .one _ _ (R9 h)
 | agg cs vs hs h=>exact .agg _ _ (by simpa using hs) (Va h)
 | tup l vs hs h=>
  refine .tup _ _ (by simpa using hs) (fun i t v ht hv=>?_)
  rw[aWl] at ht;obtain⟨t0,h0,rfl⟩:=Option.map_eq_some_iff.1 ht;cases h i t0 v h0 hv with
  | one c v h=>exact .one _ _ (R9 h)
  | agg cs vs hs h=>exact .agg _ _ (by simpa using hs) (Va h)
 | junk v=>exact .junk v
theorem AC.nz{f:FuncId}{args:List AV}{objs:List aD}{Q:AV->List aD->Prop}(h:AC P G f args objs fun av os=>Q (Dj av) os):AC P G f args objs Q:=by
 refine h.gh (fun a os ho hl=>⟨Dj a,os, ?_,hl,ho⟩)
 intro F γ ac w hi hs hk;refine⟨F,γ,gA.refl _ _ _ _,hi,⟨hs.1,hs.2.1,fun i av v h1 h2=>?_⟩,hk⟩
 cases i with
 | zero=>simp at h1;subst h1;exact aB5 (hs.2.2 0 a v rfl h2)
 | succ i=>simp at h1
def bsD(G:aF)(st:AS)(dst:Option Nat)(size len:Nat)(z:List Value)(ps:List (Nat × aH)):Option AS:=
 (gD (zs z (len * size)) (ps.map fun (j,x)=>(j * size,size,aJ G st.sl x))).bind fun cs=>(dcs cs).bind fun ds=>
   if ds.length=len * size then some ⟨aP st.sl dst (.one (.bld st.hp.length len)),st.hp++[.arr len size (eO size len ds)]⟩ else none
theorem WD.bs{b:aM}{l:List (Bool × aM)}{size len:Nat}{z:List Value}{ps:List (Nat × aH)}(hgd:iG G st b.guard)(ha:b.ai=.bslc size len z ps)
  (h:bsD G st b.dst size len z ps=some st') (hw:iU P G k R l st'):iU P G k R ((false,b)::l) st:=by
 unfold bsD at h;obtain⟨cs,hf,h⟩:=aW5.1 h;obtain⟨ds,hd,h⟩:=aW5.1 h;split at h
 ·rename_i hl;injection h with h
  obtain⟨h1,h2,h3⟩:=jW size len ds hl;rw[Jb] at hf;exact WD.bslcE (es:=eO size len ds) hgd ha (by rw[h1,<- lL hd];exact hf) h2 h3 h hw
 ·cases h
def gK(b:Bool):AV->Option Bool
 | .one (.dc (.raw (.bool c)))=>some (eqb c b)
 | .tup []=>some false
 | _=>none
theorem aGv{g:Nat}{b:Bool}(h:gK b (aJ G st.sl (.t g))=some true):cF (aJ G st.sl (.t g))=some b:=by
 generalize aJ G st.sl (.t g)=v at h;unfold gK at h;split at h
 ·rename_i c;injection h with h;rw[Bp,beq_iff_eq] at h;subst h;rfl
 ·cases h
 ·cases h
theorem aB6{g:Nat}{b:Bool}(h:gK b (aJ G st.sl (.t g))=some false):Dg G st (some (g,b)):=by
 show cF (aJ G st.sl (.t g))=some (!b)\/aJ G st.sl (.t g)=.tup [];generalize aJ G st.sl (.t g)=v at h;unfold gK at h;split at h
 ·rename_i c;injection h with h;rw[Bp] at h;left;cases b<;>cases c<;>first | rfl | cases h
 ·exact .inr rfl
 ·cases h
end
attribute [go_sem] nzC nzT Dj List.map_replicate bsD Int.natCast_zero Int.cast_ofNat_Int decide_true decide_false iG aXx if_false aWS aWO aWN aWU Bool.and_true Bool.and_false Bk ifp ifn aWo
attribute [go_sem] decide_eq_false_iff_not aWs Bool.or_eq_true aXg Bool.not_eq_false' beq_iff_eq bne_iff_ne ne_eq beq_eq_false_iff_ne bne_eq_false_iff_eq Bool.true_eq_false Bool.and_eq_false_iff Bool.or_eq_false_iff Decidable.not_not Int.natCast_add Int.natCast_one
attribute [go_sem] aW8 Nat.one_mul Nat.zero_mul Nat.mul_zero Nat.mod_one Nat.zero_mod aXd Int.toNat_zero Int.toNat_one List.length_singleton
end
end Go.Proofs.YthepfneloomngaaGreatDoor
