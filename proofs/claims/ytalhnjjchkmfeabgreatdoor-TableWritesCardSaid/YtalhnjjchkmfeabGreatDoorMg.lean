/- Part. Conditions: none. -/
import Derived.Test.YtalhnjjchkmfeabGreatDoorLr
import Derived.Orders
namespace Go.Proofs.YtalhnjjchkmfeabGreatDoor
set_option linter.unusedSimpArgs false
set_option linter.unusedVariables false
section
section
variable {P:Program}{G:aE}{k:Nat}{st st':AS}{R:AS->Prop}
theorem WR.bslcF{o:aO}{M:L aO}{size len:Nat}{D:L Value}{C:L (Nat×aI)}{es:L (L DC)}(hgd:kB G st o.guard)(ha:o.ai=.bslc size len D C)
  (hf:iV ((List.range (len*size)).map fun i=>cN (D.getD (i % D.length) undef)) (C.map fun (j,x)=>(j*size,size,aM G st.sl x))=some (oR es.flatten))
  (I:∀e∈es,e.length=size) (m:es.length=len)
  (h:WR P G k M R ⟨aS st.sl o.dst (.one (.dc (.slc es))),st.hp⟩):WR P G k (o::M) R st:=by
 refine WR.step hgd (fun F γ a w Y A hd J hs hg hk=>?_)
 rw[ha] at A;obtain⟨t,f,Z,V⟩:=Nw (jA A rfl);obtain⟨dst,op,type,pos,after,guard⟩:=Y;simp only at V;subst V;simp only[bE] at A;split at A;rename_i e Q;cases y:P.info? e with
 |none=>simp[y] at A
 | some i=>cases E:i.zero with
  | none=>simp[y,E] at A
  | some z=>
   simp only[y,E,aZs] at A;split at A
   ·rename_i N;obtain⟨hc1,hc2,hc3,hc4⟩:=N;injection A with A;injection A with e1 e2 e3 e4
    subst e1;subst e2;subst e3;subst e4;have hzl:z.cells.toList.length=i.size:=by simpa using hc2
    have hz:RCs F γ ((List.range (f * i.size)).map fun n=>cN (z.cells.toList.getD (n % z.cells.toList.length) undef)) ((Array.range (f * i.size)).map (z.cells[· % z.cells.size]!)):=by
     have:=H6 (F:=F) (γ:=γ) z.cells.toList (f * i.size) (by omega) (fun v hv=>bAr.1 hc4 v hv)
     have B:z.cells.toList.toArray=z.cells:=by simp
     rw[B] at this;exact this
    obtain⟨r,hr1,W⟩:=Cr (place:=fun j=>some (j * i.size,i.size)) _ (Z.toList.map fun (j,x)=>(j,a.eval x)) _ _ _ hz hf (by simp) (fun n o s av j x hn T=>by
     simp only[aZG,aZj] at hn T;cases hp:Z.toList[n]? with
     | none=>simp[hp] at hn
     | some q=>
      obtain⟨j',x'⟩:=q;simp[hp] at hn T;obtain⟨rfl,rfl,rfl⟩:=hn;obtain⟨rfl,rfl⟩:=T;exact⟨rfl,dC hs hg x'⟩)
    have hrs:r.size=f * i.size:=by rw[W.1,oR,aY9,uP es I,m]
    have hrr:∀ (n j:Nat) e d v,es[n]?=some e->e[j]?=some d->r[n * i.size+j]?=some v->RD F d v:=by
     intro n j e d v h3 h4 h5;have:=W.2 (n * i.size+j) (.dc d) v (by show (List.map aU.dc es.flatten)[n * i.size+j]?=_;rw[aZj,uO es I n j e d h3 h4];rfl) h5;cases this with | dc _ _ h=>exact h
    
    have K:∀ b H,F b=some H->b < w.heap.size:=fun b H g=>J.fzlt g
    let O:=fG w (.cells r e)
    let F':Fz:=fun b'=>if b'=w.heap.size then O.heap[b']? else F b'
    have p:F.sub F':=fun b H g=>by
     have:=K b H g;simp only[F',if_neg (show ¬ b=w.heap.size by omega)];exact g
    have S:∀ i b,cG γ i=some b->b < w.heap.size:=fun i b g=>J.lt g
    have hRD:RD F' (.slc es) (.slice (some ⟨w.heap.size,0,none⟩) es.length es.length):=by
     have X:∀ (n j:Nat) B d,es[n]?=some B->B[j]?=some d->∃ u,r[n * i.size+j]?=some u:=by
      intro n j B d y E;have T:j < i.size:=by have:=aJ E;have:=I _ (aZE y);omega
      have:=iQ (aJ y) (aZe _) T;exact⟨_,aZR (by rw[hrs,<- m];omega)⟩
     refine .slc w.heap.size 0 es.length i.size es (fun n j=>r.toList.getD (n * i.size+j) undef) I (fun n j B d y E=>?_) (fun n j B d y E=>?_) (aZe _)
     ·obtain⟨u,Q⟩:=X n j B d y E;simp only[aZo,bAe,Q,aZU];exact (hrr n j B d u y E Q).mono p
     ·obtain⟨u,Q⟩:=X n j B d y E;have hW:O.heap[w.heap.size]?=some (.cells r e):=Q3;simp only[aZo,bAe,Q,aZU,Fz.cell?,F',if_true,aZ0,hW];simp
    refine .inl ⟨_,.slice (some ⟨w.heap.size,0,none⟩) es.length es.length,O,_,F',γ, ?_,.inl rfl,h, ?_, ?_, ?_,hk⟩
    ·have hno:¬ (f * i.size > 2 ^ 24):=by omega
     have l:Instr.fill (fun j=>some (j * i.size,i.size)) ((Array.range (f * i.size)).map ((if f * i.size=0 then #[] else z.cells)[· % (if f * i.size=0 then #[] else z.cells).size]!)) (Z.map fun (j,x)=>(j,a.eval x)).toList=some r:=by
      have B:(Z.map fun (j,x)=>(j,a.eval x)).toList=Z.toList.map fun (j,x)=>(j,a.eval x):=by simp
      rw[B,<- hr1];congr 1;split
      ·rename_i h0;simp[h0]
      ·rfl
     have hzv:(zeroValue e).run P w=.ok z w:=by simp[zeroValue,typeInfo,y,E]
     simp only[execOp,Instr.buildSlice,run_underlying Q,Sem.run_bind,Result.andThen_ok,sizeOf,typeInfo,run_program,y,Sem.run_pure,Sem.run_ite,if_neg hno,hzv];by_cases h0:f * i.size=0
     ·simp only[if_pos h0] at l ⊢;simp only[l,Sem.run_bind,Result.andThen_ok,Sem.run_pure,newRow,run_newObj,O,fG,m]
     ·simp only[if_neg h0] at l ⊢;simp only[l,Sem.run_bind,Result.andThen_ok,Sem.run_pure,newRow,run_newObj,O,fG,m]
    ·have hE:=iU.push (k:=k) J (.cells r e) .dead (by simp[OI.blk]);refine⟨p,rfl,rfl,rfl,by simp[O,fG],fun b g _=>pO g,fun b H g=>?_,fun i b g=>.inl ⟨i,g⟩,fun _ _ _ h=>h⟩
     simp only[F'] at g;split at g
     ·exact .inr (.inl (by omega))
     ·exact .inl g
    ·refine⟨fun b H g=>?_,J.len,J.nd,fun n b g=>?_,fun n H x h3 h4=>?_⟩
     ·simp only[F'] at g;split at g
      ·exact g
      ·have:=K b H g;rw[pO this];exact J.fz b H g
     ·have:=S n b g;simp only[F',if_neg (show ¬ b=w.heap.size by omega)];exact J.disj n b g
     ·have U:=(J.ok n H x h3 h4);exact U.ext p (fun _ _ h=>h) (fun b g=>pO (U.lt g))
    ·exact (hs.ext p (fun _ _ h=>h)).put o.dst (.one _ _ (.dc _ _ hRD))
   ·cases A
 cases A
end
def C4(hp:L aD):Option (Nat×aD)->L aD
 |some (id,d)=>hp.set id d
 |none=>hp
def wrU:Option (Nat×aD)->L Nat
 |some (id,_)=>[id]
 |none=>[]
def fpC:aU->L Nat
 |.ptr id _=>[id]
 |.bld id _=>[id]
 |.ept id _ _ _=>[id]
 |.bls id _ _ _=>[id]
 |_=>[]
def Qr:AV->L Nat
 |.one c=>fpC c
 |_=>[]
section
variable {P:Program}{G:aE}{k:Nat}{F F':Fz}{γ γ':L OI}{w w':World}{a:Act}{id:Nat}{hp hp':L aD}{sl sl':L AV}{o:aO}{st:AS}
theorem Ri{p:Nat->Bool}:∀{cs:L aU},(∀(i:Nat) c,cs[i]?=some c->c.keep p=true)->keepL p cs=true
 |[],_=>rfl
 | c::cs,h=>by
  rw[keepL,h 0 c rfl,aZJ];exact Ri (fun i c d=>h (i+1) c (by simpa using d))
theorem RC.kd{c:aU}{v:Value}(h:RC F γ c v)(t:γ[id]?=some .dead):c.keep (·==id)=true:=by
 have e:∀{j:Nat}{x:OI},γ[j]?=some x->x≠.dead->(!(j==id))=true:=by
  intro j x l y;simp only[bAb,beq_eq_false_iff_ne,ne_eq];rintro rfl;rw[t] at l;injection l with l;exact y l.symm
 induction h with
 |dc d v h=>rfl
 |ptr id off b h=>exact e h (by simp)
 |bldN id cap h=>exact e h (by simp)
 |bld id n b cap h=>exact e h (by simp)
 |ept id i size off b cap h=>exact e h (by simp)
 |bls id D n size b cap c off h C m=>rcases h with h|h<;>exact e h (by simp)
 |ref cs b off g u m=>rfl
 |mpc es r s q h B A=>rfl
 |fn f p g u z=>exact Ri (fun i c m=>z i c m)
 |junk v h=>rfl
theorem RC.extD{c:aU}{v:Value}(h:RC F γ c v)(d:γ[id]?=some .dead)(g:F.sub F')(e:∀(j:Nat) x,j≠id->γ[j]?=some x->γ'[j]?=some x):RC F' γ' c v:=
 h.mono g (p:=(·==id)) (fun j x f l=>e j x (by simpa using f) l) (h.kd d)
theorem RV.extD{c:AV}{v:Value}(h:RV F γ c v)(g:γ[id]?=some .dead)(n:F.sub F')(m:∀(j:Nat) x,j≠id->γ[j]?=some x->γ'[j]?=some x):RV F' γ' c v:=by
 cases h with
 |one c v h=>exact .one _ _ (h.extD g n m)
 |agg cs vs d h=>exact .agg _ _ d (fun i c v e f=>(h i c v e f).extD g n m)
 |tup l vs d h=>
  refine .tup _ _ d (fun i t v e f=>?_)
  cases h i t v e f with
  |one c v h=>exact .one _ _ (h.extD g n m)
  |agg cs vs d h=>exact .agg _ _ d (fun i c v e f=>(h i c v e f).extD g n m)
 |junk v=>exact .junk v
theorem OK.extD{l:aD}{x:OI}(h:OK F γ w l x)(s:γ[id]?=some .dead)(n:F.sub F')(t:∀(j:Nat) x,j≠id->γ[j]?=some x->γ'[j]?=some x) (m:∀b,x.blk=some b->w'.heap[b]?=w.heap[b]?):OK F' γ' w' l x:=by
 cases l with
 |box cs=>
  cases x with
  |box b=>
   obtain⟨vs,T,f,g,h3⟩:=h;exact⟨vs,T,f.of (m b rfl),g,fun i c v p q=>(h3 i c v p q).extD s n t⟩
  |arr b c=>exact h.elim
  |dead=>exact h.elim
 |arr cap size es=>
  cases x with
  |box b=>exact h.elim
  |dead=>exact h.elim
  |arr b c=>
   cases b with
   |none=>exact h
   |some b=>
    obtain⟨f,g,h3,vs,T,h4,h5,h6⟩:=h;exact⟨f,g,h3,vs,T,h4.of (m b rfl),h5,fun i j e d v p q r=>(h6 i j e d v p q r).mono n⟩
 |dead=>cases x<;>exact h
theorem aEj(m:eG F γ hp w)(N:bY F γ sl a)(E:γ[id]?=some .dead)(Y:k<=id)(M:k<=γ.length){cs:L aU}{vs:Array Value}{T:TypeId}(h:RCs F γ cs vs)(n:Option Nat):iU k F γ w F (γ.set id (.box w.heap.size)) (fG w (.cells vs T))/\eG F (γ.set id (.box w.heap.size)) (hp.set id (.box cs)) (fG w (.cells vs T))/\ bY F (γ.set id (.box w.heap.size)) (aS sl n (.one (.ptr id 0))) (a.put n (.pointer (some ⟨w.heap.size,0,none⟩)))/\k<=(γ.set id (OI.box w.heap.size)).length:=by
 have A:id<γ.length:=aJ E;have H:∀(j:Nat) x,j≠id->γ[j]?=some x->(γ.set id (.box w.heap.size))[j]?=some x:=fun j x X Q=>by rw[aZw (Ne.symm X)];exact Q
 have s:(γ.set id (OI.box w.heap.size))[id]?=some (.box w.heap.size):=aZH A;have D:∀i b,cG (γ.set id (OI.box w.heap.size)) i=some b->(i≠id/\cG γ i=some b)\/(i=id/\b=w.heap.size):=by
  intro i b h;obtain⟨y,z,t⟩:=dD h;by_cases e:id=i;subst e;rw[s] at z;injection z with z;subst z
  simp[OI.blk] at t;exact .inr ⟨rfl,t.symm⟩;rw[aZw e] at z;exact .inl ⟨Ne.symm e,bV z t⟩
 have f:∀b,b<w.heap.size->(fG w (.cells vs T)).heap[b]?=w.heap[b]?:=fun b r=>pO r
 have d:F.sub F:=fun _ _ h=>h
 refine⟨⟨d,rfl,rfl,rfl,by simp[fG],fun b r _=>f b r,fun _ _ h=>.inl h,fun i b h=>?_,fun i W b Q=>H i _ (by omega) Q⟩,⟨fun b I h=>?_,by simp[m.len],fun i j b g l=>?_,fun i b h=>?_,fun i I x g l=>?_⟩,?_,by simpa using M⟩
 rcases D i b h with⟨_,h⟩|⟨_,h⟩;exact .inl ⟨i,h⟩;exact .inr (by omega)
 rw[f b (m.fzlt h)];exact m.fz b I h;rcases D i b g with⟨J,u⟩|⟨J,u⟩<;>rcases D j b l with⟨U,K⟩|⟨U,K⟩
 exact m.nd i j b u K;have:=m.lt u;omega;have:=m.lt K;omega;omega;rcases D i b h with⟨J,u⟩|⟨J,u⟩
 exact m.disj i b u;cases V:F b with
 |none=>rfl
 |some I=>have:=m.fzlt V;omega
 by_cases e:id=i;subst e;rw[s] at l;injection l with l;subst l
 have B:id<hp.length:=by rw[<- m.len];exact A
 rw[aZH B] at g;injection g with g;subst g
 exact⟨vs,T,Ct,Nat.le_of_eq h.1.symm,fun i c v p q=>(h.2 i c v p q).extD E d H⟩
 rw[aZw e] at g l;have C:=m.ok i I x g l;exact C.extD E d H (fun b S=>f b (C.lt S))
 have O:bY F (γ.set id (.box w.heap.size)) sl a:=⟨N.1,N.2.1,fun i av v g l=>(N.2.2 i av v g l).extD E d H⟩
 exact O.put n (.one _ _ (.ptr _ _ _ s))
theorem eG.deadG(g:eG F γ hp w)(f:hp[id]?=some .dead):γ[id]?=some .dead:=by
 have d:id<γ.length:=by rw[g.len];exact aJ f
 have h:γ[id]?=some (γ[id]'d):=aZi d;have:=g.ok id _ _ f h;rw[h];cases e:γ[id]'d with
 |dead=>rfl
 |box b=>rw[e] at this;exact this.elim
 |arr A c=>rw[e] at this;cases A<;>exact this.elim
theorem WR.allocD{as:AS}{f:L aO}{Q:AS->Prop}{g:L Value}(s:kB G as o.guard)(H:o.ai=.alloc g)(I:as.hp[id]?=some .dead)(l:k<=id) (h:WR P G k f Q ⟨aS as.sl o.dst (.one (.ptr id 0)),as.hp.set id (.box (g.map cN))⟩):WR P G k (o::f) Q as:=by
 refine WR.step s (fun F γ a w m d J y M S K=>?_)
 rw[H] at d;obtain⟨e,x⟩:=Q5 (jA d rfl);obtain⟨B,op,A,O,p,q⟩:=m;simp only at x;subst x;simp only[bE] at d;cases n:P.info? e with
 |none=>simp[n] at d
 | some i=>cases r:i.zero with
  | none=>simp[n,r] at d
  | some z=>
   simp only[n,r,aZs] at d;split at d
   ·rename_i j;injection d with d;injection d with d;subst d
    have u:RCs F γ (z.cells.toList.map cN) z.cells:=by
     have:=RCs.raw (F:=F) (γ:=γ) (vs:=z.cells.toList) (fun v N=>bAr.1 j v N)
     simpa using this
    obtain⟨C,D,E,t⟩:=aEj (T:=e) y M (y.deadG I) l K u o.dst;refine .inl ⟨_,_,_,_,F,_, ?_,.inl rfl,h,C,D,E,t⟩;simp only[execOp,Instr.alloc,zeroValue,typeInfo,n,r,newVar,newRow,Sem.run_bind,run_program,Result.andThen_ok,Sem.run_pure,run_newObj,fG]
   ·cases d
theorem aBs{g:Bool}{s:Nat}{x:AV}(h:∀id∈Qr x,aL hp id=aL hp' id):mR hp g s x=mR hp' g s x:=by
 unfold mR;split<;>first|rfl|(rename_i id _;rw[h id (by simp[Qr,fpC])])|(rename_i id _ _ _;rw[h id (by simp[Qr,fpC])])
theorem aBt{x:AV}(h:∀id∈Qr x,aL hp id=aL hp' id):oQ hp x=oQ hp' x:=by
 unfold oQ;split<;>first|rfl|(rename_i id _;rw[h id (by simp[Qr,fpC])])|(rename_i id _ _ _;rw[h id (by simp[Qr,fpC])])
theorem aEk{s:Nat}{x:AV}{i:Int}(h:∀id∈Qr x,aL hp id=aL hp' id):Cp hp s x i=Cp hp' s x i:=by
 unfold Cp;split<;>first|rfl|(rename_i id _;rw[h id (by simp[Qr,fpC])])|(rename_i id _ _ _;rw[h id (by simp[Qr,fpC])])
theorem aEl{s:Nat}{x:AV}{l r:Option AV}(h:∀id∈Qr x,aL hp id=aL hp' id):lV hp s x l r=lV hp' s x l r:=by
 unfold lV;split<;>first|rfl|(rename_i id _;rw[h id (by simp[Qr,fpC])])|(rename_i id _ _ _;rw[h id (by simp[Qr,fpC])])
theorem aJd{ai:AI}(h:∀x∈bK ai,∀id∈Qr (aM G sl x),aL hp id=aL hp' id):dJ G ⟨sl,hp⟩ ai=dJ G ⟨sl,hp'⟩ ai:=by
 cases ai with
 |load g s x=>simp only[dJ];exact aBs (h x (by simp[bK]))
 |cvbs x=>simp only[dJ];exact aBt (h x (by simp[bK]))
 |ixL s x i=>
  simp only[dJ];cases bH (aM G sl i) with
  |none=>rfl
  |some n=>exact aEk (h x (by simp[bK]))
 |slL s x l r=>simp only[dJ];exact aEl (h x (by simp[bK]))
 |_=>rfl
inductive kZ (P:Program) (G:aE) (k:Nat) (o:aO) (st:AS):AV->Option (Nat×aD)->List Nat->Prop
 |skip (h:Gf G st o.guard):kZ P G k o st (.tup []) none []
 |pur (v:AV) (R:List Nat) (h:kB G st o.guard) (hv:dJ G st o.ai=some v) (hR:∀x∈bK o.ai,∀id∈Qr (aM G st.sl x),id∈R):kZ P G k o st v none R
 |call (f:FuncId) (args:List aI) (cargs:List AV) (r v:AV) (h:kB G st o.guard) (ha:o.ai=.call f args) (hq:QC P G f cargs r)
  (hn:∀n,args.map (aM G st.sl)=cargs.map (dO (cQ [] n))/\v=dO (cQ [] n) r):kZ P G k o st v none []
 |alloc (z:List Value) (id:Nat) (h:kB G st o.guard) (ha:o.ai=.alloc z) (hd:st.hp[id]?=some .dead) (hk:k<=id):kZ P G k o st (.one (.ptr id 0)) (some (id,.box (z.map cN))) []
 |cpy (x y:aI) (id lo n:Nat) (bs:ByteArray) (cs:List aU) (h:kB G st o.guard) (ha:o.ai=.cpys x y) (hx:aM G st.sl x=.one (.bls id lo n 1)) (hy:dN (aM G st.sl y)=some bs)
  (hb:st.hp[id]?=some (.box cs)) (hle:lo+n<=cs.length):kZ P G k o st (dS (.int .i64 (min bs.size n:Nat))) (some (id,.box (dB cs lo (fH (bs.data.toList.take n))))) [id]
 |callB (f:FuncId) (args:List aI) (cargs:List AV) (id:Nat) (cs cs':List aU) (h:kB G st o.guard) (ha:o.ai=.call f args) (hb:st.hp[id]?=some (.box cs))
  (hac:AC P G f cargs [.box cs] fun a o=>a=.tup []/\o=[.box cs']) (hargs:∀n,args.map (aM G st.sl)=cargs.map (dO (cQ [id] n)))
  (hr:∀n,eL (cQ [id] n) (.box cs)=.box cs/\eL (cQ [id] n) (.box cs')=.box cs'):kZ P G k o st (.tup []) (some (id,.box cs')) [id]
 |lit (size len:Nat) (z:List Value) (ps:List (Nat×aI)) (es:List (List DC)) (h:kB G st o.guard) (ha:o.ai=.bslc size len z ps)
  (hf:iV ((List.range (len*size)).map fun i=>cN (z.getD (i % z.length) undef)) (ps.map fun (j,x)=>(j*size,size,aM G st.sl x))=some (oR es.flatten))
  (hes:∀e∈es,e.length=size) (hlen:es.length=len):kZ P G k o st (.one (.dc (.slc es))) none []
 |store (size:Nat) (x v:aI) (id off:Nat) (cs vs:List aU) (h:kB G st o.guard) (ha:o.ai=.store size x v) (hd0:o.dst=none) (hx:aM G st.sl x=.one (.ptr id off)) (hv:cellsOf (aM G st.sl v)=some vs)
  (hb:st.hp[id]?=some (.box cs)) (hsz:vs.length=size) (hle:off+size<=cs.length):kZ P G k o st (.tup []) (some (id,.box (dB cs off vs))) [id]
def L6(o:aO)(st:AS)(v:AV)(u:Option (Nat×aD)):AS:=⟨aS st.sl o.dst v,C4 st.hp u⟩
theorem aEm(h:hp[id]?=hp'[id]?):aL hp id=aL hp' id:=by
 unfold aL;rw[aZo,aZo,h]
theorem kZ.loc{v:AV}{u:Option (Nat×aD)}{R:L Nat}(h:kZ P G k o ⟨sl,hp⟩ v u R)(d:∀t∈nG o,sl.getD t .junk=sl'.getD t .junk)(E:∀id∈R++wrU u,hp[id]?=hp'[id]?):kZ P G k o ⟨sl',hp'⟩ v u R:=by
 obtain⟨s,_⟩:=iF (G:=G) d;cases h with
 |skip h=>exact .skip (pD d h)
 |pur _ _ h O Q=>
  refine .pur _ _ (gC d h) ?_ (fun x m id B=>Q x m id (by rw[s x m];exact B))
  rw[<- L4 s,<- aJd (hp:=hp) (fun x m id B=>aEm (E id (by simp[Q x m id B])))]
  exact O
 |call f q l r _ h g V S=>
  refine .call f q l r _ (gC d h) g V (fun n=>⟨?_,(S n).2⟩)
  rw[<- (S n).1];exact aZC (fun x m=>(s x (by rw[g];exact m)).symm)
 |lit size len z Z es h g hf M H=>
  refine .lit size len z Z es (gC d h) g ?_ M H;rw[<- hf];congr 1;exact aZC (fun p hp=>by
   obtain⟨j,x⟩:=p;have e:=s x (by rw[g];exact List.mem_map.2 ⟨(j,x),hp,rfl⟩);show (j * size,size,aM G sl' x)=(j * size,size,aM G sl x);rw[e])
 |alloc z id h g T U=>exact .alloc z id (gC d h) g (by rw[<- E id (by simp[wrU])];exact T) U
 |cpy x y id Y n bs cs h g m X D C=>exact .cpy x y id Y n bs cs (gC d h) g (by rw[<- s x (by rw[g];simp[bK])];exact m) (by rw[<- s y (by rw[g];simp[bK])];exact X) (by rw[<- E id (by simp)];exact D) C
 |callB f q l id cs I h g D J A W=>exact .callB f q l id cs I (gC d h) g (by rw[<- E id (by simp)];exact D) J (fun n=>by rw[<- A n];exact aZC (fun x m=>(s x (by rw[g];exact m)).symm)) W
 |store size x v id off cs vs h g K m O D N C=>
  exact .store size x v id off cs vs (gC d h) g K (by rw[<- s x (by rw[g];simp[bK])];exact m) (by rw[<- s v (by rw[g];simp[bK])];exact O)
   (by rw[<- E id (by simp)];exact D) N C
theorem kZ.wr{K:AS->Prop}{v:AV}{u:Option (Nat×aD)}{R:L Nat}(h:kZ P G k o st v u R)(g:K (L6 o st v u)):WR P G k [o] K st:=by
 cases h with
 |skip h=>exact WR.skip h (WR.nil g)
 |pur _ _ h O Z=>exact WR.pur h O (WR.nil g)
 |call f s l r _ h d X D=>exact WR.callQ h d X (D st.hp.length).1 (WR.nil (by rw[<- (D st.hp.length).2];exact g))
 |lit size len z ps es h d hf I C=>exact WR.bslcF h d hf I C (WR.nil g)
 |alloc z id h d V W=>exact WR.allocD h d V W (WR.nil g)
 |cpy x y id lo n bs cs h d Q Y q p=>exact WR.cpys h d Q Y (by unfold aL;rw[aZo,q];rfl) p (WR.nil g)
 |callB f s l id cs A h d q E m U=>
  refine WR.call (J:=[id]) (objs:=[.box cs]) h d E (by simp) rfl (fun t j o N T=>?_) (m _) (fun a o' H=>?_)
  cases t with
  |zero=>simp at N T;subst N;subst T;rw[(U _).1];exact q
  |succ t=>simp at N
  obtain⟨rfl,rfl⟩:=H;have D:∀j,([id].contains j&&!jC (aL st.hp j))=false:=by
   intro j;by_cases S:j=id;subst S;have:aL st.hp j=.box cs:=by unfold aL;rw[aZo,q];rfl
   rw[this];simp[jC];simp[S]
  have e:jD [id] st o.dst (.tup []) [.box A]=L6 o st (.tup []) (some (id,.box A)):=by
   simp only[jD];rw[rP D,rQ D];simp only[aZl,aZm,(U _).2,L6,C4,lJ,dO,List.length_singleton,bAC,aZW,aZ9]
  rw[e];exact WR.nil g
 |store size x v id off cs vs h d B Q O q M p=>
  refine WR.store h d B Q O (by unfold aL;rw[aZo,q];rfl) M p (WR.nil ?_);have:L6 o st (.tup []) (some (id,.box (dB cs off vs)))=⟨st.sl,st.hp.set id (.box (dB cs off vs))⟩:=by simp[L6,aS,B,C4]
  rw[<- this];exact g
abbrev FE:=aO×(L Nat×L Nat)
def mD(P:Program)(G:aE)(k:Nat)(K:AS->Prop):L FE->AS->Prop
 |[],st=>K st
 |(o,f)::l,st=>∃v u R,kZ P G k o st v u R/\wrU u=f.1/\R=f.2/\mD P G k K l (L6 o st v u)
def uV(a b:L Nat):Bool:=a.all fun x=>!b.contains x
def Vw(x y:aO):Bool:=B0 x.dst y.dst&&mC x.dst y&&mC y.dst x
def Vx(x y:FE):Bool:=Vw x.1 y.1&&uV x.2.1 (y.2.2++y.2.1)&&uV y.2.1 x.2.2
theorem C5{a b:L Nat}(h:uV a b=true){x:Nat}(d:x∈a):x∉b:=by
 have:=bAr.1 h x d;simpa using this
theorem Rj{u:Option (Nat×aD)}{j:Nat}(h:j∉wrU u):(C4 hp u)[j]?=hp[j]?:=by
 cases u with
 |none=>rfl
 |some p=>
  obtain⟨i,d⟩:=p;simp only[wrU,List.mem_singleton] at h;simp only[C4];rw[aZw (fun e=>h e.symm)]
theorem aBu{u d:Option (Nat×aD)}(h:∀x∈wrU u,x∉wrU d):C4 (C4 hp u) d=C4 (C4 hp d) u:=by
 cases u with
 |none=>rfl
 | some p=>cases d with
  | none=>rfl
  | some q=>
   obtain⟨i,f⟩:=p;obtain⟨j,e⟩:=q;simp only[wrU,List.mem_singleton,forall_eq] at h;simp only[C4];exact List.set_comm _ _ h
theorem If{d:Option Nat}{v:AV}(h:mC d o=true):∀t∈nG o,(aS sl d v).getD t .junk=sl.getD t .junk:=by
 intro t f;cases d with
 |none=>rfl
 |some d=>
  have e:d≠t:=by
   rintro rfl;simp only[mC,bAb,List.contains_eq_mem,decide_eq_false_iff_not] at h;exact h f
  simp only[aS,aZo];rw[aZw e]
theorem mD.mono{K d:AS->Prop}(e:∀s,K s->d s):∀{l:L FE}{st:AS},mD P G k K l st->mD P G k d l st
 |[],_,h=>e _ h
 | (o,f)::l,st,h=>by
  obtain⟨v,u,R,s,g,j,h⟩:=h;exact⟨v,u,R,s,g,j,mD.mono e h⟩
theorem mD.swap{K:AS->Prop}{x y:FE}{l:L FE}(s:Vx x y=true)(h:mD P G k K (x::y::l) st):mD P G k K (y::x::l) st:=by
 obtain⟨p,B⟩:=x;obtain⟨g,C⟩:=y;simp only[Vx,Vw,aZq] at s;obtain⟨⟨⟨⟨H,D⟩,E⟩,h3⟩,h4⟩:=s;obtain⟨m,j,U,S,v,O,f,uy,V,T,A,Q,I⟩:=h;subst O;subst Q;rw[<- v] at h3;rw[<- A] at h4 h3;obtain⟨sl,hp⟩:=st;have r:kZ P G k g ⟨sl,hp⟩ f uy C.2:=T.loc (If D) (fun id d=>Rj (fun M=>C5 h3 M d))
 have q:kZ P G k p (L6 g ⟨sl,hp⟩ f uy) m j B.2:=S.loc (fun t J=>(If E t J).symm) (fun id d=>by
  refine (Rj (fun u=>?_)).symm
  simp only[bAB] at d;rcases d with d | d
  ·exact C5 h4 u d
  ·exact C5 h3 d (by simp[u]))
 refine⟨f,uy,_,r,A,rfl,m,j,_,q,v,rfl,?_⟩;have e:L6 p (L6 g ⟨sl,hp⟩ f uy) m j=L6 g (L6 p ⟨sl,hp⟩ m j) f uy:=by
  simp only[L6];rw[gD H,aBu (fun z N n=>C5 h3 N (by simp[n]))]
 rw[e];exact I
theorem mD.front{K:AS->Prop}{y:FE}{f:L FE}:∀(d:L FE)(st:AS),(∀x∈d,Vx x y=true)->mD P G k K (d++y::f) st->mD P G k K (y::(d++f)) st
 |[],st,_,h=>h
 | x::d,st,e,h=>by
  obtain⟨v,u,R,s,g,j,h⟩:=h;have:=mD.front d _ (fun z l=>e z (aZB _ l)) h
  exact mD.swap (e x aZt) ⟨v,u,R,s,g,j,this⟩
theorem mD.head{K:AS->Prop}{y:FE}{l:L FE}(h:mD P G k K (y::l) st):WR P G k [y.1] (mD P G k K l) st:=by
 obtain⟨v,u,R,s,_,_,h⟩:=h;exact s.wr h
def mE:aO:=⟨none,.lenA 0,none⟩
def G0(ops:L Oper)(n:Nat)(d:L Nat):Bool:=
 ([Region.Mode.text,.gc,.any].all fun e=>Cz e ops)&&((List.range n).all fun i=>d.contains i)&&(d.all fun i=>decide (i<n))
theorem aBv{id:Nat}{opsA:Array Oper}{l:List aO}{E:Nat->FE}{A:List Nat}{K:AS->Prop}{st:AS}(hc:bF P opsA opsA.toList=some l)
  (hok:G0 opsA.toList l.length A=true) (hE0:∀i,i<l.length->(E i).1=l.getD i mE) (z:A.Pairwise fun i j=>i≠j/\(((kJ opsA.toList []).getD j []).contains i=true\/Vx (E i) (E j)=true)) (hw:mD P G k K (A.map E) st) (C:eG F γ st.hp w) (hs:bY F γ st.sl a) (hg:fZ F G) (hk:k<=γ.length)
  {QE:Exit->Act->World->Prop} (hQ:∀a' w' F' γ' st',K st'->iU k F γ w F' γ' w'->eG F' γ' st'.hp w'->bY F' γ' st'.sl a'->k<=γ'.length->QE .normal a' w'):(Code.region id opsA true).wp P QE a w:=by
 refine wp_region_draw fun t=>?_
 suffices hmd:∀B:Region.Mode,wpAny P B opsA QE opsA.size (Array.replicate opsA.size false) a { w with drawn:=w.drawn+1 } by
  unfold Region.schedule;split;exact wpAny_sound opsA.size t _ a _ (hmd _);exact wpAny_sound opsA.size (t / 2) _ a _ (hmd _)
 intro B;simp only[G0,aZq] at hok;obtain⟨⟨hb0,V⟩,Q⟩:=hok;have comp:∀(ops:List Oper)(l:List aO),bF P opsA ops=some l->ops.length=l.length/\∀(i:Nat) o x,ops[i]?=some o->l[i]?=some x->cH P opsA o=some x:=by
  intro ops
  induction ops with
  |nil=>intro l h;simp[bF] at h;subst h;exact⟨rfl,fun i o x h=>by simp at h⟩
  |cons o ops ih=>
   intro l h;simp only[bF] at h;cases p:cH P opsA o with
   |none=>simp[p] at h
   | some y=>cases T:bF P opsA ops with
    | none=>simp[p,T] at h
    | some r=>
     simp[p,T] at h;subst h;obtain⟨i1,i2⟩:=ih r T;refine⟨by simp[i1],fun i o' x' ho hx=>?_⟩
     cases i with
     | zero=>simp at ho hx;subst ho;subst hx;exact p
     | succ i=>exact i2 i o' x' (by simpa using ho) (by simpa using hx)
 obtain⟨hlen,X⟩:=comp _ _ hc;have hN:opsA.size=l.length:=by simpa using hlen
 have hop:∀(i:Nat) d,opsA[i]?=some d->cH P opsA d=some (l.getD i mE):=by
  intro i d h;have N:i<l.length:=by rw[<- hN];exact (Array.getElem?_eq_some_iff.1 h).1
  refine X i d _ (by simpa using h) ?_;rw[aZo,aZi N];rfl
 have I:Cz B opsA.toList=true:=by
  have:=bAr.1 hb0 B (by cases B<;>simp);exact this
 simp only[Cz,Yp,aZq] at I;generalize aD4 (opsA.toList.map (kU B)) opsA.toList.length [] (List.range opsA.toList.length)=tord at I;obtain⟨⟨ht1,ht3⟩,ht2⟩:=I;have O:∀(i:Nat) o,opsA[i]?=some o->∀e∈kU B o,e<opsA.size:=by
  intro i o ho e Y;have p:=bAr.1 ht3 (kU B o) (List.mem_map.2 ⟨o,by
   rw[Array.mem_toList_iff];exact Array.mem_of_getElem? ho,rfl⟩)
  simpa using bAr.1 p e Y
 have htall:∀(listed:Array Bool),listed.size=opsA.size->Region.ready B opsA listed=[]->∀(r done:List Nat),uR (opsA.toList.map (kU B)) r done=true->(∀j∈done,j<opsA.size->listed.getD j false=true)->∀j∈r,j<opsA.size->listed.getD j false=true:=by
  intro listed n hno r
  induction r with
  |nil=>intro done _ _ j f;cases f
  |cons i r ih=>
   intro done h hd j f N;simp only[uR,aZq] at h;have hi0:i<opsA.size->listed.getD i false=true:=by
    intro hil;cases hlj:listed.getD i false with
    |true=>rfl
    |false=>
     exfalso;have m:opsA[i]?=some opsA[i]:=aZR hil;have:i∈Region.ready B opsA listed:=uU n hil hlj m (fun e Y=>by
      have h3:=bAr.1 h.1 e (by
       rw[aZo,aZj];simp only[bAe,m,aZf,aZU];exact Y)
      have hmem:e∈done:=by simpa using h3
      exact hd e hmem (O i _ m e Y))
     rw[hno] at this;cases this
   rcases bAl.1 f with rfl|f;exact hi0 N
   ·exact ih (i::done) h.2 (fun q hq hql=>by
    rcases bAl.1 hq with rfl|hq
    ·exact hi0 hql
    ·exact hd q hq hql) j f N
 have main:∀(g:Nat)(listed:Array Bool)(a:Act)(w':World)(F':Fz)(γ':List OI)(U:List Nat)(st:AS),listed.size=opsA.size->(∀i,i<opsA.size->(listed.getD i false=false↔i∈U))->(∀i∈U,i<opsA.size)->
   (U.Pairwise fun i j=>i≠j/\(((kJ opsA.toList []).getD j []).contains i=true\/Vx (E i) (E j)=true))->
   (∀(i:Nat) o,opsA[i]?=some o->listed.getD i false=true->∀e∈lG o,listed.getD e false=true)->U.length<=g->
   iU k F γ w F' γ' w'->eG F' γ' st.hp w'->bY F' γ' st.sl a->k<=γ'.length->mD P G k K (U.map E) st->wpAny P B opsA QE g listed a w':=by
  intro g
  induction g with
  |zero=>
   intro listed a w' F' γ' U st n hU J z W hf hE hI hS M hA;have hnil:U=[]:=bAk (by omega);subst hnil;refine⟨?_,hQ a w' F' γ' st hA hE hI hS M⟩;rw[List.eq_nil_iff_forall_not_mem];intro i C;obtain⟨p,T,_⟩:=mY n C;have:=(hU i p).1 T;simp at this
  |succ g ih=>
   intro listed a w' F' γ' U st n hU J z W hf hE hI hS M hA;refine⟨fun hno=>?_,fun i C=>?_⟩
   have hz:∀j,j<opsA.size->listed.getD j false=true:=by
    intro j f;refine htall listed n hno tord [] ht1 (fun j f=>by cases f) j ?_ f
    have:=bAr.1 ht2 j (by simpa using f);simpa using this
   cases U with
   |nil=>exact hQ a w' F' γ' st hA hE hI hS M
   |cons u U=>
    have p:=J u aZt;have:=(hU u p).2 aZt;rw[hz u p] at this;cases this
   obtain⟨p,T,d,m,Y⟩:=mY n C;have hclo:∀j∈(kJ opsA.toList []).getD i [],listed.getD j false=true:=
    Vr (L:=fun j=>listed.getD j false=true) opsA.toList (fun i o h=>W i o (by simpa using h)) i d (by simpa using m) Y
   obtain⟨R1,R2,rfl⟩:=List.append_of_mem ((hU i p).1 T);have H:=List.pairwise_append.1 z;have s:mD P G k K (E i::(R1.map E++R2.map E)) st:=by
    refine mD.front _ _ (fun x hx=>?_) (by simpa using hA)
    obtain⟨r,hr,rfl⟩:=List.mem_map.1 hx;have h3:=H.2.2 r hr i aZt;rcases h3.2 with h4|h4;have h5:=hclo r (by simpa using h4);have h6:=(hU r (J r (by simp[hr]))).2 (by simp[hr]);rw[h5] at h6;cases h6
    exact h4
   rw[<- aZQ] at s;refine WR.op (mD.head s) m (by rw[hE0 i (by rw[<- hN];exact p)];exact hop i d m) hI hS (hg.sub hE.sub) M (fun a'' w'' F'' γ'' st'' q1 q2 q3 q4 q5=>?_)
   have Z:i∉R1/\i∉R2:=by
    refine⟨fun h=>?_,fun h=>?_⟩
    exact (H.2.2 i h i aZt).1 rfl;exact ((List.pairwise_cons.1 H.2.1).1 i h).1 rfl
   refine ih _ a'' w'' F'' γ'' (R1++R2) st'' (by simpa using n) (fun j f=>?_) (fun j f=>J j (by simp at f ⊢;rcases f with h|h<;>simp[h])) ?_ (fun j oj D f e hee=>?_) (by simp at hf ⊢;omega) (hE.trans q2) q3 q4 q5 q1
   by_cases v:i=j;subst v;rw[show (listed.setIfInBounds i true).getD i false=true by rw[bAG,bAM (by omega)];rfl];simp[Z];rw[getD_set_ne false v,hU j f];simp[Ne.symm v];exact z.sublist (by simp);by_cases v:i=j;subst v;rw[m] at D;injection D with D;subst D
   exact getD_set_true (Y e hee);rw[getD_set_ne false v] at f;exact getD_set_true (W j oj D f e hee)
 have S:∀j,(Array.replicate opsA.size false).getD j false=false:=by
  intro j;rw[bAG];by_cases hjs:j<opsA.size<;>simp[hjs]
 have hlo:A.length<=opsA.size:=by
  have Z:A.Nodup:=z.imp (fun h=>h.1)
  have:=List.Nodup.length_le_of_subset Z (l₂:=List.range l.length) (fun i C=>by
   have:=bAr.1 Q i C;simpa using this)
  simpa[hN] using this
 exact main opsA.size (Array.replicate opsA.size false) a { w with drawn:=w.drawn+1 } F γ A st (by simp) (fun i C=>by
   rw[S];have:=bAr.1 V i (by simpa[<- hN] using C);simpa using this) (fun i C=>by
   have:=bAr.1 Q i C;rw[hN];simpa using this) z (fun i o ho hl=>by rw[S] at hl;cases hl) hlo (iU.drawn _ _ _ _ _) (C.drawn _) hs hk hw
end
end
section
def trL:L Nat:=[90,78,97,53,96,61,3]
end
section
inductive IT where
 |nil
 |st (i:Nat) (t:IT)
 |br (i:Nat) (t rest:IT)
 |stop
def N5:AI->Bool
 |.mov _=>true
 |.nilc _=>true
 |.addo _ _=>true
 |.ext _ _=>true
 |_=>false
theorem Rk{d:AI}(h:N5 d=true):d.isPure=true:=by
 cases d<;>first|rfl|cases h
def iW:L aO->Nat->aO
 |[],_=>⟨none,.lenA 0,none⟩
 |o::_,0=>o
 |_::l,n+1=>iW l n
def Ld(U:L Nat)(j:Nat):L Nat:=U.filter fun x=>x != j
def Gi(c:L (L Nat))(U:L Nat)(j:Nat):Bool:=U.all fun e=>!(c.getD j []).contains e
def aSi(opsA:Array Oper)(i j:Nat):Bool:=match opsA[i]?,opsA[j]? with
 |some x,some y=>x.apart opsA y
 |_,_=>false
def aBw(c:L (L Nat))(ops:L aO)(opsA:Array Oper)(U:L Nat)(i:Nat):Bool:=
 U.all fun j=>j==i||(c.getD j []).contains i||(aSi opsA i j&&(N5 (iW ops i).ai||((iW ops i).ai.isPure&&(iW ops j).ai.isPure)))
def N6:IT->Bool
 |.stop=>true
 |_=>false
def vT(c:L (L Nat))(ops:L aO)(opsA:Array Oper):IT->L Nat->L Nat->Bool
 |.nil,U,D=>U.isEmpty&&D.isEmpty
 |.st i t,U,D=>D.isEmpty&&U.contains i&&aBw c ops opsA U i&&vT c ops opsA t (Ld U i) []
 |.br i t r,U,D=>U.contains i&&vT c ops opsA t (Ld U i) []&&vT c ops opsA r U (i::D)
 |.stop,U,D=>!D.isEmpty&&U.all fun j=>D.contains j||!Gi c U j
def mkT(c:L (L Nat))(ops:L aO)(opsA:Array Oper):Nat->Nat->L Nat->Option (IT×Nat)
 |0,_,_=>none
 |_+1,0,_=>none
 | n+1,b+1,U=>match U with
  | []=>some (.nil,b)
  | _::_=>match U.find? fun i=>Gi c U i&&aBw c ops opsA U i with
   | some i=>(mkT c ops opsA n b (Ld U i)).map fun p=>(.st i p.1,p.2)
   | none=>(U.filter (Gi c U)).foldr (fun i r=>r.bind fun q=>(mkT c ops opsA n q.2 (Ld U i)).map fun p=>(.br i p.1 q.1,p.2)) (some (.stop,b))
section
variable {P:Program}{F:Fz}{γ:L OI}
theorem aOb{o:Oper}{j:AI}(d:bE P o=some j)(e:N5 j=true):(∃x,o.op=.move x\/o.op=.assign x)\/(∃x,o.op=.nilCheck x)\/(∃s x f,o.op=.fieldAddr s x f)\/∃x n,o.op=.extract x n:=by
 obtain⟨m,op,l,p,g,h⟩:=o;unfold bE at d;cases op
 case move x=>simp_all
 case assign x=>simp_all
 case nilCheck x=>simp_all
 case fieldAddr s x f=>simp_all
 case extract x n=>simp_all
 case makeFunc fn a b=>
  cases fn<;>simp only[reduceCtorEq] at d;split at d;cases d;cases e;grind
 all_goals simp only[reduceCtorEq] at d
 all_goals try unfold pN at d
 all_goals try unfold mV at d
 all_goals try unfold nL at d
 all_goals try unfold fY at d
 all_goals repeat' (first|(obtain⟨_,_,d⟩:=d)|split at d|(simp only[aZT,Option.map_eq_some_iff] at d))
 all_goals first|contradiction|(cases d;done)|(injection d with d;subst d;cases e;done)|(subst d;cases e;done)|(cases d;cases e;done)
theorem Rl{x r:Value}{n:Nat}{w w':World}(h:(Instr.extract x n).run P w=.ok r w):(Instr.extract x n).run P w'=.ok r w':=by
 unfold Instr.extract at *;cases x<;>try simp_all
 rename_i vs;cases d:vs[n]? with
 |none=>simp_all
 |some v=>simp_all
theorem aJe{G:aE}{as:AS}{a:Act}{o:Oper}{t:AI}{v:AV}(N:World)(d:bE P o=some t)(g:dJ G as t=some v)(y:N5 t=true)(I:bY F γ as.sl a)(E:fZ F G):∃x,(∀w,(execOp a.eval o).run P w=.ok (.value x) w)/\RV F γ v x:=by
 have e:∀(s:Sem Value),(∃r,(∀w,s.run P w=.ok r w)/\RV F γ v r)->∃x,(∀w,((do pure (Next.value (<- s))):Sem Next).run P w=.ok (.value x) w)/\RV F γ v x:=by
  simp_all
 have p:=fun x=>dC (G:=G) I E x
 have m:=aOb d y;obtain⟨D,op,C,M,q,u⟩:=o;simp only at m;rcases m with⟨x,rfl|rfl⟩|⟨x,rfl⟩|⟨s,x,f,rfl⟩|⟨x,n,rfl⟩<;>simp only[bE] at d
 injection d with d;subst d
 simp only[dJ,Option.some.injEq] at g;subst g;exact⟨_,fun _=>rfl,p x⟩
 injection d with d;subst d
 simp only[dJ,Option.some.injEq] at g;subst g;exact⟨_,fun _=>rfl,p x⟩
 injection d with d;subst d
 obtain⟨A,O,B⟩:=Yi g (p x);simp_all[execOp];cases h:uK P s f with
 |none=>simp_all
 | some z=>cases j:dL P z.type with
  | none=>simp_all
  | some n=>
   simp only[h,j,aZs] at d;split at d
   ·cases d
   ·rename_i H;injection d with d;subst d
    obtain⟨b,off,B,A⟩:=Hx g (p x);unfold uK at h;split at h
    ·rename_i Q J;unfold dL at j;cases l:P.info? z.type with
     | none=>simp_all
     | some K=>
      simp only[l,aZf,Option.some.injEq] at j;refine e _ ⟨_,fun w=>?_,A⟩
      simp[Instr.fieldAt,B,run_underlying J,h,Instr.sureAddr,fieldPlace,sizeOf,typeInfo,l,j,H,dY]
    grind
 injection d with d;subst d
 obtain⟨r,h,j⟩:=aDQ (P:=P) (w:=N) g (p x);exact e _ ⟨r,fun w=>Rl h,j⟩
end
def Q0:Exit->Act->World->Prop:=fun _ _ _=>False
def YAt(P:Program)(ops:Array Oper)(b:Bool)(o:Oper)(x:Value)(a:Act)(w:World):Prop:=
 (Region.wanted o (yielded ops a.tmps)=true/\∀w',(b=true\/w'=w)->(execOp a.eval o).run P w'=.ok (.value x) w')\/(Region.wanted o (yielded ops a.tmps)=false/\x=undef)
def TN(P:Program)(opsA:Array Oper)(ops:L aO)(i:Nat)(K:Act->World->Prop)(a:Act)(w:World):Prop:=
 if (iW ops i).ai.isPure=true then ∃d x,opsA[i]?=some d/\YAt P opsA (N5 (iW ops i).ai) d x a w/\K (a.put d.dst x) w else wpOp P opsA Q0 i K a w
def TC(P:Program)(opsA:Array Oper)(ops:L aO)(KT:Act->World->Prop):IT->Act->World->Prop
 |.nil,a,w=>KT a w
 |.st i t,a,w=>TN P opsA ops i (TC P opsA ops KT t) a w
 |.br i t r,a,w=>TN P opsA ops i (TC P opsA ops KT t) a w/\TC P opsA ops KT r a w
 |.stop,_,_=>True
def AN(P:Program)(G:aE)(k:Nat)(o:aO)(K:AS->Prop)(st:AS):Prop:=
 if o.ai.isPure=true then (Gf G st o.guard/\K ⟨aS st.sl o.dst (.tup []),st.hp⟩)\/(kB G st o.guard/\∃v,dJ G st o.ai=some v/\K ⟨aS st.sl o.dst v,st.hp⟩) else WR P G k [o] K st
def TW(P:Program)(G:aE)(k:Nat)(ops:L aO)(K:AS->Prop):IT->AS->Prop
 |.nil,st=>K st
 |.st i t,st=>AN P G k (iW ops i) (TW P G k ops K t) st
 |.br i t r,st=>AN P G k (iW ops i) (TW P G k ops K t) st/\TW P G k ops K r st
 |.stop,_=>True
def aBx(P:Program)(opsA:Array Oper)(ops:L aO):IT->Prop
 |.nil=>True
 |.st i t=>(∃d,opsA[i]?=some d/\cH P opsA d=some (iW ops i))/\aBx P opsA ops t
 |.br i t r=>(∃d,opsA[i]?=some d/\cH P opsA d=some (iW ops i))/\aBx P opsA ops t/\aBx P opsA ops r
 |.stop=>True
section
variable {P:Program}{G:aE}{k:Nat}{opsA:Array Oper}{ops:L aO}{c:L (L Nat)}{F:Fz}{γ:L OI}{w:World}{a:Act}{st:AS}
theorem AN.mono{o:aO}{K d:AS->Prop}(e:∀s,K s->d s)(h:AN P G k o K st):AN P G k o d st:=by
 unfold AN at *;split;grind;rename_i hp;rw[if_neg hp] at h;exact h.mono e
theorem TW.mono{K f:AS->Prop}(d:∀s,K s->f s):∀(t:IT)(st:AS),TW P G k ops K t st->TW P G k ops f t st
 |.nil,st,h=>d _ h
 |.st i t,st,h=>AN.mono (fun s e=>TW.mono d t s e) h
 |.br i t r,st,h=>⟨AN.mono (fun s e=>TW.mono d t s e) h.1,TW.mono d r st h.2⟩
 |.stop,st,_=>trivial
theorem aNf{A:Fz}{r:L OI}{J:World}{i:Nat}{d:Oper}{K:AS->Prop}{KC:Act->World->Prop}(f:opsA[i]?=some d)(n:cH P opsA d=some (iW ops i))(h:AN P G k (iW ops i) K st) (m:iU k A r J F γ w) (q:eG F γ st.hp w) (j:bY F γ st.sl a) (O:fZ A G) (z:k<=γ.length) (y:∀s w' F' γ' st',K st'->iU k A r J F' γ' w'->eG F' γ' st'.hp w'->bY F' γ' st'.sl s->k<=γ'.length->KC s w'):TN P opsA ops i KC a w:=by
 have l:fZ F G:=O.sub m.sub;unfold TN;unfold AN at h;split;rename_i hp;rw[if_pos hp] at h;have e:=n;simp only[cH] at e;obtain⟨ai,C,e⟩:=aZT.1 e;obtain⟨g,t,h3⟩:=Option.map_eq_some_iff.1 e;have M:ai=(iW ops i).ai:=by grind
 have N:g=(iW ops i).guard:=by grind
 have B:d.dst=(iW ops i).dst:=by grind
 rw[M] at C;rw[N] at t;rcases h with⟨Q,u⟩|⟨p,v,H,u⟩
 exact⟨d,undef,f,.inr ⟨(pC (b':=true) j t).2 Q,rfl⟩,y _ _ _ _ _ u m q (by rw[B];exact j.put _ Q4) z⟩;cases D:N5 (iW ops i).ai with
 |true=>
  obtain⟨x,I,E⟩:=aJe w C H D j l;exact⟨d,x,f,.inl ⟨(pC (b':=true) j t).1 p,fun w' _=>I w'⟩,y _ _ _ _ _ u m q (by rw[B];exact j.put _ E) z⟩
 |false=>
  obtain⟨x,I,E⟩:=aDX C H q j l;refine⟨d,x,f,.inl ⟨(pC (b':=true) j t).1 p,fun w' X=>?_⟩,y _ _ _ _ _ u m q (by rw[B];exact j.put _ E) z⟩
  simp_all
 rename_i hp;rw[if_neg hp] at h;exact WR.op h f n q j l z (fun s w' F' γ' st' S T U V W=>y s w' F' γ' st' S (m.trans T) U V W)
theorem Yr{v:Fz}{s:L OI}{C:World}{K:AS->Prop}{KC:Act->World->Prop}(p:fZ v G) (u:∀g w' F' γ' st',K st'->iU k v s C F' γ' w'->eG F' γ' st'.hp w'->bY F' γ' st'.sl g->k<=γ'.length->KC g w'):∀(t:IT)(F:Fz)(γ:L OI)(a:Act)(w:World)(st:AS),aBx P opsA ops t->TW P G k ops K t st->iU k v s C F γ w->eG F γ st.hp w->bY F γ st.sl a->k<=γ.length->TC P opsA ops KC t a w
 |.nil,F,γ,a,w,st,_,h,j,l,n,m=>u a w F γ st h j l n m
 | .st i t,F,γ,a,w,st,e,h,j,l,n,m=>by
  obtain⟨⟨q,f,d⟩,e⟩:=e;exact aNf f d h j l n p m (fun g w' F' γ' st' x y z A B=>Yr p u t F' γ' g w' st' e x y z A B)
 | .br i t r,F,γ,a,w,st,e,h,j,l,n,m=>by
  obtain⟨⟨q,f,d⟩,e,D⟩:=e;exact⟨aNf f d h.1 j l n p m (fun g w' F' γ' st' x y z A B=>Yr p u t F' γ' g w' st' e x y z A B),Yr p u r F γ a w st D h.2 j l n m⟩
 |.stop,F,γ,a,w,st,_,_,_,_,_,_=>trivial
theorem mF{U:L Nat}{i j:Nat}:i∈Ld U j↔i∈U/\i≠j:=by
 simp[Ld,List.mem_filter]
theorem Rm(U:L Nat)(i j:Nat):Ld (Ld U i) j=Ld (Ld U j) i:=by
 simp_all[Ld,List.filter_filter,Bool.and_comm]
theorem C6{U:L Nat}{j:Nat}:Gi c U j=true↔∀e∈U,e∉c.getD j []:=by
 simp[Gi,bAr]
theorem Ys{U:L Nat}{i j:Nat}(h:Gi c U j=true):Gi c (Ld U i) j=true:=
 C6.2 (fun e d=>C6.1 h e (mF.1 d).1)
theorem Rn{U:L Nat}{i j:Nat}(h:aBw c ops opsA U i=true):aBw c ops opsA (Ld U j) i=true:=by
 grind[aBw,List.all_eq_true,mF]
theorem L7{U:L Nat}{i j:Nat}(h:aBw c ops opsA U i=true)(e:i∈U)(f:j∈U)(g:i≠j)(l:Gi c U j=true):(∃x y,opsA[i]?=some x/\opsA[j]?=some y/\x.apart opsA y=true)/\(N5 (iW ops i).ai=true\/((iW ops i).ai.isPure=true/\(iW ops j).ai.isPure=true)):=by
 have d:=bAr.1 h j f;have m:=C6.1 l i e;have h3:(j==i)=false:=by grind
 have h4:(c.getD j []).contains i=false:=by simp_all
 rw[h3,h4] at d;simp only[aZX,aZq,Bool.or_eq_true] at d;grind[aSi]
theorem aBy{o:Oper}{d:AI}(h:bE P o=some d):∀cs b,o.op≠.select cs b:=by
 grind[guard,bE]
variable (hsel:∀(i:Nat) (o:Oper),opsA[i]?=some o->∀cs b,o.op≠.select cs b)
variable {KT:Act->World->Prop}
include hsel
theorem YAt.put{b:Bool}{i j:Nat}{e g:Oper}{x u:Value}(l:opsA[i]?=some e)(f:∀d,g.dst=some d->d∉e.looksAt opsA)(h:YAt P opsA b e x a w):YAt P opsA b e x (a.put g.dst u) w:=by
 unfold YAt at *;rw[execOp_put e (hsel i e l) a g.dst u f,wanted_put e a g.dst u f];exact h
theorem YAt.unput{b:Bool}{i j:Nat}{e g:Oper}{x u:Value}(l:opsA[i]?=some e)(f:∀d,g.dst=some d->d∉e.looksAt opsA)(h:YAt P opsA b e x (a.put g.dst u) w):YAt P opsA b e x a w:=by
 unfold YAt at *;rw[execOp_put e (hsel i e l) a g.dst u f,wanted_put e a g.dst u f] at h;exact h
theorem aSj{j:Nat}(y:(iW ops j).ai.isPure=true):∀(t:IT)(U D:L Nat)(a:Act)(w:World),vT c ops opsA t U D=true->j∈U->j∉D->Gi c U j=true->TC P opsA ops KT t a w-> ∃A x,opsA[j]?=some A/\YAt P opsA (N5 (iW ops j).ai) A x a w/\∃E,vT c ops opsA E (Ld U j) []=true/\TC P opsA ops KT E (a.put A.dst x) w:=by
 intro t
 induction t with
 |nil=>
  intro U D a w d g;simp only[vT,aZq,List.isEmpty_iff] at d;rw[d.1] at g;cases g
 |st i t S=>
  intro U D a w d g C p h;simp only[vT,aZq] at d;obtain⟨⟨⟨Y,f⟩,hf⟩,d⟩:=d;have f:i∈U:=by simpa using f
  by_cases e:i=j;subst e;simp only[TC,TN,if_pos y] at h;obtain⟨z,x,l,q,h3⟩:=h;exact⟨z,x,l,q,t,d,h3⟩;obtain⟨⟨z,A,m,n,H⟩,s⟩:=L7 hf f g e p;have v:(iW ops i).ai.isPure=true:=by
   rcases s with s|s;exact Rk s;exact s.1
  simp only[TC,TN,if_pos v] at h;obtain⟨V,x,l,q,h3⟩:=h;rw[m] at l;injection l with l;subst l
  obtain⟨W,u,B,O,E,X,Q⟩:=S (Ld U i) [] _ w d (mF.2 ⟨g,Ne.symm e⟩) (by simp) (Ys p) h3;rw[n] at B;injection B with B;subst B
  obtain⟨K,M,N⟩:=Oper.apart_spec H;refine⟨A,u,n,YAt.unput hsel (j:=i) n K O,.st i E,?_,?_⟩;simp only[vT,aZq];exact⟨⟨⟨rfl,by grind[mF]⟩,Rn hf⟩,by grind[Rm]⟩;simp only[TC,TN,if_pos v];exact⟨z,x,m,YAt.put hsel (j:=j) m N q,by rw[<- Act.put_comm a x u M];exact Q⟩
 |br i t r T J=>
  intro U D a w d g C p h;simp only[vT,aZq] at d;obtain⟨⟨f,d⟩,I⟩:=d;by_cases e:i=j;subst e;simp only[TC,TN,if_pos y] at h;obtain⟨⟨z,x,l,q,h3⟩,_⟩:=h;exact⟨z,x,l,q,t,d,h3⟩;exact J U (i::D) a w I g (by simp[C,Ne.symm e]) p h.2
 |stop=>
  intro U D a w d g C p h;simp only[vT,aZq] at d;have:=bAr.1 d.2 j g;rw[p] at this;simp[C] at this
theorem aSk{j:Nat}(u:¬ (iW ops j).ai.isPure=true):∀(t:IT)(U D:L Nat)(a:Act)(w:World),vT c ops opsA t U D=true->j∈U->j∉D->Gi c U j=true->TC P opsA ops KT t a w-> wpOp P opsA Q0 j (fun v w'=>∃B,vT c ops opsA B (Ld U j) []=true/\TC P opsA ops KT B v w') a w:=by
 intro t
 induction t with
 |nil=>
  intro U D a w d l;simp only[vT,aZq,List.isEmpty_iff] at d;rw[d.1] at l;cases l
 |st i t V=>
  intro U D a w d l z n h;simp only[vT,aZq] at d;obtain⟨⟨⟨Z,f⟩,hf⟩,d⟩:=d;have f:i∈U:=by simpa using f
  by_cases e:i=j;subst e;simp only[TC,TN,if_neg u] at h;exact wpOp_mono (fun v w' h=>⟨t,d,h⟩) h
  obtain⟨⟨J,Y,m,q,E⟩,A⟩:=L7 hf f l e n;have p:N5 (iW ops i).ai=true:=by
   rcases A with A|A;exact A;simp_all
  have s:=Rk p;simp only[TC,TN,if_pos s] at h;obtain⟨X,x,y,S,h3⟩:=h;rw[m] at y;injection y with y;subst y
  have T:Yields P opsA J x a:=by
   rcases S with⟨C,K⟩|b;exact .inl ⟨C,fun w'=>K w' (.inl p)⟩
   exact .inr b
  have g:=V (Ld U i) [] _ w d (mF.2 ⟨l,Ne.symm e⟩) (by simp) (Ys n) h3;have Q:=wpOp_put q E (hsel i J m) (hsel j Y q) (fun _ _ _ h=>h) T g
  refine wpOp_mono (fun v w' ⟨C,B,K,M⟩=>⟨.st i B,?_,?_⟩) Q
  simp only[vT,aZq];exact⟨⟨⟨rfl,by grind[mF]⟩,Rn hf⟩,by grind[Rm]⟩;simp only[TC,TN,if_pos s];refine⟨J,x,m,?_,M⟩;rcases C with⟨N,O⟩|c
  exact .inl ⟨N,fun w' _=>O w'⟩
  exact .inr c
 |br i t r W I=>
  intro U D a w d l z n h;simp only[vT,aZq] at d;obtain⟨⟨f,d⟩,H⟩:=d;by_cases e:i=j;subst e;simp only[TC,TN,if_neg u] at h;exact wpOp_mono (fun v w' h=>⟨t,d,h⟩) h.1
  exact I U (i::D) a w H l (by simp[z,Ne.symm e]) n h.2
 |stop=>
  intro U D a w d l z n h;simp only[vT,aZq] at d;have:=bAr.1 d.2 j l;rw[n] at this;simp[z] at this
theorem aSl{q:Exit->Act->World->Prop}{j:Nat}{t:IT}{U:L Nat}{a:Act}{w:World}(n:vT c ops opsA t U []=true)(l:j∈U)(m:Gi c U j=true)(h:TC P opsA ops KT t a w):wpOp P opsA q j (fun r w'=>∃p,vT c ops opsA p (Ld U j) []=true/\TC P opsA ops KT p r w') a w:=by
 by_cases hp:(iW ops j).ai.isPure=true;obtain⟨y,x,u,v,h3⟩:=aSj hsel hp t U [] a w n l (by simp) m h;unfold wpOp;simp only[u];rcases v with⟨d,s⟩|⟨d,rfl⟩
 simp only[d,if_true,Oper.wp,s w (.inr rfl),Oper.upon];exact .inl h3;simp only[d,bAq,if_false];exact h3;have g:=aSk hsel hp t U [] a w n l (by simp) m h;unfold wpOp at *;split;rename_i e;rw[e] at g;exact g;rename_i o e;rw[e] at g;simp only at g;split;rename_i f;rw[if_pos f] at g;rcases g with g|⟨_,_,_,g⟩
 exact .inl (wpQ (fun _ _ _ _ h=>h.elim) g)
 exact g.elim;rename_i f;rw[if_neg f] at g;exact g
end
section
variable {P:Program}{G:aE}{k:Nat}{F:Fz}{γ:L OI}{w:World}{a:Act}
theorem aEn{c:L (L Nat)}{ops:L aO}{opsA:Array Oper}{t:IT}(h:vT c ops opsA t [] []=true):t=.nil:=by
 cases t<;>simp[vT] at h;rfl
def G1(ops:L Oper):Bool:=[Region.Mode.text,.gc,.any].all fun d=>Cz d ops
theorem Yt:∀(l:L aO)(i:Nat),i<l.length->l[i]?=some (iW l i)
 |[],i,h=>by simp at h
 |o::l,0,h=>rfl
 |o::l,i+1,h=>by simp only[bAK,iW];exact Yt l i (by grind)
theorem N7{c:L (L Nat)}{ops:L aO}{opsA:Array Oper}(d:∀i,i<ops.length->∃f,opsA[i]?=some f/\cH P opsA f=some (iW ops i)):∀(t:IT)(U D:L Nat),vT c ops opsA t U D=true->(∀i∈U,i<ops.length)->aBx P opsA ops t
 |.nil,_,_,_,_=>trivial
 |.stop,_,_,_,_=>trivial
 | .st i t,U,D,e,g=>by
  simp only[vT,aZq] at e;obtain⟨⟨⟨n,h⟩,hf⟩,e⟩:=e;exact⟨d i (g i (by simp_all)),N7 d t _ _ e (fun j l=>g j (mF.1 l).1)⟩
 | .br i t r,U,D,e,g=>by
  simp only[vT,aZq] at e;obtain⟨⟨h,e⟩,m⟩:=e;exact⟨d i (g i (by simp_all)),N7 d t _ _ e (fun j l=>g j (mF.1 l).1),N7 d r _ _ m g⟩
theorem aBz{id:Nat}{opsA:Array Oper}{l:List aO}{t:IT}{K:AS->Prop}{st:AS}(hc:bF P opsA opsA.toList=some l) (hok:G1 opsA.toList=true) (N:vT (kJ opsA.toList []) l opsA t (List.range l.length) []=true) (hw:TW P G k l K t st) (D:eG F γ st.hp w) (hs:bY F γ st.sl a) (hg:fZ F G) (hk:k<=γ.length) {O:Exit->Act->World->Prop} (hQ:∀a' w' F' γ' st',K st'->iU k F γ w F' γ' w'->eG F' γ' st'.hp w'->bY F' γ' st'.sl a'->k<=γ'.length->O .normal a' w'):(Code.region id opsA true).wp P O a w:=by
 refine wp_region_draw fun t=>?_
 suffices hmd:∀q:Region.Mode,wpAny P q opsA O opsA.size (Array.replicate opsA.size false) a { w with drawn:=w.drawn+1 } by
  unfold Region.schedule;split;exact wpAny_sound opsA.size t _ a _ (hmd _);exact wpAny_sound opsA.size (t / 2) _ a _ (hmd _)
 intro q;have V:∀(ops:List Oper)(l:List aO),bF P opsA ops=some l->ops.length=l.length/\∀(i:Nat) o x,ops[i]?=some o->l[i]?=some x->cH P opsA o=some x:=by
  intro ops
  induction ops with
  |nil=>intro l h;simp[bF] at h;subst h;exact⟨rfl,fun i o x h=>by simp at h⟩
  |cons o ops ih=>
   intro l h;simp only[bF] at h;cases n:cH P opsA o with
   |none=>simp[n] at h
   | some y=>cases B:bF P opsA ops with
    | none=>simp[n,B] at h
    | some r=>
     simp[n,B] at h;subst h;obtain⟨i1,i2⟩:=ih r B;refine⟨by simp[i1],fun i o' x' ho hx=>?_⟩
     cases i with
     | zero=>simp_all
     | succ i=>grind
 obtain⟨hlen,I⟩:=V _ _ hc;have hN:opsA.size=l.length:=by simpa using hlen
 have hop:∀(i:Nat) d,opsA[i]?=some d->cH P opsA d=some (iW l i):=by
  intro i d h;have hlt:i<l.length:=by rw[<- hN];exact (Array.getElem?_eq_some_iff.1 h).1
  exact I i d _ (by simpa using h) (Yt l i hlt)
 have hsel:∀(i:Nat)(o:Oper),opsA[i]?=some o->∀cs b,o.op≠.select cs b:=by
  intro i o ho;have n:=hop i o ho;simp only[cH] at n;obtain⟨ai,B,_⟩:=aZT.1 n;exact aBy B
 have A:Cz q opsA.toList=true:=by
  have:=bAr.1 hok q (by cases q<;>simp);exact this
 simp only[Cz,Yp,aZq] at A;generalize aD4 (opsA.toList.map (kU q)) opsA.toList.length [] (List.range opsA.toList.length)=tord at A;obtain⟨⟨ht1,ht3⟩,ht2⟩:=A;have E:∀(i:Nat) o,opsA[i]?=some o->∀e∈kU q o,e<opsA.size:=by
  intro i o ho e T;have n:=bAr.1 ht3 (kU q o) (List.mem_map.2 ⟨o,by
   rw[Array.mem_toList_iff];exact Array.mem_of_getElem? ho,rfl⟩)
  simpa using bAr.1 n e T
 have M:∀(listed:Array Bool),listed.size=opsA.size->Region.ready q opsA listed=[]->∀(r done:List Nat),uR (opsA.toList.map (kU q)) r done=true->(∀j∈done,j<opsA.size->listed.getD j false=true)->∀j∈r,j<opsA.size->listed.getD j false=true:=by
  intro listed f s r
  induction r with
  |nil=>intro done _ _ j m;cases m
  |cons i r ih=>
   intro done h hd j m hlt;simp only[uR,aZq] at h;have hi0:i<opsA.size->listed.getD i false=true:=by
    intro J;cases hlj:listed.getD i false with
    |true=>rfl
    |false=>
     exfalso;have v:opsA[i]?=some opsA[i]:=aZR J;have:i∈Region.ready q opsA listed:=uU f J hlj v (fun e T=>by
      have h3:=bAr.1 h.1 e (by
       grind)
      have hmem:e∈done:=by grind
      exact hd e hmem (E i _ v e T))
     rw[s] at this;cases this
   rcases bAl.1 m with rfl|m;grind;grind
 have W:∀(listed:Array Bool),listed.size=opsA.size->Region.ready q opsA listed=[]->∀j,j<opsA.size->listed.getD j false=true:=by
  intro listed f s j m;refine M listed f s tord [] ht1 (fun j m=>by cases m) j ?_ m
  have:=bAr.1 ht2 j (by simpa using m);simpa using this
 have main:∀(g:Nat)(listed:Array Bool)(a:Act)(w':World)(U:List Nat)(t:IT),listed.size=opsA.size->(∀i,i<opsA.size->(listed.getD i false=false↔i∈U))->(∀i∈U,i<opsA.size)->U.length<=g->
   (∀(i:Nat) o,opsA[i]?=some o->listed.getD i false=true->∀e∈lG o,listed.getD e false=true)->
   vT (kJ opsA.toList []) l opsA t U []=true->TC P opsA l (fun a w=>O .normal a w) t a w'->wpAny P q opsA O g listed a w':=by
  intro g
  induction g with
  |zero=>
   intro listed a w' U t f S C hf H N Q;have hnil:U=[]:=bAk (by omega);subst hnil;have:=aEn N;subst this;refine⟨?_,Q⟩;rw[List.eq_nil_iff_forall_not_mem];intro i D;obtain⟨n,B,_⟩:=mY f D;have:=(S i n).1 B;simp at this
  |succ g ih=>
   intro listed a w' U t f S C hf H N Q;refine⟨fun s=>?_,fun i D=>?_⟩
   have hz:=W listed f s;cases U with
   |nil=>have:=aEn N;subst this;exact Q
   |cons u U=>
    have n:=C u aZt;have:=(S u n).2 aZt;rw[hz u n] at this;cases this
   obtain⟨n,B,d,v,T⟩:=mY f D;have X:∀j∈(kJ opsA.toList []).getD i [],listed.getD j false=true:=
    Vr (L:=fun j=>listed.getD j false=true) opsA.toList (fun i o h=>H i o (by simpa using h)) i d (by simpa using v) T
   have hiU:=(S i n).1 B;have hrd:Gi (kJ opsA.toList []) U i=true:=C6.2 (fun e Y hec=>by
    have g1:=X e hec;have g2:=(S e (C e Y)).2 Y;rw[g1] at g2;cases g2)
   refine wpOp_mono (fun a'' w'' ⟨t',g1,g2⟩=>?_) (aSl hsel N hiU hrd Q)
   refine ih _ a'' w'' (Ld U i) t' (by simpa using f) (fun j m=>?_) (fun j m=>C j (mF.1 m).1) ?_ (fun j oj z m e Z=>?_) g1 g2
   by_cases p:i=j;subst p;rw[show (listed.setIfInBounds i true).getD i false=true by rw[bAG,bAM (by omega)];rfl];simp[mF];rw[getD_set_ne false p,S j m,mF];simp[Ne.symm p];have:(Ld U i).length<U.length:=by
    unfold Ld;exact List.length_filter_lt_length_iff_exists.2 ⟨i,hiU,by simp⟩
   omega;by_cases p:i=j;subst p;rw[v] at z;injection z with z;subst z
   exact getD_set_true (T e Z);rw[getD_set_ne false p] at m;exact getD_set_true (H j oj z m e Z)
 have hrep:∀j,(Array.replicate opsA.size false).getD j false=false:=by
  intro j;rw[bAG];by_cases hjs:j<opsA.size<;>simp[hjs]
 have hokT:aBx P opsA l _:=N7 (fun i J=>by
  have hs':i < opsA.size:=by omega
  exact⟨_,aZR hs',hop i _ (aZR hs')⟩) _ _ _ N (fun i D=>by simpa using D)
 have Q:=Yr (P:=P) (opsA:=opsA) (ops:=l) (KC:=fun a w=>O .normal a w) hg hQ _ F γ a { w with drawn:=w.drawn+1 } st hokT hw (iU.drawn _ _ _ _ _) (D.drawn _) hs hk
 exact main opsA.size (Array.replicate opsA.size false) a { w with drawn:=w.drawn+1 } (List.range l.length) _ (by simp) (fun i D=>by
   grind) (fun i D=>by grind) (by simp[hN]) (fun i o ho hl=>by grind) N Q
