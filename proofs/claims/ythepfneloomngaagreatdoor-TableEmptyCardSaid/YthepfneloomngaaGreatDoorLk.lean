/- append, over the abstract states. Conditions: none. -/
import Derived.Test.YthepfneloomngaaGreatDoorLf
namespace Go.Proofs.YthepfneloomngaaGreatDoor
set_option linter.unusedSimpArgs false
set_option linter.unusedVariables false
section
section
variable {P:Program}{F F':Fz}{γ γ':List OI}{w w':World}{hp:List aC}{p:Nat->Bool}
theorem OK.kill{o:aC}{x:OI}(h:OK F γ w o x)(hs:F.sub F')(hg:∀(id:Nat) (o:OI),p id=false->γ[id]?=some o->γ'[id]?=some o)
  (hb:∀b,x.blk=some b->w'.heap[b]?=w.heap[b]?):OK F' γ' w' (cJ p o) x:=by
 cases o with
 |box cs=>
  cases x with
  |box b=>
   obtain⟨vs,T,h1,h2,h3⟩:=h;exact⟨vs,T,h1.of (hb b rfl),by simpa using h2,RCs.kill hs hg h3⟩
  |arr b c=>exact h.elim
  |dead=>exact h.elim
 |arr cap size es=>
  cases x with
  |box b=>exact h.elim
  |arr b c=>
   cases b with
   |none=>exact h
   |some b=>
    obtain⟨h1,h2,h3,vs,T,h4,h5,h6⟩:=h;exact⟨h1,h2,h3,vs,T,h4.of (hb b rfl),h5,fun i j e d v a1 a2 a3=>(h6 i j e d v a1 a2 a3).mono hs⟩
  |dead=>exact h.elim
 |dead=>
  cases x with
  |dead=>trivial
  |box b=>exact h.elim
  |arr b c=>exact h.elim
theorem OK.ext{o:aC}{x:OI}(h:OK F γ w o x)(hs:F.sub F')(hg:∀(id:Nat) (o:OI),γ[id]?=some o->γ'[id]?=some o)
  (hb:∀b,x.blk=some b->w'.heap[b]?=w.heap[b]?):OK F' γ' w' o x:=by
 cases o with
 |box cs=>
  cases x with
  |box b=>
   obtain⟨vs,T,h1,h2,h3⟩:=h;exact⟨vs,T,h1.of (hb b rfl),h2,fun i c v a b=>(h3 i c v a b).ext hs hg⟩
  |arr b c=>exact h.elim
  |dead=>exact h.elim
 |arr cap size es=>
  cases x with
  |box b=>exact h.elim
  |arr b c=>
   cases b with
   |none=>exact h
   |some b=>
    obtain⟨h1,h2,h3,vs,T,h4,h5,h6⟩:=h;exact⟨h1,h2,h3,vs,T,h4.of (hb b rfl),h5,fun i j e d v a1 a2 a3=>(h6 i j e d v a1 a2 a3).mono hs⟩
  |dead=>exact h.elim
 |dead=>
  cases x with
  |dead=>trivial
  |box b=>exact h.elim
  |arr b c=>exact h.elim
theorem L5.lt{w:World}{b:Nat}{vs:Array Value}{T:TypeId}(h:L5 w b vs T):b<w.heap.size:=by
 obtain⟨_,h,_⟩:=h;exact (Array.getElem?_eq_some_iff.1 h).1
theorem L7{b:Nat}{o:Obj}(h:w.heap[b]?=some o):b<w.heap.size:=(Array.getElem?_eq_some_iff.1 h).1
theorem OK.lt{o:aC}{x:OI}(h:OK F γ w o x){b:Nat}(hb:x.blk=some b):b<w.heap.size:=by
 cases x with
 |dead=>simp[OI.blk] at hb
 |box b'=>
  simp[OI.blk] at hb;subst hb;cases o with
  |box cs=>obtain⟨vs,T,⟨_,h1,_⟩,_⟩:=h;exact L7 h1
  |arr _ _ _=>exact h.elim
  |dead=>exact h.elim
 |arr b' c=>
  simp[OI.blk] at hb;subst hb;cases o with
  |arr cap size es=>obtain⟨_,_,_,vs,T,⟨_,h1,_⟩,_⟩:=h;exact L7 h1
  |box _=>exact h.elim
  |dead=>exact h.elim
theorem cU{i b:Nat}(h:bZ γ i=some b):∃x,γ[i]?=some x/\x.blk=some b:=by
 unfold bZ at h;cases hx:γ[i]? with
 |none=>simp[hx] at h
 |some x=>simp[hx] at h;exact⟨x,rfl,h⟩
theorem bM{i b:Nat}{x:OI}(h:γ[i]?=some x)(hb:x.blk=some b):bZ γ i=some b:=by simp[bZ,h,hb]
theorem dE.lt(hi:dE F γ hp w){i b:Nat}(hb:bZ γ i=some b):b<w.heap.size:=by
 obtain⟨x,hx,hxb⟩:=cU hb;have hlt:i<hp.length:=by rw[<- hi.len];exact aG hx
 exact (hi.ok i _ x (aXJ hlt) hx).lt hxb
theorem dE.fzlt(hi:dE F γ hp w){b:Nat}{o:Obj}(h:F b=some o):b<w.heap.size:=L7 (hi.fz b o h)
theorem dE.drawn(hi:dE F γ hp w)(n:Nat):dE F γ hp { w with drawn:=n }:=
 ⟨hi.fz,hi.len,hi.nd,hi.disj,fun i o x h1 h2=>(hi.ok i o x h1 h2).ext (fun _ _ h=>h) (fun _ _ h=>h) (fun _ _=>rfl)⟩
theorem gU.drawn(k:Nat)(F:Fz)(γ:List OI)(w:World)(n:Nat):gU k F γ w F γ { w with drawn:=n }:=
 ⟨fun _ _ h=>h,rfl,rfl,rfl,aXF _,fun _ _ _=>rfl,fun _ _ h=>.inl h,fun i _ h=>.inl ⟨i,h⟩,fun _ _ _ h=>h⟩
def dY(w:World)(o:Obj):World:={ w with heap:=w.heap.push o }
theorem nV{o:Obj}{b:Nat}(h:b<w.heap.size):(dY w o).heap[b]?=w.heap[b]?:=by
 show (w.heap.push o)[b]?=_;rw[Array.getElem?_push,if_neg (Nat.ne_of_lt h)]
theorem NF0(n:Nat):NF (0,0) n:=fun o _ h=>by omega
theorem O0{o:Obj}:(dY w o).heap[w.heap.size]?=some o:=by
 show (w.heap.push o)[w.heap.size]?=_;rw[Array.getElem?_push,if_pos rfl]
theorem Ax{vs:Array Value}{T:TypeId}:L5 (dY w (.cells vs T)) w.heap.size vs T:=⟨_,O0,NF0 _⟩
theorem bQ{α:Type}{l r:List α}{i:Nat}{x:α}(h:l[i]?=some x):(l++r)[i]?=some x:=by
 rw[aXU (aG h)];exact h
theorem gW{α:Type}{l:List α}{y x:α}{i:Nat}(h:(l++[y])[i]?=some x):l[i]?=some x\/(i=l.length/\x=y):=by
 rcases Nat.lt_trichotomy i l.length with h1|h1|h1;rw[aXU h1] at h;exact .inl h;subst h1;simp at h;exact .inr ⟨rfl,h.symm⟩;rw[aYz (by simp;omega)] at h;cases h
theorem dE.pushG{w':World}(hi:dE F γ hp w)(hold:∀b,b<w.heap.size->w'.heap[b]?=w.heap[b]?)(o:aC)(x:OI)(hx:∀b,x.blk=some b->b=w.heap.size)(hok:OK F (γ++[x]) w' o x):
  dE F (γ++[x]) (hp++[o]) w':=by
 have hb:∀i b,bZ (γ++[x]) i=some b->bZ γ i=some b\/(i=γ.length/\b=w.heap.size):=by
  intro i b h;obtain⟨y,hy,hyb⟩:=cU h;rcases gW hy with h1|⟨h1,rfl⟩
  exact .inl (bM h1 hyb);exact .inr ⟨h1,hx b hyb⟩
 refine⟨fun b o' h=>by rw[hold _ (hi.fzlt h)];exact hi.fz b o' h,by simp[hi.len],?_,?_,?_⟩
 intro i j b h1 h2;rcases hb i b h1 with h1|⟨h1,h1'⟩<;>rcases hb j b h2 with h2|⟨h2,h2'⟩
 exact hi.nd i j b h1 h2;have:=hi.lt h1;omega;have:=hi.lt h2;omega;omega;intro i b h;rcases hb i b h with h|⟨_,h⟩
 exact hi.disj i b h;cases hF:F b with
 |none=>rfl
 |some o'=>have:=hi.fzlt hF;omega
 intro i o' y h1 h2;rcases gW h2 with h3|⟨h3,rfl⟩
 have hlt:i<hp.length:=by rw[<- hi.len];exact aG h3
 rw[aXU hlt] at h1;refine (hi.ok i o' y h1 h3).ext (fun _ _ h=>h) (fun _ _ h=>bQ h) (fun b hyb=>?_)
 exact hold _ ((hi.ok i o' y h1 h3).lt hyb);rw[h3,hi.len] at h1;simp at h1;subst h1;exact hok
theorem dE.push(hi:dE F γ hp w)(ob:Obj)(o:aC)(x:OI)(hx:∀b,x.blk=some b->b=w.heap.size)(hok:OK F (γ++[x]) (dY w ob) o x):
 dE F (γ++[x]) (hp++[o]) (dY w ob):=hi.pushG (fun _ hb=>nV hb) o x hx hok
theorem gU.push{k:Nat}(hi:dE F γ hp w)(ob:Obj)(x:OI)(hx:∀b,x.blk=some b->b=w.heap.size):gU k F γ w F (γ++[x]) (dY w ob):=by
 refine⟨fun _ _ h=>h,rfl,rfl,rfl,by simp[dY],fun b hb _=>nV hb,fun _ _ h=>.inl h,fun i b h=>?_,fun i _ b h=>bQ h⟩
 obtain⟨y,hy,hyb⟩:=cU h;rcases gW hy with h1|⟨h1,rfl⟩;exact .inl ⟨i,bM h1 hyb⟩;exact .inr (by rw[hx b hyb];exact aXF _)
def Wc(vs:Array Value)(T:TypeId):Obj->Obj
 |.cells _ _ fz=>.cells vs T fz
 |_=>.cells vs T (0,0)
def setB(w:World)(b:Nat)(vs:Array Value)(T:TypeId):World:={ w with heap:=w.heap.modify b (Wc vs T) }
theorem aHl{b:Nat}{vs us:Array Value}{T U:TypeId}{fz:Nat×Nat}(h:w.heap[b]?=some (.cells us U fz)):(setB w b vs T).heap[b]?=some (.cells vs T fz):=by
 simp[setB,aY6,h,Wc]
theorem kK{b:Nat}{vs us:Array Value}{T U:TypeId}(h:L5 w b us U)(hs:vs.size=us.size):L5 (setB w b vs T) b vs T:=by
 obtain⟨fz,h,hn⟩:=h;exact⟨fz,aHl h,by rw[hs];exact hn⟩
theorem Ay{b b':Nat}{vs:Array Value}{T:TypeId}(h:b'≠b):(setB w b vs T).heap[b']?=w.heap[b']?:=by
 simp[setB,aY6,Ne.symm h]
theorem Zy{b:Nat}{vs vs':Array Value}{T T':TypeId}:setB (setB w b vs T) b vs' T'=setB w b vs' T':=by
 simp only[setB];congr 1;apply Array.ext_getElem?;intro i;simp only[aY6];split;cases w.heap[i]? with
 |none=>rfl
 |some o=>cases o<;>rfl
 rfl
theorem L8{b j:Nat}{vs:Array Value}{T:TypeId}{v:Value}(h:L5 w b vs T):w.setCell ⟨b,j,none⟩ v=setB w b (vs.setIfInBounds j v) T:=by
 obtain⟨fz,h,_⟩:=h;simp only[World.setCell,setB];congr 1;apply Array.ext_getElem?;intro i;rw[aY6,aY6];by_cases hi:b=i;subst hi;rw[if_pos rfl,if_pos rfl,h];rfl;simp[hi]
def dQ(vs:Array Value)(k:Nat)(l:List Value)(i:Nat:=0):Array Value:=(l.zipIdx i).foldl (fun cs (c,j)=>cs.setIfInBounds (k+j) c) vs
theorem dJ(l:List Value):∀(vs:Array Value) (k i:Nat),(dQ vs k l i).size=vs.size:=by
 induction l with
 |nil=>intro vs k i;rfl
 |cons x l ih=>intro vs k i;simp only[dQ,List.zipIdx_cons,aYO];exact (ih _ k (i+1)).trans (by simp)
theorem dH{b off:Nat}{T:TypeId}:∀(l:List Value) (i:Nat) (w:World) (vs:Array Value),L5 w b vs T->(∀v∈l,is1 v=true)->off+i+l.length<=vs.size->
  (storeCells ⟨b,off,none⟩ l i).run P w=.ok () (if l=[] then w else setB w b (dQ vs off l i) T)
 |[],i,w,vs,h,h1,hl=>rfl
 | v::l,i,w,vs,h,h1,hl=>by
  have hv:=h1 v (aXV);simp only[aXE] at hl;have hst:(store (⟨b,off+i,none⟩:Addr) v).run P w=.ok () (setB w b (vs.setIfInBounds (off+i) v) T):=by
   have hc:w.cell? ⟨b,off+i,none⟩=some (vs[off+i]'(by omega)):=by
    rw[lO h];exact aX8 (by omega)
   have hf:w.frozen? ⟨b,off+i,none⟩=false:=by
    obtain⟨fz,h0,hn⟩:=h;have:=hn (off+i) (by omega);simp only[World.frozen?,h0];simpa using this
   rw[<- L8 h];cases v<;>first | (simp[is1] at hv;done) | (unfold store;simp only[Sem.run,hc,hf];rfl)
  have ih:=dH (off:=off) l (i+1) (setB w b (vs.setIfInBounds (off+i) v) T) (vs.setIfInBounds (off+i) v) (kK h (by simp)) (fun x hx=>h1 x (aX3 _ hx)) (by simp;omega)
  simp only[storeCells,Sem.run_bind,dI,hst,Result.andThen_ok,ih];simp only[reduceCtorEq,if_false];congr 1;split
  ·rename_i hl0;subst hl0;rfl
  ·rw[Zy];rfl
theorem pR{b off:Nat}{T t:TypeId}{x:Value}{vs:Array Value}(h:L5 w b vs T)(hs:cZ P t=some x.cells.size)(h1:∀v∈x.cells.toList,is1 v=true)
  (hl:off+x.cells.size<=vs.size):(Instr.storeAt t (.pointer (some ⟨b,off,none⟩)) x).run P w=.ok () (if x.cells.toList=[] then w else setB w b (dQ vs off x.cells.toList) T):=by
 unfold cZ at hs;cases hin:P.info? t with
 |none=>simp[hin] at hs
 |some inf=>
  simp only[hin,aXG,Option.some.injEq] at hs;have:=dH (P:=P) (b:=b) (off:=off) x.cells.toList 0 w vs h h1 (by simpa using hl);simp[Instr.storeAt,Instr.sureAddr,storeVar,sizeOf,typeInfo,hin,hs,this]
theorem dE.setObj(hi:dE F γ hp w){id b:Nat}{x:OI}{o':aC}{vs:Array Value}{T:TypeId}(hx:γ[id]?=some x)(hb:x.blk=some b)(hok:OK F γ (setB w b vs T) o' x):
  dE F γ (hp.set id o') (setB w b vs T):=by
 refine⟨fun b' o h=>?_,by simp[hi.len],hi.nd,hi.disj,fun i o y h1 h2=>?_⟩
 have hne:b'≠b:=fun e=>by subst e;rw[hi.disj id _ (bM hx hb)] at h;cases h
 rw[Ay hne];exact hi.fz b' o h;by_cases hii:i=id;subst hii;rw[hx] at h2;injection h2 with h2;subst h2
 rw[aX7 (by rw[<- hi.len];exact aG hx)] at h1;injection h1 with h1;subst h1
 exact hok;rw[aXW (Ne.symm hii)] at h1;refine (hi.ok i o y h1 h2).ext (fun _ _ h=>h) (fun _ _ h=>h) (fun b' hb'=>?_)
 exact Ay (fun e=>hii (by subst e;exact hi.nd _ _ _ (bM h2 hb') (bM hx hb)))
theorem gU.setB{k:Nat}(hi:dE F γ hp w){id b:Nat}{x:OI}{vs:Array Value}{T:TypeId}(hx:γ[id]?=some x)(hb:x.blk=some b):gU k F γ w F γ (setB w b vs T):=
 ⟨fun _ _ h=>h,rfl,rfl,rfl,by simp[Go.Proofs.YthepfneloomngaaGreatDoor.setB],fun b' _ hn=>Ay (fun e=>hn id (by subst e;exact bM hx hb)),fun _ _ h=>.inl h,fun i _ h=>.inl ⟨i,h⟩,fun _ _ _ h=>h⟩
theorem bV.ext{sl:List AV}{a:Act}(h:bV F γ sl a)(hs:F.sub F')(hg:∀(id:Nat) (o:OI),γ[id]?=some o->γ'[id]?=some o):bV F' γ' sl a:=
 ⟨h.1,h.2.1,fun i av v h1 h2=>(h.2.2 i av v h1 h2).ext hs hg⟩
theorem bV.kill{sl:List AV}{a:Act}(h:bV F γ sl a)(hs:F.sub F')(hg:∀(id:Nat) (o:OI),p id=false->γ[id]?=some o->γ'[id]?=some o):bV F' γ' (sl.map (bD p)) a:=by
 refine⟨h.1,by simpa using h.2.1,fun i av v h1 h2=>?_⟩
 rw[aXI] at h1;cases hi:sl[i]? with
 |none=>simp[hi] at h1
 |some av0=>simp[hi] at h1;subst h1;exact (h.2.2 i av0 v hi h2).kill hs hg
theorem bV.put{sl:List AV}{a:Act}(h:bV F γ sl a)(dst:Option Nat){av:AV}{v:Value}(hv:RV F γ av v):bV F γ (aQ sl dst av) (a.put dst v):=by
 cases dst with
 |none=>exact h
 |some d=>
  refine⟨h.1,by simpa[aQ,Act.put] using h.2.1,fun i av' v' h1 h2=>?_⟩
  simp only[aQ,Act.put] at h1 h2;by_cases hd:d=i;subst hd;have hlt:d<sl.length:=by have:=aG h1;simpa using this
  rw[aX7 hlt] at h1;have hlt2:d<a.tmps.size:=h.2.1 ▸ hlt;rw[aZf hlt2] at h2;injection h1 with h1;injection h2 with h2
  subst h1;subst h2;exact hv;rw[aXW hd] at h1;rw[Array.getElem?_setIfInBounds_ne hd] at h2;exact h.2.2 i av' v' h1 h2
end
end
section
def kT(opsA:Array Oper):Option (Nat×Bool)->Option (Option (Nat×Bool))
 |none=>some none
 |some (j,b)=>((opsA[j]?).bind (·.dst)).map fun d=>some (d,b)
def cC(P:Program)(opsA:Array Oper)(o:Oper):Option aN:=
 (bB P o).bind fun ai=>(kT opsA o.guard).map fun g=>⟨o.dst,ai,g⟩
def bE(P:Program)(opsA:Array Oper):List Oper->Option (List aN)
 |[]=>some []
 |o::l=>(cC P opsA o).bind fun x=>(bE P opsA l).map (x::·)
def WR(P:Program)(G:aE)(k:Nat)(aops:List aN)(Q:AS->Prop)(as:AS):Prop:=
 ∀(opsA:Array Oper) (l:List Oper),bE P opsA l=some aops->∀F γ a w,dE F γ as.hp w->bV F γ as.sl a->eU F G->k<=γ.length->
  ∀QE:Exit->Act->World->Prop,(∀a' w' F' γ' as',Q as'->gU k F γ w F' γ' w'->dE F' γ' as'.hp w'->bV F' γ' as'.sl a'->k<=γ'.length->QE .normal a' w')->wpList P opsA QE l a w
def Gh(k:Nat)(as as':AS):Prop:=
 ∀F γ a w,dE F γ as.hp w->bV F γ as.sl a->k<=γ.length->∃F' γ',gU k F γ w F' γ' w/\dE F' γ' as'.hp w/\bV F' γ' as'.sl a/\k<=γ'.length
def iY(G:aE)(as:AS):Option (Nat×Bool)->Prop
 |none=>True
 |some (g,b)=>cH (aK G as.sl (.t g))=some b
def Es(G:aE)(as:AS):Option (Nat×Bool)->Prop
 |none=>False
 |some (g,b)=>cH (aK G as.sl (.t g))=some (!b)\/aK G as.sl (.t g)=.tup []
section
variable {P:Program}{G:aE}{k:Nat}{Q:AS->Prop}{as as':AS}{o:aN}{rest ops:List aN}
theorem WR.nil(h:Q as):WR P G k [] Q as:=by
 intro opsA l hc F γ a w hi hs hg hk QE hq;cases l with
 |nil=>exact hq a w F γ as h (gU.refl _ _ _ _) hi hs hk
 |cons o l=>
  simp only[bE] at hc;cases h1:cC P opsA o with
  |none=>simp[h1] at hc
  |some x=>simp[h1] at hc
theorem WR.ghost(h:Gh k as as')(hw:WR P G k ops Q as'):WR P G k ops Q as:=by
 intro opsA l hc F γ a w hi hs hg hk QE hq;obtain⟨F',γ',he,hi',hs',hk'⟩:=h F γ a w hi hs hk;exact hw opsA l hc F' γ' a w hi' hs' (hg.sub he.sub) hk' QE (fun a' w' F'' γ'' as'' h1 h2 h3 h4=>hq a' w' F'' γ'' as'' h1 (he.trans h2) h3 h4)
theorem WR.mono{Q':AS->Prop}(h:WR P G k ops Q as)(hq:∀as,Q as->Q' as):WR P G k ops Q' as:=by
 intro opsA l hc F γ a w hi hs hg hk QE hqe;exact h opsA l hc F γ a w hi hs hg hk QE (fun a' w' F' γ' as' h1=>hqe a' w' F' γ' as' (hq _ h1))
def aMH(P:Program)(k:Nat)(oper:Oper)(dst:Option Nat)(a:Act)(w:World)(F:Fz)(γ:List OI)(R:AS->Prop):Prop:=
 (∃nx v w' as' F' γ',(execOp a.eval oper).run P w=.ok nx w'/\(nx=.value v\/(nx=.skip/\v=undef))/\R as'/\gU k F γ w F' γ' w'/\dE F' γ' as'.hp w'/\bV F' γ' as'.sl (a.put dst v)/\k<=γ'.length)\/
 (∃f vs,(execOp a.eval oper).run P w=.ok (.enter f vs) w/\Calls P f vs w fun e w'=>∃r as' F' γ',e=.returned r/\R as'/\gU k F γ w F' γ' w'/\dE F' γ' as'.hp w'/\bV F' γ' as'.sl (a.put dst r)/\k<=γ'.length)
theorem Gt{F:Fz}{γ:List OI}{a:Act}{d:Nat}{b:Bool}(hs:bV F γ as.sl a)(h:cH (aK G as.sl (.t d))=some b):a.tmps[d]?=some (.bool b):=by
 simp only[aK,aXN] at h;cases hi:as.sl[d]? with
 |none=>simp[hi,cH] at h
 |some av=>
  simp[hi] at h;have hlt:d<a.tmps.size:=hs.2.1 ▸ aG hi;have hv:a.tmps[d]?=some (a.tmps[d]'hlt):=aX8 hlt;rw[hv,L6 (hs.2.2 d av _ hi hv) h]
theorem O1{F:Fz}{γ:List OI}:RV F γ (.tup []) undef:=.tup [] #[] rfl (fun i t v h=>by simp at h)
theorem Zz{F:Fz}{γ:List OI}{a:Act}{d:Nat}(hs:bV F γ as.sl a)(h:aK G as.sl (.t d)=.tup []):a.tmps[d]?=some undef\/a.tmps[d]?=none:=by
 simp only[aK,aXN] at h;cases hi:as.sl[d]? with
 |none=>simp[hi] at h
 |some av=>
  simp[hi] at h;subst h;have hlt:d<a.tmps.size:=hs.2.1 ▸ aG hi;have hv:a.tmps[d]?=some (a.tmps[d]'hlt):=aX8 hlt;have h3:=hs.2.2 d _ _ hi hv
  left
  rw[hv];generalize a.tmps[d]'hlt=x at h3;cases h3 with
  |tup l vs hsz hr=>
   have:vs=#[]:=Array.eq_empty_of_size_eq_zero (by simpa using hsz);subst this;rfl
theorem nN{F:Fz}{γ:List OI}{a:Act}{opsA:Array Oper}{og:Option (Nat×Bool)}{oper:Oper}{b':Bool}(hs:bV F γ as.sl a)(hc:kT opsA oper.guard=some og):
  (iY G as og->Region.wanted oper (yielded opsA a.tmps)=true)/\(Es G as og->Region.wanted oper (yielded opsA a.tmps)=false):=by
 unfold kT at hc;unfold Region.wanted;split at hc;injection hc with hc;subst hc
 rename_i hn;rw[hn];exact⟨fun _=>rfl,fun h=>h.elim⟩
 rename_i j b hn;rw[hn];cases hd:(opsA[j]?).bind (·.dst) with
 |none=>simp[hd] at hc
 |some d=>
  simp only[hd,aXG,Option.some.injEq] at hc;subst hc;refine⟨fun h=>?_,fun h=>?_⟩
  have:=Gt hs h;simp[yielded,hd,this];rcases h with h|h
  have:=Gt hs h;simp[yielded,hd,this];have:=Zz hs h;rcases this with this|this<;>simp[yielded,hd,this,undef]
theorem mV{opsA:Array Oper}{l:List Oper}(hc:bE P opsA l=some (o::rest)):
  ∃oper l',l=oper::l'/\bB P oper=some o.ai/\kT opsA oper.guard=some o.guard/\oper.dst=o.dst/\bE P opsA l'=some rest:=by
 cases l with
 |nil=>simp[bE] at hc
 |cons oper l'=>
  simp only[bE,cC] at hc;cases h1:bB P oper with
  |none=>simp[h1] at hc
  |some ai=>
   cases h2:kT opsA oper.guard with
   |none=>simp[h1,h2] at hc
   |some g=>
    cases h3:bE P opsA l' with
    |none=>simp[h1,h2,h3] at hc
    |some r=>
     simp only[h1,h2,h3,aXP,aXG,Option.some.injEq,List.cons.injEq] at hc;obtain⟨rfl,rfl⟩:=hc;exact⟨oper,l',rfl,(by first|exact h1|rfl),(by first|exact h2|rfl),rfl,h3⟩
theorem WR.step(hgd:iY G as o.guard)
  (h:∀F γ a w (oper:Oper),bB P oper=some o.ai->oper.dst=o.dst->dE F γ as.hp w->bV F γ as.sl a->eU F G->k<=γ.length->aMH P k oper o.dst a w F γ (fun as'=>WR P G k rest Q as')):
  WR P G k (o::rest) Q as:=by
 intro opsA l hc F γ a w hi hs hg hk QE hq;obtain⟨oper,l',rfl,h1,h2,h3,h4⟩:=mV hc;refine wpList_step (fun K hK=>?_)
 rw[(nN (b':=true) hs h2).1 hgd,if_pos rfl];unfold Oper.wp;rcases h F γ a w oper h1 h3 hi hs hg hk with⟨nx,v,w',as',F',γ',hr,hn,hR,hE,hI,hS,hk'⟩|⟨f,vs,hr,hcl⟩
 have go:K (a.put oper.dst v) w':=by
  rw[h3];exact hK _ _ (hR opsA l' h4 F' γ' _ w' hI hS (hg.sub hE.sub) hk' QE (fun a'' w'' F'' γ'' as'' q1 q2 q3 q4=>hq a'' w'' F'' γ'' as'' q1 (hE.trans q2) q3 q4))
 rw[hr];rcases hn with rfl|⟨rfl,rfl⟩
 exact go;exact go;rw[hr,Oper.upon_enter];refine hcl.mono ?_;rintro e w' ⟨r,as',F',γ',rfl,hR,hE,hI,hS,hk'⟩;show K (a.put oper.dst r) w';rw[h3];exact hK _ _ (hR opsA l' h4 F' γ' _ w' hI hS (hg.sub hE.sub) hk' QE (fun a'' w'' F'' γ'' as'' q1 q2 q3 q4=>hq a'' w'' F'' γ'' as'' q1 (hE.trans q2) q3 q4))
theorem WR.skip(hgd:Es G as o.guard)(h:WR P G k rest Q ⟨aQ as.sl o.dst (.tup []),as.hp⟩):WR P G k (o::rest) Q as:=by
 intro opsA l hc F γ a w hi hs hg hk QE hq;obtain⟨oper,l',rfl,h1,h2,h3,h4⟩:=mV hc;refine wpList_step (fun K hK=>?_)
 rw[(nN (b':=true) hs h2).2 hgd,if_neg (by simp),h3];exact hK _ _ (h opsA l' h4 F γ _ w hi (hs.put _ O1) hg hk QE hq)
theorem WR.pur{v:AV}(hgd:iY G as o.guard)(he:cX G as o.ai=some v)(h:WR P G k rest Q ⟨aQ as.sl o.dst v,as.hp⟩):WR P G k (o::rest) Q as:=by
 refine WR.step hgd (fun F γ a w oper hc hd hi hs hg hk=>?_)
 obtain⟨x,hr,hv⟩:=aCA hc he hi hs hg;exact .inl ⟨_,x,w,⟨aQ as.sl o.dst v,as.hp⟩,F,γ,hr,.inl rfl,h,gU.refl _ _ _ _,hi,hs.put _ hv,hk⟩
def AI.isPure:AI->Bool
 |.alloc _=>false
 |.box _=>false
 |.store _ _ _=>false
 |.bslc _ _ _ _=>false
 |.call _ _=>false
 |.callv _ _=>false
 |.app _ _ _ _ _=>false
 |.apps _ _=>false
 |.mk _ _ _ _ _=>false
 |.clr _ _ _=>false
 |.cpys _ _=>false
 |.cvsb _=>false
 |_=>true
def aCB(G:aE):List aN->AS->Option (List aN×AS)
 |[],as=>some ([],as)
 |o::rest,as=>
  match o.guard,o.ai.isPure with
  |none,true=>(cX G as o.ai).bind fun v=>aCB G rest ⟨aQ as.sl o.dst v,as.hp⟩
  |_,_=>some (o::rest,as)
theorem WR.run:∀(ops:List aN) (as:AS) (rest:List aN) (as':AS),aCB G ops as=some (rest,as')->WR P G k rest Q as'->WR P G k ops Q as
 |[],as,rest,as',h,hw=>by simp[aCB] at h;obtain⟨rfl,rfl⟩:=h;exact hw
 | o::ops,as,rest,as',h,hw=>by
  simp only[aCB] at h;split at h
  ·rename_i hg _;cases he:cX G as o.ai with
   | none=>simp[he] at h
   | some v=>
    simp only[he,aXP] at h;exact WR.pur (by rw[hg];trivial) he (WR.run ops _ rest as' h hw)
  ·injection h with h;injection h with h1 h2;subst h1;subst h2;exact hw
def runG(G:aE)(g:Nat)(b:Bool):List aN->AS->Option (List aN×AS)
 |[],as=>some ([],as)
 |o::rest,as=>
  if o.guard=some (g,b)/\o.ai.isPure=true/\o.dst≠some g then (cX G as o.ai).bind fun v=>runG G g b rest ⟨aQ as.sl o.dst v,as.hp⟩
  else some (o::rest,as)
theorem mW{sl:List AV}{d:Option Nat}{v:AV}{g:Nat}(h:d≠some g):aK G (aQ sl d v) (.t g)=aK G sl (.t g):=by
 cases d with
 |none=>rfl
 |some d=>
  have hne:d≠g:=fun e=>h (by rw[e])
  simp only[aK,aQ,aXN,aXW hne]
theorem WR.runG{g:Nat}{b:Bool}:∀(ops:List aN) (as:AS) (rest:List aN) (as':AS),cH (aK G as.sl (.t g))=some b->runG G g b ops as=some (rest,as')->WR P G k rest Q as'->WR P G k ops Q as
 |[],as,rest,as',hb,h,hw=>by simp[Go.Proofs.YthepfneloomngaaGreatDoor.runG] at h;obtain⟨rfl,rfl⟩:=h;exact hw
 | o::ops,as,rest,as',hb,h,hw=>by
  simp only[Go.Proofs.YthepfneloomngaaGreatDoor.runG] at h;split at h
  ·rename_i hc;cases he:cX G as o.ai with
   | none=>simp[he] at h
   | some v=>
    simp only[he,aXP] at h;exact WR.pur (by rw[hc.1];exact hb) he (WR.runG ops _ rest as' (by rw[mW hc.2.2];exact hb) h hw)
  ·injection h with h;injection h with h1 h2;subst h1;subst h2;exact hw
def skipG(g:Nat)(b:Bool):List aN->AS->List aN×AS
 |[],as=>([],as)
 |o::rest,as=>
  if o.guard=some (g,b)/\o.dst≠some g then skipG g b rest ⟨aQ as.sl o.dst (.tup []),as.hp⟩
  else (o::rest,as)
theorem WR.skipG{g:Nat}{b:Bool}:∀(ops:List aN) (as:AS) (rest:List aN) (as':AS),Es G as (some (g,b))->skipG g b ops as=(rest,as')->WR P G k rest Q as'->WR P G k ops Q as
 |[],as,rest,as',hb,h,hw=>by simp[Go.Proofs.YthepfneloomngaaGreatDoor.skipG] at h;obtain⟨rfl,rfl⟩:=h;exact hw
 | o::ops,as,rest,as',hb,h,hw=>by
  simp only[Go.Proofs.YthepfneloomngaaGreatDoor.skipG] at h;split at h
  ·rename_i hc;exact WR.skip (by rw[hc.1];exact hb) (WR.skipG ops _ rest as' (by simp only[Es];rw[mW hc.2];exact hb) h hw)
  ·injection h with h1 h2;subst h1;subst h2;exact hw
end
end
section
def fU:AI->Nat
 |.alloc _=>1|.box _=>2|.store _ _ _=>3|.bslc _ _ _ _=>4|.call _ _=>5|.callv _ _=>6|.app _ _ _ _ _=>7|.apps _ _=>8|.mk _ _ _ _ _=>9|.clr _ _ _=>10|.isnil _ _ _=>11|.cpys _ _=>12|.cvsb _=>13|_=>0
def cD:Op->List Nat
 |.alloc _=>[1]|.box _ _=>[2]|.store _ _ _=>[3]|.buildSlice _ _ _=>[4]|.makeSlice _ _ _=>[9]|.binOp _ _ _ _ _=>[0,11]|.convert _ _ _=>[0,13]
 | .call c=>match c.callee with
  | .value (.func _)=>[5]
  | .value _=>[6]
  | .builtin .append=>[7,8]
  | .builtin .clear=>[10]
  | .builtin .copy=>[12]
  | _=>[0]
 |_=>[0]
theorem aHm{P:Program}{o:Oper}{ai:AI}(hc:bB P o=some ai):fU ai∈cD o.op:=by
 obtain⟨dst,op,type,pos,after,guard⟩:=o;unfold bB at hc;cases op
 case makeFunc fn a b=>
  cases fn<;>simp only[reduceCtorEq] at hc;split at hc;cases hc;simp[cD,fU];cases hc
 all_goals simp only[reduceCtorEq] at hc
 all_goals try unfold nU at hc
 all_goals try unfold lN at hc
 all_goals try unfold mC at hc
 all_goals try unfold eQ at hc
 all_goals repeat' (first|(obtain⟨_,_,hc⟩:=hc)|split at hc|(simp only[aYu,Option.map_eq_some_iff] at hc))
 all_goals first|(simp[cD,fU];done)|(simp[cD,fU, *];done)|contradiction|(cases hc;done)|(simp[cD,fU, *];done)|(injection hc with hc;subst hc;simp[cD,fU, *];done)|(subst hc;simp[cD,fU, *];done)
theorem gZ{P:Program}{o:Oper}{ai:AI}{n:Nat}(hc:bB P o=some ai)(hn:fU ai=n):n∈cD o.op:=hn ▸ aHm hc
theorem O2{op:Op}(h:1∈cD op):∃e,op=.alloc e:=by
 cases op<;>first|(exact⟨_,rfl⟩)|(simp[cD] at h;done)|(simp only[cD] at h;repeat' split at h)<;>simp at h
theorem aMI{op:Op}(h:2∈cD op):∃e x,op=.box e x:=by
 cases op<;>first|(exact⟨_,_,rfl⟩)|(simp[cD] at h;done)|(simp only[cD] at h;repeat' split at h)<;>simp at h
theorem aCC{op:Op}(h:3∈cD op):∃e x y,op=.store e x y:=by
 cases op<;>first|(exact⟨_,_,_,rfl⟩)|(simp[cD] at h;done)|(simp only[cD] at h;repeat' split at h)<;>simp at h
theorem L9{op:Op}(h:4∈cD op):∃e x y,op=.buildSlice e x y:=by
 cases op<;>first|(exact⟨_,_,_,rfl⟩)|(simp[cD] at h;done)|(simp only[cD] at h;repeat' split at h)<;>simp at h
theorem aLz{op:Op}(h:9∈cD op):∃e x y,op=.makeSlice e x y:=by
 cases op<;>first|(exact⟨_,_,_,rfl⟩)|(simp[cD] at h;done)|(simp only[cD] at h;repeat' split at h)<;>simp at h
theorem aCD{op:Op}(h:11∈cD op):∃b t x y u,op=.binOp b t x y u:=by
 cases op<;>first|(exact⟨_,_,_,_,_,rfl⟩)|(simp[cD] at h;done)|(simp only[cD] at h;repeat' split at h)<;>simp at h
theorem aHn{op:Op}(h:13∈cD op):∃s d x,op=.convert s d x:=by
 cases op<;>first|(exact⟨_,_,_,rfl⟩)|(simp[cD] at h;done)|(simp only[cD] at h;repeat' split at h)<;>simp at h
theorem aHo{op:Op}(h:12∈cD op):∃c,op=.call c/\c.callee=.builtin .copy:=by
 cases op<;>first|(simp[cD] at h;done)|skip
 rename_i c;refine⟨c,rfl,?_⟩;simp only[cD] at h;split at h<;>simp_all
theorem aMJ{op:Op}(h:10∈cD op):∃c,op=.call c/\c.callee=.builtin .clear:=by
 cases op<;>first|(simp[cD] at h;done)|skip
 rename_i c;refine⟨c,rfl,?_⟩;simp only[cD] at h;split at h<;>simp_all
theorem Ma{op:Op}(h:5∈cD op\/6∈cD op\/7∈cD op\/8∈cD op):∃c,op=.call c:=by
 cases op<;>first|(exact⟨_,rfl⟩)|(simp[cD] at h;done)
section
variable {P:Program}{G:aE}{k:Nat}{Q:AS->Prop}{as as':AS}{o:aN}{rest ops:List aN}{F:Fz}{γ:List OI}{w:World}
theorem RCs.ext{F':Fz}{γ':List OI}{cs:List aT}{vs:Array Value}(h:RCs F γ cs vs)(hs:F.sub F')(hg:∀(id:Nat) (o:OI),γ[id]?=some o->γ'[id]?=some o):RCs F' γ' cs vs:=
 ⟨h.1,fun i c v h1 h2=>(h.2 i c v h1 h2).ext hs hg⟩
theorem Gu(hi:dE F γ as.hp w){a:Act}(hs:bV F γ as.sl a)(hk:k<=γ.length){cs:List aT}{vs:Array Value}{T:TypeId}(h:RCs F γ cs vs)(dst:Option Nat):
  gU k F γ w F (γ++[.box w.heap.size]) (dY w (.cells vs T))/\dE F (γ++[.box w.heap.size]) (as.hp++[.box cs]) (dY w (.cells vs T))/\
  bV F (γ++[.box w.heap.size]) (aQ as.sl dst (.one (.ptr as.hp.length 0))) (a.put dst (.pointer (some ⟨w.heap.size,0,none⟩)))/\k<=(γ++[OI.box w.heap.size]).length:=by
 have hx:∀b,(OI.box w.heap.size).blk=some b->b=w.heap.size:=by intro b hb;simp[OI.blk] at hb;exact hb.symm
 refine⟨gU.push hi _ _ hx,dE.push hi _ _ _ hx ?_,?_,by simp;omega⟩;have:=h.ext (fun _ _ h=>h) (γ':=γ++[.box w.heap.size]) (fun _ _ h=>bQ h)
 exact⟨vs,T,Ax,Nat.le_of_eq this.1.symm,this.2⟩;refine (hs.ext (fun _ _ h=>h) (fun _ _ h=>bQ h)).put dst (.one _ _ (.ptr _ _ _ ?_))
 rw[<- hi.len];simp
theorem WR.alloc{zero:List Value}(hgd:iY G as o.guard)(ha:o.ai=.alloc zero)
  (h:WR P G k rest Q ⟨aQ as.sl o.dst (.one (.ptr as.hp.length 0)),as.hp++[.box (zero.map dA)]⟩):WR P G k (o::rest) Q as:=by
 refine WR.step hgd (fun F γ a w oper hc hd hi hs hg hk=>?_)
 rw[ha] at hc;obtain⟨e,he⟩:=O2 (gZ hc rfl);obtain⟨dst,op,type,pos,after,guard⟩:=oper;simp only at he;subst he;simp only[bB] at hc;cases h1:P.info? e with
 |none=>simp[h1] at hc
 | some i=>cases h2:i.zero with
  | none=>simp[h1,h2] at hc
  | some z=>
   simp only[h1,h2,aXP] at hc;split at hc
   ·rename_i hall;injection hc with hc;injection hc with hc;subst hc
    have hzr:RCs F γ (z.cells.toList.map dA) z.cells:=by
     have:=RCs.raw (F:=F) (γ:=γ) (vs:=z.cells.toList) (fun v hv=>aY2.1 hall v hv)
     simpa using this
    obtain⟨hE,hI,hS,hk'⟩:=Gu (T:=e) hi hs hk hzr o.dst;refine .inl ⟨_,_,_,_,F,_, ?_,.inl rfl,h,hE,hI,hS,hk'⟩;simp only[execOp,Instr.alloc,zeroValue,typeInfo,h1,h2,newVar,newRow,Sem.run_bind,run_program,Result.andThen_ok,Sem.run_pure,run_newObj,dY]
   ·cases hc
theorem WR.box{x:aH}{cs:List aT}(hgd:iY G as o.guard)(ha:o.ai=.box x)(hx:cellsOf (aK G as.sl x)=some cs)
  (h:WR P G k rest Q ⟨aQ as.sl o.dst (.one (.ptr as.hp.length 0)),as.hp++[.box cs]⟩):WR P G k (o::rest) Q as:=by
 refine WR.step hgd (fun F γ a w oper hc hd hi hs hg hk=>?_)
 rw[ha] at hc;obtain⟨e,y,he⟩:=aMI (gZ hc rfl);obtain⟨dst,op,type,pos,after,guard⟩:=oper;simp only at he;subst he;simp only[bB,Option.some.injEq,AI.box.injEq] at hc;subst hc;have hr:=(cR hs hg y).cells hx;obtain⟨hE,hI,hS,hk'⟩:=Gu (T:=e) hi hs hk hr o.dst;refine .inl ⟨_,_,_,_,F,_,?_,.inl rfl,h,hE,hI,hS,hk'⟩;simp only[execOp,Instr.box,newVar,newRow,Sem.run_bind,Result.andThen_ok,Sem.run_pure,run_newObj,dY]
theorem RCs.is1{cs:List aT}{vs:Array Value}(h:RCs F γ cs vs):∀v∈vs.toList,is1 v=true:=by
 intro v hv;obtain⟨i,hi⟩:=aYZ hv;have hlt:i<vs.size:=by have:=aG hi;simpa using this
 have hc:cs[i]?=some (cs[i]'(h.1 ▸ hlt)):=aXJ _;exact (h.2 i _ v hc (by simpa using hi)).is1
theorem qR(l:List Value):∀(k0:Nat) (vs:Array Value) (n q:Nat),(dQ vs q l k0)[n]?=if q+k0<=n/\n<q+k0+l.length/\n<vs.size then l[n-(q+k0)]? else vs[n]?:=by
 induction l with
 |nil=>intro k0 vs n q;simp[dQ];intro h1 h2;omega
 |cons x l ih=>
  intro k0 vs n q;simp only[dQ,List.zipIdx_cons,aYO];have h2:=ih (k0+1) (vs.setIfInBounds (q+k0) x) n q;simp only[dQ] at h2;rw[h2];simp only[Array.size_setIfInBounds,aXE,Array.getElem?_setIfInBounds];by_cases c1:n=q+k0;subst c1;rw[if_neg (by omega)];by_cases c2:q+k0<vs.size;rw[if_pos (by omega),if_pos c2,if_pos (by omega)];simp;rw[if_pos (by omega),if_neg c2,if_neg (by omega)];simp[Array.getElem?_eq_none (Nat.le_of_not_lt c2)];rw[if_neg (show ¬ q+k0=n by omega)];by_cases c2:q+(k0+1)<=n/\n<q+(k0+1)+l.length/\n<vs.size;rw[if_pos c2,if_pos (by omega)];rw[show n-(q+k0)=(n-(q+(k0+1)))+1 by omega];simp;rw[if_neg c2,if_neg (by omega)]
theorem sK{cs vs:List aT}{as bs:Array Value}{off:Nat}(hs:cs.length<=as.size)(h:∀(i:Nat) c v,cs[i]?=some c->as[i]?=some v->RC F γ c v)(h':RCs F γ vs bs)(hle:off+vs.length<=cs.length):
  (cQ cs off vs).length<=(dQ as off bs.toList).size/\∀(i:Nat) c v,(cQ cs off vs)[i]?=some c->(dQ as off bs.toList)[i]?=some v->RC F γ c v:=by
 have hb:=h'.1;refine⟨by rw[dJ];unfold cQ;simp;omega,fun i c v h1 h2=>?_⟩
 rw[qR] at h2;unfold cQ at h1;simp only[aYp,aY4] at h2;have e1:min off cs.length=off:=by omega
 by_cases c1:i<off;rw[if_neg (by omega)] at h2;rw[aXR,aXU (by simp;omega),aX2,if_pos c1] at h1;exact h i c v h1 h2;by_cases c2:i<off+vs.length;rw[if_pos ⟨by omega,by omega,by omega⟩] at h2;rw[aXR,aXY (by simp;omega),aXU (by simp;omega)] at h1;simp only[aXK,e1] at h1;exact h'.2 (i-off) c v h1 (by simpa using h2);rw[if_neg (by omega)] at h2;rw[aXY (by simp;omega)] at h1;simp only[aXD,aXK,e1,aX9] at h1;rw[show off+vs.length+(i-(off+vs.length))=i by omega] at h1;exact h i c v h1 h2
theorem Z0(cs:List aT)(off:Nat):cQ cs off []=cs:=by simp[cQ]
theorem Kk{oper:Oper}{size:Nat}{x v:aH}(hc:bB P oper=some (.store size x v)):
  ∃t ox ov,oper.op=.store t ox ov/\cZ P t=some size/\x=aU ox/\v=aU ov:=by
 obtain⟨t,ox,ov,he⟩:=aCC (gZ hc rfl);obtain⟨dst,op,type,pos,after,guard⟩:=oper;simp only at he;subst he;simp only[bB] at hc;cases h2:cZ P t with
 |none=>simp[h2] at hc
 |some s=>
  simp only[h2,aXG,Option.some.injEq,AI.store.injEq] at hc;obtain⟨rfl,rfl,rfl⟩:=hc;exact⟨t,ox,ov,rfl,h2,rfl,rfl⟩
theorem WR.store{size id off:Nat}{x v:aH}{cs vs:List aT}(hgd:iY G as o.guard)(ha:o.ai=.store size x v)(hd0:o.dst=none)
  (hx:aK G as.sl x=.one (.ptr id off)) (hv:cellsOf (aK G as.sl v)=some vs) (hb:aI as.hp id=.box cs) (hsz:vs.length=size) (hle:off+size<=cs.length)
  (h:WR P G k rest Q ⟨as.sl,as.hp.set id (.box (cQ cs off vs))⟩):WR P G k (o::rest) Q as:=by
 refine WR.step hgd (fun F γ a w oper hc hd hi hs hg hk=>?_)
 rw[ha] at hc;obtain⟨t,ox,ov,he,hst,rfl,rfl⟩:=Kk hc;have hrx:=cR (G:=G) hs hg ox;rw[hx] at hrx;generalize hax:a.eval ox=ax at hrx;cases hrx with|one c _ hcc=>cases hcc with|ptr _ _ b hgm=>
 have hrv:=(cR hs hg ov).cells hv;obtain⟨ws,T,hh,hws,hwr⟩:=hi.box hb hgm;have hsz':(a.eval ov).cells.size=size:=by rw[hrv.1,hsz]
 have hrun:=pR (P:=P) (off:=off) hh (by rw[hsz'];exact hst) hrv.is1 (by rw[hsz'];omega);obtain⟨dst,op,type,pos,after,guard⟩:=oper;simp only at he;subst he;refine .inl ⟨.skip,undef,if (a.eval ov).cells.toList=[] then w else setB w b (dQ ws off (a.eval ov).cells.toList) T,_,F,γ,?_,.inr ⟨rfl,rfl⟩,h,?_,?_,?_,hk⟩
 simp only[execOp,hax,Sem.run_bind,hrun,Result.andThen_ok,Sem.run_pure];split;exact gU.refl _ _ _ _;exact gU.setB hi hgm rfl;split;rename_i h0;have:vs=[]:=by
  have h1:=hrv.1;have h2:(a.eval ov).cells.size=0:=by rw[<- aY4,h0];rfl
  exact aYL (by omega)
 subst this;rw[Z0];have hset:as.hp.set id (.box cs)=as.hp:=by
  apply aY5;intro i;by_cases hii:id=i;subst hii;have:=eG hb (by simp);rw[aX7 (aG this),this];rw[aXW hii]
 rw[hset];exact hi;refine hi.setObj hgm rfl ?_;have:=sK (off:=off) hws hwr hrv (by omega);exact⟨_,T,kK hh (dJ _ _ _ _),this.1,this.2⟩;rw[hd0];exact hs
def mD:List DC->List aT:=List.map .dc
theorem WR.storeE{size id i s off cap:Nat}{x v:aH}{es:List (List DC)}{e ds e':List DC}(hgd:iY G as o.guard)(ha:o.ai=.store size x v)(hd0:o.dst=none)
  (hx:aK G as.sl x=.one (.ept id i s off)) (hv:cellsOf (aK G as.sl v)=some (mD ds)) (hb:aI as.hp id=.arr cap s es) (he:es[i]?=some e) (hsz:ds.length=size) (hle:off+size<=e.length)
  (he':e'=e.take off++ds++e.drop (off+size))
  (h:WR P G k rest Q ⟨as.sl,as.hp.set id (.arr cap s (es.set i e'))⟩):WR P G k (o::rest) Q as:=by
 refine WR.step hgd (fun F γ a w oper hc hd hi hs hg hk=>?_)
 rw[ha] at hc;obtain⟨t,ox,ov,hop,hst,rfl,rfl⟩:=Kk hc;have hrx:=cR (G:=G) hs hg ox;rw[hx] at hrx;generalize hax:a.eval ox=ax at hrx;cases hrx with|one c _ hcc=>cases hcc with|ept _ _ _ _ b cap' hgm=>
 have hrv:=(cR hs hg ov).cells hv;obtain⟨hcap,hec,hes,ws,T,hh,hws,hwr⟩:=hi.arr hb hgm;have hel:e.length=s:=hes e (aX0 he);have hil:=aG he;have hsz':(a.eval ov).cells.size=size:=by rw[hrv.1,mD,aXC,hsz]
 have hfit:i*s+off+size<=ws.size:=by
  rw[hws];have h1:(i+1)*s<=cap*s:=aYD s (by omega);rw[aYf] at h1;omega
 have hrun:=pR (P:=P) (off:=i*s+off) hh (by rw[hsz'];exact hst) hrv.is1 (by rw[hsz'];exact hfit);have hlen':e'.length=s:=by rw[he'];simp;omega
 have hok:∀ws':Array Value,ws'.size=ws.size->(∀(n:Nat),ws'[n]?=if i*s+off<=n/\n<i*s+off+size then (a.eval ov).cells[n-(i*s+off)]? else ws[n]?)->
   ∀(i' j:Nat) e1 d v,(es.set i e')[i']?=some e1->e1[j]?=some d->ws'[i'*s+j]?=some v->RD F d v:=by
  intro ws' hsz1 hget i' j e1 d v h1 h2 h3;rw[hget] at h3;by_cases hii:i=i';subst hii;rw[aX7 hil] at h1;injection h1 with h1;subst h1
  have hj:j<s:=hlen' ▸ aG h2;subst he';by_cases hj1:j<off;rw[if_neg (by omega)] at h3;rw[aXR,aXU (by simp;omega),aX2,if_pos hj1] at h2;exact hwr i j e d v he h2 h3;by_cases hj2:j<off+size;rw[if_pos (by omega)] at h3;rw[aXR,aXY (by simp;omega),aXU (by simp;omega)] at h2;have e1:min off e.length=off:=by omega
  simp only[aXK,e1] at h2;rw[show i*s+j-(i*s+off)=j-off by omega] at h3;have:=hrv.2 (j-off) (.dc d) v (by simp[mD,h2]) h3;cases this with|dc _ _ h=>exact h
  rw[if_neg (by omega)] at h3;have e1:min off e.length=off:=by omega
  rw[aXY (by simp;omega)] at h2;simp only[aXD,aXK,e1,aX9,hsz] at h2;rw[show off+size+(j-(off+size))=j by omega] at h2;exact hwr i j e d v he h2 h3;rw[aXW hii] at h1;have hj:j<s:=by have:=hes _ (aX0 h1);have:=aG h2;omega
  rw[if_neg (by
   rintro⟨a1,a2⟩;rcases Nat.lt_trichotomy i i' with c | c | c
   ·have:=aYD s (show i+1<=i' by omega);rw[aYf] at this;omega
   ·exact hii c
   ·have:=aYD s (show i'+1<=i by omega);rw[aYf] at this;omega)] at h3
  exact hwr i' j e1 d v h1 h2 h3
 obtain⟨dst,op,type,pos,after,guard⟩:=oper;simp only at hop;subst hop;have hsp:∀(l:List Value) (k0:Nat) (vs:Array Value) (n q:Nat),(dQ vs q l k0)[n]?=if q+k0<=n/\n<q+k0+l.length/\n<vs.size then l[n-(q+k0)]? else vs[n]?:=by
  intro l
  induction l with
  |nil=>intro k0 vs n q;simp[dQ];intro h1 h2;omega
  |cons x l ih=>
   intro k0 vs n q;simp only[dQ,List.zipIdx_cons,aYO];have h2:=ih (k0+1) (vs.setIfInBounds (q+k0) x) n q;simp only[dQ] at h2;rw[h2];simp only[Array.size_setIfInBounds,aXE,Array.getElem?_setIfInBounds];by_cases c1:n=q+k0;subst c1;rw[if_neg (by omega)];by_cases c2:q+k0<vs.size;rw[if_pos (by omega),if_pos c2,if_pos (by omega)];simp;rw[if_pos (by omega),if_neg c2,if_neg (by omega)];simp[Array.getElem?_eq_none (Nat.le_of_not_lt c2)];rw[if_neg (show ¬ q+k0=n by omega)];by_cases c2:q+(k0+1)<=n/\n<q+(k0+1)+l.length/\n<vs.size;rw[if_pos c2,if_pos (by omega)];rw[show n-(q+k0)=(n-(q+(k0+1)))+1 by omega];simp;rw[if_neg c2,if_neg (by omega)]
 have hn0:¬ ((a.eval ov).cells.toList=[]/\size≠0):=by
  rintro⟨h1,h2⟩;have:(a.eval ov).cells.size=0:=by rw[<- aY4,h1];rfl
  omega
 refine .inl ⟨.skip,undef,if (a.eval ov).cells.toList=[] then w else setB w b (dQ ws (i*s+off) (a.eval ov).cells.toList) T,_,F,γ,?_,.inr ⟨rfl,rfl⟩,h,?_,?_,?_,hk⟩
 simp only[execOp,hax,Sem.run_bind,hrun,Result.andThen_ok,Sem.run_pure];split;exact gU.refl _ _ _ _;exact gU.setB hi hgm rfl;split;rename_i h0;have hs0:size=0:=by
  rcases Nat.eq_zero_or_pos size with h|h;exact h;exact absurd ⟨h0,by omega⟩ hn0
 have hds:ds=[]:=aYL (by omega);have hee:e'=e:=by rw[he',hds,hs0];simp
 have h1:es.set i e'=es:=by
  apply aY5;intro n;by_cases hn:i=n;subst hn;rw[aX7 hil,he,hee];rw[aXW hn]
 rw[h1];have hset:as.hp.set id (.arr cap s es)=as.hp:=by
  apply aY5;intro i;by_cases hii:id=i;subst hii;have:=eG hb (by simp);rw[aX7 (aG this),this];rw[aXW hii]
 rw[hset];exact hi;refine hi.setObj hgm rfl ⟨hcap,by simpa using hec,fun x hx=>?_,_,T,kK hh (dJ _ _ _ _),by rw[dJ,hws],hok _ (dJ _ _ _ _) (fun n=>?_)⟩
 rcases List.mem_or_eq_of_mem_set hx with h1|h1;exact hes x h1;rw[h1];exact hlen';rw[hsp];simp only[aYp,aY4,hsz',aYy];by_cases c:i*s+off<=n/\n<i*s+off+size;rw[if_pos ⟨c.1,c.2,by omega⟩,if_pos c]
 rw[if_neg (fun c'=>c ⟨c'.1,c'.2.1⟩),if_neg c]
 rw[hd0];exact hs
end
end
section
section
variable {P:Program}{G:aE}{k:Nat}{Q:AS->Prop}{as as':AS}{o:aN}{rest ops:List aN}{F:Fz}{γ:List OI}{w:World}
theorem sL{α:Type}{size:Nat}:∀(es:List (List α)),(∀e∈es,e.length=size)->∀(i j:Nat) e d,es[i]?=some e->e[j]?=some d->es.flatten[i*size+j]?=some d
 |[],_,i,j,e,d,h,_=>by simp at h
 | x::es,hs,i,j,e,d,h,h'=>by
  have hx:x.length=size:=hs x (aXV);cases i with
  | zero=>
   simp at h;subst h;simp only[aYA,Nat.zero_mul,aYi];rw[aXU (aG h')];exact h'
  | succ i=>
   simp only[aYA];rw[aXY (by rw[hx,aYf];omega),hx];rw[show (i+1) * size+j - size=i * size+j by rw[aYf];omega];exact sL es (fun e he=>hs e (aX3 _ he)) i j e d (by simpa using h) h'
theorem sM{α:Type}{size:Nat}:∀(es:List (List α)),(∀e∈es,e.length=size)->es.flatten.length=es.length*size
 |[],_=>by simp
 | x::es,hs=>by
  simp only[aYA,aXD,aXE,hs x (aXV),sM es (fun e he=>hs e (aX3 _ he)),aYf]
  omega
theorem O3(hi:dE F γ as.hp w){a:Act}(hs:bV F γ as.sl a)(hk:k<=γ.length){cap size n:Nat}{es:List (List DC)}{vs:Array Value}{T:TypeId}(hes:∀e∈es,e.length=size)
  (hcap:es.length<=cap) (hvs:vs.size=cap*size) (hr:∀(i j:Nat) e d v,es[i]?=some e->e[j]?=some d->vs[i*size+j]?=some v->RD F d v) (dst:Option Nat):
  gU k F γ w F (γ++[.arr (some w.heap.size) cap]) (dY w (.cells vs T))/\dE F (γ++[.arr (some w.heap.size) cap]) (as.hp++[.arr cap size es]) (dY w (.cells vs T))/\
  bV F (γ++[.arr (some w.heap.size) cap]) (aQ as.sl dst (.one (.bld as.hp.length n))) (a.put dst (.slice (some ⟨w.heap.size,0,none⟩) n cap))/\k<=(γ++[OI.arr (some w.heap.size) cap]).length:=by
 have hx:∀b,(OI.arr (some w.heap.size) cap).blk=some b->b=w.heap.size:=by intro b hb;simp[OI.blk] at hb;exact hb.symm
 refine⟨gU.push hi _ _ hx,dE.push hi _ _ _ hx ?_,?_,by simp;omega⟩;exact⟨rfl,hcap,hes,vs,T,Ax,hvs,hr⟩;refine (hs.ext (fun _ _ h=>h) (fun _ _ h=>bQ h)).put dst (.one _ _ (.bld _ _ _ _ ?_))
 rw[<- hi.len];simp
theorem Gv(z:List Value)(n:Nat)(hz:0<z.length)(h1:∀v∈z,is1 v=true):RCs F γ ((List.range n).map fun i=>dA (z.getD (i % z.length) undef)) ((Array.range n).map (z.toArray[· % z.toArray.size]!)):=by
 refine⟨by simp,fun i c v hc hv=>?_⟩
 simp only[aXI] at hc;have hi:i<n:=by
  rcases aYG i n with h|h;exact h;rw[aYz (by simpa using h)] at hc;cases hc
 rw[aYU hi] at hc;simp at hc;subst hc;simp[hi] at hv;have hlt:i % z.length<z.length:=Nat.mod_lt _ hz;have hv':z[i % z.length]=v:=by simpa[hlt] using hv
 subst hv';rw[show z[i % z.length]?.getD undef=z[i % z.length] by simp[hlt]];exact .dc _ _ (.raw _ (h1 _ (aXM hlt)))
theorem WR.bslc{size len:Nat}{zero:List Value}{parts:List (Nat×aH)}{es:List (List DC)}(hgd:iY G as o.guard)(ha:o.ai=.bslc size len zero parts)
  (hf:gX ((List.range (len*size)).map fun i=>dA (zero.getD (i % zero.length) undef)) (parts.map fun (j,x)=>(j*size,size,aK G as.sl x))=some (mD es.flatten))
  (hes:∀e∈es,e.length=size) (hlen:es.length=len)
  (h:WR P G k rest Q ⟨aQ as.sl o.dst (.one (.bld as.hp.length len)),as.hp++[.arr len size es]⟩):WR P G k (o::rest) Q as:=by
 refine WR.step hgd (fun F γ a w oper hc hd hi hs hg hk=>?_)
 rw[ha] at hc;obtain⟨t,len',ps,hop⟩:=L9 (gZ hc rfl);obtain⟨dst,op,type,pos,after,guard⟩:=oper;simp only at hop;subst hop;simp only[bB] at hc;split at hc;rename_i e hu;cases h1:P.info? e with
 |none=>simp[h1] at hc
 | some i=>cases h2:i.zero with
  | none=>simp[h1,h2] at hc
  | some z=>
   simp only[h1,h2,aXP] at hc;split at hc
   ·rename_i hcond;obtain⟨hc1,hc2,hc3,hc4⟩:=hcond;injection hc with hc;injection hc with e1 e2 e3 e4
    subst e1;subst e2;subst e3;subst e4;have hzl:z.cells.toList.length=i.size:=by simpa using hc2
    have hz:RCs F γ ((List.range (len' * i.size)).map fun n=>dA (z.cells.toList.getD (n % z.cells.toList.length) undef)) ((Array.range (len' * i.size)).map (z.cells[· % z.cells.size]!)):=by
     have:=Gv (F:=F) (γ:=γ) z.cells.toList (len' * i.size) (by omega) (fun v hv=>aY2.1 hc4 v hv)
     have e0:z.cells.toList.toArray=z.cells:=by simp
     rw[e0] at this;exact this
    obtain⟨r,hr1,hr2⟩:=Av (place:=fun j=>some (j * i.size,i.size)) _ (ps.toList.map fun (j,x)=>(j,a.eval x)) _ _ _ hz hf (by simp) (fun n o s av j x hn hj=>by
     simp only[aX1,aXI] at hn hj;cases hp:ps.toList[n]? with
     | none=>simp[hp] at hn
     | some q=>
      obtain⟨j',x'⟩:=q;simp[hp] at hn hj;obtain⟨rfl,rfl,rfl⟩:=hn;obtain⟨rfl,rfl⟩:=hj;exact⟨rfl,cR hs hg x'⟩)
    have hrs:r.size=len' * i.size:=by rw[hr2.1,mD,aXC,sM es hes,hlen]
    have hrr:∀ (n j:Nat) e d v,es[n]?=some e->e[j]?=some d->r[n * i.size+j]?=some v->RD F d v:=by
     intro n j e d v h3 h4 h5;have:=hr2.2 (n * i.size+j) (.dc d) v (by show (List.map aT.dc es.flatten)[n * i.size+j]?=_;rw[aXI,sL es hes n j e d h3 h4];rfl) h5;cases this with | dc _ _ h=>exact h
    obtain⟨hE,hI,hS,hk'⟩:=O3 (T:=e) (n:=len') hi hs hk hes (by omega) hrs hrr o.dst;refine .inl ⟨_,_,_,_,F,_, ?_,.inl rfl,h,hE,hI,hS,hk'⟩;have hno:¬ (len' * i.size > 2 ^ 24):=by omega
    have hfill:Instr.fill (fun j=>some (j * i.size,i.size)) ((Array.range (len' * i.size)).map ((if len' * i.size=0 then #[] else z.cells)[· % (if len' * i.size=0 then #[] else z.cells).size]!)) (ps.map fun (j,x)=>(j,a.eval x)).toList=some r:=by
     have e0:(ps.map fun (j,x)=>(j,a.eval x)).toList=ps.toList.map fun (j,x)=>(j,a.eval x):=by simp
     rw[e0,<- hr1];congr 1;split
     ·rename_i h0;simp[h0]
     ·rfl
    have hzv:(zeroValue e).run P w=.ok z w:=by simp[zeroValue,typeInfo,h1,h2]
    simp only[execOp,Instr.buildSlice,run_underlying hu,Sem.run_bind,Result.andThen_ok,sizeOf,typeInfo,run_program,h1,Sem.run_pure,Sem.run_ite,if_neg hno,hzv];by_cases h0:len' * i.size=0
    ·simp only[if_pos h0] at hfill ⊢;simp only[hfill,Sem.run_bind,Result.andThen_ok,Sem.run_pure,newRow,run_newObj,dY]
    ·simp only[if_neg h0] at hfill ⊢;simp only[hfill,Sem.run_bind,Result.andThen_ok,Sem.run_pure,newRow,run_newObj,dY]
   ·cases hc
 cases hc
theorem Wd{t u ty e:TypeId}{du:TypeDesc}{i:TypeInfo}{z:Value}(ht:P.underlying t=some (.slice e))(hu:P.underlying u=some du)(hdu:du=.slice e\/du=.string)(hi:P.info? e=some i)(hz:i.zero=some z)(hby:0<i.bytes)
  {A:Option Addr}{n cap m:Nat}{x:Value} (old news:List Value) (hold:(Builtin.firstCells i.size n (.slice A n cap)).run P w=.ok old.toArray w)
  (hx:∀w',w'.heap=w.heap->(Builtin.firstCells i.size m x).run P w'=.ok news.toArray w') (hxl:(Builtin.lenOf x).run P w=.ok m w) (hub:(n+m)*i.bytes<=140737488355328) (hold':(Builtin.firstCells i.size n (.slice A n cap)).run P (w.drew)=.ok old.toArray (w.drew)):
  (n+m<=cap->(Builtin.append_ #[t,u] ty #[.slice A n cap,x]).run P w=(match A with|some a=>(storeCells (a.add (n*i.size)) news).run P w|none=>.ok () w).andThen fun _ w'=>.ok (.slice A (n+m) cap) w')/\
  (¬ n+m<=cap->∃c rest,n+m<=c/\rest.length=(c-(n+m))*z.cells.size/\(Builtin.append_ #[t,u] ty #[.slice A n cap,x]).run P w=.ok (.slice (some ⟨w.heap.size,0,none⟩) (n+m) c) (dY (w.drew) (.cells (old++news++rest).toArray e))):=by
 have hzeros:(match (#[t,u]:Array TypeId)[1]? with
  | some xType=>do pure ((<- underlying xType) matches .int _)
  | none=>pure false:Sem Bool).run P w=.ok false w:=by
  rcases hdu with rfl | rfl<;>simp[run_underlying hu]
 have hnm:n+m<=140737488355328:=Nat.le_trans (Nat.le_mul_of_pos_right _ hby) hub;refine⟨fun hle=>?_,fun hgt=>?_⟩
 cases A with
 |none=>
  simp only[Builtin.append_];rcases hdu with rfl|rfl<;>simp[run_underlying ht,run_underlying hu,sizeOf,typeInfo,hi,hxl,hle,hx w rfl]
 |some a=>
  simp only[Builtin.append_];rcases hdu with rfl|rfl<;>simp[run_underlying ht,run_underlying hu,sizeOf,typeInfo,hi,hxl,hle,hx w rfl]
 ·have hcap:cap<n+m:=by omega
  have hgrow:=growslice_fits (bytes:=i.bytes) hcap hub;have hmax:¬ ((n:Int)+(m:Int) > IntKind.i64.max):=by rw[aCo];omega
  refine⟨n+m+w.tape w.drawn (.appendCap (n+m) cap e) % (2 ^ 63-(n+m)),(Builtin.zeroCells z.cells (n+m+w.tape w.drawn (.appendCap (n+m) cap e) % (2 ^ 63-(n+m))-(n+m))).toList,by omega,by simp[Builtin.zeroCells],?_⟩;simp only[Builtin.append_];have hx':=hx (w.drew) rfl;have hnc:¬ (281474976710656<Builtin.nextslicecap (n+m) cap*i.bytes):=by omega
  have hch:(choose (.appendCap (n+m) cap e)).run P w=.ok (n+m+w.tape w.drawn (.appendCap (n+m) cap e) % (2 ^ 63-(n+m))) (w.drew):=rfl;have hn1:¬ (9223372036854775807<(n:Int)+(m:Int)/\i.bytes=0):=by omega
  have hzv:∀w',(zeroValue e).run P w'=.ok z w':=fun w'=>by simp[zeroValue,typeInfo,hi,hz]
  rcases hdu with rfl|rfl;all_goals
   simp[run_underlying ht,run_underlying hu,sizeOf,typeInfo,hi,hxl,hgt];rw[if_neg hn1,if_neg hnc];simp[Question.forced,hold',hx',hzv,newRow,Question.cut];refine congrArg (fun c=>World.alloc w.drew (Obj.cells c e)) ?_
   apply Array.ext';simp
theorem aHp{z:List Value}{n:Nat}{size cap:Nat}(hz:z.length=size)(h1:∀v∈z,is1 v=true):∀(i j:Nat) e d v,(List.replicate n (z.map DC.raw))[i]?=some e->e[j]?=some d->
  ((Array.range (cap*size)).map (z.toArray[· % z.toArray.size]!))[i*size+j]?=some v->RD F d v:=by
 intro i j e d v h2 h3 h4;rw[aYH] at h2;split at h2;injection h2 with h2;subst h2
 rw[aXI] at h3;obtain⟨x,h5,rfl⟩:=Option.map_eq_some_iff.1 h3;have hj:j<size:=by rw[<- hz];exact aG h5
 have hlt:i*size+j<cap*size:=by
  rcases aYG (i*size+j) (cap*size) with h|h;exact h;rw[Array.getElem?_eq_none (by simpa using h)] at h4;cases h4
 simp[hlt] at h4;have e1:(i*size+j) % z.length=j:=by rw[hz,aYM,Nat.mul_add_mod,aYB hj]
 rw[e1,h5] at h4;simp at h4;subst h4;exact .raw _ (h1 _ (aX0 h5));cases h2
theorem zP{n:Nat}(h:n<=140737488355328):IntKind.i64.wrap (n:Int)=n:=by rw[IntKind.wrap_i64];omega
theorem WR.mk{size bytes:Nat}{zero:List Value}{l c:aH}{n m:Nat}(hgd:iY G as o.guard)(ha:o.ai=.mk size bytes zero l c)
  (hl:bH (aK G as.sl l)=some (n:Int)) (hm:bH (aK G as.sl c)=some (m:Int)) (hnm:n<=m) (hb:m*bytes<=140737488355328)
  (h:WR P G k rest Q ⟨aQ as.sl o.dst (.one (.bld as.hp.length n)),as.hp++[.arr m size (List.replicate n (zero.map DC.raw))]⟩):WR P G k (o::rest) Q as:=by
 refine WR.step hgd (fun F γ a w oper hc hd hi hs hg hk=>?_)
 rw[ha] at hc;obtain⟨t,lo,co,hop⟩:=aLz (gZ hc rfl);obtain⟨dst,op,type,pos,after,guard⟩:=oper;simp only at hop;subst hop;simp only[bB] at hc;split at hc;rename_i e hu;cases h1:P.info? e with
 |none=>simp[h1] at hc
 | some i=>cases h2:i.zero with
  | none=>simp[h1,h2] at hc
  | some z=>
   simp only[h1,h2,aXP] at hc;split at hc
   ·rename_i hcond;obtain⟨hc1,hc2,hc3,hc4⟩:=hcond;injection hc with hc;injection hc with e1 e2 e3 e4 e5
    subst e1;subst e2;subst e3;subst e4;subst e5;have hzl:z.cells.toList.length=i.size:=by simpa using hc1
    have hz1:∀ v∈z.cells.toList,is1 v=true:=fun v hv=>aY2.1 hc4 v hv
    obtain⟨k1,hlv⟩:=pK (cR hs hg lo) hl;obtain⟨k2,hmv⟩:=pK (cR hs hg co) hm;have hm':m<=140737488355328:=Nat.le_trans (Nat.le_mul_of_pos_right _ hc2) hb;have hvs:((Array.range (m * i.size)).map (z.cells[· % z.cells.size]!)).size=m * i.size:=by simp
    have hrr:=aHp (F:=F) (n:=n) (cap:=m) hzl hz1;have e0:z.cells.toList.toArray=z.cells:=by simp
    rw[e0] at hrr;obtain⟨hE,hI,hS,hk'⟩:=O3 (T:=e) (n:=n) (cap:=m) (size:=i.size) (es:=List.replicate n (z.cells.toList.map DC.raw)) hi hs hk
     (fun e he=>by rw[(List.mem_replicate.1 he).2,aXC,hzl]) (by simpa using hnm) hvs hrr o.dst
    refine .inl ⟨_,_,_,_,F,_, ?_,.inl rfl,h,hE,hI,hS,hk'⟩;have w1:IntKind.i64.wrap (n:Int)=n:=zP (by omega);have w2:IntKind.i64.wrap (m:Int)=m:=zP (by omega);have hzv:(zeroValue e).run P w=.ok z w:=by simp[zeroValue,typeInfo,h1,h2]
    have hb':¬ ((i.bytes:Int) * (m:Int) > 2 ^ 48):=by
     have h5:(m * i.bytes:Nat)<=281474976710656:=by omega
     have h6:((i.bytes:Int) * (m:Int))=((m * i.bytes:Nat):Int):=by rw[Int.mul_comm];simp
     have h7:(2 ^ 48:Int)=281474976710656:=by decide
     rw[h6,h7];omega
    have hroom:¬ (m * i.bytes > roomBytes):=by simp only[roomBytes];omega
    have n1:¬ ((m:Int) < 0):=by omega
    have n2:¬ ((n:Int) < 0):=by omega
    have n3:¬ ((n:Int) > (m:Int)):=by omega
    simp only[execOp,Instr.makeSlice,run_underlying hu,Sem.run_bind,Result.andThen_ok,hlv,hmv,asInt,asIntOf,Sem.run_pure];simp only[typeInfo,run_program,Sem.run_bind,Result.andThen_ok,h1,Sem.run_pure,w1,w2];simp only[n1,n2,n3,hb',decide_false,Bool.or_self,aYP,if_false,aYm,askRoom,if_neg hroom,Sem.run_bind,Result.andThen_ok,Sem.run_pure,sizeOf,typeInfo,run_program,h1];by_cases h0:m * i.size=0
    ·simp only[if_pos h0,Sem.run_bind,Result.andThen_ok,Sem.run_pure,newRow,run_newObj,dY,h0,if_true];refine congrArg (fun c=>Result.ok (Next.value (Value.slice (some ⟨w.heap.size,0,none⟩) n m)) (World.alloc w (Obj.cells c e))) ?_
     exact Array.ext (by simp) (fun j h1=>by simp at h1)
    ·simp only[if_neg h0,Sem.run_bind,Result.andThen_ok,Sem.run_pure,newRow,run_newObj,dY,hzv]
   ·cases hc
 cases hc
theorem Kl(hi:dE F γ as.hp w){a:Act}(hs:bV F γ as.sl a)(hk:k<=γ.length){cs:List aT}{vs:Array Value}{T:TypeId}{n c:Nat}(h:RCs F γ cs vs)(hn:n<=c)(dst:Option Nat):
  gU k F γ w F (γ++[.box w.heap.size]) (dY w (.cells vs T))/\dE F (γ++[.box w.heap.size]) (as.hp++[.box cs]) (dY w (.cells vs T))/\
  bV F (γ++[.box w.heap.size]) (aQ as.sl dst (.one (.bls as.hp.length 0 n 1))) (a.put dst (.slice (some ⟨w.heap.size,0,none⟩) n c))/\k<=(γ++[OI.box w.heap.size]).length:=by
 obtain⟨h1,h2,h3,h4⟩:=Gu hi hs hk h (T:=T) none;have h3':bV F (γ++[.box w.heap.size]) as.sl a:=h3;exact⟨h1,h2,h3'.put _ (.one _ _ (.bls _ _ _ _ _ 0 _ _ (.inr (by rw[<- hi.len];simp)) (fun _=>by simp) hn)),h4⟩
theorem WR.mkB{bytes:Nat}{v0:Value}{l c:aH}{n m:Nat}(hgd:iY G as o.guard)(ha:o.ai=.mk 1 bytes [v0] l c)
  (hl:bH (aK G as.sl l)=some (n:Int)) (hm:bH (aK G as.sl c)=some (m:Int)) (hnm:n<=m) (hb:m*bytes<=140737488355328)
  (h:WR P G k rest Q ⟨aQ as.sl o.dst (.one (.bls as.hp.length 0 n 1)),as.hp++[.box (List.replicate m (dA v0))]⟩):WR P G k (o::rest) Q as:=by
 refine WR.step hgd (fun F γ a w oper hc hd hi hs hg hk=>?_)
 rw[ha] at hc;obtain⟨t,lo,co,hop⟩:=aLz (gZ hc rfl);obtain⟨dst,op,type,pos,after,guard⟩:=oper;simp only at hop;subst hop;simp only[bB] at hc;split at hc;rename_i e hu;cases h1:P.info? e with
 |none=>simp[h1] at hc
 | some i=>cases h2:i.zero with
  | none=>simp[h1,h2] at hc
  | some z=>
   simp only[h1,h2,aXP] at hc;split at hc
   ·rename_i hcond;obtain⟨hc1,hc2,hc3,hc4⟩:=hcond;injection hc with hc;injection hc with e1 e2 e3 e4 e5
    subst e2;subst e4;subst e5;have hzl:z.cells.toList.length=i.size:=by simpa using hc1
    have hz1:∀ v∈z.cells.toList,is1 v=true:=fun v hv=>aY2.1 hc4 v hv
    obtain⟨k1,hlv⟩:=pK (cR hs hg lo) hl;obtain⟨k2,hmv⟩:=pK (cR hs hg co) hm;have hm':m<=140737488355328:=Nat.le_trans (Nat.le_mul_of_pos_right _ hc2) hb;have hvs:((Array.range (m * i.size)).map (z.cells[· % z.cells.size]!)).size=m * i.size:=by simp
    have hz0:z.cells[0]?=some v0:=by rw[<- aYy,e3];rfl
    have hv1:is1 v0=true:=hz1 v0 (by rw[e3];simp);have hrc:RCs F γ (List.replicate m (dA v0)) ((Array.range (m * i.size)).map (z.cells[· % z.cells.size]!)):=by
     refine⟨by simp[e1],fun q c v h1 h2=>?_⟩
     rw[aYH] at h1;split at h1
     ·rename_i hq;injection h1 with h1;subst h1
      have hsz1:z.cells.size=1:=by rw[hc1,e1]
      have:v=v0:=by
       simp[e1,hq,hsz1,Nat.mod_one] at h2;rw[<- h2];have h9:=hz0;rw[aX8 (by omega)] at h9;injection h9
      subst this;exact .dc _ _ (.raw _ hv1)
     ·cases h1
    obtain⟨hE,hI,hS,hk'⟩:=Kl (T:=e) (n:=n) (c:=m) hi hs hk hrc hnm o.dst;refine .inl ⟨_,_,_,_,F,_, ?_,.inl rfl,h,hE,hI,hS,hk'⟩;have w1:IntKind.i64.wrap (n:Int)=n:=zP (by omega);have w2:IntKind.i64.wrap (m:Int)=m:=zP (by omega);have hzv:(zeroValue e).run P w=.ok z w:=by simp[zeroValue,typeInfo,h1,h2]
    have hb':¬ ((i.bytes:Int) * (m:Int) > 2 ^ 48):=by
     have h5:(m * i.bytes:Nat)<=281474976710656:=by omega
     have h6:((i.bytes:Int) * (m:Int))=((m * i.bytes:Nat):Int):=by rw[Int.mul_comm];simp
     have h7:(2 ^ 48:Int)=281474976710656:=by decide
     rw[h6,h7];omega
    have hroom:¬ (m * i.bytes > roomBytes):=by simp only[roomBytes];omega
    have n1:¬ ((m:Int) < 0):=by omega
    have n2:¬ ((n:Int) < 0):=by omega
    have n3:¬ ((n:Int) > (m:Int)):=by omega
    simp only[execOp,Instr.makeSlice,run_underlying hu,Sem.run_bind,Result.andThen_ok,hlv,hmv,asInt,asIntOf,Sem.run_pure];simp only[typeInfo,run_program,Sem.run_bind,Result.andThen_ok,h1,Sem.run_pure,w1,w2];simp only[n1,n2,n3,hb',decide_false,Bool.or_self,aYP,if_false,aYm,askRoom,if_neg hroom,Sem.run_bind,Result.andThen_ok,Sem.run_pure,sizeOf,typeInfo,run_program,h1];by_cases h0:m * i.size=0
    ·simp only[if_pos h0,Sem.run_bind,Result.andThen_ok,Sem.run_pure,newRow,run_newObj,dY,h0,if_true];refine congrArg (fun c=>Result.ok (Next.value (Value.slice (some ⟨w.heap.size,0,none⟩) n m)) (World.alloc w (Obj.cells c e))) ?_
     exact Array.ext (by simp) (fun j h1=>by simp at h1)
    ·simp only[if_neg h0,Sem.run_bind,Result.andThen_ok,Sem.run_pure,newRow,run_newObj,dY,hzv]
   ·cases hc
 cases hc
theorem WR.bslcB{size len:Nat}{zero:List Value}{parts:List (Nat×aH)}{cs:List aT}(hgd:iY G as o.guard)(ha:o.ai=.bslc size len zero parts)(h11:size=1)
  (hf:gX ((List.range (len*size)).map fun i=>dA (zero.getD (i % zero.length) undef)) (parts.map fun (j,x)=>(j*size,size,aK G as.sl x))=some cs)
  (h:WR P G k rest Q ⟨aQ as.sl o.dst (.one (.bls as.hp.length 0 len 1)),as.hp++[.box cs]⟩):WR P G k (o::rest) Q as:=by
 refine WR.step hgd (fun F γ a w oper hc hd hi hs hg hk=>?_)
 rw[ha] at hc;obtain⟨t,len',ps,hop⟩:=L9 (gZ hc rfl);obtain⟨dst,op,type,pos,after,guard⟩:=oper;simp only at hop;subst hop;simp only[bB] at hc;split at hc;rename_i e hu;cases h1:P.info? e with
 |none=>simp[h1] at hc
 | some i=>cases h2:i.zero with
  | none=>simp[h1,h2] at hc
  | some z=>
   simp only[h1,h2,aXP] at hc;split at hc
   ·rename_i hcond;obtain⟨hc1,hc2,hc3,hc4⟩:=hcond;injection hc with hc;injection hc with e1 e2 e3 e4
    subst e1;subst e2;subst e3;subst e4;have hzl:z.cells.toList.length=i.size:=by simpa using hc2
    have hz:RCs F γ ((List.range (len' * i.size)).map fun n=>dA (z.cells.toList.getD (n % z.cells.toList.length) undef)) ((Array.range (len' * i.size)).map (z.cells[· % z.cells.size]!)):=by
     have:=Gv (F:=F) (γ:=γ) z.cells.toList (len' * i.size) (by omega) (fun v hv=>aY2.1 hc4 v hv)
     have e0:z.cells.toList.toArray=z.cells:=by simp
     rw[e0] at this;exact this
    obtain⟨r,hr1,hr2⟩:=Av (place:=fun j=>some (j * i.size,i.size)) _ (ps.toList.map fun (j,x)=>(j,a.eval x)) _ _ _ hz hf (by simp) (fun n o s av j x hn hj=>by
     simp only[aX1,aXI] at hn hj;cases hp:ps.toList[n]? with
     | none=>simp[hp] at hn
     | some q=>
      obtain⟨j',x'⟩:=q;simp[hp] at hn hj;obtain⟨rfl,rfl,rfl⟩:=hn;obtain⟨rfl,rfl⟩:=hj;exact⟨rfl,cR hs hg x'⟩)
    obtain⟨hE,hI,hS,hk'⟩:=Kl (T:=e) (n:=len') (c:=len') hi hs hk hr2 (aXF _) o.dst;refine .inl ⟨_,_,_,_,F,_, ?_,.inl rfl,h,hE,hI,hS,hk'⟩;have hno:¬ (len' * i.size > 2 ^ 24):=by omega
    have hfill:Instr.fill (fun j=>some (j * i.size,i.size)) ((Array.range (len' * i.size)).map ((if len' * i.size=0 then #[] else z.cells)[· % (if len' * i.size=0 then #[] else z.cells).size]!)) (ps.map fun (j,x)=>(j,a.eval x)).toList=some r:=by
     have e0:(ps.map fun (j,x)=>(j,a.eval x)).toList=ps.toList.map fun (j,x)=>(j,a.eval x):=by simp
     rw[e0,<- hr1];congr 1;split
     ·rename_i h0;simp[h0]
     ·rfl
    have hzv:(zeroValue e).run P w=.ok z w:=by simp[zeroValue,typeInfo,h1,h2]
    simp only[execOp,Instr.buildSlice,run_underlying hu,Sem.run_bind,Result.andThen_ok,sizeOf,typeInfo,run_program,h1,Sem.run_pure,Sem.run_ite,if_neg hno,hzv];by_cases h0:len' * i.size=0
    ·simp only[if_pos h0] at hfill ⊢;simp only[hfill,Sem.run_bind,Result.andThen_ok,Sem.run_pure,newRow,run_newObj,dY]
    ·simp only[if_neg h0] at hfill ⊢;simp only[hfill,Sem.run_bind,Result.andThen_ok,Sem.run_pure,newRow,run_newObj,dY]
   ·cases hc
 cases hc
end
end
section
section
variable {P:Program}{G:aE}{k:Nat}{Q:AS->Prop}{as as':AS}{o:aN}{rest ops:List aN}{F:Fz}{γ:List OI}{w w':World}{hp:List aC}
theorem pL{γ:List OI}{id i:Nat}{x x':OI}(h:γ[i]?=some x)(hne:(i==id)=false):(γ.set id x')[i]?=some x:=by
 rw[aXW (by simp at hne;exact Ne.symm hne)];exact h
theorem dE.setArr(hi:dE F γ hp w){id:Nat}{x x':OI}{o':aC}(hx:γ[id]?=some x)(hblk:∀b,x'.blk=some b->x.blk=some b\/b=w.heap.size)
  (hfar:∀b,b<w.heap.size->x.blk≠some b->w'.heap[b]?=w.heap[b]?) (hok:OK F (γ.set id x') w' o' x'):
  dE F (γ.set id x') ((hp.map (cJ (·==id))).set id o') w':=by
 have hlt:id<γ.length:=aG hx;have hb:∀i b,bZ (γ.set id x') i=some b->(i≠id/\bZ γ i=some b)\/(i=id/\x'.blk=some b):=by
  intro i b h;obtain⟨y,hy,hyb⟩:=cU h;by_cases hii:id=i;subst hii;rw[aX7 hlt] at hy;injection hy with hy;subst hy
  exact .inr ⟨rfl,hyb⟩;rw[aXW hii] at hy;exact .inl ⟨Ne.symm hii,bM hy hyb⟩
 have hfz:∀b o,F b=some o->w'.heap[b]?=w.heap[b]?:=fun b o h=>hfar b (hi.fzlt h) (fun e=>by rw[hi.disj id b (bM hx e)] at h;cases h)
 refine⟨fun b o h=>(hfz b o h).trans (hi.fz b o h),by simp[hi.len],?_,?_,?_⟩
 intro i j b h1 h2;rcases hb i b h1 with⟨a1,a2⟩|⟨a1,a2⟩<;>rcases hb j b h2 with⟨c1,c2⟩|⟨c1,c2⟩
 exact hi.nd i j b a2 c2;exfalso;rcases hblk b c2 with h|h
 exact a1 (hi.nd i id b a2 (bM hx h));have:=hi.lt a2;omega;exfalso;rcases hblk b a2 with h|h
 exact c1 (hi.nd j id b c2 (bM hx h));have:=hi.lt c2;omega;omega;intro i b h;rcases hb i b h with⟨a1,a2⟩|⟨a1,a2⟩
 exact hi.disj i b a2;rcases hblk b a2 with h|h
 exact hi.disj id b (bM hx h);cases hF:F b with
 |none=>rfl
 |some o=>have:=hi.fzlt hF;omega
 intro i o y h1 h2;by_cases hii:id=i;subst hii;rw[aX7 hlt] at h2;rw[aX7 (by simpa[<- hi.len] using hlt)] at h1;injection h1 with h1;injection h2 with h2;subst h1;subst h2
 exact hok;rw[aXW hii] at h1 h2;rw[aXI] at h1;cases ho:hp[i]? with
 |none=>simp[ho] at h1
 |some o0=>
  simp[ho] at h1;subst h1;refine (hi.ok i o0 y ho h2).kill (fun _ _ h=>h) (fun i' o hne h=>pL h hne) (fun b hyb=>?_)
  exact hfar b ((hi.ok i o0 y ho h2).lt hyb) (fun e=>hii (hi.nd _ _ _ (bM hx e) (bM h2 hyb)))
theorem gU.setArr(hi:dE F γ hp w){id:Nat}{x x':OI}(hx:γ[id]?=some x)(hnb:∀b,x≠.box b)(hblk:∀b,x'.blk=some b->x.blk=some b\/b=w.heap.size)
  (hfar:∀b,b<w.heap.size->x.blk≠some b->w'.heap[b]?=w.heap[b]?) (h1:w'.os=w.os) (h2:w'.tape=w.tape) (h3:w'.output=w.output) (h4:w.heap.size<=w'.heap.size):gU k F γ w F (γ.set id x') w':=by
 have hlt:id<γ.length:=aG hx;refine⟨fun _ _ h=>h,h1,h2,h3,h4,fun b hb hn=>hfar b hb (fun e=>hn id (bM hx e)),fun _ _ h=>.inl h,fun i b h=>?_,fun i _ b h=>?_⟩
 obtain⟨y,hy,hyb⟩:=cU h;by_cases hii:id=i;subst hii;rw[aX7 hlt] at hy;injection hy with hy;subst hy;rcases hblk b hyb with h|h;exact .inl ⟨id,bM hx h⟩;exact .inr (by omega)
 rw[aXW hii] at hy;exact .inl ⟨i,bM hy hyb⟩;by_cases hii:id=i;subst hii;rw[hx] at h;injection h with h
 exact absurd h (hnb b);rw[aXW hii];exact h
def qS(hp:List aC):AV->Option (List (List DC))
 |.one (.dc (.slc es))=>some es
 |.one (.dc (.raw (.slice none 0 0)))=>some []
 |.one (.bld id n)=>
  match aI hp id with
  |.arr _ _ es=>if n<=es.length then some (es.take n) else none
  |_=>none
 |_=>none
theorem aCE{av:AV}{x:Value}{es:List (List DC)}{size:Nat}(h:qS hp av=some es)(hx:RV F γ av x)(hi:dE F γ hp w)(hsz:∀e∈es,e.length=size):
  ∃ A c,x=.slice A es.length c/\∃ news:List Value,news.length=es.length * size/\(∀ w':World,w'.heap=w.heap->(Builtin.firstCells size es.length x).run P w'=.ok news.toArray w')/\
   (∀ (i j:Nat) e d v,es[i]?=some e->e[j]?=some d->news[i * size+j]?=some v->RD F d v)/\(∀ v∈news,is1 v=true):=by
 have loadAll:∀(b off:Nat) (c:Nat) (f:Nat->Value),(∀j,j<es.length*size->w.cell? ⟨b,off+j,none⟩=some (f j))->∀w':World,w'.heap=w.heap->
   (Builtin.firstCells size es.length (.slice (some ⟨b,off,none⟩) es.length c)).run P w'=.ok ((List.range (es.length*size)).map f).toArray w':=by
  intro b off c f hf w' hw;simp only[Builtin.firstCells];refine run_loadCells w' _ _ f (fun j hj=>?_)
  rw[dI];have:=hf j hj;unfold World.cell? at this ⊢;rw[hw];exact this
 have split:∀j,j<es.length*size->0<size/\j / size<es.length/\j=(j / size)*size+j % size/\j % size<size:=by
  intro j hj;have hs:0<size:=by
   rcases Nat.eq_zero_or_pos size with h|h;subst h;simp at hj;exact h
  refine⟨hs,Nat.div_lt_of_lt_mul (by rw[aYM];exact hj),?_,Nat.mod_lt _ hs⟩;have:=Nat.div_add_mod j size;rw[aYM];omega
 unfold qS at h;split at h;rename_i es0;injection h with h;subst h
 cases hx with|one c v hc=>cases hc with|dc d v hd=>cases hd with
 |nil A c=>
  refine⟨A,c,rfl,[],by simp,fun w' _=>?_,fun i j e d v h=>by simp at h,fun v h=>by simp at h⟩
  cases A with
  |none=>rfl
  |some a=>simp[Builtin.firstCells,loadCells,loadCellsFrom]
 |slc b off c size' es g hsz' hr hcc hcap=>
  refine⟨_,c,rfl,(List.range (es0.length*size)).map fun j=>g (j / size) (j % size),by simp,loadAll b off c _ (fun j hj=>?_),fun i j e d v h1 h2 h3=>?_,fun v hv=>?_⟩
  obtain⟨hs,h1,h2,h3⟩:=split j hj;have he:es0[j / size]?=some (es0[j / size]'h1):=aXJ h1;have hel:=hsz _ (aX0 he);have hel':=hsz' _ (aX0 he);have hd:(es0[j / size]'h1)[j % size]?=some ((es0[j / size]'h1)[j % size]'(by omega)):=aXJ _;have:=hcc _ _ _ _ he hd;rw[<- hel',hel,<- h2] at this;exact Fz.cell_world hi.fz this;have hj:j<size:=by have:=aG h2;have:=hsz _ (aX0 h1);omega
  have hlt:=gV (aG h1) (aXF _) hj;simp only[aXI,aYU hlt,aXG,Option.some.injEq] at h3;have e1:(i*size+j) / size=i:=by rw[aYM,Nat.mul_add_div (by omega),Nat.div_eq_of_lt hj,aYp]
  have e2:(i*size+j) % size=j:=by rw[aYM,Nat.mul_add_mod,aYB hj]
  rw[e1,e2] at h3;subst h3;exact hr i j e d h1 h2;simp only[List.mem_map,List.mem_range] at hv;obtain⟨j,hj,rfl⟩:=hv;obtain⟨hs,h1,h2,h3⟩:=split j hj;have he:es0[j / size]?=some (es0[j / size]'h1):=aXJ h1;have hel:=hsz _ (aX0 he);have hd:(es0[j / size]'h1)[j % size]?=some ((es0[j / size]'h1)[j % size]'(by omega)):=aXJ _;exact (hr _ _ _ _ he hd).is1
 injection h with h;subst h
 rw[cO hx];exact⟨none,0,rfl,[],by simp,fun w' _=>rfl,fun i j e d v h=>by simp at h,fun v h=>by simp at h⟩
 rename_i id n;split at h;rename_i cap s' es0 hb;split at h;rename_i hne;injection h with h;subst h
 have hlen:(es0.take n).length=n:=by simp;omega
 cases hx with|one c v hc=>cases hc with
 |bldN _ cap' hgm=>
  refine⟨none,0,by simp,[],by simp,fun w' _=>by simp[Builtin.firstCells],fun i j e d v h=>by simp at h,fun v h=>by simp at h⟩
 |bld _ _ b cap' hgm=>
  obtain⟨hcc,hec,hes,vs,T,hh,hvsz,hr⟩:=hi.arr hb hgm;rw[hlen] at loadAll ⊢;have key:∀j,j<n*size->∃u,vs[j]?=some u:=by
   intro j hj;rw[<- hlen] at hj;obtain⟨hs,h1,h2,h3⟩:=split j hj;have he:(es0.take n)[j / size]?=some ((es0.take n)[j / size]'h1):=aXJ h1;have hel:=hsz _ (aX0 he);have hel':=hes _ (aX6 (aX0 he));have:j<vs.size:=by
    rw[hvsz,<- hel',hel];rw[hlen] at hj;exact Nat.lt_of_lt_of_le hj (aYD _ (by omega))
   exact⟨_,aX8 this⟩
  refine⟨_,cap',rfl,(List.range (n*size)).map fun j=>vs.toList.getD j undef,by simp,loadAll b 0 cap' _ (fun j hj=>?_),fun i j e d v h1 h2 h3=>?_,fun v hv=>?_⟩
  obtain⟨u,hu⟩:=key j hj;rw[aYi,lO hh,hu];simp[aXN,hu];have hi1:i<n:=by have:=aG h1;omega
  have hj:j<size:=by have:=aG h2;have:=hsz _ (aX0 h1);omega
  have hlt:=gV hi1 (aXF _) hj;simp only[aXI,aYU hlt,aXG,Option.some.injEq] at h3;obtain⟨u,hu⟩:=key _ hlt;simp[aXN,hu] at h3;subst h3;rw[aX2,if_pos hi1] at h1;have hel:=hes _ (aX0 h1);have hel':=hsz e (by rw[List.mem_iff_getElem?];exact⟨i,by rw[aX2,if_pos hi1];exact h1⟩);have hs':s'=size:=by omega
  subst hs';exact hr i j e d u h1 h2 hu;simp only[List.mem_map,List.mem_range] at hv;obtain⟨j,hj,rfl⟩:=hv;obtain⟨u,hu⟩:=key j hj;simp only[aXN,aYy,hu,aYn];rw[<- hlen] at hj;obtain⟨hs,h1,h2,h3⟩:=split j hj;rw[hlen] at h1;have he0:(es0.take n)[j / size]?=some ((es0.take n)[j / size]'(by omega)):=aXJ _;have hel:=hsz _ (aX0 he0);have he:es0[j / size]?=some ((es0.take n)[j / size]'(by omega)):=by rw[<- he0,aX2,if_pos h1]
  have hel':=hes _ (aX0 he);have hs':s'=size:=by omega
  subst hs';have hd:((es0.take n)[j / s']'(by omega))[j % s']?=some (((es0.take n)[j / s']'(by omega))[j % s']'(by omega)):=aXJ _;exact (hr _ _ _ _ u he hd (by rw[<- h2];exact hu)).is1
 cases h;cases h;cases h
end
end
end Go.Proofs.YthepfneloomngaaGreatDoor
