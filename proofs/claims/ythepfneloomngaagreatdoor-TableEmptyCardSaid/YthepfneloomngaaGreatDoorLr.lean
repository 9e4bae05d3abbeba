/- A region whose order is drawn: operations that don't touch each other may change places. Conditions: none. -/
import Derived.Test.YthepfneloomngaaGreatDoorLo
namespace Go.Proofs.YthepfneloomngaaGreatDoor
def kC(o:Oper):List Nat:=(o.after.toList.filter (Region.binds .any)).map (·.on)
def jV(md:Region.Mode)(o:Oper):List Nat:=(o.after.toList.filter (Region.binds md)).map (·.on)
def aCH(E:List (List Nat)):Nat->List Nat->List Nat->List Nat
 |0,_,_=>[]
 | n+1,done,todo=>match todo.find? fun i=>(E.getD i []).all done.contains with
   | some i=>i::aCH E n (i::done) (todo.erase i)
   | none=>[]
def sO(E:List (List Nat)):List Nat->List Nat->Bool
 |[],_=>true
 |i::r,done=>((E.getD i []).all fun e=>done.contains e)&&sO E r (i::done)
def Wg(n:Nat)(E:List (List Nat))(o:List Nat):Bool:=sO E o []&&(E.all fun l=>l.all fun e=>decide (e<n))&&(List.range n).all fun i=>o.contains i
def A3(md:Region.Mode)(ops:List Oper):Bool:=Wg ops.length (ops.map (jV md)) (aCH (ops.map (jV md)) ops.length [] (List.range ops.length))
def jO:List Oper->List (List Nat)->List (List Nat)
 |[],acc=>acc
 |o::ops,acc=>jO ops (acc++[(kC o++(kC o).flatMap fun e=>acc.getD e []).eraseDups])
def bA:AI->List aH
 |.mov x=>[x]|.pick c a b=>[c,a,b]|.alloc _=>[]|.box x=>[x]|.load _ _ x=>[x]|.store _ x v=>[x,v]|.nilc x=>[x]|.isnil _ _ x=>[x]|.mpx _ _ x k=>[x,k]
 |.bin _ x y=>[x,y]|.binb _ x y=>[x,y]|.eqs _ _ x y=>[x,y]|.un _ x=>[x]|.conv _ x=>[x]|.cvid x=>[x]|.cvbs x=>[x]
 |.addo _ x=>[x]|.fld _ _ _ x=>[x]|.ixA _ _ x i=>[x,i]|.ixL _ x i=>[x,i]|.ixS x i=>[x,i]|.ixV _ x i=>[x,i]|.s2p _ x=>[x]
 |.slS x l h=>x::(l.toList++h.toList)|.slL _ x l h=>x::(l.toList++h.toList)
 |.bslc _ _ _ ps=>ps.map (·.2)|.build _ ps=>ps.map (·.2.2)|.ext x _=>[x]|.lenS x=>[x]|.lenL x=>[x]|.lenA _=>[]
 |.min2 x y=>[x,y]|.max2 x y=>[x,y]|.mkfn _ cs=>cs|.call _ xs=>xs|.callv x xs=>x::xs|.app _ _ _ x y=>[x,y]|.apps x y=>[x,y]|.mk _ _ _ l c=>[l,c]|.clr _ _ x=>[x]|.cpys d x=>[d,x]|.cvsb x=>[x]|.slA _ _ x l h=>x::(l.toList++h.toList)
def aVg:aH->Option Nat
 |.t n=>some n
 |_=>none
def lW(o:aN):List Nat:=(bA o.ai).filterMap aVg++(match o.guard with|some (g,_)=>[g]|none=>[])
def Wh:AI->Bool
 |.call _ _=>true
 |.alloc _=>false|.box _=>false|.store _ _ _=>false|.bslc _ _ _ _=>false|.callv _ _=>false|.app _ _ _ _ _=>false|.apps _ _=>false|.mk _ _ _ _ _=>false|.clr _ _ _=>false|.cpys _ _=>false|.cvsb _=>false
 |_=>true
def sP:AI->Bool
 |.load _ _ _=>false|.cvbs _=>false|.ixL _ _ _=>false
 |x=>Wh x
def aHq(x:AI):AI->Bool
 |.alloc _=>true|.box _=>true|.bslc _ _ _ _=>true
 |.call _ _=>true
 |.store _ _ _=>sP x
 |.app _ _ _ _ _=>match x with|.mov _=>true|.slL _ _ _ _=>true|_=>false
 |_=>false
def Ad:Option Nat->Option Nat->Bool
 |some d,some e=>d != e
 |_,_=>true
def kV(d:Option Nat)(o:aN):Bool:=match d with|none=>true|some t=>!(lW o).contains t
def C0:AI->Bool
 |.lenL _=>true|.bin _ _ _=>true|.slL _ _ _ _=>true
 |_=>false
def aLA:AI->Bool
 |.app _ _ _ _ _=>true|.call _ _=>true
 |_=>false
def aCI(x y:Bool×aN):Bool:=Ad x.2.dst y.2.dst&&kV x.2.dst y.2&&kV y.2.dst x.2&&((x.1&&(y.1||aHq x.2.ai y.2.ai))||(!x.1&&y.1&&C0 y.2.ai&&aLA x.2.ai))
def isCall:AI->Bool
 |.call _ _=>true
 |_=>false
def aCJ(l:List aN)(d:Option Nat):Bool:=l.any fun p=>match p.ai,d with
 |.app _ _ _ (.t n) _,some d=>n==d
 |_,_=>false
def pU(c:List (List Nat))(l:List aN):List (Bool×aN):=
 l.zipIdx.map fun (o,i)=>(Wh o.ai&&(!isCall o.ai||!aCJ l o.dst)&&(!isCall o.ai||!(List.range l.length).all fun j=>i==j||(c.getD i []).contains j||(c.getD j []).contains i),o)
theorem Gz{c:List (List Nat)}{l:List aN}:(pU c l).map (·.2)=l:=by
 simp only[pU,aX1];exact List.zipIdx_map_fst 0 l
def G0(c:List (List Nat))(todo:List Nat)(i:Nat):Bool:=todo.all fun j=>!(c.getD i []).contains j
def Mc(c:List (List Nat))(q:List Bool):Nat->List Nat->List Nat
 |0,_=>[]
 | n+1,todo=>match (todo.find? fun i=>q.getD i false&&G0 c todo i).or (todo.find? (G0 c todo)) with
   | some i=>i::Mc c q n (todo.erase i)
   | none=>[]
def aCK(c:List (List Nat))(q late:List Bool):Nat->List Nat->List Nat
 |0,_=>[]
 | n+1,todo=>match ((todo.find? fun i=>q.getD i false&&!late.getD i false&&G0 c todo i).or (todo.find? fun i=>!q.getD i false&&G0 c todo i)).or (todo.find? (G0 c todo)) with
   | some i=>i::aCK c q late n (todo.erase i)
   | none=>[]
def pM:Bool×aN:=(false,⟨none,.lenA 0,none⟩)
def mX(p:Nat->Nat->Bool):List Nat->Bool
 |[]=>true
 |i::r=>r.all (p i)&&mX p r
def aCL(c:List (List Nat))(ops:List Oper)(l:List (Bool×aN))(ord:List Nat):Bool:=
 ([Region.Mode.text,.gc,.any].all fun md=>A3 md ops)&&((List.range l.length).all fun i=>ord.contains i)&&(ord.all fun i=>decide (i<l.length))&&
 mX (fun i j=>i != j&&((c.getD j []).contains i||aCI (l.getD i pM) (l.getD j pM))) ord
def D6(c:List (List Nat))(ops:List Oper)(l:List (Bool×aN))(ord:List Nat):Option (List (Bool×aN)):=
 if aCL c ops l ord then some (ord.map fun i=>l.getD i pM) else none
theorem Tc{L:Nat->Prop}(ops:List Oper)(hcl:∀(i:Nat) o,ops[i]?=some o->L i->∀e∈kC o,L e):
  ∀(i:Nat) o,ops[i]?=some o->(∀e∈kC o,L e)->∀j∈(jO ops []).getD i [],L j:=by
 have key:∀(suf pre:List Oper) (acc:List (List Nat)),pre++suf=ops->pre.length=acc.length->
   (∀(i:Nat) o,pre[i]?=some o->(∀e∈kC o,L e)->∀j∈acc.getD i [],L j)->∀(i:Nat) o,ops[i]?=some o->(∀e∈kC o,L e)->∀j∈(jO suf acc).getD i [],L j:=by
  intro suf
  induction suf with
  |nil=>
   intro pre acc hp hl h i o ho he j hj;simp at hp;subst hp;exact h i o ho he j hj
  |cons o0 suf ih=>
   intro pre acc hp hl h;refine ih (pre++[o0]) _ (by simp[hp]) (by simp[hl]) (fun i o ho he j hj=>?_)
   rcases gW ho with h1|⟨h1,rfl⟩;have hlt:=aG h1;rw[aXN,aXU (by omega),<- aXN] at hj;exact h i o h1 he j hj
   subst h1;rw[aXN,hl] at hj;simp only[aXY (aXF _),aYs,List.getElem?_cons_zero,aYn,List.mem_eraseDups,aYV,List.mem_flatMap] at hj;rcases hj with hj|⟨e,he1,hj⟩
   exact he j hj;have hLe:=he e he1;by_cases hep:e<pre.length;have hpe:pre[e]?=some (pre[e]'hep):=aXJ hep;have hoe:ops[e]?=some (pre[e]'hep):=by rw[<- hp];exact bQ hpe
   exact h e _ hpe (hcl e _ hoe hLe) j hj;rw[aXN,aYz (by omega)] at hj;simp at hj
 exact key ops [] [] rfl rfl (fun i o h=>by simp at h)
def Md(ai:AI)(hp:List aC):List aC:=match ai with|.slL _ _ _ _=>[]|_=>hp
def Et(P:Program)(G:aE)(sl:List AV)(hp:List aC)(o:aN)(v:AV):Prop:=
 (Es G ⟨sl,hp⟩ o.guard/\v=.tup [])\/
 (iY G ⟨sl,hp⟩ o.guard/\(cX G ⟨sl,Md o.ai hp⟩ o.ai=some v\/∃f args cargs r,o.ai=.call f args/\QC P G f cargs r/\∀n,args.map (aK G sl)=cargs.map (cY (cF [] n))/\v=cY (cF [] n) r))
def A4(P:Program)(G:aE)(k:Nat)(f:FuncId)(avs:List AV)(hp:List aC)(T:AV->List aC->Prop):Prop:=
 ∀F γ (w:World) (vs:Array Value),dE F γ hp w->eU F G->k<=γ.length->lP F γ avs vs->
  Calls P f vs w fun e w'=>∃r av os F' γ',e=.returned r/\T av os/\gU k F γ w F' γ' w'/\dE F' γ' (hp++os) w'/\(∀(id:Nat) (o:OI),γ[id]?=some o->γ'[id]?=some o)/\RV F' γ' av r
def sS(P:Program)(G:aE)(k:Nat)(dst:Option Nat)(ai:AI)(K:AS->Prop)(sl:List AV)(hp:List aC):Prop:=
 match ai with
 |.alloc zero=>K ⟨aQ sl dst (.one (.ptr hp.length 0)),hp++[.box (zero.map dA)]⟩
 |.box x=>∃cs,cellsOf (aK G sl x)=some cs/\K ⟨aQ sl dst (.one (.ptr hp.length 0)),hp++[.box cs]⟩
 | .bslc size len zero parts=>(∃ es,gX ((List.range (len * size)).map fun i=>dA (zero.getD (i % zero.length) undef)) (parts.map fun (j,x)=>(j * size,size,aK G sl x))=some (mD es.flatten)/\
     (∀ e∈es,e.length=size)/\es.length=len/\K ⟨aQ sl dst (.one (.bld hp.length len)),hp++[.arr len size es]⟩)\/
     (size=1/\∃ cs,gX ((List.range (len * size)).map fun i=>dA (zero.getD (i % zero.length) undef)) (parts.map fun (j,x)=>(j * size,size,aK G sl x))=some cs/\K ⟨aQ sl dst (.one (.bls hp.length 0 len 1)),hp++[.box cs]⟩)
 | .store size x v=>dst=none/\
     ((∃ id off cs vs,aK G sl x=.one (.ptr id off)/\cellsOf (aK G sl v)=some vs/\aI hp id=.box cs/\vs.length=size/\off+size<=cs.length/\K ⟨sl,hp.set id (.box (cQ cs off vs))⟩)\/
      (∃ id i s off cap es e ds,aK G sl x=.one (.ept id i s off)/\cellsOf (aK G sl v)=some (mD ds)/\aI hp id=.arr cap s es/\es[i]?=some e/\ds.length=size/\off+size<=e.length/\
         K ⟨sl,hp.set id (.arr cap s (es.set i (e.take off++ds++e.drop (off+size))))⟩))
 | .app size bytes _ s x=>(aK G sl s=dG (.slice none 0 0)/\∃ news,qS hp (aK G sl x)=some news/\(∀ e∈news,e.length=size)/\news.length * bytes<=140737488355328/\
       ∀ cap',news.length<=cap'->K ⟨aQ sl dst (.one (.bld hp.length news.length)),hp.map (cJ (·==hp.length))++[.arr cap' size news]⟩)\/
     ∃ id n cap es news,aK G sl s=.one (.bld id n)/\aI hp id=.arr cap size es/\n<=es.length/\qS hp (aK G sl x)=some news/\(∀ e∈news,e.length=size)/\
     (n+news.length) * bytes<=140737488355328/\∀ cap',n+news.length<=cap'->K ⟨aQ (sl.map (bD (·==id))) dst (.one (.bld id (n+news.length))),(hp.map (cJ (·==id))).set id (.arr cap' size (es.take n++news))⟩
 |.call f args=>∃T,A4 P G k f (args.map (aK G sl)) hp T/\(∃av os,T av os)/\∀av os,T av os->K ⟨aQ sl dst av,hp++os⟩
 |ai=>WR P G k [⟨dst,ai,none⟩] K ⟨sl,hp⟩
def Eff(P:Program)(G:aE)(k:Nat)(o:aN)(K:AS->Prop)(st:AS):Prop:=
 (Es G st o.guard/\K ⟨aQ st.sl o.dst (.tup []),st.hp⟩)\/(iY G st o.guard/\sS P G k o.dst o.ai K st.sl st.hp)
def jM(P:Program)(G:aE)(k:Nat)(K:AS->Prop):List (Bool×aN)->AS->Prop
 |[],st=>K st
 |(true,o)::l,st=>∃v,Et P G st.sl st.hp o v/\jM P G k K l ⟨aQ st.sl o.dst v,st.hp⟩
 |(false,o)::l,st=>Eff P G k o (jM P G k K l) st
section
variable {P:Program}{G:aE}{k:Nat}{F:Fz}{γ:List OI}{w:World}{a:Act}
theorem D7{α β:Type}{f g:α->Option β}:∀(l:List α),(∀x∈l,f x=g x)->l.mapM f=l.mapM g
 |[],_=>rfl
 |x::l,h=>by rw[aYw,aYw,h x aXV,D7 l (fun y hy=>h y (aX3 _ hy))]
theorem Kn{sl sl':List AV}{hp:List aC}{ai:AI}(h:∀x∈bA ai,aK G sl x=aK G sl' x):cX G ⟨sl,hp⟩ ai=cX G ⟨sl',hp⟩ ai:=by
 cases ai with
 |slS x l hh=>
  have h1:=h x (by simp[bA]);have h2:l.map (aK G sl)=l.map (aK G sl'):=by cases l with|none=>rfl|some y=>simp[h y (by simp[bA])]
  have h3:hh.map (aK G sl)=hh.map (aK G sl'):=by cases hh with|none=>rfl|some y=>simp[h y (by simp[bA])]
  simp only[cX,h1,h2,h3]
 |slL s x l hh=>
  have h1:=h x (by simp[bA]);have h2:l.map (aK G sl)=l.map (aK G sl'):=by cases l with|none=>rfl|some y=>simp[h y (by simp[bA])]
  have h3:hh.map (aK G sl)=hh.map (aK G sl'):=by cases hh with|none=>rfl|some y=>simp[h y (by simp[bA])]
  simp only[cX,h1,h2,h3]
 |slA n s x l hh=>
  have h1:=h x (by simp[bA]);have h2:l.map (aK G sl)=l.map (aK G sl'):=by cases l with|none=>rfl|some y=>simp[h y (by simp[bA])]
  have h3:hh.map (aK G sl)=hh.map (aK G sl'):=by cases hh with|none=>rfl|some y=>simp[h y (by simp[bA])]
  simp only[cX,h1,h2,h3]
 |build z ps=>
  have:(ps.map fun (o,s,x)=>(o,s,aK G sl x))=ps.map fun (o,s,x)=>(o,s,aK G sl' x):=aXZ (fun p hp=>by
    obtain⟨o,s,x⟩:=p;simp only[h x (by simp only[bA,List.mem_map];exact⟨_,hp,rfl⟩)])
  simp only[cX,this]
 |mkfn f cs=>
  have:(cs.mapM fun c=>hP (aK G sl c))=cs.mapM fun c=>hP (aK G sl' c):=D7 cs (fun c hc=>by rw[h c (by simpa[bA] using hc)])
  simp only[cX,this]
 |pick c x y=>simp only[cX,h c (by simp[bA]),h x (by simp[bA]),h y (by simp[bA])]
 |bin op x y=>simp only[cX,h x (by simp[bA]),h y (by simp[bA])]
 |binb n x y=>simp only[cX,h x (by simp[bA]),h y (by simp[bA])]
 |eqs n ks x y=>simp only[cX,h x (by simp[bA]),h y (by simp[bA])]
 |ixA n s x y=>simp only[cX,h x (by simp[bA]),h y (by simp[bA])]
 |ixL s x y=>simp only[cX,h x (by simp[bA]),h y (by simp[bA])]
 |ixS x y=>simp only[cX,h x (by simp[bA]),h y (by simp[bA])]
 |ixV n x y=>simp only[cX,h x (by simp[bA]),h y (by simp[bA])]
 |s2p n x=>simp only[cX,h x (by simp[bA])]
 |min2 x y=>simp only[cX,h x (by simp[bA]),h y (by simp[bA])]
 |max2 x y=>simp only[cX,h x (by simp[bA]),h y (by simp[bA])]
 |mov x=>simp only[cX,h x (by simp[bA])]
 |load g s x=>simp only[cX,h x (by simp[bA])]
 |nilc x=>simp only[cX,h x (by simp[bA])]
 |isnil p n x=>simp only[cX,h x (by simp[bA])]
 |mpx ok z x y=>simp only[cX,h x (by simp[bA]),h y (by simp[bA])]
 |un op x=>simp only[cX,h x (by simp[bA])]
 |conv op x=>simp only[cX,h x (by simp[bA])]
 |cvid x=>simp only[cX,h x (by simp[bA])]
 |cvbs x=>simp only[cX,h x (by simp[bA])]
 |addo o x=>simp only[cX,h x (by simp[bA])]
 |fld g s o x=>simp only[cX,h x (by simp[bA])]
 |ext x n=>simp only[cX,h x (by simp[bA])]
 |lenS x=>simp only[cX,h x (by simp[bA])]
 |lenL x=>simp only[cX,h x (by simp[bA])]
 |_=>rfl
theorem gO{sl sl':List AV}{o:aN}(h:∀t∈lW o,sl.getD t .junk=sl'.getD t .junk):(∀x∈bA o.ai,aK G sl x=aK G sl' x)/\(∀g b,o.guard=some (g,b)->aK G sl (.t g)=aK G sl' (.t g)):=by
 refine⟨fun x hx=>?_,fun g b hg=>?_⟩
 cases x with
 |t n=>exact h n (by simp only[lW,aYV,List.mem_filterMap];exact .inl ⟨_,hx,rfl⟩)
 |k v=>rfl
 |g n=>rfl
 |f n=>rfl
 exact h g (by simp[lW,hg])
theorem eX{sl sl':List AV}{hp hp':List aC}{o:aN}(h:∀t∈lW o,sl.getD t .junk=sl'.getD t .junk)(hg:iY G ⟨sl,hp⟩ o.guard):iY G ⟨sl',hp'⟩ o.guard:=by
 obtain⟨_,h2⟩:=gO (G:=G) h;cases hgd:o.guard with
 |none=>trivial
 |some q=>obtain⟨g,b⟩:=q;rw[hgd] at hg;simp only[iY] at hg ⊢;rw[<- h2 g b hgd];exact hg
theorem nO{sl sl':List AV}{hp hp':List aC}{o:aN}(h:∀t∈lW o,sl.getD t .junk=sl'.getD t .junk)(hg:Es G ⟨sl,hp⟩ o.guard):Es G ⟨sl',hp'⟩ o.guard:=by
 obtain⟨_,h2⟩:=gO (G:=G) h;cases hgd:o.guard with
 |none=>rw[hgd] at hg;exact hg
 |some q=>obtain⟨g,b⟩:=q;rw[hgd] at hg;simp only[Es] at hg ⊢;rw[<- h2 g b hgd];exact hg
theorem Et.congr{sl sl':List AV}{hp:List aC}{o:aN}{v:AV}(h:∀t∈lW o,sl.getD t .junk=sl'.getD t .junk)(hq:Et P G sl hp o v):Et P G sl' hp o v:=by
 obtain⟨h1,h2⟩:=gO (G:=G) h;rcases hq with⟨h3,h4⟩|⟨h3,h4⟩;exact .inl ⟨nO h h3,h4⟩;refine .inr ⟨eX h h3,?_⟩;rcases h4 with h4|⟨f,args,cargs,r,h5,h6,h7⟩;exact .inl (by rw[<- Kn h1];exact h4)
 refine .inr ⟨f,args,cargs,r,h5,h6,fun n=>⟨?_,(h7 n).2⟩⟩
 rw[<- (h7 n).1];exact aXZ (fun x hx=>(h1 x (by rw[h5];exact hx)).symm)
theorem jC{hp:List aC}{ob:aC}{id:Nat}(h:aI hp id≠.dead):aI (hp++[ob]) id=aI hp id:=by
 unfold aI at *;rw[aXN] at h;cases hx:hp[id]? with
 |none=>rw[hx] at h;exact absurd rfl h
 |some y=>rw[aXN,aXN,bQ hx,hx]
theorem Td{hp:List aC}{ob:aC}{g:Bool}{s:Nat}{x v:AV}(h:lG hp g s x=some v):lG (hp++[ob]) g s x=some v:=by
 unfold lG at *;split at h;rename_i id o;have hne:aI hp id≠.dead:=by intro e;rw[e] at h;cases h
 simp only[jC hne];exact h;rename_i id i s' o;have hne:aI hp id≠.dead:=by intro e;rw[e] at h;cases h
 simp only[jC hne];exact h;exact h;cases h
theorem Te{hp:List aC}{ob:aC}{x v:AV}(h:mU hp x=some v):mU (hp++[ob]) x=some v:=by
 unfold mU at *;split at h;exact h;exact h;rename_i id n;have hne:aI hp id≠.dead:=by intro e;rw[e] at h;cases h
 simp only[jC hne];exact h;rename_i id k n z;have hne:aI hp id≠.dead:=by intro e;rw[e] at h;cases h
 simp only[jC hne];exact h;cases h
theorem Z5{hp:List aC}{ob:aC}{s:Nat}{x v:AV}{i:Int}(h:At hp s x i=some v):At (hp++[ob]) s x i=some v:=by
 unfold At at *;split at h;exact h;rename_i id n;have hne:aI hp id≠.dead:=by intro e;rw[e] at h;cases h
 simp only[jC hne];exact h;rename_i id k n z;have hne:aI hp id≠.dead:=by intro e;rw[e] at h;cases h
 simp only[jC hne];exact h;cases h
theorem Z6{hp:List aC}{ob:aC}{s:Nat}{x v:AV}{l r:Option AV}(h:kS hp s x l r=some v):kS (hp++[ob]) s x l r=some v:=by
 unfold kS at *;split at h;exact h;exact h;rename_i id n;have hne:aI hp id≠.dead:=by intro e;rw[e] at h;cases h
 simp only[jC hne];exact h;rename_i id k n z;have hne:aI hp id≠.dead:=by intro e;rw[e] at h;cases h
 simp only[jC hne];exact h;cases h
theorem aCM{sl:List AV}{hp:List aC}{ob:aC}{ai:AI}{v:AV}(h:cX G ⟨sl,hp⟩ ai=some v):cX G ⟨sl,hp++[ob]⟩ ai=some v:=by
 cases ai with
 |load g s x=>exact Td h
 |cvbs x=>exact Te h
 |slL s x l r=>exact Z6 h
 |ixL s x i=>
  simp only[cX] at h ⊢;cases hi:bH (aK G sl i) with
  |none=>rw[hi] at h;cases h
  |some n=>rw[hi] at h;exact Z5 h
 |_=>exact h
theorem aCN{sl:List AV}{hp hp':List aC}{ai:AI}(hh:sP ai=true):cX G ⟨sl,Md ai hp⟩ ai=cX G ⟨sl,Md ai hp'⟩ ai:=by
 cases ai<;>first|rfl|(simp[sP] at hh;done)
theorem Z7{sl:List AV}{hp:List aC}{ob:aC}{ai:AI}{v:AV}(h:cX G ⟨sl,Md ai hp⟩ ai=some v):cX G ⟨sl,Md ai (hp++[ob])⟩ ai=some v:=by
 cases ai<;>first|exact h|exact aCM h
theorem aCO{hp:List aC}{s:Nat}{x v:AV}{l r:Option AV}(h:kS [] s x l r=some v):kS hp s x l r=some v:=by
 unfold kS at *;split at h;exact h;exact h;simp[aI] at h;simp[aI] at h;cases h
theorem aHr{sl:List AV}{hp:List aC}{ai:AI}{v:AV}(h:cX G ⟨sl,Md ai hp⟩ ai=some v):cX G ⟨sl,hp⟩ ai=some v:=by
 cases ai<;>first|exact h|exact aCO h
theorem Et.push{sl:List AV}{hp:List aC}{ob:aC}{o:aN}{v:AV}(hq:Et P G sl hp o v):Et P G sl (hp++[ob]) o v:=by
 rcases hq with⟨h3,h4⟩|⟨h3,h4⟩;exact .inl ⟨nO (fun _ _=>rfl) h3,h4⟩
 exact .inr ⟨eX (fun _ _=>rfl) h3,h4.imp Z7 id⟩
theorem Et.pushL{sl:List AV}{o:aN}{v:AV}:∀(os:List aC) {hp:List aC},Et P G sl hp o v->Et P G sl (hp++os) o v
 |[],hp,h=>by simpa using h
 | ob::os,hp,h=>by
   have:=Et.pushL os (hp:=hp++[ob]) h.push;simpa using this
theorem Et.free{sl:List AV}{hp hp':List aC}{o:aN}{v:AV}(hh:sP o.ai=true)(hq:Et P G sl hp o v):Et P G sl hp' o v:=by
 rcases hq with⟨h3,h4⟩|⟨h3,h4⟩;exact .inl ⟨nO (fun _ _=>rfl) h3,h4⟩
 exact .inr ⟨eX (fun _ _=>rfl) h3,h4.imp (fun h=>by rw[<- aCN hh];exact h) id⟩
theorem aCP{sl:List AV}{d:Option Nat}{v:AV}{t:Nat}(h:d≠some t):(aQ sl d v)[t]?=sl[t]?:=by
 cases d with
 |none=>rfl
 |some d=>simp only[aQ];rw[aXW (fun e=>h (by rw[e]))]
theorem eL{sl:List AV}{d:Option Nat}{v:AV}{o:aN}(h:kV d o=true):∀t∈lW o,(aQ sl d v).getD t .junk=sl.getD t .junk:=by
 intro t ht;rw[aXN,aXN,aCP];intro e;subst e;simp[kV] at h;exact h ht
theorem eY{sl:List AV}{d e:Option Nat}{u v:AV}(h:Ad d e=true):aQ (aQ sl d u) e v=aQ (aQ sl e v) d u:=by
 cases d with
 |none=>rfl
 | some d=>cases e with
   | none=>rfl
   | some e=>
     simp[Ad] at h;simp only[aQ];exact List.set_comm _ _ h
theorem Pc{sl:List AV}{d:Option Nat}{u:AV}{f:AV->AV}:(aQ sl d u).map f=aQ (sl.map f) d (f u):=by
 cases d with
 |none=>rfl
 |some d=>simp[aQ,aYa]
theorem aCQ(p:Nat->Bool)(l:List Value):(l.map dA).map (cG p)=l.map dA:=by
 rw[aX1];exact aXZ (fun v _=>by simp[dA,cG,aT.keep])
theorem jD{p:Nat->Bool}{sl:List AV}(x:aH):aK G (sl.map (bD p)) x=bD p (aK G sl x):=by
 cases x with
 |t n=>
  simp only[aK,aXN,aXI];cases sl[n]? with
  |none=>rfl
  |some y=>rfl
 |k v=>
  simp only[aK];unfold aCj;split;split;simp only[bD,aCQ];rfl;rfl;simp[dG,bD,cG,aT.keep]
 |g n=>
  simp only[aK];cases G n with
  |none=>rfl
  |some cs=>simp[bD,cG,aT.keep]
 |f n=>simp[aK,bD,cG,aT.keep,keepL]
theorem D8{p:Nat->Bool}{v:AV}{b:Bool}(h:cH v=some b):cH (bD p v)=some b:=by
 unfold cH at h;split at h;simp[bD,cG,aT.keep];exact h;cases h
theorem Tf{p:Nat->Bool}{v:AV}{b:Int}(h:bH v=some b):bH (bD p v)=some b:=by
 unfold bH at h;split at h;simp[bD,cG,aT.keep];exact h;cases h
theorem qT{p:Nat->Bool}{x:Option AV}{t d n:Nat}(h:dO x t d=some n):dO (x.map (bD p)) t d=some n:=by
 cases x with
 |none=>exact h
 |some v=>
  simp only[dO,aXG] at h ⊢;cases hi:bH v with
  |none=>rw[hi] at h;cases h
  |some i=>rw[hi] at h;rw[Tf hi];exact h
theorem Z8{p:Nat->Bool}{s:Nat}{x v:AV}{l r:Option AV}(h:kS [] s x l r=some v):kS [] s (bD p x) (l.map (bD p)) (r.map (bD p))=some (bD p v):=by
 unfold kS at h;split at h;obtain⟨a,h1,h2⟩:=aYu.1 h;obtain⟨b,h3,h4⟩:=aYu.1 h2;have e:∀d:DC,bD p (.one (.dc d))=.one (.dc d):=fun d=>by simp[bD,cG,aT.keep]
 split at h4;injection h4 with h4;subst h4
 rw[e,e];simp only[kS,qT h1,qT h3,aXP];rw[if_pos (by assumption)];cases h4;obtain⟨a,h1,h2⟩:=aYu.1 h;obtain⟨b,h3,h4⟩:=aYu.1 h2;injection h4 with h4;subst h4;have e:∀d:DC,bD p (.one (.dc d))=.one (.dc d):=fun d=>by simp[bD,cG,aT.keep]
 rw[e];simp only[kS,qT h1,qT h3,aXP];simp[aI] at h;simp[aI] at h;cases h
def aCR(ai:AI):Prop:=(∃x,ai=.mov x)\/∃s x l h,ai=.slL s x l h
theorem Et.kill{sl:List AV}{hp hp':List aC}{p:Nat->Bool}{o:aN}{v:AV}(hx:aCR o.ai)(hq:Et P G sl hp o v):Et P G (sl.map (bD p)) hp' o (bD p v):=by
 rcases hq with⟨h3,rfl⟩|⟨h3,h4⟩;refine .inl ⟨?_,rfl⟩;cases hgd:o.guard with
 |none=>rw[hgd] at h3;exact h3
 |some q=>obtain⟨g,b⟩:=q;rw[hgd] at h3;simp only[Es] at h3 ⊢;rw[jD];exact h3.imp D8 (fun h=>by rw[h];rfl)
 refine .inr ⟨?_,?_⟩;cases hgd:o.guard with
 |none=>trivial
 |some q=>obtain⟨g,b⟩:=q;rw[hgd] at h3;simp only[iY] at h3 ⊢;rw[jD];exact D8 h3
 rcases h4 with h4|⟨f,args,cargs,r,h5,_⟩
 left
 rcases hx with⟨x,hx⟩|⟨s,x,l,r,hx⟩;rw[hx] at h4 ⊢;simp only[cX,Option.some.injEq] at h4 ⊢;rw[<- h4,jD];rw[hx] at h4 ⊢;have:=Z8 (p:=p) h4;simp only[cX,Md,jD];rw[Option.map_map,Option.map_map] at this;have e:(bD p ∘ aK G sl)=aK G (sl.map (bD p)):=by funext y;simp only[Function.comp,jD]
 rw[e] at this;exact this;rcases hx with⟨x,hx⟩|⟨s,x,l,r,hx⟩<;>(rw[hx] at h5;cases h5)
theorem Z9{o:Oper}{e:Nat}:e∈kC o↔∃x,x∈o.after/\Region.binds .any x=true/\x.on=e:=by
 simp only[kC,List.mem_map,List.mem_filter,Array.mem_toList_iff];constructor;rintro⟨x,⟨h1,h2⟩,h3⟩;exact⟨x,h1,h2,h3⟩;rintro⟨x,h1,h2,h3⟩;exact⟨x,⟨h1,h2⟩,h3⟩
theorem aAa{md:Region.Mode}{e:Edge}(h:Region.binds .any e=true):Region.binds md e=true:=by
 unfold Region.binds at *;split at h<;>simp_all
theorem lQ{md:Region.Mode}{opsA:Array Oper}{listed:Array Bool}(hsz:listed.size=opsA.size){i:Nat}(h:i∈Region.ready md opsA listed):
  i<opsA.size/\listed.getD i false=false/\∃o,opsA[i]?=some o/\∀e∈kC o,listed.getD e false=true:=by
 obtain⟨h1,o,ho,h2⟩:=mem_ready.1 h;have hlt:i<opsA.size:=(Array.getElem?_eq_some_iff.1 ho).1;refine⟨hlt,?_,o,ho,fun e he=>?_⟩
 have:listed[i]?=some (listed[i]'(by omega)):=aX8 (by omega);rw[aYT,this] at h1 ⊢;exact h1;obtain⟨x,hx,hb,rfl⟩:=Z9.1 he;exact h2 x hx (aAa hb)
theorem sU{md:Region.Mode}{opsA:Array Oper}{listed:Array Bool}(hsz:listed.size=opsA.size){i:Nat}{o:Oper}(hlt:i<opsA.size)(h1:listed.getD i false=false)(ho:opsA[i]?=some o)
  (h2:∀e∈jV md o,listed.getD e false=true):i∈Region.ready md opsA listed:=by
 refine mem_ready.2 ⟨?_,o,ho,fun x hx hb=>h2 _ (by simp only[jV,List.mem_map,List.mem_filter,Array.mem_toList_iff];exact⟨x,⟨hx,hb⟩,rfl⟩)⟩
 have:listed[i]?=some (listed[i]'(by omega)):=aX8 (by omega);rw[aYT,this] at h1 ⊢;exact h1
theorem Eff.mono{o:aN}{K K':AS->Prop}{st:AS}(hk:∀s,K s->K' s)(h:Eff P G k o K st):Eff P G k o K' st:=by
 rcases h with⟨h1,h2⟩|⟨h1,h2⟩;exact .inl ⟨h1,hk _ h2⟩;refine .inr ⟨h1,?_⟩;obtain⟨dst,ai,gd⟩:=o;cases ai with
 |alloc z=>exact hk _ h2
 |box x=>obtain⟨cs,h3,h4⟩:=h2;exact⟨cs,h3,hk _ h4⟩
 |bslc s n z ps=>
  rcases h2 with⟨es,h3,h4,h5,h6⟩|⟨h3,cs,h4,h6⟩;exact .inl ⟨es,h3,h4,h5,hk _ h6⟩;exact .inr ⟨h3,cs,h4,hk _ h6⟩
 |store s x v=>
  obtain⟨h3,h4⟩:=h2;refine⟨h3,?_⟩;rcases h4 with⟨id,off,cs,vs,g1,g2,g3,g4,g5,g6⟩|⟨id,i,s',off,cap,es,e,ds,g1,g2,g3,g4,g5,g6,g7⟩;exact .inl ⟨id,off,cs,vs,g1,g2,g3,g4,g5,hk _ g6⟩;exact .inr ⟨id,i,s',off,cap,es,e,ds,g1,g2,g3,g4,g5,g6,hk _ g7⟩
 |app s b z x y=>
  rcases h2 with⟨g1,news,g4,g5,g6,g7⟩|⟨id,n,cap,es,news,g1,g2,g3,g4,g5,g6,g7⟩;exact .inl ⟨g1,news,g4,g5,g6,fun c hc=>hk _ (g7 c hc)⟩
  exact .inr ⟨id,n,cap,es,news,g1,g2,g3,g4,g5,g6,fun c hc=>hk _ (g7 c hc)⟩
 |call f args=>obtain⟨T,h3,hne,h4⟩:=h2;exact⟨T,h3,hne,fun av os ht=>hk _ (h4 av os ht)⟩
 |_=>exact WR.mono h2 hk
theorem sS.swap{x y:aN}{K:AS->Prop}{sl:List AV}{hp:List aC}{v:AV}(hd:Ad x.dst y.dst=true)(h1:kV x.dst y=true)(h2:kV y.dst x=true)(hc:aHq x.ai y.ai=true)
  (hq:Et P G sl hp x v) (h:sS P G k y.dst y.ai K (aQ sl x.dst v) hp):
  sS P G k y.dst y.ai (fun s=>∃v',Et P G s.sl s.hp x v'/\K ⟨aQ s.sl x.dst v',s.hp⟩) sl hp:=by
 have hr:=(gO (G:=G) (eL (sl:=sl) (v:=v) h1)).1;obtain⟨ydst,yai,yg⟩:=y;simp only at hr hd h2 hc h ⊢;cases yai with
 |alloc z=>
  refine⟨v,(hq.push).congr (fun t ht=>(eL h2 t ht).symm),?_⟩
  simp only;rw[<- eY hd];exact h
 |box a=>
  obtain⟨cs,h3,h4⟩:=h;rw[hr a (by simp[bA])] at h3;refine⟨cs,h3,v,(hq.push).congr (fun t ht=>(eL h2 t ht).symm),?_⟩
  simp only;rw[<- eY hd];exact h4
 |bslc s n z ps=>
  have hps:(ps.map fun (j,x')=>(j * s,s,aK G (aQ sl x.dst v) x'))=ps.map fun (j,x')=>(j * s,s,aK G sl x'):=
    aXZ (fun p hp=>by
      obtain⟨j,x'⟩:=p;simp only[hr x' (by simp only[bA,List.mem_map];exact⟨_,hp,rfl⟩)])
  rcases h with⟨es,h3,h4,h5,h6⟩|⟨h3,cs,h4,h6⟩;rw[hps] at h3;refine .inl ⟨es,h3,h4,h5,v,(hq.push).congr (fun t ht=>(eL h2 t ht).symm),?_⟩
  simp only;rw[<- eY hd];exact h6;rw[hps] at h4;refine .inr ⟨h3,cs,h4,v,(hq.push).congr (fun t ht=>(eL h2 t ht).symm),?_⟩
  simp only;rw[<- eY hd];exact h6
 |store s a b=>
  obtain⟨h3,h4⟩:=h;refine⟨h3,?_⟩;rcases h4 with⟨id,off,cs,vs,g1,g2,g3,g4,g5,g6⟩|⟨id,i,s',off,cap,es,e,ds,g1,g2,g3,g4,g5,g6,g7⟩;rw[hr a (by simp[bA])] at g1
  rw[hr b (by simp[bA])] at g2;exact .inl ⟨id,off,cs,vs,g1,g2,g3,g4,g5,v,hq.free hc,g6⟩;rw[hr a (by simp[bA])] at g1;rw[hr b (by simp[bA])] at g2;exact .inr ⟨id,i,s',off,cap,es,e,ds,g1,g2,g3,g4,g5,g6,v,hq.free hc,g7⟩
 |app s b z a c=>
  have hmov:aCR x.ai/\sP x.ai=true:=by
   simp only[aHq] at hc;split at hc;rename_i q h;exact⟨.inl ⟨q,h⟩,by rw[h];rfl⟩;rename_i s x l r h;exact⟨.inr ⟨s,x,l,r,h⟩,by rw[h];rfl⟩;cases hc
  obtain⟨hmov,hless⟩:=hmov;rcases h with⟨g1,news,g4,g5,g6,g7⟩|⟨id,n,cap,es,news,g1,g2,g3,g4,g5,g6,g7⟩;rw[hr a (by simp[bA])] at g1
  rw[hr c (by simp[bA])] at g4;refine .inl ⟨g1,news,g4,g5,g6,fun cap' hcap=>⟨v,(hq.free hless).congr (fun t ht=>(eL h2 t ht).symm),?_⟩⟩
  simp only;rw[<- eY hd];exact g7 cap' hcap;rw[hr a (by simp[bA])] at g1;rw[hr c (by simp[bA])] at g4;refine .inr ⟨id,n,cap,es,news,g1,g2,g3,g4,g5,g6,fun cap' hcap=>⟨bD (·==id) v,(hq.kill (hp':=(hp.map (cJ (·==id))).set id (.arr cap' s (es.take n++news))) hmov).congr (fun t ht=>(eL h2 t ht).symm),?_⟩⟩
  have:=g7 cap' hcap;rw[Pc] at this;simp only;rw[<- eY hd];exact this
 |call f args=>
  obtain⟨T,h3,hne,h4⟩:=h;have he:args.map (aK G (aQ sl x.dst v))=args.map (aK G sl):=aXZ (fun a ha=>hr a (by simpa[bA] using ha))
  rw[he] at h3;refine⟨T,h3,hne,fun av os ht=>⟨v,(hq.pushL os).congr (fun t ht=>(eL h2 t ht).symm),?_⟩⟩
  simp only;rw[<- eY hd];exact h4 av os ht
 |_=>cases hc
theorem Eff.swap{x y:aN}{K:AS->Prop}{st:AS}{v:AV}(hd:Ad x.dst y.dst=true)(h1:kV x.dst y=true)(h2:kV y.dst x=true)(hc:aHq x.ai y.ai=true)
  (hq:Et P G st.sl st.hp x v) (h:Eff P G k y K ⟨aQ st.sl x.dst v,st.hp⟩):Eff P G k y (fun s=>∃v',Et P G s.sl s.hp x v'/\K ⟨aQ s.sl x.dst v',s.hp⟩) st:=by
 rcases h with⟨h3,h4⟩|⟨h3,h4⟩;refine .inl ⟨nO (eL h1) h3,v,hq.congr (fun t ht=>(eL h2 t ht).symm),?_⟩
 simp only;rw[<- eY hd];exact h4
 ·exact .inr ⟨eX (eL h1) h3,sS.swap hd h1 h2 hc hq h4⟩
def A5(G:aE)(sl:List AV)(o:aN)(v:AV):Prop:=
 (Es G ⟨sl,[]⟩ o.guard/\v=.tup [])\/(iY G ⟨sl,[]⟩ o.guard/\cX G ⟨sl,[]⟩ o.ai=some v)
theorem iL{sl:List AV}{hp:List aC}{o:aN}{v:AV}(hl:C0 o.ai=true):Et P G sl hp o v↔A5 G sl o v:=by
 have g1:Es G ⟨sl,hp⟩ o.guard↔Es G ⟨sl,[]⟩ o.guard:=by cases o.guard<;>rfl
 have g2:iY G ⟨sl,hp⟩ o.guard↔iY G ⟨sl,[]⟩ o.guard:=by cases o.guard<;>rfl
 unfold Et A5;rw[g1,g2];obtain⟨d,ai,g⟩:=o;cases ai<;>first|(cases hl;done)|skip
 all_goals
  constructor;rintro (h|⟨h3,h4|⟨f,args,cargs,r,h5,_⟩⟩)
  exact .inl h;exact .inr ⟨h3,h4⟩;cases h5;rintro (h|⟨h3,h4⟩)
  exact .inl h;exact .inr ⟨h3,.inl h4⟩
theorem G1{sl:List AV}{o:aN}{v v':AV}(h:A5 G sl o v)(h':A5 G sl o v'):v=v':=by
 have key:¬ (Es G ⟨sl,[]⟩ o.guard/\iY G ⟨sl,[]⟩ o.guard):=by
  rintro⟨h1,h2⟩;cases hg:o.guard with
  |none=>rw[hg] at h1;exact h1
  |some q=>
   rw[hg] at h1 h2;obtain⟨g,b⟩:=q;simp only[Es,iY] at h1 h2;rcases h1 with h1|h1
   rw[h1] at h2;cases b<;>simp at h2;rw[h1] at h2;simp[cH] at h2
 rcases h with⟨h1,rfl⟩|⟨h1,h2⟩;rcases h' with⟨_,rfl⟩|⟨h3,_⟩;rfl;exact absurd ⟨h1,h3⟩ key;rcases h' with⟨h3,_⟩|⟨_,h4⟩;exact absurd ⟨h3,h1⟩ key;rw[h2] at h4;injection h4
theorem qU{p:Nat->Bool}{a:AV}{d:DC}(h:bD p a=.one (.dc d)):a=.one (.dc d):=by
 cases a with
 |one c=>
  simp only[bD,cG,AV.one.injEq] at h;split at h;rw[h];cases h
 |_=>simp[bD] at h
theorem zQ{p:Nat->Bool}{a:AV}{b:Bool}(h:cH (bD p a)=some b):cH a=some b:=by
 unfold cH at h;split at h;rename_i hv;rw[qU hv];exact h;cases h
theorem Tg{p:Nat->Bool}{a:AV}(h:bD p a=.tup []):a=.tup []:=by
 cases a<;>simp[bD] at h ⊢;exact h
theorem Me{p:Nat->Bool}{a:AV}{b:Int}(h:bH (bD p a)=some b):bH a=some b:=by
 unfold bH at h;split at h;rename_i hv;rw[qU hv];exact h;cases h
theorem mY{p:Nat->Bool}{x:Option AV}{t d n:Nat}(h:dO (x.map (bD p)) t d=some n):dO x t d=some n:=by
 cases x with
 |none=>exact h
 |some a=>
  simp only[dO,aXG] at h ⊢;cases ha:bH (bD p a) with
  |none=>rw[ha] at h;cases h
  |some i=>rw[ha] at h;rw[Me ha];exact h
theorem Ko{s:Nat}{x v:AV}{l r:Option AV}(h:kS [] s x l r=some v):∃d,x=.one (.dc d):=by
 unfold kS at h;split at h;exact⟨_,rfl⟩;exact⟨_,rfl⟩;simp[aI] at h;simp[aI] at h;cases h
theorem aCS{sl:List AV}{o:aN}{v:AV}(hl:C0 o.ai=true)(h:A5 G sl o v)(p:Nat->Bool):bD p v=v:=by
 have e:∀d:DC,bD p (.one (.dc d))=.one (.dc d):=fun d=>by simp[bD,cG,aT.keep]
 rcases h with⟨_,rfl⟩|⟨_,h⟩;rfl
 ·obtain⟨d,ai,g⟩:=o;cases ai<;>first|(cases hl;done)|skip
  simp only[cX,eP] at h;split at h;split at h;split at h;cases h;injection h with h;rw[<- h];exact e _
  split at h;cases h;injection h with h;rw[<- h];exact e _
  split at h;obtain⟨u,_,rfl⟩:=Option.map_eq_some_iff.1 h;exact e _;cases h;obtain⟨u,_,rfl⟩:=Option.map_eq_some_iff.1 h;exact e _;cases h;simp only[cX] at h;obtain⟨d,hd⟩:=Ko h;rw[hd] at h;unfold kS at h;split at h;obtain⟨_,_,h⟩:=aYu.1 h;obtain⟨_,_,h⟩:=aYu.1 h;split at h;injection h with h;rw[<- h];exact e _
  cases h;obtain⟨_,_,h⟩:=aYu.1 h;obtain⟨_,_,h⟩:=aYu.1 h;injection h with h;rw[<- h];exact e _
  simp[aI] at h;simp[aI] at h;cases h;simp only[cX,rR] at h;split at h;injection h with h;rw[<- h];exact e _
  injection h with h;rw[<- h];exact e _
  injection h with h;rw[<- h];exact e _
  injection h with h;rw[<- h];exact e _
  cases h
theorem Mf{p:Nat->Bool}{a v:AV}(h:rR (bD p a)=some v):rR a=some v:=by
 cases a with
 |one c=>
  simp only[bD,cG] at h;split at h;exact h;simp[rR] at h
 |_=>simp[bD,rR] at h
theorem Pd{p:Nat->Bool}{op:BinOp}{a b v:AV}(h:eP op (bD p a) (bD p b)=some v):eP op a b=some v:=by
 unfold eP at h;split at h;rename_i ha hb;rw[qU ha,qU hb];exact h;rename_i ha hb;rw[qU ha,qU hb];exact h;cases h
theorem Pe{p:Nat->Bool}{s:Nat}{x v:AV}{l r:Option AV}(h:kS [] s (bD p x) (l.map (bD p)) (r.map (bD p))=some v):kS [] s x l r=some v:=by
 obtain⟨d,hd⟩:=Ko h;have hx:=qU hd;subst hx;have e:bD p (.one (.dc d))=.one (.dc d):=by simp[bD,cG,aT.keep]
 rw[e] at h;unfold kS at h ⊢;split at h;obtain⟨a,h1,h⟩:=aYu.1 h;obtain⟨b,h2,h⟩:=aYu.1 h;simp only[mY h1,mY h2,aXP];exact h;obtain⟨a,h1,h⟩:=aYu.1 h;obtain⟨b,h2,h⟩:=aYu.1 h;simp only[mY h1,mY h2,aXP];exact h;simp[aI] at h;simp[aI] at h;cases h
theorem D9{p:Nat->Bool}{sl:List AV}{o:aN}{v:AV}(hl:C0 o.ai=true)(h:A5 G (sl.map (bD p)) o v):A5 G sl o v:=by
 rcases h with⟨h1,rfl⟩|⟨h1,h2⟩;refine .inl ⟨?_,rfl⟩;cases hg:o.guard with
 |none=>rw[hg] at h1;exact h1
 |some q=>obtain⟨g,b⟩:=q;rw[hg] at h1;simp only[Es] at h1 ⊢;rw[jD] at h1;exact h1.imp zQ Tg
 refine .inr ⟨?_,?_⟩;cases hg:o.guard with
 |none=>trivial
 |some q=>obtain⟨g,b⟩:=q;rw[hg] at h1;simp only[iY] at h1 ⊢;rw[jD] at h1;exact zQ h1
 ·obtain⟨d,ai,g⟩:=o;cases ai<;>first|(cases hl;done)|skip
  simp only[cX,jD] at h2 ⊢;exact Pd h2;simp only[cX,jD] at h2 ⊢;have e:∀l:Option aH,l.map (aK G (sl.map (bD p)))=(l.map (aK G sl)).map (bD p):=fun l=>by cases l<;>simp[jD]
  rw[e,e] at h2;exact Pe h2;simp only[cX,jD] at h2 ⊢;exact Mf h2
theorem jM.swapB{x y:aN}{K:AS->Prop}{st:AS}(hd:Ad x.dst y.dst=true)(h1:kV x.dst y=true)(h2:kV y.dst x=true)(hl:C0 y.ai=true)(hb:aLA x.ai=true)
  (h:Eff P G k x (fun s=>∃u,Et P G s.sl s.hp y u/\K ⟨aQ s.sl y.dst u,s.hp⟩) st):∃u,Et P G st.sl st.hp y u/\Eff P G k x K ⟨aQ st.sl y.dst u,st.hp⟩:=by
 
 have back:∀ {sl:List AV} {w u:AV},A5 G (aQ sl x.dst w) y u->A5 G sl y u:=fun {sl w u} hq=>by
   rw[<- iL (P:=P) (hp:=[]) hl] at hq ⊢;exact hq.congr (fun t ht=>eL h1 t ht)
 rcases h with⟨h3,u,hq,h4⟩|⟨h3,h4⟩;rw[iL hl] at hq;refine⟨u,(iL hl).2 (back hq),.inl ⟨nO (fun t ht=>(eL h2 t ht).symm) h3,?_⟩⟩
 simp only;rw[eY hd] at h4;exact h4
 ·obtain⟨xd,xai,xg⟩:=x;cases xai<;>first|(cases hb;done)|skip
  case app s b z a c=>
   have ra:∀u,aK G (aQ st.sl y.dst u) a=aK G st.sl a:=fun u=>(gO (G:=G) (eL (sl:=st.sl) (v:=u) h2)).1 a (by simp[bA])
   have rc:∀u,aK G (aQ st.sl y.dst u) c=aK G st.sl c:=fun u=>(gO (G:=G) (eL (sl:=st.sl) (v:=u) h2)).1 c (by simp[bA])
   rcases h4 with⟨g1,news,g4,g5,g6,g7⟩|⟨id,n,cap,es,news,g1,g2,g3,g4,g5,g6,g7⟩;obtain⟨u,hq,_⟩:=g7 news.length (aXF _);rw[iL hl] at hq;have hq0:=back hq;refine⟨u,(iL hl).2 hq0,.inr ⟨eX (fun t ht=>(eL h2 t ht).symm) h3,.inl ⟨by rw[ra];exact g1,news,by rw[rc];exact g4,g5,g6,fun cap' hcap=>?_⟩⟩⟩
   obtain⟨u',hq',hK⟩:=g7 cap' hcap;rw[iL hl] at hq';have:=G1 hq0 (back hq');subst this;simp only at hK ⊢;rw[eY hd] at hK;exact hK;obtain⟨u,hq,_⟩:=g7 (n+news.length) (aXF _);rw[iL hl] at hq;have hq0:=D9 hl (back hq);refine⟨u,(iL hl).2 hq0,.inr ⟨eX (fun t ht=>(eL h2 t ht).symm) h3,.inr ⟨id,n,cap,es,news,by rw[ra];exact g1,g2,g3,by rw[rc];exact g4,g5,g6,fun cap' hcap=>?_⟩⟩⟩
   obtain⟨u',hq',hK⟩:=g7 cap' hcap;rw[iL hl] at hq';have:=G1 hq0 (D9 hl (back hq'));subst this;simp only at hK ⊢;rw[Pc,aCS hl hq0];rw[eY hd] at hK;exact hK
  case call f args=>
   obtain⟨T,t1,⟨av0,os0,t2⟩,t3⟩:=h4;obtain⟨u,hq,_⟩:=t3 av0 os0 t2;rw[iL hl] at hq;have hq0:=back hq;have he:∀u,args.map (aK G (aQ st.sl y.dst u))=args.map (aK G st.sl):=fun u=>aXZ (fun a ha=>(gO (G:=G) (eL (sl:=st.sl) (v:=u) h2)).1 a (by simpa[bA] using ha))
   refine⟨u,(iL hl).2 hq0,.inr ⟨eX (fun t ht=>(eL h2 t ht).symm) h3,T,by rw[he];exact t1,⟨av0,os0,t2⟩,fun av os ht=>?_⟩⟩
   obtain⟨u',hq',hK⟩:=t3 av os ht;rw[iL hl] at hq';have:=G1 hq0 (back hq');subst this;simp only at hK ⊢;rw[eY hd] at hK;exact hK
theorem jM.swap{x y:Bool×aN}{K:AS->Prop}{l:List (Bool×aN)}{st:AS}(hc:aCI x y=true)(h:jM P G k K (x::y::l) st):jM P G k K (y::x::l) st:=by
 obtain⟨bx,x⟩:=x;obtain⟨by',y⟩:=y;simp only[aCI,aXQ,Bool.or_eq_true] at hc;obtain⟨⟨⟨hd,h1⟩,h2⟩,⟨hb,h3⟩|⟨⟨⟨hb,hy⟩,hl⟩,hx⟩⟩:=hc;subst hb;obtain⟨v,hv,h⟩:=h;cases by' with
 |true=>
  obtain⟨u,hu,h⟩:=h;refine⟨u,hu.congr (eL h1),v,hv.congr (fun t ht=>(eL h2 t ht).symm),?_⟩
  simp only;rw[<- eY hd];exact h
 |false=>exact Eff.swap hd h1 h2 (h3.resolve_left (by simp)) hv h
 have hbx:bx=false:=by simpa using hb
 subst hbx;subst hy;exact jM.swapB hd h1 h2 hl hx h
theorem jM.front{y:Bool×aN}{K:AS->Prop}{ys:List (Bool×aN)}:∀(xs:List (Bool×aN)) (st:AS),(∀x∈xs,aCI x y=true)->jM P G k K (xs++y::ys) st->jM P G k K (y::(xs++ys)) st
 |[],st,_,h=>h
 | x::xs,st,hc,h=>by
   refine jM.swap (hc x aXV) ?_;obtain⟨b,x⟩:=x;cases b with
   | true=>
     obtain⟨v,hv,h⟩:=h;exact⟨v,hv,jM.front xs _ (fun x' hx'=>hc x' (aX3 _ hx')) h⟩
   | false=>exact Eff.mono (fun s hs=>jM.front xs s (fun x' hx'=>hc x' (aX3 _ hx')) hs) h
theorem wpQ{o:Oper}{a:Act}{w:World}{K:Act->World->Prop}{Q Q':Exit->Act->World->Prop}(hQ:∀e a w,e≠.normal->Q e a w->Q' e a w)(hh:o.wp P a w K Q):o.wp P a w K Q':=by
 unfold Oper.wp at *;generalize (execOp a.eval o).run P w=r at *;cases r with
 |ok n w'=>
  cases n<;>simp only[Oper.upon] at hh ⊢<;>
   first
    |exact hh
    | exact Calls.mono hh (fun e w'' he=>by
        cases e<;>first | exact he | exact hQ _ _ _ (by simp) he | (obtain⟨a,w,h⟩:=he;exact⟨a,w,hQ _ _ _ (by simp) h⟩))
 |halt x w'=>cases x<;>simp only[Oper.upon] at hh ⊢<;>first|exact hh|exact hQ _ _ _ (by simp) hh
theorem WR.guard{o:aN}{K:AS->Prop}{st:AS}{ai:AI}(hg:iY G st o.guard)(hai:o.ai=ai)(h:WR P G k [⟨o.dst,ai,none⟩] K st):WR P G k [o] K st:=by
 intro opsA l hc F γ a w hi hs hg' hk QE hq;obtain⟨oper,l',rfl,h1,h2,h3,h4⟩:=mV hc;have hl:l'=[]:=by
  cases l' with
  |nil=>rfl
  |cons o' l'=>
   exfalso;simp only[bE] at h4;cases g1:cC P opsA o' with
   |none=>simp[g1] at h4
   | some y=>cases g2:bE P opsA l' with
     | none=>simp[g1,g2] at h4
     | some r=>simp[g1,g2] at h4
 subst hl;have hc2:bE P opsA [{ oper with guard:=none }]=some [⟨o.dst,ai,none⟩]:=by
  simp only[bE,cC,aYu,Option.map_eq_some_iff];refine⟨⟨o.dst,ai,none⟩,⟨ai,?_,none,rfl,by simp[h3]⟩,[],rfl,rfl⟩;rw[<- hai];exact h1
 have:=h opsA _ hc2 F γ a w hi hs hg' hk QE hq;simp only[wpList] at this ⊢;rw[(nN (b':=true) hs h2).1 hg,if_pos rfl];have hw:Region.wanted { oper with guard:=none } (yielded opsA a.tmps)=true:=rfl
 rw[if_pos hw] at this;exact this
theorem WR.callA{o:aN}{rest:List aN}{K:AS->Prop}{st:AS}{f:FuncId}{args:List aH}{T:AV->List aC->Prop}(hgd:iY G st o.guard)(ha:o.ai=.call f args)
  (hac:A4 P G k f (args.map (aK G st.sl)) st.hp T) (h:∀av os,T av os->WR P G k rest K ⟨aQ st.sl o.dst av,st.hp++os⟩):WR P G k (o::rest) K st:=by
 refine WR.step hgd (fun F γ a w oper hc hd hi hs hg hk=>?_)
 rw[ha] at hc;obtain⟨c,hop,hcal,rfl,hok⟩:=A1 hc;obtain⟨dst,op,type,pos,after,guard⟩:=oper;simp only at hop;subst hop;have hv:=A2 (G:=G) hs hg c.args;refine .inr ⟨f,c.args.map a.eval,?_,(hac F γ w _ hi hg hk hv).mono ?_⟩;simp[execOp,resolve,hcal,Act.eval,Deferred.ofValue,invoke,kU hok];rintro e w' ⟨r,av,os,F',γ',rfl,hT,hE,hI,hx,hR⟩;refine⟨r,_,F',γ',rfl,h av os hT,hE,hI,(hs.ext hE.sub hx).put _ hR,?_⟩;have h1:=hi.len;have h2:=hI.len;rw[aXD] at h2;omega
theorem A4.of{f:FuncId}{cargs avs:List AV}{hp:List aC}{Qc:AV->List aC->Prop}(hac:AC P G f cargs [] Qc)(hargs:avs=cargs.map (cY (cF [] hp.length))):
  A4 P G k f avs hp (fun av os=>∃av0 os0,Qc av0 os0/\av=cY (cF [] hp.length) av0/\os=os0.map (dC (cF [] hp.length))):=by
 intro F γ w vs hi hg hk hv;have hln:=hi.len;have hρ:∀t,cF [] hp.length t=γ.length+t:=fun t=>by simp[cF,hln]
 have hnone:∀ (id:Nat) (o:OI),γ[cF [] hp.length id]?=some o->([]:List OI)[id]?=some o:=fun id o h=>by
   rw[hρ,aYz (by omega)] at h;cases h
 have hv0:lP F [] cargs vs:=by
  rw[hargs] at hv;refine⟨by rw[hv.1];simp,fun i av v h1 h2=>?_⟩
  exact RV.unren hnone (hv.2 i _ v (by rw[aXI,h1];rfl) h2)
 have hi0:dE F [] [] w:=⟨hi.fz,rfl,fun i j b h=>by simp[bZ] at h,fun i b h=>by simp[bZ] at h,fun i o x h=>by simp at h⟩
 refine (hac F [] vs w hi0 hg hv0).mono ?_;rintro e w' ⟨r,av,os,F',γ1,rfl,hQ,_,hE,hI,hR⟩;have hsub:∀(id:Nat) (o:OI),γ[id]?=some o->(γ++γ1)[id]?=some o:=fun _ _ h=>bQ h
 have hren:∀ (id:Nat) (o:OI),γ1[id]?=some o->(γ++γ1)[cF [] hp.length id]?=some o:=fun id o h=>by
   rw[hρ,aXY (by omega)];simpa using h
 have hnew:∀ i b,bZ γ1 i=some b->w.heap.size<=b:=fun i b h=>by
   rcases hE.blk i b h with⟨j,hj⟩ | h
   · simp[bZ] at hj
   · exact h
 have hsplit:∀ i b,bZ (γ++γ1) i=some b->(i < γ.length/\bZ γ i=some b)\/(γ.length<=i/\bZ γ1 (i - γ.length)=some b):=fun i b h=>by
   obtain⟨y,hy,hyb⟩:=cU h;by_cases hil:i < γ.length
   · rw[aXU hil] at hy;exact .inl ⟨hil,bM hy hyb⟩
   · rw[aXY (by omega)] at hy;exact .inr ⟨by omega,bM hy hyb⟩
 have hfar:∀b,b<w.heap.size->w'.heap[b]?=w.heap[b]?:=fun b hb=>hE.far b hb (fun i h=>by simp[bZ] at h)
 refine⟨r,_,_,F',γ++γ1,rfl,⟨av,os,hQ,rfl,rfl⟩,?_,?_,hsub,hR.ren hren⟩;refine⟨hE.sub,hE.os,hE.tape,hE.output,hE.size,fun b hb _=>hfar b hb,fun b o h=>?_,fun i b h=>?_,fun i _ b h=>hsub _ _ h⟩
 rcases hE.new b o h with h1|h1|⟨i,h1⟩;exact .inl h1;exact .inr (.inl h1);simp[bZ] at h1;rcases hsplit i b h with⟨_,h1⟩|⟨_,h1⟩;exact .inl ⟨i,h1⟩;exact .inr (hnew _ b h1);refine⟨hI.fz,by have:=hI.len;simp[hln,this],fun i j b h1 h2=>?_,fun i b h=>?_,fun i o x h1 h2=>?_⟩
 rcases hsplit i b h1 with⟨a1,b1⟩|⟨a1,b1⟩<;>rcases hsplit j b h2 with⟨a2,b2⟩|⟨a2,b2⟩;exact hi.nd i j b b1 b2;have:=hi.lt b1;have:=hnew _ b b2;omega;have:=hi.lt b2;have:=hnew _ b b1;omega;have:=hI.nd _ _ b b1 b2;omega;rcases hsplit i b h with⟨_,h1⟩|⟨_,h1⟩;have hlt:=hi.lt h1;cases hF:F' b with
 |none=>rfl
 |some o=>
  rcases hE.new b o hF with h3|h3|⟨j,h3⟩;rw[hi.disj i b h1] at h3;cases h3;omega;simp[bZ] at h3
 exact hI.disj _ b h1;by_cases hil:i<γ.length;rw[aXU (by omega)] at h1;rw[aXU hil] at h2;have hok:=hi.ok i o x h1 h2;exact hok.ext hE.sub hsub (fun b hb=>hfar b (hok.lt hb))
 rw[aXY (by omega),aXI] at h1;rw[aXY (by omega)] at h2;obtain⟨o0,h3,rfl⟩:=Option.map_eq_some_iff.1 h1;rw[<- hln] at h3;exact (hI.ok _ o0 x h3 h2).ren hren
theorem sS.run{o:aN}{K:AS->Prop}{st:AS}(hg:iY G st o.guard)(h:sS P G k o.dst o.ai K st.sl st.hp):WR P G k [o] K st:=by
 cases hai:o.ai with
 |alloc z=>rw[hai] at h;exact WR.alloc hg hai (WR.nil h)
 |box x=>rw[hai] at h;obtain⟨cs,h3,h4⟩:=h;exact WR.box hg hai h3 (WR.nil h4)
 |bslc s n z ps=>
  rw[hai] at h;rcases h with⟨es,h3,h4,h5,h6⟩|⟨h3,cs,h4,h6⟩
  exact WR.bslc hg hai h3 h4 h5 (WR.nil h6);exact WR.bslcB hg hai h3 h4 (WR.nil h6)
 |store s x v=>
  rw[hai] at h;obtain⟨h3,h4⟩:=h;rcases h4 with⟨id,off,cs,vs,g1,g2,g3,g4,g5,g6⟩|⟨id,i,s',off,cap,es,e,ds,g1,g2,g3,g4,g5,g6,g7⟩
  exact WR.store hg hai h3 g1 g2 g3 g4 g5 (WR.nil g6);exact WR.storeE hg hai h3 g1 g2 g3 g4 g5 g6 rfl (WR.nil g7)
 |app s b z x y=>
  rw[hai] at h;rcases h with⟨g1,news,g4,g5,g6,g7⟩|⟨id,n,cap,es,news,g1,g2,g3,g4,g5,g6,g7⟩
  exact WR.appNil hg hai g1 g4 g5 g6 (fun c hc=>WR.nil (g7 c hc))
  exact WR.app hg hai g1 g2 g3 g4 g5 g6 (fun c hc=>WR.nil (g7 c hc))
 |call f args=>
  rw[hai] at h;obtain⟨T,h3,_,h4⟩:=h;exact WR.callA hg hai h3 (fun av os ht=>WR.nil (h4 av os ht))
 |_=>
  rw[hai] at h;exact WR.guard hg hai h
theorem jM.head{y:Bool×aN}{K:AS->Prop}{l:List (Bool×aN)}{st:AS}(h:jM P G k K (y::l) st):WR P G k [y.2] (jM P G k K l) st:=by
 obtain⟨b,o⟩:=y;cases b with
 |true=>
  obtain⟨v,hv,h⟩:=h;rcases hv with⟨h1,rfl⟩|⟨h1,h2|⟨f,args,cargs,r,h5,h6,h7⟩⟩;exact WR.skip h1 (WR.nil h);exact WR.pur h1 (aHr h2) (WR.nil h);exact WR.callQ h1 h5 h6 (h7 st.hp.length).1 (WR.nil (by rw[<- (h7 st.hp.length).2];exact h))
 |false=>
  rcases h with⟨h1,h2⟩|⟨h1,h2⟩;exact WR.skip h1 (WR.nil h2);exact sS.run h1 h2
theorem WR.op{o:aN}{K:AS->Prop}{st:AS}{opsA:Array Oper}{i:Nat}{oper:Oper}{QE:Exit->Act->World->Prop}{NX:Act->World->Prop}(h:WR P G k [o] K st)(hoi:opsA[i]?=some oper)(hco:cC P opsA oper=some o)
  (hi:dE F γ st.hp w) (hs:bV F γ st.sl a) (hg:eU F G) (hk:k<=γ.length)
  (hN:∀a' w' F' γ' st',K st'->gU k F γ w F' γ' w'->dE F' γ' st'.hp w'->bV F' γ' st'.sl a'->k<=γ'.length->NX a' w'):wpOp P opsA QE i NX a w:=by
 have:=h opsA [oper] (by simp[bE,hco]) F γ a w hi hs hg hk (fun e a w=>match e with|.normal=>NX a w|e=>QE e a w) hN
 unfold wpOp;rw[hoi];simp only[wpList] at this ⊢;split;rename_i hw;rw[if_pos hw] at this;rcases this with h1|⟨h1,a',w',h2⟩
 exact .inl (wpQ (fun e a w hne h=>by cases e<;>first|exact absurd rfl hne|exact h) h1)
 exact .inr ⟨h1,a',w',h2⟩;rename_i hw;rw[if_neg hw] at this;exact this
theorem A6{p:Nat->Nat->Bool}:∀(l:List Nat),mX p l=true->l.Pairwise fun i j=>p i j=true
 |[],_=>List.Pairwise.nil
 | i::r,h=>by
   simp only[mX,aXQ] at h;exact List.Pairwise.cons (fun j hj=>aY2.1 h.1 j hj) (A6 r h.2)
theorem aCT{id:Nat}{opsA:Array Oper}{l lp:List (Bool×aN)}{ord:List Nat}{K:AS->Prop}{st:AS}(hc:bE P opsA opsA.toList=some (l.map (·.2)))
  (hd:D6 (jO opsA.toList []) opsA.toList l ord=some lp) (hw:jM P G k K lp st) (hi:dE F γ st.hp w) (hs:bV F γ st.sl a) (hg:eU F G) (hk:k<=γ.length)
  {QE:Exit->Act->World->Prop} (hQ:∀a' w' F' γ' st',K st'->gU k F γ w F' γ' w'->dE F' γ' st'.hp w'->bV F' γ' st'.sl a'->k<=γ'.length->QE .normal a' w'):(Code.region id opsA true).wp P QE a w:=by
 refine wp_region_draw fun t=>?_
 suffices hmd:∀md:Region.Mode,wpAny P md opsA QE opsA.size (Array.replicate opsA.size false) a { w with drawn:=w.drawn+1 } by
  unfold Region.schedule;split;exact wpAny_sound opsA.size t _ a _ (hmd _);exact wpAny_sound opsA.size (t / 2) _ a _ (hmd _)
 intro md;unfold D6 at hd;split at hd
 ·rename_i hok;injection hd with hd
  subst hd;simp only[aCL,aXQ] at hok;obtain⟨⟨⟨hb0,hall0⟩,hlt0⟩,hpr⟩:=hok;have hpw:=A6 _ hpr;have comp:∀(ops:List Oper) (l:List aN),bE P opsA ops=some l->ops.length=l.length/\∀(i:Nat) o x,ops[i]?=some o->l[i]?=some x->cC P opsA o=some x:=by
   intro ops
   induction ops with
   |nil=>intro l h;simp[bE] at h;subst h;exact⟨rfl,fun i o x h=>by simp at h⟩
   |cons o ops ih=>
    intro l h;simp only[bE] at h;cases h1:cC P opsA o with
    |none=>simp[h1] at h
    | some y=>cases h2:bE P opsA ops with
      | none=>simp[h1,h2] at h
      | some r=>
        simp[h1,h2] at h;subst h;obtain⟨i1,i2⟩:=ih r h2;refine⟨by simp[i1],fun i o' x' ho hx=>?_⟩
        cases i with
        | zero=>simp at ho hx;subst ho;subst hx;exact h1
        | succ i=>exact i2 i o' x' (by simpa using ho) (by simpa using hx)
  obtain⟨hlen,hcomp⟩:=comp _ _ hc;have hN:opsA.size=l.length:=by simpa using hlen
  have hop:∀(i:Nat) oper,opsA[i]?=some oper->cC P opsA oper=some (l.getD i pM).2:=by
   intro i oper h;have hlt:i<l.length:=by rw[<- hN];exact (Array.getElem?_eq_some_iff.1 h).1
   refine hcomp i oper _ (by simpa using h) ?_;rw[aXI,aXJ hlt,aXN,aXJ hlt];rfl
  have htop:A3 md opsA.toList=true:=by
   have:=aY2.1 hb0 md (by cases md<;>simp);exact this
  simp only[A3,Wg,aXQ] at htop;generalize aCH (opsA.toList.map (jV md)) opsA.toList.length [] (List.range opsA.toList.length)=tord at htop;obtain⟨⟨ht1,ht3⟩,ht2⟩:=htop;have hrange:∀(i:Nat) o,opsA[i]?=some o->∀e∈jV md o,e<opsA.size:=by
   intro i o ho e he;have h1:=aY2.1 ht3 (jV md o) (List.mem_map.2 ⟨o,by
     rw[Array.mem_toList_iff];exact Array.mem_of_getElem? ho,rfl⟩)
   simpa using aY2.1 h1 e he
  have htall:∀(listed:Array Bool),listed.size=opsA.size->Region.ready md opsA listed=[]->∀(r done:List Nat),sO (opsA.toList.map (jV md)) r done=true->(∀j∈done,j<opsA.size->listed.getD j false=true)->∀j∈r,j<opsA.size->listed.getD j false=true:=by
   intro listed hsz hno r
   induction r with
   |nil=>intro done _ _ j hj;cases hj
   |cons i r ih=>
    intro done h hd j hj hlt;simp only[sO,aXQ] at h;have hi0:i<opsA.size->listed.getD i false=true:=by
     intro hil;cases hlj:listed.getD i false with
     |true=>rfl
     |false=>
      exfalso;have hoi:opsA[i]?=some opsA[i]:=aX8 hil;have:i∈Region.ready md opsA listed:=sU hsz hil hlj hoi (fun e he=>by
        have h3:=aY2.1 h.1 e (by
          rw[aXN,aXI];simp only[aYy,hoi,aXG,aYn];exact he)
        have hmem:e∈done:=by simpa using h3
        exact hd e hmem (hrange i _ hoi e he))
      rw[hno] at this;cases this
    rcases aYR.1 hj with rfl|hj;exact hi0 hlt
    ·exact ih (i::done) h.2 (fun q hq hql=>by
     rcases aYR.1 hq with rfl|hq
     · exact hi0 hql
     · exact hd q hq hql) j hj hlt
  have main:∀(fuel:Nat) (listed:Array Bool) (a:Act) (w':World) (F':Fz) (γ':List OI) (U:List Nat) (st:AS),listed.size=opsA.size->(∀i,i<opsA.size->(listed.getD i false=false↔i∈U))->(∀i∈U,i<opsA.size)->
    (U.Pairwise fun i j=>(i != j&&(((jO opsA.toList []).getD j []).contains i||aCI (l.getD i pM) (l.getD j pM)))=true)->
    (∀(i:Nat) o,opsA[i]?=some o->listed.getD i false=true->∀e∈kC o,listed.getD e false=true)->U.length<=fuel->
    gU k F γ w F' γ' w'->dE F' γ' st.hp w'->bV F' γ' st.sl a->k<=γ'.length->jM P G k K (U.map fun i=>l.getD i pM) st->wpAny P md opsA QE fuel listed a w':=by
   intro fuel
   induction fuel with
   |zero=>
    intro listed a w' F' γ' U st hsz hU hUl hpw hcl hf hE hI hS hk' hA;have hnil:U=[]:=aYL (by omega);subst hnil;refine⟨?_,hQ a w' F' γ' st hA hE hI hS hk'⟩;rw[List.eq_nil_iff_forall_not_mem];intro i hi;obtain⟨h1,h2,_⟩:=lQ hsz hi;have:=(hU i h1).1 h2;simp at this
   |succ fuel ih=>
    intro listed a w' F' γ' U st hsz hU hUl hpw hcl hf hE hI hS hk' hA;refine⟨fun hno=>?_,fun i hi=>?_⟩
    have hz:∀j,j<opsA.size->listed.getD j false=true:=by
     intro j hj;refine htall listed hsz hno tord [] ht1 (fun j hj=>by cases hj) j ?_ hj
     have:=aY2.1 ht2 j (by simpa using hj);simpa using this
    cases U with
    |nil=>exact hQ a w' F' γ' st hA hE hI hS hk'
    |cons u U=>
     have h1:=hUl u aXV;have:=(hU u h1).2 aXV;rw[hz u h1] at this;cases this
    obtain⟨h1,h2,oper,hoi,he⟩:=lQ hsz hi;have hclo:∀j∈(jO opsA.toList []).getD i [],listed.getD j false=true:=
     Tc (L:=fun j=>listed.getD j false=true) opsA.toList (fun i o h=>hcl i o (by simpa using h)) i oper (by simpa using hoi) he
    obtain⟨R1,R2,rfl⟩:=List.append_of_mem ((hU i h1).1 h2);have hpw2:=List.pairwise_append.1 hpw;have hfront:jM P G k K ((l.getD i pM)::(R1.map (fun i=>l.getD i pM)++R2.map fun i=>l.getD i pM)) st:=by
      refine jM.front _ _ (fun x hx=>?_) (by simpa using hA)
      obtain⟨r,hr,rfl⟩:=List.mem_map.1 hx;have h3:=hpw2.2.2 r hr i aXV;simp only[aXQ,Bool.or_eq_true,List.contains_iff_mem] at h3;rcases h3.2 with h4 | h4
      · have h5:=hclo r h4
        have h6:=(hU r (hUl r (by simp[hr]))).2 (by simp[hr]);rw[h5] at h6;cases h6
      · exact h4
    rw[<- aYg] at hfront;refine WR.op (jM.head hfront) hoi (hop i oper hoi) hI hS (hg.sub hE.sub) hk' (fun a'' w'' F'' γ'' st'' q1 q2 q3 q4 q5=>?_)
    have hnd:i∉R1/\i∉R2:=by
     refine⟨fun h=>?_,fun h=>?_⟩
     have:=hpw2.2.2 i h i aXV;simp at this;have:=(List.pairwise_cons.1 hpw2.2.1).1 i h;simp at this
    refine ih _ a'' w'' F'' γ'' (R1++R2) st'' (by simpa using hsz) (fun j hj=>?_) (fun j hj=>hUl j (by simp at hj ⊢;rcases hj with h|h<;>simp[h])) ?_ (fun j oj hoj hj e hee=>?_) (by simp at hf ⊢;omega) (hE.trans q2) q3 q4 q5 q1
    by_cases hij:i=j;subst hij;rw[show (listed.setIfInBounds i true).getD i false=true by rw[aYT,aZf (by omega)];rfl];simp[hnd];rw[getD_set_ne false hij,hU j hj];simp[Ne.symm hij];exact hpw.sublist (by simp);by_cases hij:i=j;subst hij;rw[hoi] at hoj;injection hoj with hoj;subst hoj
    exact getD_set_true (he e hee);rw[getD_set_ne false hij] at hj;exact getD_set_true (hcl j oj hoj hj e hee)
  have hrep:∀j,(Array.replicate opsA.size false).getD j false=false:=by
   intro j;rw[aYT];by_cases hjs:j<opsA.size<;>simp[hjs]
  have hlo:ord.length<=opsA.size:=by
   have hnd:ord.Nodup:=hpw.imp (fun h e=>by simp[e] at h)
   have:=List.Nodup.length_le_of_subset hnd (l₂:=List.range l.length) (fun i hi=>by
     have:=aY2.1 hlt0 i hi;simpa using this)
   simpa[hN] using this
  exact main opsA.size (Array.replicate opsA.size false) a { w with drawn:=w.drawn+1 } F γ ord st (by simp) (fun i hi=>by
      rw[hrep];have:=aY2.1 hall0 i (by simpa[<- hN] using hi);simpa using this) (fun i hi=>by
      have:=aY2.1 hlt0 i hi;rw[hN];simpa using this) hpw (fun i o ho hl=>by rw[hrep] at hl;cases hl) hlo (gU.drawn _ _ _ _ _) (hi.drawn _) hs hk hw
 cases hd
end
end Go.Proofs.YthepfneloomngaaGreatDoor
