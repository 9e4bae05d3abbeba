/- A region whose order is drawn: operations that don't touch each other may change places. Conditions: none. -/
import Derived.Test.YthepfneloomngaaGreatDoorLo
namespace Go.Proofs.YthepfneloomngaaGreatDoor
def jS(o:Oper):List Nat:=(o.after.toList.filter (Region.binds .any)).map (·.on)
def jG(md:Region.Mode)(o:Oper):List Nat:=(o.after.toList.filter (Region.binds md)).map (·.on)
def aBz(E:List (List Nat)):Nat->List Nat->List Nat->List Nat
  | 0,_,_=>[]
  | n+1,done,todo=>match todo.find? fun i=>(E.getD i []).all done.contains with
    | some i=>i::aBz E n (i::done) (todo.erase i)
    | none=>[]
def rI(E:List (List Nat)):List Nat->List Nat->Bool
  | [],_=>true
  | i::r,done=>((E.getD i []).all fun e=>done.contains e)&&rI E r (i::done)
def Uw(n:Nat)(E:List (List Nat))(o:List Nat):Bool:=rI E o []&&(E.all fun l=>l.all fun e=>decide (e < n))&&(List.range n).all fun i=>o.contains i
def zH(md:Region.Mode)(ops:List Oper):Bool:=Uw ops.length (ops.map (jG md)) (aBz (ops.map (jG md)) ops.length [] (List.range ops.length))
def iW:List Oper->List (List Nat)->List (List Nat)
  | [],acc=>acc
  | o::ops,acc=>iW ops (acc++[(jS o++(jS o).flatMap fun e=>acc.getD e []).eraseDups])
def aW:AI->List aH
  | .mov x=>[x] | .pick c a b=>[c,a,b] | .alloc _=>[] | .box x=>[x] | .load _ _ x=>[x] | .store _ x v=>[x,v] | .nilc x=>[x] | .isnil _ _ x=>[x] | .mpx _ _ x k=>[x,k]
  | .bin _ x y=>[x,y] | .binb _ x y=>[x,y] | .eqs _ _ x y=>[x,y] | .un _ x=>[x] | .conv _ x=>[x] | .cvid x=>[x] | .cvbs x=>[x]
  | .addo _ x=>[x] | .fld _ _ _ x=>[x] | .ixA _ _ x i=>[x,i] | .ixL _ x i=>[x,i] | .ixS x i=>[x,i] | .ixV _ x i=>[x,i] | .s2p _ x=>[x]
  | .slS x l h=>x::(l.toList++h.toList) | .slL _ x l h=>x::(l.toList++h.toList)
  | .bslc _ _ _ ps=>ps.map (·.2) | .build _ ps=>ps.map (·.2.2) | .ext x _=>[x] | .lenS x=>[x] | .lenL x=>[x] | .lenA _=>[]
  | .min2 x y=>[x,y] | .max2 x y=>[x,y] | .mkfn _ cs=>cs | .call _ xs=>xs | .callv x xs=>x::xs | .app _ _ _ x y=>[x,y] | .apps x y=>[x,y] | .mk _ _ _ l c=>[l,c] | .clr _ _ x=>[x] | .cpys d x=>[d,x] | .cvsb x=>[x] | .slA _ _ x l h=>x::(l.toList++h.toList)
def aTO:aH->Option Nat
  | .t n=>some n
  | _=>none
def lK(o:aM):List Nat:=(aW o.ai).filterMap aTO++(match o.guard with | some (g,_)=>[g] | none=>[])
def Ux:AI->Bool
  | .call _ _=>true
  | .alloc _=>false | .box _=>false | .store _ _ _=>false | .bslc _ _ _ _=>false | .callv _ _=>false | .app _ _ _ _ _=>false | .apps _ _=>false | .mk _ _ _ _ _=>false | .clr _ _ _=>false | .cpys _ _=>false | .cvsb _=>false
  | _=>true
def rJ:AI->Bool
  | .load _ _ _=>false | .cvbs _=>false | .ixL _ _ _=>false
  | x=>Ux x
def aGf(x:AI):AI->Bool
  | .alloc _=>true | .box _=>true | .bslc _ _ _ _=>true
  | .call _ _=>true
  | .store _ _ _=>rJ x
  | .app _ _ _ _ _=>match x with | .mov _=>true | .slL _ _ _ _=>true | _=>false
  | _=>false
def uN:Option Nat->Option Nat->Bool
  | some d,some e=>d != e
  | _,_=>true
def kL(d:Option Nat)(o:aM):Bool:=match d with | none=>true | some t=>!(lK o).contains t
def Bj:AI->Bool
  | .lenL _=>true | .bin _ _ _=>true | .slL _ _ _ _=>true
  | _=>false
def aKa:AI->Bool
  | .app _ _ _ _ _=>true | .call _ _=>true
  | _=>false
def aBA(x y:Bool × aM):Bool:=uN x.2.dst y.2.dst&&kL x.2.dst y.2&&kL y.2.dst x.2&&((x.1&&(y.1||aGf x.2.ai y.2.ai))||(!x.1&&y.1&&Bj y.2.ai&&aKa x.2.ai))
def isCall:AI->Bool
  | .call _ _=>true
  | _=>false
def aBB(l:List aM)(d:Option Nat):Bool:=l.any fun p=>match p.ai,d with
  | .app _ _ _ (.t n) _,some d=>n==d
  | _,_=>false
def pF(c:List (List Nat))(l:List aM):List (Bool × aM):=
  l.zipIdx.map fun (o,i)=>(Ux o.ai&&(!isCall o.ai||!aBB l o.dst)&&(!isCall o.ai||!(List.range l.length).all fun j=>i==j||(c.getD i []).contains j||(c.getD j []).contains i),o)
theorem Fd{c:List (List Nat)}{l:List aM}:(pF c l).map (·.2)=l:=by
  simp only[pF,aWE];exact List.zipIdx_map_fst 0 l
def Fe(c:List (List Nat))(todo:List Nat)(i:Nat):Bool:=todo.all fun j=>!(c.getD i []).contains j
def Ke(c:List (List Nat))(q:List Bool):Nat->List Nat->List Nat
  | 0,_=>[]
  | n+1,todo=>match (todo.find? fun i=>q.getD i false&&Fe c todo i).or (todo.find? (Fe c todo)) with
    | some i=>i::Ke c q n (todo.erase i)
    | none=>[]
def aBC(c:List (List Nat))(q late:List Bool):Nat->List Nat->List Nat
  | 0,_=>[]
  | n+1,todo=>match ((todo.find? fun i=>q.getD i false&&!late.getD i false&&Fe c todo i).or (todo.find? fun i=>!q.getD i false&&Fe c todo i)).or (todo.find? (Fe c todo)) with
    | some i=>i::aBC c q late n (todo.erase i)
    | none=>[]
def oY:Bool × aM:=(false,⟨none,.lenA 0,none⟩)
def mH(p:Nat->Nat->Bool):List Nat->Bool
  | []=>true
  | i::r=>r.all (p i)&&mH p r
def aBD(c:List (List Nat))(ops:List Oper)(l:List (Bool × aM))(ord:List Nat):Bool:=
  ([Region.Mode.text,.gc,.any].all fun md=>zH md ops)&&((List.range l.length).all fun i=>ord.contains i)&&(ord.all fun i=>decide (i < l.length))&&
  mH (fun i j=>i != j&&((c.getD j []).contains i||aBA (l.getD i oY) (l.getD j oY))) ord
def Cv(c:List (List Nat))(ops:List Oper)(l:List (Bool × aM))(ord:List Nat):Option (List (Bool × aM)):=
  if aBD c ops l ord then some (ord.map fun i=>l.getD i oY) else none
theorem Ro{L:Nat->Prop}(ops:List Oper)(hcl:∀ (i:Nat) o,ops[i]?=some o->L i->∀ e∈jS o,L e):
    ∀ (i:Nat) o,ops[i]?=some o->(∀ e∈jS o,L e)->∀ j∈(iW ops []).getD i [],L j:=by
  have key:∀ (suf pre:List Oper) (acc:List (List Nat)),pre++suf=ops->pre.length=acc.length->
      (∀ (i:Nat) o,pre[i]?=some o->(∀ e∈jS o,L e)->∀ j∈acc.getD i [],L j)->∀ (i:Nat) o,ops[i]?=some o->(∀ e∈jS o,L e)->∀ j∈(iW suf acc).getD i [],L j:=by
    intro suf
    induction suf with
    | nil=>
      intro pre acc hp hl h i o ho he j hj;simp at hp;subst hp;exact h i o ho he j hj
    | cons o0 suf ih=>
      intro pre acc hp hl h;refine ih (pre++[o0]) _ (by simp[hp]) (by simp[hl]) (fun i o ho he j hj=>?_)
      rcases gC ho with h1 | ⟨h1,rfl⟩
      · have hlt:=aG h1
        rw[aWn,aWx (by omega),<- aWn] at hj;exact h i o h1 he j hj
      · subst h1
        rw[aWn,hl] at hj;simp only[aWB (aWj _),aW3,List.getElem?_cons_zero,aWX,List.mem_eraseDups,aXy,List.mem_flatMap] at hj;rcases hj with hj | ⟨e,he1,hj⟩
        · exact he j hj
        · have hLe:=he e he1
          by_cases hep:e < pre.length
          · have hpe:pre[e]?=some (pre[e]'hep):=aWo hep
            have hoe:ops[e]?=some (pre[e]'hep):=by rw[<- hp];exact bN hpe
            exact h e _ hpe (hcl e _ hoe hLe) j hj
          · rw[aWn,aXb (by omega)] at hj
            simp at hj
  exact key ops [] [] rfl rfl (fun i o h=>by simp at h)
def Kf(ai:AI)(hp:List aD):List aD:=match ai with | .slL _ _ _ _=>[] | _=>hp
def Dh(P:Program)(G:aF)(sl:List AV)(hp:List aD)(o:aM)(v:AV):Prop:=
  (Dg G ⟨sl,hp⟩ o.guard/\v=.tup [])\/
  (iG G ⟨sl,hp⟩ o.guard/\(cW G ⟨sl,Kf o.ai hp⟩ o.ai=some v\/∃ f args cargs r,o.ai=.call f args/\QC P G f cargs r/\∀ n,args.map (aJ G sl)=cargs.map (dB (cG [] n))/\v=dB (cG [] n) r))
def zI(P:Program)(G:aF)(k:Nat)(f:FuncId)(avs:List AV)(hp:List aD)(T:AV->List aD->Prop):Prop:=
  ∀ F γ (w:World) (vs:Array Value),dC F γ hp w->dS F G->k<=γ.length->lC F γ avs vs->
    Calls P f vs w fun e w'=>∃ r av os F' γ',e=.returned r/\T av os/\gA k F γ w F' γ' w'/\dC F' γ' (hp++os) w'/\(∀ (id:Nat) (o:OI),γ[id]?=some o->γ'[id]?=some o)/\RV F' γ' av r
def rK(P:Program)(G:aF)(k:Nat)(dst:Option Nat)(ai:AI)(K:AS->Prop)(sl:List AV)(hp:List aD):Prop:=
  match ai with
  | .alloc zero=>K ⟨aP sl dst (.one (.ptr hp.length 0)),hp++[.box (zero.map cZ)]⟩
  | .box x=>∃ cs,cellsOf (aJ G sl x)=some cs/\K ⟨aP sl dst (.one (.ptr hp.length 0)),hp++[.box cs]⟩
  | .bslc size len zero parts=>(∃ es,gD ((List.range (len * size)).map fun i=>cZ (zero.getD (i % zero.length) undef)) (parts.map fun (j,x)=>(j * size,size,aJ G sl x))=some (lQ es.flatten)/\
      (∀ e∈es,e.length=size)/\es.length=len/\K ⟨aP sl dst (.one (.bld hp.length len)),hp++[.arr len size es]⟩)\/
      (size=1/\∃ cs,gD ((List.range (len * size)).map fun i=>cZ (zero.getD (i % zero.length) undef)) (parts.map fun (j,x)=>(j * size,size,aJ G sl x))=some cs/\K ⟨aP sl dst (.one (.bls hp.length 0 len 1)),hp++[.box cs]⟩)
  | .store size x v=>dst=none/\
      ((∃ id off cs vs,aJ G sl x=.one (.ptr id off)/\cellsOf (aJ G sl v)=some vs/\aI hp id=.box cs/\vs.length=size/\off+size<=cs.length/\K ⟨sl,hp.set id (.box (cO cs off vs))⟩)\/
       (∃ id i s off cap es e ds,aJ G sl x=.one (.ept id i s off)/\cellsOf (aJ G sl v)=some (lQ ds)/\aI hp id=.arr cap s es/\es[i]?=some e/\ds.length=size/\off+size<=e.length/\
          K ⟨sl,hp.set id (.arr cap s (es.set i (e.take off++ds++e.drop (off+size))))⟩))
  | .app size bytes _ s x=>(aJ G sl s=dD (.slice none 0 0)/\∃ news,qA hp (aJ G sl x)=some news/\(∀ e∈news,e.length=size)/\news.length * bytes<=140737488355328/\
        ∀ cap',news.length<=cap'->K ⟨aP sl dst (.one (.bld hp.length news.length)),hp.map (cI (·==hp.length))++[.arr cap' size news]⟩)\/
      ∃ id n cap es news,aJ G sl s=.one (.bld id n)/\aI hp id=.arr cap size es/\n<=es.length/\qA hp (aJ G sl x)=some news/\(∀ e∈news,e.length=size)/\
      (n+news.length) * bytes<=140737488355328/\∀ cap',n+news.length<=cap'->K ⟨aP (sl.map (bA (·==id))) dst (.one (.bld id (n+news.length))),(hp.map (cI (·==id))).set id (.arr cap' size (es.take n++news))⟩
  | .call f args=>∃ T,zI P G k f (args.map (aJ G sl)) hp T/\(∃ av os,T av os)/\∀ av os,T av os->K ⟨aP sl dst av,hp++os⟩
  | ai=>WR P G k [⟨dst,ai,none⟩] K ⟨sl,hp⟩
def Eff(P:Program)(G:aF)(k:Nat)(o:aM)(K:AS->Prop)(st:AS):Prop:=
  (Dg G st o.guard/\K ⟨aP st.sl o.dst (.tup []),st.hp⟩)\/(iG G st o.guard/\rK P G k o.dst o.ai K st.sl st.hp)
def iU(P:Program)(G:aF)(k:Nat)(K:AS->Prop):List (Bool × aM)->AS->Prop
  | [],st=>K st
  | (true,o)::l,st=>∃ v,Dh P G st.sl st.hp o v/\iU P G k K l ⟨aP st.sl o.dst v,st.hp⟩
  | (false,o)::l,st=>Eff P G k o (iU P G k K l) st
section
variable {P:Program} {G:aF} {k:Nat} {F:Fz} {γ:List OI} {w:World} {a:Act}
theorem Cw{α β:Type}{f g:α->Option β}:∀ (l:List α),(∀ x∈l,f x=g x)->l.mapM f=l.mapM g
  | [],_=>rfl
  | x::l,h=>by rw[aW9,aW9,h x aWy,Cw l (fun y hy=>h y (aWG _ hy))]
theorem Ix{sl sl':List AV}{hp:List aD}{ai:AI}(h:∀ x∈aW ai,aJ G sl x=aJ G sl' x):cW G ⟨sl,hp⟩ ai=cW G ⟨sl',hp⟩ ai:=by
  cases ai with
  | slS x l hh=>
    have h1:=h x (by simp[aW]);have h2:l.map (aJ G sl)=l.map (aJ G sl'):=by cases l with | none=>rfl | some y=>simp[h y (by simp[aW])]
    have h3:hh.map (aJ G sl)=hh.map (aJ G sl'):=by cases hh with | none=>rfl | some y=>simp[h y (by simp[aW])]
    simp only[cW,h1,h2,h3]
  | slL s x l hh=>
    have h1:=h x (by simp[aW]);have h2:l.map (aJ G sl)=l.map (aJ G sl'):=by cases l with | none=>rfl | some y=>simp[h y (by simp[aW])]
    have h3:hh.map (aJ G sl)=hh.map (aJ G sl'):=by cases hh with | none=>rfl | some y=>simp[h y (by simp[aW])]
    simp only[cW,h1,h2,h3]
  | slA n s x l hh=>
    have h1:=h x (by simp[aW]);have h2:l.map (aJ G sl)=l.map (aJ G sl'):=by cases l with | none=>rfl | some y=>simp[h y (by simp[aW])]
    have h3:hh.map (aJ G sl)=hh.map (aJ G sl'):=by cases hh with | none=>rfl | some y=>simp[h y (by simp[aW])]
    simp only[cW,h1,h2,h3]
  | build z ps=>
    have:(ps.map fun (o,s,x)=>(o,s,aJ G sl x))=ps.map fun (o,s,x)=>(o,s,aJ G sl' x):=aWC (fun p hp=>by
      obtain⟨o,s,x⟩:=p;simp only[h x (by simp only[aW,List.mem_map];exact⟨_,hp,rfl⟩)])
    simp only[cW,this]
  | mkfn f cs=>
    have:(cs.mapM fun c=>gO (aJ G sl c))=cs.mapM fun c=>gO (aJ G sl' c):=Cw cs (fun c hc=>by rw[h c (by simpa[aW] using hc)])
    simp only[cW,this]
  | pick c x y=>simp only[cW,h c (by simp[aW]),h x (by simp[aW]),h y (by simp[aW])]
  | bin op x y=>simp only[cW,h x (by simp[aW]),h y (by simp[aW])]
  | binb n x y=>simp only[cW,h x (by simp[aW]),h y (by simp[aW])]
  | eqs n ks x y=>simp only[cW,h x (by simp[aW]),h y (by simp[aW])]
  | ixA n s x y=>simp only[cW,h x (by simp[aW]),h y (by simp[aW])]
  | ixL s x y=>simp only[cW,h x (by simp[aW]),h y (by simp[aW])]
  | ixS x y=>simp only[cW,h x (by simp[aW]),h y (by simp[aW])]
  | ixV n x y=>simp only[cW,h x (by simp[aW]),h y (by simp[aW])]
  | s2p n x=>simp only[cW,h x (by simp[aW])]
  | min2 x y=>simp only[cW,h x (by simp[aW]),h y (by simp[aW])]
  | max2 x y=>simp only[cW,h x (by simp[aW]),h y (by simp[aW])]
  | mov x=>simp only[cW,h x (by simp[aW])]
  | load g s x=>simp only[cW,h x (by simp[aW])]
  | nilc x=>simp only[cW,h x (by simp[aW])]
  | isnil p n x=>simp only[cW,h x (by simp[aW])]
  | mpx ok z x y=>simp only[cW,h x (by simp[aW]),h y (by simp[aW])]
  | un op x=>simp only[cW,h x (by simp[aW])]
  | conv op x=>simp only[cW,h x (by simp[aW])]
  | cvid x=>simp only[cW,h x (by simp[aW])]
  | cvbs x=>simp only[cW,h x (by simp[aW])]
  | addo o x=>simp only[cW,h x (by simp[aW])]
  | fld g s o x=>simp only[cW,h x (by simp[aW])]
  | ext x n=>simp only[cW,h x (by simp[aW])]
  | lenS x=>simp only[cW,h x (by simp[aW])]
  | lenL x=>simp only[cW,h x (by simp[aW])]
  | _=>rfl
theorem fU{sl sl':List AV}{o:aM}(h:∀ t∈lK o,sl.getD t .junk=sl'.getD t .junk):(∀ x∈aW o.ai,aJ G sl x=aJ G sl' x)/\(∀ g b,o.guard=some (g,b)->aJ G sl (.t g)=aJ G sl' (.t g)):=by
  refine⟨fun x hx=>?_,fun g b hg=>?_⟩
  · cases x with
    | t n=>exact h n (by simp only[lK,aXy,List.mem_filterMap];exact .inl ⟨_,hx,rfl⟩)
    | k v=>rfl
    | g n=>rfl
    | f n=>rfl
  · exact h g (by simp[lK,hg])
theorem eJ{sl sl':List AV}{hp hp':List aD}{o:aM}(h:∀ t∈lK o,sl.getD t .junk=sl'.getD t .junk)(hg:iG G ⟨sl,hp⟩ o.guard):iG G ⟨sl',hp'⟩ o.guard:=by
  obtain⟨_,h2⟩:=fU (G:=G) h;cases hgd:o.guard with
  | none=>trivial
  | some q=>obtain⟨g,b⟩:=q;rw[hgd] at hg;simp only[iG] at hg ⊢;rw[<- h2 g b hgd];exact hg
theorem mU{sl sl':List AV}{hp hp':List aD}{o:aM}(h:∀ t∈lK o,sl.getD t .junk=sl'.getD t .junk)(hg:Dg G ⟨sl,hp⟩ o.guard):Dg G ⟨sl',hp'⟩ o.guard:=by
  obtain⟨_,h2⟩:=fU (G:=G) h;cases hgd:o.guard with
  | none=>rw[hgd] at hg;exact hg
  | some q=>obtain⟨g,b⟩:=q;rw[hgd] at hg;simp only[Dg] at hg ⊢;rw[<- h2 g b hgd];exact hg
theorem Dh.congr{sl sl':List AV}{hp:List aD}{o:aM}{v:AV}(h:∀ t∈lK o,sl.getD t .junk=sl'.getD t .junk)(hq:Dh P G sl hp o v):Dh P G sl' hp o v:=by
  obtain⟨h1,h2⟩:=fU (G:=G) h;rcases hq with⟨h3,h4⟩ | ⟨h3,h4⟩
  · exact .inl ⟨mU h h3,h4⟩
  · refine .inr ⟨eJ h h3, ?_⟩
    rcases h4 with h4 | ⟨f,args,cargs,r,h5,h6,h7⟩
    · exact .inl (by rw[<- Ix h1];exact h4)
    · refine .inr ⟨f,args,cargs,r,h5,h6,fun n=>⟨?_,(h7 n).2⟩⟩
      rw[<- (h7 n).1];exact aWC (fun x hx=>(h1 x (by rw[h5];exact hx)).symm)
theorem iJ{hp:List aD}{ob:aD}{id:Nat}(h:aI hp id≠.dead):aI (hp++[ob]) id=aI hp id:=by
  unfold aI at *;rw[aWn] at h;cases hx:hp[id]? with
  | none=>rw[hx] at h;exact absurd rfl h
  | some y=>rw[aWn,aWn,bN hx,hx]
theorem Rp{hp:List aD}{ob:aD}{g:Bool}{s:Nat}{x v:AV}(h:kW hp g s x=some v):kW (hp++[ob]) g s x=some v:=by
  unfold kW at *;split at h
  · rename_i id o
    have hne:aI hp id≠.dead:=by intro e;rw[e] at h;cases h
    simp only[iJ hne];exact h
  · rename_i id i s' o
    have hne:aI hp id≠.dead:=by intro e;rw[e] at h;cases h
    simp only[iJ hne];exact h
  · exact h
  · cases h
theorem Rq{hp:List aD}{ob:aD}{x v:AV}(h:mC hp x=some v):mC (hp++[ob]) x=some v:=by
  unfold mC at *;split at h
  · exact h
  · exact h
  · rename_i id n
    have hne:aI hp id≠.dead:=by intro e;rw[e] at h;cases h
    simp only[iJ hne];exact h
  · rename_i id k n z
    have hne:aI hp id≠.dead:=by intro e;rw[e] at h;cases h
    simp only[iJ hne];exact h
  · cases h
theorem Ye{hp:List aD}{ob:aD}{s:Nat}{x v:AV}{i:Int}(h:uZ hp s x i=some v):uZ (hp++[ob]) s x i=some v:=by
  unfold uZ at *;split at h
  · exact h
  · rename_i id n
    have hne:aI hp id≠.dead:=by intro e;rw[e] at h;cases h
    simp only[iJ hne];exact h
  · rename_i id k n z
    have hne:aI hp id≠.dead:=by intro e;rw[e] at h;cases h
    simp only[iJ hne];exact h
  · cases h
theorem Yf{hp:List aD}{ob:aD}{s:Nat}{x v:AV}{l r:Option AV}(h:kI hp s x l r=some v):kI (hp++[ob]) s x l r=some v:=by
  unfold kI at *;split at h
  · exact h
  · exact h
  · rename_i id n
    have hne:aI hp id≠.dead:=by intro e;rw[e] at h;cases h
    simp only[iJ hne];exact h
  · rename_i id k n z
    have hne:aI hp id≠.dead:=by intro e;rw[e] at h;cases h
    simp only[iJ hne];exact h
  · cases h
theorem aBE{sl:List AV}{hp:List aD}{ob:aD}{ai:AI}{v:AV}(h:cW G ⟨sl,hp⟩ ai=some v):cW G ⟨sl,hp++[ob]⟩ ai=some v:=by
  cases ai with
  | load g s x=>exact Rp h
  | cvbs x=>exact Rq h
  | slL s x l r=>exact Yf h
  | ixL s x i=>
    simp only[cW] at h ⊢;cases hi:bE (aJ G sl i) with
    | none=>rw[hi] at h;cases h
    | some n=>rw[hi] at h;exact Ye h
  | _=>exact h
theorem aBF{sl:List AV}{hp hp':List aD}{ai:AI}(hh:rJ ai=true):cW G ⟨sl,Kf ai hp⟩ ai=cW G ⟨sl,Kf ai hp'⟩ ai:=by
  cases ai<;>first | rfl | (simp[rJ] at hh;done)
theorem Yg{sl:List AV}{hp:List aD}{ob:aD}{ai:AI}{v:AV}(h:cW G ⟨sl,Kf ai hp⟩ ai=some v):cW G ⟨sl,Kf ai (hp++[ob])⟩ ai=some v:=by
  cases ai<;>first | exact h | exact aBE h
theorem aBG{hp:List aD}{s:Nat}{x v:AV}{l r:Option AV}(h:kI [] s x l r=some v):kI hp s x l r=some v:=by
  unfold kI at *;split at h
  · exact h
  · exact h
  · simp[aI] at h
  · simp[aI] at h
  · cases h
theorem aGg{sl:List AV}{hp:List aD}{ai:AI}{v:AV}(h:cW G ⟨sl,Kf ai hp⟩ ai=some v):cW G ⟨sl,hp⟩ ai=some v:=by
  cases ai<;>first | exact h | exact aBG h
theorem Dh.push{sl:List AV}{hp:List aD}{ob:aD}{o:aM}{v:AV}(hq:Dh P G sl hp o v):Dh P G sl (hp++[ob]) o v:=by
  rcases hq with⟨h3,h4⟩ | ⟨h3,h4⟩
  · exact .inl ⟨mU (fun _ _=>rfl) h3,h4⟩
  · exact .inr ⟨eJ (fun _ _=>rfl) h3,h4.imp Yg id⟩
theorem Dh.pushL{sl:List AV}{o:aM}{v:AV}:∀ (os:List aD) {hp:List aD},Dh P G sl hp o v->Dh P G sl (hp++os) o v
  | [],hp,h=>by simpa using h
  | ob::os,hp,h=>by
    have:=Dh.pushL os (hp:=hp++[ob]) h.push;simpa using this
theorem Dh.free{sl:List AV}{hp hp':List aD}{o:aM}{v:AV}(hh:rJ o.ai=true)(hq:Dh P G sl hp o v):Dh P G sl hp' o v:=by
  rcases hq with⟨h3,h4⟩ | ⟨h3,h4⟩
  · exact .inl ⟨mU (fun _ _=>rfl) h3,h4⟩
  · exact .inr ⟨eJ (fun _ _=>rfl) h3,h4.imp (fun h=>by rw[<- aBF hh];exact h) id⟩
theorem aBH{sl:List AV}{d:Option Nat}{v:AV}{t:Nat}(h:d≠some t):(aP sl d v)[t]?=sl[t]?:=by
  cases d with
  | none=>rfl
  | some d=>simp only[aP];rw[aWz (fun e=>h (by rw[e]))]
theorem eB{sl:List AV}{d:Option Nat}{v:AV}{o:aM}(h:kL d o=true):∀ t∈lK o,(aP sl d v).getD t .junk=sl.getD t .junk:=by
  intro t ht;rw[aWn,aWn,aBH];intro e;subst e;simp[kL] at h;exact h ht
theorem eK{sl:List AV}{d e:Option Nat}{u v:AV}(h:uN d e=true):aP (aP sl d u) e v=aP (aP sl e v) d u:=by
  cases d with
  | none=>rfl
  | some d=>cases e with
    | none=>rfl
    | some e=>
      simp[uN] at h;simp only[aP];exact List.set_comm _ _ h
theorem M6{sl:List AV}{d:Option Nat}{u:AV}{f:AV->AV}:(aP sl d u).map f=aP (sl.map f) d (f u):=by
  cases d with
  | none=>rfl
  | some d=>simp[aP,aWM]
theorem aBI(p:Nat->Bool)(l:List Value):(l.map cZ).map (cE p)=l.map cZ:=by
  rw[aWE];exact aWC (fun v _=>by simp[cZ,cE,aR.keep])
theorem iK{p:Nat->Bool}{sl:List AV}(x:aH):aJ G (sl.map (bA p)) x=bA p (aJ G sl x):=by
  cases x with
  | t n=>
    simp only[aJ,aWn,aWl];cases sl[n]? with
    | none=>rfl
    | some y=>rfl
  | k v=>
    simp only[aJ];unfold aBb;split
    · split
      · simp only[bA,aBI]
      · rfl
    · rfl
    · simp[dD,bA,cE,aR.keep]
  | g n=>
    simp only[aJ];cases G n with
    | none=>rfl
    | some cs=>simp[bA,cE,aR.keep]
  | f n=>simp[aJ,bA,cE,aR.keep,keepL]
theorem Cx{p:Nat->Bool}{v:AV}{b:Bool}(h:cF v=some b):cF (bA p v)=some b:=by
  unfold cF at h;split at h
  · simp[bA,cE,aR.keep];exact h
  · cases h
theorem Rr{p:Nat->Bool}{v:AV}{b:Int}(h:bE v=some b):bE (bA p v)=some b:=by
  unfold bE at h;split at h
  · simp[bA,cE,aR.keep];exact h
  · cases h
theorem qB{p:Nat->Bool}{x:Option AV}{t d n:Nat}(h:dI x t d=some n):dI (x.map (bA p)) t d=some n:=by
  cases x with
  | none=>exact h
  | some v=>
    simp only[dI,aWi] at h ⊢;cases hi:bE v with
    | none=>rw[hi] at h;cases h
    | some i=>rw[hi] at h;rw[Rr hi];exact h
theorem Yh{p:Nat->Bool}{s:Nat}{x v:AV}{l r:Option AV}(h:kI [] s x l r=some v):kI [] s (bA p x) (l.map (bA p)) (r.map (bA p))=some (bA p v):=by
  unfold kI at h;split at h
  · obtain⟨a,h1,h2⟩:=aW5.1 h
    obtain⟨b,h3,h4⟩:=aW5.1 h2;have e:∀ d:DC,bA p (.one (.dc d))=.one (.dc d):=fun d=>by simp[bA,cE,aR.keep]
    split at h4
    · injection h4 with h4;subst h4
      rw[e,e];simp only[kI,qB h1,qB h3,aWr];rw[if_pos (by assumption)]
    · cases h4
  · obtain⟨a,h1,h2⟩:=aW5.1 h
    obtain⟨b,h3,h4⟩:=aW5.1 h2;injection h4 with h4;subst h4;have e:∀ d:DC,bA p (.one (.dc d))=.one (.dc d):=fun d=>by simp[bA,cE,aR.keep]
    rw[e];simp only[kI,qB h1,qB h3,aWr]
  · simp[aI] at h
  · simp[aI] at h
  · cases h
def aBJ(ai:AI):Prop:=(∃ x,ai=.mov x)\/∃ s x l h,ai=.slL s x l h
theorem Dh.kill{sl:List AV}{hp hp':List aD}{p:Nat->Bool}{o:aM}{v:AV}(hx:aBJ o.ai)(hq:Dh P G sl hp o v):Dh P G (sl.map (bA p)) hp' o (bA p v):=by
  rcases hq with⟨h3,rfl⟩ | ⟨h3,h4⟩
  · refine .inl ⟨?_,rfl⟩
    cases hgd:o.guard with
    | none=>rw[hgd] at h3;exact h3
    | some q=>obtain⟨g,b⟩:=q;rw[hgd] at h3;simp only[Dg] at h3 ⊢;rw[iK];exact h3.imp Cx (fun h=>by rw[h];rfl)
  · refine .inr ⟨?_, ?_⟩
    · cases hgd:o.guard with
      | none=>trivial
      | some q=>obtain⟨g,b⟩:=q;rw[hgd] at h3;simp only[iG] at h3 ⊢;rw[iK];exact Cx h3
    · rcases h4 with h4 | ⟨f,args,cargs,r,h5,_⟩
      · left
        rcases hx with⟨x,hx⟩ | ⟨s,x,l,r,hx⟩
        · rw[hx] at h4 ⊢
          simp only[cW,Option.some.injEq] at h4 ⊢;rw[<- h4,iK]
        · rw[hx] at h4 ⊢
          have:=Yh (p:=p) h4;simp only[cW,Kf,iK];rw[Option.map_map,Option.map_map] at this;have e:(bA p ∘ aJ G sl)=aJ G (sl.map (bA p)):=by funext y;simp only[Function.comp,iK]
          rw[e] at this;exact this
      · rcases hx with⟨x,hx⟩ | ⟨s,x,l,r,hx⟩<;>(rw[hx] at h5;cases h5)
theorem Yi{o:Oper}{e:Nat}:e∈jS o↔∃ x,x∈o.after/\Region.binds .any x=true/\x.on=e:=by
  simp only[jS,List.mem_map,List.mem_filter,Array.mem_toList_iff];constructor
  · rintro⟨x,⟨h1,h2⟩,h3⟩;exact⟨x,h1,h2,h3⟩
  · rintro⟨x,h1,h2,h3⟩;exact⟨x,⟨h1,h2⟩,h3⟩
theorem Yj{md:Region.Mode}{e:Edge}(h:Region.binds .any e=true):Region.binds md e=true:=by
  unfold Region.binds at *;split at h<;>simp_all
theorem lD{md:Region.Mode}{opsA:Array Oper}{listed:Array Bool}(hsz:listed.size=opsA.size){i:Nat}(h:i∈Region.ready md opsA listed):
    i < opsA.size/\listed.getD i false=false/\∃ o,opsA[i]?=some o/\∀ e∈jS o,listed.getD e false=true:=by
  obtain⟨h1,o,ho,h2⟩:=mem_ready.1 h;have hlt:i < opsA.size:=(Array.getElem?_eq_some_iff.1 ho).1;refine⟨hlt, ?_,o,ho,fun e he=>?_⟩
  · have:listed[i]?=some (listed[i]'(by omega)):=aWJ (by omega)
    rw[aXv,this] at h1 ⊢;exact h1
  · obtain⟨x,hx,hb,rfl⟩:=Yi.1 he
    exact h2 x hx (Yj hb)
theorem rM{md:Region.Mode}{opsA:Array Oper}{listed:Array Bool}(hsz:listed.size=opsA.size){i:Nat}{o:Oper}(hlt:i < opsA.size)(h1:listed.getD i false=false)(ho:opsA[i]?=some o)
    (h2:∀ e∈jG md o,listed.getD e false=true):i∈Region.ready md opsA listed:=by
  refine mem_ready.2 ⟨?_,o,ho,fun x hx hb=>h2 _ (by simp only[jG,List.mem_map,List.mem_filter,Array.mem_toList_iff];exact⟨x,⟨hx,hb⟩,rfl⟩)⟩
  have:listed[i]?=some (listed[i]'(by omega)):=aWJ (by omega);rw[aXv,this] at h1 ⊢;exact h1
theorem Eff.mono{o:aM}{K K':AS->Prop}{st:AS}(hk:∀ s,K s->K' s)(h:Eff P G k o K st):Eff P G k o K' st:=by
  rcases h with⟨h1,h2⟩ | ⟨h1,h2⟩
  · exact .inl ⟨h1,hk _ h2⟩
  · refine .inr ⟨h1, ?_⟩
    obtain⟨dst,ai,gd⟩:=o;cases ai with
    | alloc z=>exact hk _ h2
    | box x=>obtain⟨cs,h3,h4⟩:=h2;exact⟨cs,h3,hk _ h4⟩
    | bslc s n z ps=>
      rcases h2 with⟨es,h3,h4,h5,h6⟩ | ⟨h3,cs,h4,h6⟩
      · exact .inl ⟨es,h3,h4,h5,hk _ h6⟩
      · exact .inr ⟨h3,cs,h4,hk _ h6⟩
    | store s x v=>
      obtain⟨h3,h4⟩:=h2;refine⟨h3, ?_⟩;rcases h4 with⟨id,off,cs,vs,g1,g2,g3,g4,g5,g6⟩ | ⟨id,i,s',off,cap,es,e,ds,g1,g2,g3,g4,g5,g6,g7⟩
      · exact .inl ⟨id,off,cs,vs,g1,g2,g3,g4,g5,hk _ g6⟩
      · exact .inr ⟨id,i,s',off,cap,es,e,ds,g1,g2,g3,g4,g5,g6,hk _ g7⟩
    | app s b z x y=>
      rcases h2 with⟨g1,news,g4,g5,g6,g7⟩ | ⟨id,n,cap,es,news,g1,g2,g3,g4,g5,g6,g7⟩
      · exact .inl ⟨g1,news,g4,g5,g6,fun c hc=>hk _ (g7 c hc)⟩
      · exact .inr ⟨id,n,cap,es,news,g1,g2,g3,g4,g5,g6,fun c hc=>hk _ (g7 c hc)⟩
    | call f args=>obtain⟨T,h3,hne,h4⟩:=h2;exact⟨T,h3,hne,fun av os ht=>hk _ (h4 av os ht)⟩
    | _=>exact WR.mono h2 hk
theorem rK.swap{x y:aM}{K:AS->Prop}{sl:List AV}{hp:List aD}{v:AV}(hd:uN x.dst y.dst=true)(h1:kL x.dst y=true)(h2:kL y.dst x=true)(hc:aGf x.ai y.ai=true)
    (hq:Dh P G sl hp x v) (h:rK P G k y.dst y.ai K (aP sl x.dst v) hp):
    rK P G k y.dst y.ai (fun s=>∃ v',Dh P G s.sl s.hp x v'/\K ⟨aP s.sl x.dst v',s.hp⟩) sl hp:=by
  have hr:=(fU (G:=G) (eB (sl:=sl) (v:=v) h1)).1;obtain⟨ydst,yai,yg⟩:=y;simp only at hr hd h2 hc h ⊢;cases yai with
  | alloc z=>
    refine⟨v,(hq.push).congr (fun t ht=>(eB h2 t ht).symm), ?_⟩
    simp only;rw[<- eK hd];exact h
  | box a=>
    obtain⟨cs,h3,h4⟩:=h;rw[hr a (by simp[aW])] at h3;refine⟨cs,h3,v,(hq.push).congr (fun t ht=>(eB h2 t ht).symm), ?_⟩
    simp only;rw[<- eK hd];exact h4
  | bslc s n z ps=>
    have hps:(ps.map fun (j,x')=>(j * s,s,aJ G (aP sl x.dst v) x'))=ps.map fun (j,x')=>(j * s,s,aJ G sl x'):=
      aWC (fun p hp=>by
        obtain⟨j,x'⟩:=p;simp only[hr x' (by simp only[aW,List.mem_map];exact⟨_,hp,rfl⟩)])
    rcases h with⟨es,h3,h4,h5,h6⟩ | ⟨h3,cs,h4,h6⟩
    · rw[hps] at h3
      refine .inl ⟨es,h3,h4,h5,v,(hq.push).congr (fun t ht=>(eB h2 t ht).symm), ?_⟩
      simp only;rw[<- eK hd];exact h6
    · rw[hps] at h4
      refine .inr ⟨h3,cs,h4,v,(hq.push).congr (fun t ht=>(eB h2 t ht).symm), ?_⟩
      simp only;rw[<- eK hd];exact h6
  | store s a b=>
    obtain⟨h3,h4⟩:=h;refine⟨h3, ?_⟩;rcases h4 with⟨id,off,cs,vs,g1,g2,g3,g4,g5,g6⟩ | ⟨id,i,s',off,cap,es,e,ds,g1,g2,g3,g4,g5,g6,g7⟩
    · rw[hr a (by simp[aW])] at g1
      rw[hr b (by simp[aW])] at g2;exact .inl ⟨id,off,cs,vs,g1,g2,g3,g4,g5,v,hq.free hc,g6⟩
    · rw[hr a (by simp[aW])] at g1
      rw[hr b (by simp[aW])] at g2;exact .inr ⟨id,i,s',off,cap,es,e,ds,g1,g2,g3,g4,g5,g6,v,hq.free hc,g7⟩
  | app s b z a c=>
    have hmov:aBJ x.ai/\rJ x.ai=true:=by
      simp only[aGf] at hc;split at hc
      · rename_i q h;exact⟨.inl ⟨q,h⟩,by rw[h];rfl⟩
      · rename_i s x l r h;exact⟨.inr ⟨s,x,l,r,h⟩,by rw[h];rfl⟩
      · cases hc
    obtain⟨hmov,hless⟩:=hmov;rcases h with⟨g1,news,g4,g5,g6,g7⟩ | ⟨id,n,cap,es,news,g1,g2,g3,g4,g5,g6,g7⟩
    · rw[hr a (by simp[aW])] at g1
      rw[hr c (by simp[aW])] at g4;refine .inl ⟨g1,news,g4,g5,g6,fun cap' hcap=>⟨v,(hq.free hless).congr (fun t ht=>(eB h2 t ht).symm), ?_⟩⟩
      simp only;rw[<- eK hd];exact g7 cap' hcap
    rw[hr a (by simp[aW])] at g1;rw[hr c (by simp[aW])] at g4;refine .inr ⟨id,n,cap,es,news,g1,g2,g3,g4,g5,g6,fun cap' hcap=>⟨bA (·==id) v,(hq.kill (hp':=(hp.map (cI (·==id))).set id (.arr cap' s (es.take n++news))) hmov).congr (fun t ht=>(eB h2 t ht).symm), ?_⟩⟩
    have:=g7 cap' hcap;rw[M6] at this;simp only;rw[<- eK hd];exact this
  | call f args=>
    obtain⟨T,h3,hne,h4⟩:=h;have he:args.map (aJ G (aP sl x.dst v))=args.map (aJ G sl):=aWC (fun a ha=>hr a (by simpa[aW] using ha))
    rw[he] at h3;refine⟨T,h3,hne,fun av os ht=>⟨v,(hq.pushL os).congr (fun t ht=>(eB h2 t ht).symm), ?_⟩⟩
    simp only;rw[<- eK hd];exact h4 av os ht
  | _=>cases hc
theorem Eff.swap{x y:aM}{K:AS->Prop}{st:AS}{v:AV}(hd:uN x.dst y.dst=true)(h1:kL x.dst y=true)(h2:kL y.dst x=true)(hc:aGf x.ai y.ai=true)
    (hq:Dh P G st.sl st.hp x v) (h:Eff P G k y K ⟨aP st.sl x.dst v,st.hp⟩):Eff P G k y (fun s=>∃ v',Dh P G s.sl s.hp x v'/\K ⟨aP s.sl x.dst v',s.hp⟩) st:=by
  rcases h with⟨h3,h4⟩ | ⟨h3,h4⟩
  · refine .inl ⟨mU (eB h1) h3,v,hq.congr (fun t ht=>(eB h2 t ht).symm), ?_⟩
    simp only;rw[<- eK hd];exact h4
  · exact .inr ⟨eJ (eB h1) h3,rK.swap hd h1 h2 hc hq h4⟩
def zJ(G:aF)(sl:List AV)(o:aM)(v:AV):Prop:=
  (Dg G ⟨sl,[]⟩ o.guard/\v=.tup [])\/(iG G ⟨sl,[]⟩ o.guard/\cW G ⟨sl,[]⟩ o.ai=some v)
theorem hZ{sl:List AV}{hp:List aD}{o:aM}{v:AV}(hl:Bj o.ai=true):Dh P G sl hp o v↔zJ G sl o v:=by
  have g1:Dg G ⟨sl,hp⟩ o.guard↔Dg G ⟨sl,[]⟩ o.guard:=by cases o.guard<;>rfl
  have g2:iG G ⟨sl,hp⟩ o.guard↔iG G ⟨sl,[]⟩ o.guard:=by cases o.guard<;>rfl
  unfold Dh zJ;rw[g1,g2];obtain⟨d,ai,g⟩:=o;cases ai<;>first | (cases hl;done) | skip
  all_goals
    constructor
    · rintro (h | ⟨h3,h4 | ⟨f,args,cargs,r,h5,_⟩⟩)
      · exact .inl h
      · exact .inr ⟨h3,h4⟩
      · cases h5
    · rintro (h | ⟨h3,h4⟩)
      · exact .inl h
      · exact .inr ⟨h3,.inl h4⟩
theorem Ff{sl:List AV}{o:aM}{v v':AV}(h:zJ G sl o v)(h':zJ G sl o v'):v=v':=by
  have key:¬ (Dg G ⟨sl,[]⟩ o.guard/\iG G ⟨sl,[]⟩ o.guard):=by
    rintro⟨h1,h2⟩;cases hg:o.guard with
    | none=>rw[hg] at h1;exact h1
    | some q=>
      rw[hg] at h1 h2;obtain⟨g,b⟩:=q;simp only[Dg,iG] at h1 h2;rcases h1 with h1 | h1
      · rw[h1] at h2;cases b<;>simp at h2
      · rw[h1] at h2;simp[cF] at h2
  rcases h with⟨h1,rfl⟩ | ⟨h1,h2⟩
  · rcases h' with⟨_,rfl⟩ | ⟨h3,_⟩
    · rfl
    · exact absurd ⟨h1,h3⟩ key
  · rcases h' with⟨h3,_⟩ | ⟨_,h4⟩
    · exact absurd ⟨h3,h1⟩ key
    · rw[h2] at h4;injection h4
theorem qC{p:Nat->Bool}{a:AV}{d:DC}(h:bA p a=.one (.dc d)):a=.one (.dc d):=by
  cases a with
  | one c=>
    simp only[bA,cE,AV.one.injEq] at h;split at h
    · rw[h]
    · cases h
  | _=>simp[bA] at h
theorem uF{p:Nat->Bool}{a:AV}{b:Bool}(h:cF (bA p a)=some b):cF a=some b:=by
  unfold cF at h;split at h
  · rename_i hv;rw[qC hv];exact h
  · cases h
theorem Rs{p:Nat->Bool}{a:AV}(h:bA p a=.tup []):a=.tup []:=by
  cases a<;>simp[bA] at h ⊢;exact h
theorem Kg{p:Nat->Bool}{a:AV}{b:Int}(h:bE (bA p a)=some b):bE a=some b:=by
  unfold bE at h;split at h
  · rename_i hv;rw[qC hv];exact h
  · cases h
theorem mI{p:Nat->Bool}{x:Option AV}{t d n:Nat}(h:dI (x.map (bA p)) t d=some n):dI x t d=some n:=by
  cases x with
  | none=>exact h
  | some a=>
    simp only[dI,aWi] at h ⊢;cases ha:bE (bA p a) with
    | none=>rw[ha] at h;cases h
    | some i=>rw[ha] at h;rw[Kg ha];exact h
theorem Iy{s:Nat}{x v:AV}{l r:Option AV}(h:kI [] s x l r=some v):∃ d,x=.one (.dc d):=by
  unfold kI at h;split at h
  · exact⟨_,rfl⟩
  · exact⟨_,rfl⟩
  · simp[aI] at h
  · simp[aI] at h
  · cases h
theorem aBK{sl:List AV}{o:aM}{v:AV}(hl:Bj o.ai=true)(h:zJ G sl o v)(p:Nat->Bool):bA p v=v:=by
  have e:∀ d:DC,bA p (.one (.dc d))=.one (.dc d):=fun d=>by simp[bA,cE,aR.keep]
  rcases h with⟨_,rfl⟩ | ⟨_,h⟩
  · rfl
  · obtain⟨d,ai,g⟩:=o
    cases ai<;>first | (cases hl;done) | skip
    · simp only[cW,eC] at h
      split at h
      · split at h
        · split at h
          · cases h
          · injection h with h;rw[<- h];exact e _
        · split at h
          · cases h
          · injection h with h;rw[<- h];exact e _
        · split at h
          · obtain⟨u,_,rfl⟩:=Option.map_eq_some_iff.1 h;exact e _
          · cases h
      · obtain⟨u,_,rfl⟩:=Option.map_eq_some_iff.1 h;exact e _
      · cases h
    · simp only[cW] at h
      obtain⟨d,hd⟩:=Iy h;rw[hd] at h;unfold kI at h;split at h
      · obtain⟨_,_,h⟩:=aW5.1 h
        obtain⟨_,_,h⟩:=aW5.1 h;split at h
        · injection h with h;rw[<- h];exact e _
        · cases h
      · obtain⟨_,_,h⟩:=aW5.1 h
        obtain⟨_,_,h⟩:=aW5.1 h;injection h with h;rw[<- h];exact e _
      · simp[aI] at h
      · simp[aI] at h
      · cases h
    · simp only[cW,qR] at h
      split at h
      · injection h with h;rw[<- h];exact e _
      · injection h with h;rw[<- h];exact e _
      · injection h with h;rw[<- h];exact e _
      · injection h with h;rw[<- h];exact e _
      · cases h
theorem Kh{p:Nat->Bool}{a v:AV}(h:qR (bA p a)=some v):qR a=some v:=by
  cases a with
  | one c=>
    simp only[bA,cE] at h;split at h
    · exact h
    · simp[qR] at h
  | _=>simp[bA,qR] at h
theorem M7{p:Nat->Bool}{op:BinOp}{a b v:AV}(h:eC op (bA p a) (bA p b)=some v):eC op a b=some v:=by
  unfold eC at h;split at h
  · rename_i ha hb;rw[qC ha,qC hb];exact h
  · rename_i ha hb;rw[qC ha,qC hb];exact h
  · cases h
theorem M8{p:Nat->Bool}{s:Nat}{x v:AV}{l r:Option AV}(h:kI [] s (bA p x) (l.map (bA p)) (r.map (bA p))=some v):kI [] s x l r=some v:=by
  obtain⟨d,hd⟩:=Iy h;have hx:=qC hd;subst hx;have e:bA p (.one (.dc d))=.one (.dc d):=by simp[bA,cE,aR.keep]
  rw[e] at h;unfold kI at h ⊢;split at h
  · obtain⟨a,h1,h⟩:=aW5.1 h
    obtain⟨b,h2,h⟩:=aW5.1 h;simp only[mI h1,mI h2,aWr];exact h
  · obtain⟨a,h1,h⟩:=aW5.1 h
    obtain⟨b,h2,h⟩:=aW5.1 h;simp only[mI h1,mI h2,aWr];exact h
  · simp[aI] at h
  · simp[aI] at h
  · cases h
theorem Cy{p:Nat->Bool}{sl:List AV}{o:aM}{v:AV}(hl:Bj o.ai=true)(h:zJ G (sl.map (bA p)) o v):zJ G sl o v:=by
  rcases h with⟨h1,rfl⟩ | ⟨h1,h2⟩
  · refine .inl ⟨?_,rfl⟩
    cases hg:o.guard with
    | none=>rw[hg] at h1;exact h1
    | some q=>obtain⟨g,b⟩:=q;rw[hg] at h1;simp only[Dg] at h1 ⊢;rw[iK] at h1;exact h1.imp uF Rs
  · refine .inr ⟨?_, ?_⟩
    · cases hg:o.guard with
      | none=>trivial
      | some q=>obtain⟨g,b⟩:=q;rw[hg] at h1;simp only[iG] at h1 ⊢;rw[iK] at h1;exact uF h1
    · obtain⟨d,ai,g⟩:=o
      cases ai<;>first | (cases hl;done) | skip
      · simp only[cW,iK] at h2 ⊢;exact M7 h2
      · simp only[cW,iK] at h2 ⊢
        have e:∀ l:Option aH,l.map (aJ G (sl.map (bA p)))=(l.map (aJ G sl)).map (bA p):=fun l=>by cases l<;>simp[iK]
        rw[e,e] at h2;exact M8 h2
      · simp only[cW,iK] at h2 ⊢;exact Kh h2
theorem iU.swapB{x y:aM}{K:AS->Prop}{st:AS}(hd:uN x.dst y.dst=true)(h1:kL x.dst y=true)(h2:kL y.dst x=true)(hl:Bj y.ai=true)(hb:aKa x.ai=true)
    (h:Eff P G k x (fun s=>∃ u,Dh P G s.sl s.hp y u/\K ⟨aP s.sl y.dst u,s.hp⟩) st):∃ u,Dh P G st.sl st.hp y u/\Eff P G k x K ⟨aP st.sl y.dst u,st.hp⟩:=by
  
  have back:∀ {sl:List AV} {w u:AV},zJ G (aP sl x.dst w) y u->zJ G sl y u:=fun {sl w u} hq=>by
    rw[<- hZ (P:=P) (hp:=[]) hl] at hq ⊢;exact hq.congr (fun t ht=>eB h1 t ht)
  rcases h with⟨h3,u,hq,h4⟩ | ⟨h3,h4⟩
  · rw[hZ hl] at hq
    refine⟨u,(hZ hl).2 (back hq),.inl ⟨mU (fun t ht=>(eB h2 t ht).symm) h3, ?_⟩⟩
    simp only;rw[eK hd] at h4;exact h4
  · obtain⟨xd,xai,xg⟩:=x
    cases xai<;>first | (cases hb;done) | skip
    case app s b z a c=>
      have ra:∀ u,aJ G (aP st.sl y.dst u) a=aJ G st.sl a:=fun u=>(fU (G:=G) (eB (sl:=st.sl) (v:=u) h2)).1 a (by simp[aW])
      have rc:∀ u,aJ G (aP st.sl y.dst u) c=aJ G st.sl c:=fun u=>(fU (G:=G) (eB (sl:=st.sl) (v:=u) h2)).1 c (by simp[aW])
      rcases h4 with⟨g1,news,g4,g5,g6,g7⟩ | ⟨id,n,cap,es,news,g1,g2,g3,g4,g5,g6,g7⟩
      · obtain⟨u,hq,_⟩:=g7 news.length (aWj _)
        rw[hZ hl] at hq;have hq0:=back hq;refine⟨u,(hZ hl).2 hq0,.inr ⟨eJ (fun t ht=>(eB h2 t ht).symm) h3,.inl ⟨by rw[ra];exact g1,news,by rw[rc];exact g4,g5,g6,fun cap' hcap=>?_⟩⟩⟩
        obtain⟨u',hq',hK⟩:=g7 cap' hcap;rw[hZ hl] at hq';have:=Ff hq0 (back hq');subst this;simp only at hK ⊢;rw[eK hd] at hK;exact hK
      · obtain⟨u,hq,_⟩:=g7 (n+news.length) (aWj _)
        rw[hZ hl] at hq;have hq0:=Cy hl (back hq);refine⟨u,(hZ hl).2 hq0,.inr ⟨eJ (fun t ht=>(eB h2 t ht).symm) h3,.inr ⟨id,n,cap,es,news,by rw[ra];exact g1,g2,g3,by rw[rc];exact g4,g5,g6,fun cap' hcap=>?_⟩⟩⟩
        obtain⟨u',hq',hK⟩:=g7 cap' hcap;rw[hZ hl] at hq';have:=Ff hq0 (Cy hl (back hq'));subst this;simp only at hK ⊢;rw[M6,aBK hl hq0];rw[eK hd] at hK;exact hK
    case call f args=>
      obtain⟨T,t1,⟨av0,os0,t2⟩,t3⟩:=h4;obtain⟨u,hq,_⟩:=t3 av0 os0 t2;rw[hZ hl] at hq;have hq0:=back hq;have he:∀ u,args.map (aJ G (aP st.sl y.dst u))=args.map (aJ G st.sl):=fun u=>aWC (fun a ha=>(fU (G:=G) (eB (sl:=st.sl) (v:=u) h2)).1 a (by simpa[aW] using ha))
      refine⟨u,(hZ hl).2 hq0,.inr ⟨eJ (fun t ht=>(eB h2 t ht).symm) h3,T,by rw[he];exact t1,⟨av0,os0,t2⟩,fun av os ht=>?_⟩⟩
      obtain⟨u',hq',hK⟩:=t3 av os ht;rw[hZ hl] at hq';have:=Ff hq0 (back hq');subst this;simp only at hK ⊢;rw[eK hd] at hK;exact hK
theorem iU.swap{x y:Bool × aM}{K:AS->Prop}{l:List (Bool × aM)}{st:AS}(hc:aBA x y=true)(h:iU P G k K (x::y::l) st):iU P G k K (y::x::l) st:=by
  obtain⟨bx,x⟩:=x;obtain⟨by',y⟩:=y;simp only[aBA,aWs,Bool.or_eq_true] at hc;obtain⟨⟨⟨hd,h1⟩,h2⟩,⟨hb,h3⟩ | ⟨⟨⟨hb,hy⟩,hl⟩,hx⟩⟩:=hc
  · subst hb
    obtain⟨v,hv,h⟩:=h;cases by' with
    | true=>
      obtain⟨u,hu,h⟩:=h;refine⟨u,hu.congr (eB h1),v,hv.congr (fun t ht=>(eB h2 t ht).symm), ?_⟩
      simp only;rw[<- eK hd];exact h
    | false=>exact Eff.swap hd h1 h2 (h3.resolve_left (by simp)) hv h
  · have hbx:bx=false:=by simpa using hb
    subst hbx;subst hy;exact iU.swapB hd h1 h2 hl hx h
theorem iU.front{y:Bool × aM}{K:AS->Prop}{ys:List (Bool × aM)}:∀ (xs:List (Bool × aM)) (st:AS),(∀ x∈xs,aBA x y=true)->iU P G k K (xs++y::ys) st->iU P G k K (y::(xs++ys)) st
  | [],st,_,h=>h
  | x::xs,st,hc,h=>by
    refine iU.swap (hc x aWy) ?_;obtain⟨b,x⟩:=x;cases b with
    | true=>
      obtain⟨v,hv,h⟩:=h;exact⟨v,hv,iU.front xs _ (fun x' hx'=>hc x' (aWG _ hx')) h⟩
    | false=>exact Eff.mono (fun s hs=>iU.front xs s (fun x' hx'=>hc x' (aWG _ hx')) hs) h
theorem wpQ{o:Oper}{a:Act}{w:World}{K:Act->World->Prop}{Q Q':Exit->Act->World->Prop}(hQ:∀ e a w,e≠.normal->Q e a w->Q' e a w)(hh:o.wp P a w K Q):o.wp P a w K Q':=by
  unfold Oper.wp at *;generalize (execOp a.eval o).run P w=r at *;cases r with
  | ok n w'=>
    cases n<;>simp only[Oper.upon] at hh ⊢<;>
      first
        | exact hh
        | exact Calls.mono hh (fun e w'' he=>by
            cases e<;>first | exact he | exact hQ _ _ _ (by simp) he | (obtain⟨a,w,h⟩:=he;exact⟨a,w,hQ _ _ _ (by simp) h⟩))
  | halt x w'=>cases x<;>simp only[Oper.upon] at hh ⊢<;>first | exact hh | exact hQ _ _ _ (by simp) hh
theorem WR.guard{o:aM}{K:AS->Prop}{st:AS}{ai:AI}(hg:iG G st o.guard)(hai:o.ai=ai)(h:WR P G k [⟨o.dst,ai,none⟩] K st):WR P G k [o] K st:=by
  intro opsA l hc F γ a w hi hs hg' hk QE hq;obtain⟨oper,l',rfl,h1,h2,h3,h4⟩:=mF hc;have hl:l'=[]:=by
    cases l' with
    | nil=>rfl
    | cons o' l'=>
      exfalso;simp only[bB] at h4;cases g1:bY P opsA o' with
      | none=>simp[g1] at h4
      | some y=>cases g2:bB P opsA l' with
        | none=>simp[g1,g2] at h4
        | some r=>simp[g1,g2] at h4
  subst hl;have hc2:bB P opsA [{ oper with guard:=none }]=some [⟨o.dst,ai,none⟩]:=by
    simp only[bB,bY,aW5,Option.map_eq_some_iff];refine⟨⟨o.dst,ai,none⟩,⟨ai, ?_,none,rfl,by simp[h3]⟩,[],rfl,rfl⟩;rw[<- hai];exact h1
  have:=h opsA _ hc2 F γ a w hi hs hg' hk QE hq;simp only[wpList] at this ⊢;rw[(mT (b':=true) hs h2).1 hg,if_pos rfl];have hw:Region.wanted { oper with guard:=none } (yielded opsA a.tmps)=true:=rfl
  rw[if_pos hw] at this;exact this
theorem WR.callA{o:aM}{rest:List aM}{K:AS->Prop}{st:AS}{f:FuncId}{args:List aH}{T:AV->List aD->Prop}(hgd:iG G st o.guard)(ha:o.ai=.call f args)
    (hac:zI P G k f (args.map (aJ G st.sl)) st.hp T) (h:∀ av os,T av os->WR P G k rest K ⟨aP st.sl o.dst av,st.hp++os⟩):WR P G k (o::rest) K st:=by
  refine WR.step hgd (fun F γ a w oper hc hd hi hs hg hk=>?_)
  rw[ha] at hc;obtain⟨c,hop,hcal,rfl,hok⟩:=zF hc;obtain⟨dst,op,type,pos,after,guard⟩:=oper;simp only at hop;subst hop;have hv:=zG (G:=G) hs hg c.args;refine .inr ⟨f,c.args.map a.eval, ?_,(hac F γ w _ hi hg hk hv).mono ?_⟩
  · simp[execOp,resolve,hcal,Act.eval,Deferred.ofValue,invoke,kK hok]
  · rintro e w' ⟨r,av,os,F',γ',rfl,hT,hE,hI,hx,hR⟩
    refine⟨r,_,F',γ',rfl,h av os hT,hE,hI,(hs.ext hE.sub hx).put _ hR, ?_⟩;have h1:=hi.len;have h2:=hI.len;rw[aWg] at h2;omega
theorem zI.of{f:FuncId}{cargs avs:List AV}{hp:List aD}{Qc:AV->List aD->Prop}(hac:AC P G f cargs [] Qc)(hargs:avs=cargs.map (dB (cG [] hp.length))):
    zI P G k f avs hp (fun av os=>∃ av0 os0,Qc av0 os0/\av=dB (cG [] hp.length) av0/\os=os0.map (dP (cG [] hp.length))):=by
  intro F γ w vs hi hg hk hv;have hln:=hi.len;have hρ:∀ t,cG [] hp.length t=γ.length+t:=fun t=>by simp[cG,hln]
  have hnone:∀ (id:Nat) (o:OI),γ[cG [] hp.length id]?=some o->([]:List OI)[id]?=some o:=fun id o h=>by
    rw[hρ,aXb (by omega)] at h;cases h
  have hv0:lC F [] cargs vs:=by
    rw[hargs] at hv;refine⟨by rw[hv.1];simp,fun i av v h1 h2=>?_⟩
    exact RV.unren hnone (hv.2 i _ v (by rw[aWl,h1];rfl) h2)
  have hi0:dC F [] [] w:=⟨hi.fz,rfl,fun i j b h=>by simp[bX] at h,fun i b h=>by simp[bX] at h,fun i o x h=>by simp at h⟩
  refine (hac F [] vs w hi0 hg hv0).mono ?_;rintro e w' ⟨r,av,os,F',γ1,rfl,hQ,_,hE,hI,hR⟩;have hsub:∀ (id:Nat) (o:OI),γ[id]?=some o->(γ++γ1)[id]?=some o:=fun _ _ h=>bN h
  have hren:∀ (id:Nat) (o:OI),γ1[id]?=some o->(γ++γ1)[cG [] hp.length id]?=some o:=fun id o h=>by
    rw[hρ,aWB (by omega)];simpa using h
  have hnew:∀ i b,bX γ1 i=some b->w.heap.size<=b:=fun i b h=>by
    rcases hE.blk i b h with⟨j,hj⟩ | h
    · simp[bX] at hj
    · exact h
  have hsplit:∀ i b,bX (γ++γ1) i=some b->(i < γ.length/\bX γ i=some b)\/(γ.length<=i/\bX γ1 (i - γ.length)=some b):=fun i b h=>by
    obtain⟨y,hy,hyb⟩:=cQ h;by_cases hil:i < γ.length
    · rw[aWx hil] at hy;exact .inl ⟨hil,bJ hy hyb⟩
    · rw[aWB (by omega)] at hy;exact .inr ⟨by omega,bJ hy hyb⟩
  have hfar:∀ b,b < w.heap.size->w'.heap[b]?=w.heap[b]?:=fun b hb=>hE.far b hb (fun i h=>by simp[bX] at h)
  refine⟨r,_,_,F',γ++γ1,rfl,⟨av,os,hQ,rfl,rfl⟩, ?_, ?_,hsub,hR.ren hren⟩
  · refine⟨hE.sub,hE.os,hE.tape,hE.output,hE.size,fun b hb _=>hfar b hb,fun b o h=>?_,fun i b h=>?_,fun i _ b h=>hsub _ _ h⟩
    · rcases hE.new b o h with h1 | h1 | ⟨i,h1⟩
      · exact .inl h1
      · exact .inr (.inl h1)
      · simp[bX] at h1
    · rcases hsplit i b h with⟨_,h1⟩ | ⟨_,h1⟩
      · exact .inl ⟨i,h1⟩
      · exact .inr (hnew _ b h1)
  · refine⟨hI.fz,by have:=hI.len;simp[hln,this],fun i j b h1 h2=>?_,fun i b h=>?_,fun i o x h1 h2=>?_⟩
    · rcases hsplit i b h1 with⟨a1,b1⟩ | ⟨a1,b1⟩<;>rcases hsplit j b h2 with⟨a2,b2⟩ | ⟨a2,b2⟩
      · exact hi.nd i j b b1 b2
      · have:=hi.lt b1;have:=hnew _ b b2;omega
      · have:=hi.lt b2;have:=hnew _ b b1;omega
      · have:=hI.nd _ _ b b1 b2;omega
    · rcases hsplit i b h with⟨_,h1⟩ | ⟨_,h1⟩
      · have hlt:=hi.lt h1
        cases hF:F' b with
        | none=>rfl
        | some o=>
          rcases hE.new b o hF with h3 | h3 | ⟨j,h3⟩
          · rw[hi.disj i b h1] at h3;cases h3
          · omega
          · simp[bX] at h3
      · exact hI.disj _ b h1
    · by_cases hil:i < γ.length
      · rw[aWx (by omega)] at h1
        rw[aWx hil] at h2;have hok:=hi.ok i o x h1 h2;exact hok.ext hE.sub hsub (fun b hb=>hfar b (hok.lt hb))
      · rw[aWB (by omega),aWl] at h1
        rw[aWB (by omega)] at h2;obtain⟨o0,h3,rfl⟩:=Option.map_eq_some_iff.1 h1;rw[<- hln] at h3;exact (hI.ok _ o0 x h3 h2).ren hren
theorem rK.run{o:aM}{K:AS->Prop}{st:AS}(hg:iG G st o.guard)(h:rK P G k o.dst o.ai K st.sl st.hp):WR P G k [o] K st:=by
  cases hai:o.ai with
  | alloc z=>rw[hai] at h;exact WR.alloc hg hai (WR.nil h)
  | box x=>rw[hai] at h;obtain⟨cs,h3,h4⟩:=h;exact WR.box hg hai h3 (WR.nil h4)
  | bslc s n z ps=>
    rw[hai] at h;rcases h with⟨es,h3,h4,h5,h6⟩ | ⟨h3,cs,h4,h6⟩
    · exact WR.bslc hg hai h3 h4 h5 (WR.nil h6)
    · exact WR.bslcB hg hai h3 h4 (WR.nil h6)
  | store s x v=>
    rw[hai] at h;obtain⟨h3,h4⟩:=h;rcases h4 with⟨id,off,cs,vs,g1,g2,g3,g4,g5,g6⟩ | ⟨id,i,s',off,cap,es,e,ds,g1,g2,g3,g4,g5,g6,g7⟩
    · exact WR.store hg hai h3 g1 g2 g3 g4 g5 (WR.nil g6)
    · exact WR.storeE hg hai h3 g1 g2 g3 g4 g5 g6 rfl (WR.nil g7)
  | app s b z x y=>
    rw[hai] at h;rcases h with⟨g1,news,g4,g5,g6,g7⟩ | ⟨id,n,cap,es,news,g1,g2,g3,g4,g5,g6,g7⟩
    · exact WR.appNil hg hai g1 g4 g5 g6 (fun c hc=>WR.nil (g7 c hc))
    · exact WR.app hg hai g1 g2 g3 g4 g5 g6 (fun c hc=>WR.nil (g7 c hc))
  | call f args=>
    rw[hai] at h;obtain⟨T,h3,_,h4⟩:=h;exact WR.callA hg hai h3 (fun av os ht=>WR.nil (h4 av os ht))
  | _=>
    rw[hai] at h;exact WR.guard hg hai h
theorem iU.head{y:Bool × aM}{K:AS->Prop}{l:List (Bool × aM)}{st:AS}(h:iU P G k K (y::l) st):WR P G k [y.2] (iU P G k K l) st:=by
  obtain⟨b,o⟩:=y;cases b with
  | true=>
    obtain⟨v,hv,h⟩:=h;rcases hv with⟨h1,rfl⟩ | ⟨h1,h2 | ⟨f,args,cargs,r,h5,h6,h7⟩⟩
    · exact WR.skip h1 (WR.nil h)
    · exact WR.pur h1 (aGg h2) (WR.nil h)
    · exact WR.callQ h1 h5 h6 (h7 st.hp.length).1 (WR.nil (by rw[<- (h7 st.hp.length).2];exact h))
  | false=>
    rcases h with⟨h1,h2⟩ | ⟨h1,h2⟩
    · exact WR.skip h1 (WR.nil h2)
    · exact rK.run h1 h2
theorem WR.op{o:aM}{K:AS->Prop}{st:AS}{opsA:Array Oper}{i:Nat}{oper:Oper}{QE:Exit->Act->World->Prop}{NX:Act->World->Prop}(h:WR P G k [o] K st)(hoi:opsA[i]?=some oper)(hco:bY P opsA oper=some o)
    (hi:dC F γ st.hp w) (hs:bT F γ st.sl a) (hg:dS F G) (hk:k<=γ.length)
    (hN:∀ a' w' F' γ' st',K st'->gA k F γ w F' γ' w'->dC F' γ' st'.hp w'->bT F' γ' st'.sl a'->k<=γ'.length->NX a' w'):wpOp P opsA QE i NX a w:=by
  have:=h opsA [oper] (by simp[bB,hco]) F γ a w hi hs hg hk (fun e a w=>match e with | .normal=>NX a w | e=>QE e a w) hN
  unfold wpOp;rw[hoi];simp only[wpList] at this ⊢;split
  · rename_i hw
    rw[if_pos hw] at this;rcases this with h1 | ⟨h1,a',w',h2⟩
    · exact .inl (wpQ (fun e a w hne h=>by cases e<;>first | exact absurd rfl hne | exact h) h1)
    · exact .inr ⟨h1,a',w',h2⟩
  · rename_i hw
    rw[if_neg hw] at this;exact this
theorem zK{p:Nat->Nat->Bool}:∀ (l:List Nat),mH p l=true->l.Pairwise fun i j=>p i j=true
  | [],_=>List.Pairwise.nil
  | i::r,h=>by
    simp only[mH,aWs] at h;exact List.Pairwise.cons (fun j hj=>List.all_eq_true.1 h.1 j hj) (zK r h.2)
theorem aBL{id:Nat}{opsA:Array Oper}{l lp:List (Bool × aM)}{ord:List Nat}{K:AS->Prop}{st:AS}(hc:bB P opsA opsA.toList=some (l.map (·.2)))
    (hd:Cv (iW opsA.toList []) opsA.toList l ord=some lp) (hw:iU P G k K lp st) (hi:dC F γ st.hp w) (hs:bT F γ st.sl a) (hg:dS F G) (hk:k<=γ.length)
    {QE:Exit->Act->World->Prop} (hQ:∀ a' w' F' γ' st',K st'->gA k F γ w F' γ' w'->dC F' γ' st'.hp w'->bT F' γ' st'.sl a'->k<=γ'.length->QE .normal a' w'):(Code.region id opsA true).wp P QE a w:=by
  refine wp_region_draw fun t=>?_
  suffices hmd:∀ md:Region.Mode,wpAny P md opsA QE opsA.size (Array.replicate opsA.size false) a { w with drawn:=w.drawn+1 } by
    unfold Region.schedule;split
    · exact wpAny_sound opsA.size t _ a _ (hmd _)
    · exact wpAny_sound opsA.size (t / 2) _ a _ (hmd _)
  intro md;unfold Cv at hd;split at hd
  · rename_i hok
    injection hd with hd
    subst hd;simp only[aBD,aWs] at hok;obtain⟨⟨⟨hb0,hall0⟩,hlt0⟩,hpr⟩:=hok;have hpw:=zK _ hpr;have comp:∀ (ops:List Oper) (l:List aM),bB P opsA ops=some l->ops.length=l.length/\∀ (i:Nat) o x,ops[i]?=some o->l[i]?=some x->bY P opsA o=some x:=by
      intro ops
      induction ops with
      | nil=>intro l h;simp[bB] at h;subst h;exact⟨rfl,fun i o x h=>by simp at h⟩
      | cons o ops ih=>
        intro l h;simp only[bB] at h;cases h1:bY P opsA o with
        | none=>simp[h1] at h
        | some y=>cases h2:bB P opsA ops with
          | none=>simp[h1,h2] at h
          | some r=>
            simp[h1,h2] at h;subst h;obtain⟨i1,i2⟩:=ih r h2;refine⟨by simp[i1],fun i o' x' ho hx=>?_⟩
            cases i with
            | zero=>simp at ho hx;subst ho;subst hx;exact h1
            | succ i=>exact i2 i o' x' (by simpa using ho) (by simpa using hx)
    obtain⟨hlen,hcomp⟩:=comp _ _ hc;have hN:opsA.size=l.length:=by simpa using hlen
    have hop:∀ (i:Nat) oper,opsA[i]?=some oper->bY P opsA oper=some (l.getD i oY).2:=by
      intro i oper h;have hlt:i < l.length:=by rw[<- hN];exact (Array.getElem?_eq_some_iff.1 h).1
      refine hcomp i oper _ (by simpa using h) ?_;rw[aWl,aWo hlt,aWn,aWo hlt];rfl
    have htop:zH md opsA.toList=true:=by
      have:=List.all_eq_true.1 hb0 md (by cases md<;>simp);exact this
    simp only[zH,Uw,aWs] at htop;generalize aBz (opsA.toList.map (jG md)) opsA.toList.length [] (List.range opsA.toList.length)=tord at htop;obtain⟨⟨ht1,ht3⟩,ht2⟩:=htop;have hrange:∀ (i:Nat) o,opsA[i]?=some o->∀ e∈jG md o,e < opsA.size:=by
      intro i o ho e he;have h1:=List.all_eq_true.1 ht3 (jG md o) (List.mem_map.2 ⟨o,by
        rw[Array.mem_toList_iff];exact aXL ho,rfl⟩)
      simpa using List.all_eq_true.1 h1 e he
    have htall:∀ (listed:Array Bool),listed.size=opsA.size->Region.ready md opsA listed=[]->∀ (r done:List Nat),rI (opsA.toList.map (jG md)) r done=true->(∀ j∈done,j < opsA.size->listed.getD j false=true)->∀ j∈r,j < opsA.size->listed.getD j false=true:=by
      intro listed hsz hno r
      induction r with
      | nil=>intro done _ _ j hj;cases hj
      | cons i r ih=>
        intro done h hd j hj hlt;simp only[rI,aWs] at h;have hi0:i < opsA.size->listed.getD i false=true:=by
          intro hil;cases hlj:listed.getD i false with
          | true=>rfl
          | false=>
            exfalso;have hoi:opsA[i]?=some opsA[i]:=aWJ hil;have:i∈Region.ready md opsA listed:=rM hsz hil hlj hoi (fun e he=>by
              have h3:=List.all_eq_true.1 h.1 e (by
                rw[aWn,aWl];simp only[aXa,hoi,aWi,aWX];exact he)
              have hmem:e∈done:=by simpa using h3
              exact hd e hmem (hrange i _ hoi e he))
            rw[hno] at this;cases this
        rcases aXn.1 hj with rfl | hj
        · exact hi0 hlt
        · exact ih (i::done) h.2 (fun q hq hql=>by
            rcases aXn.1 hq with rfl | hq
            · exact hi0 hql
            · exact hd q hq hql) j hj hlt
    have main:∀ (fuel:Nat) (listed:Array Bool) (a:Act) (w':World) (F':Fz) (γ':List OI) (U:List Nat) (st:AS),listed.size=opsA.size->(∀ i,i < opsA.size->(listed.getD i false=false↔i∈U))->(∀ i∈U,i < opsA.size)->
        (U.Pairwise fun i j=>(i != j&&(((iW opsA.toList []).getD j []).contains i||aBA (l.getD i oY) (l.getD j oY)))=true)->
        (∀ (i:Nat) o,opsA[i]?=some o->listed.getD i false=true->∀ e∈jS o,listed.getD e false=true)->U.length<=fuel->
        gA k F γ w F' γ' w'->dC F' γ' st.hp w'->bT F' γ' st.sl a->k<=γ'.length->iU P G k K (U.map fun i=>l.getD i oY) st->wpAny P md opsA QE fuel listed a w':=by
      intro fuel
      induction fuel with
      | zero=>
        intro listed a w' F' γ' U st hsz hU hUl hpw hcl hf hE hI hS hk' hA;have hnil:U=[]:=aXl (by omega);subst hnil;refine⟨?_,hQ a w' F' γ' st hA hE hI hS hk'⟩;rw[List.eq_nil_iff_forall_not_mem];intro i hi;obtain⟨h1,h2,_⟩:=lD hsz hi;have:=(hU i h1).1 h2;simp at this
      | succ fuel ih=>
        intro listed a w' F' γ' U st hsz hU hUl hpw hcl hf hE hI hS hk' hA;refine⟨fun hno=>?_,fun i hi=>?_⟩
        · have hz:∀ j,j < opsA.size->listed.getD j false=true:=by
            intro j hj;refine htall listed hsz hno tord [] ht1 (fun j hj=>by cases hj) j ?_ hj
            have:=List.all_eq_true.1 ht2 j (by simpa using hj);simpa using this
          cases U with
          | nil=>exact hQ a w' F' γ' st hA hE hI hS hk'
          | cons u U=>
            have h1:=hUl u aWy;have:=(hU u h1).2 aWy;rw[hz u h1] at this;cases this
        · obtain⟨h1,h2,oper,hoi,he⟩:=lD hsz hi
          have hclo:∀ j∈(iW opsA.toList []).getD i [],listed.getD j false=true:=
            Ro (L:=fun j=>listed.getD j false=true) opsA.toList (fun i o h=>hcl i o (by simpa using h)) i oper (by simpa using hoi) he
          obtain⟨R1,R2,rfl⟩:=List.append_of_mem ((hU i h1).1 h2);have hpw2:=List.pairwise_append.1 hpw;have hfront:iU P G k K ((l.getD i oY)::(R1.map (fun i=>l.getD i oY)++R2.map fun i=>l.getD i oY)) st:=by
            refine iU.front _ _ (fun x hx=>?_) (by simpa using hA)
            obtain⟨r,hr,rfl⟩:=List.mem_map.1 hx;have h3:=hpw2.2.2 r hr i aWy;simp only[aWs,Bool.or_eq_true,List.contains_iff_mem] at h3;rcases h3.2 with h4 | h4
            · have h5:=hclo r h4
              have h6:=(hU r (hUl r (by simp[hr]))).2 (by simp[hr]);rw[h5] at h6;cases h6
            · exact h4
          rw[<- aWW] at hfront;refine WR.op (iU.head hfront) hoi (hop i oper hoi) hI hS (hg.sub hE.sub) hk' (fun a'' w'' F'' γ'' st'' q1 q2 q3 q4 q5=>?_)
          have hnd:i∉R1/\i∉R2:=by
            refine⟨fun h=>?_,fun h=>?_⟩
            · have:=hpw2.2.2 i h i aWy
              simp at this
            · have:=(List.pairwise_cons.1 hpw2.2.1).1 i h
              simp at this
          refine ih _ a'' w'' F'' γ'' (R1++R2) st'' (by simpa using hsz) (fun j hj=>?_) (fun j hj=>hUl j (by simp at hj ⊢;rcases hj with h | h<;>simp[h])) ?_ (fun j oj hoj hj e hee=>?_) (by simp at hf ⊢;omega) (hE.trans q2) q3 q4 q5 q1
          · by_cases hij:i=j
            · subst hij
              rw[show (listed.setIfInBounds i true).getD i false=true by rw[aXv,aXS (by omega)];rfl];simp[hnd]
            · rw[getD_set_ne false hij,hU j hj]
              simp[Ne.symm hij]
          · exact hpw.sublist (by simp)
          · by_cases hij:i=j
            · subst hij
              rw[hoi] at hoj;injection hoj with hoj;subst hoj
              exact getD_set_true (he e hee)
            · rw[getD_set_ne false hij] at hj
              exact getD_set_true (hcl j oj hoj hj e hee)
    have hrep:∀ j,(Array.replicate opsA.size false).getD j false=false:=by
      intro j;rw[aXv];by_cases hjs:j < opsA.size<;>simp[hjs]
    have hlo:ord.length<=opsA.size:=by
      have hnd:ord.Nodup:=hpw.imp (fun h e=>by simp[e] at h)
      have:=List.Nodup.length_le_of_subset hnd (l₂:=List.range l.length) (fun i hi=>by
        have:=List.all_eq_true.1 hlt0 i hi;simpa using this)
      simpa[hN] using this
    exact main opsA.size (Array.replicate opsA.size false) a { w with drawn:=w.drawn+1 } F γ ord st (by simp) (fun i hi=>by
        rw[hrep];have:=List.all_eq_true.1 hall0 i (by simpa[<- hN] using hi);simpa using this) (fun i hi=>by
        have:=List.all_eq_true.1 hlt0 i hi;rw[hN];simpa using this) hpw (fun i o ho hl=>by rw[hrep] at hl;cases hl) hlo (gA.drawn _ _ _ _ _) (hi.drawn _) hs hk hw
  · cases hd
end
end Go.Proofs.YthepfneloomngaaGreatDoor
