/- A region whose order is drawn: operations that don't touch each other may change places. Conditions: none. -/
import Derived.Test.YtcplecjhmnblpaaGreatDoorLo
namespace Go.Proofs.YtcplecjhmnblpaaGreatDoor
def jR(o:Oper):List Nat:=(o.after.toList.filter (Region.binds .any)).map (·.on)
def jI(md:Region.Mode)(o:Oper):List Nat:=(o.after.toList.filter (Region.binds md)).map (·.on)
def W6(E:List (List Nat)):Nat->List Nat->List Nat->List Nat
  | 0,_,_=>[]
  | n+1,done,todo=>match todo.find? fun i=>(E.getD i []).all done.contains with
    | some i=>i::W6 E n (i::done) (todo.erase i)
    | none=>[]
def rE(E:List (List Nat)):List Nat->List Nat->Bool
  | [],_=>true
  | i::r,done=>((E.getD i []).all fun e=>done.contains e)&&rE E r (i::done)
def Pe(n:Nat)(E:List (List Nat))(o:List Nat):Bool:=rE E o []&&(E.all fun l=>l.all fun e=>decide (e < n))&&(List.range n).all fun i=>o.contains i
def uV(md:Region.Mode)(ops:List Oper):Bool:=Pe ops.length (ops.map (jI md)) (W6 (ops.map (jI md)) ops.length [] (List.range ops.length))
def jD:List Oper->List (List Nat)->List (List Nat)
  | [],acc=>acc
  | o::ops,acc=>jD ops (acc++[(jR o++(jR o).flatMap fun e=>acc.getD e []).eraseDups])
def aX:AI->List aJ
  | .mov x=>[x] | .pick c a b=>[c,a,b] | .alloc _=>[] | .box x=>[x] | .load _ _ x=>[x] | .store _ x v=>[x,v] | .nilc x=>[x] | .isnil _ _ x=>[x] | .mpx _ _ x k=>[x,k]
  | .bin _ x y=>[x,y] | .binb _ x y=>[x,y] | .eqs _ _ x y=>[x,y] | .un _ x=>[x] | .conv _ x=>[x] | .cvid x=>[x] | .cvbs x=>[x]
  | .addo _ x=>[x] | .fld _ _ _ x=>[x] | .ixA _ _ x i=>[x,i] | .ixL _ x i=>[x,i] | .ixS x i=>[x,i]
  | .slS x l h=>x::(l.toList++h.toList) | .slL _ x l h=>x::(l.toList++h.toList)
  | .bslc _ _ _ ps=>ps.map (·.2) | .build _ ps=>ps.map (·.2.2) | .ext x _=>[x] | .lenS x=>[x] | .lenL x=>[x] | .lenA _=>[]
  | .min2 x y=>[x,y] | .max2 x y=>[x,y] | .mkfn _ cs=>cs | .call _ xs=>xs | .callv x xs=>x::xs | .app _ _ _ x y=>[x,y] | .apps x y=>[x,y] | .mk _ _ _ l c=>[l,c] | .clr _ _ x=>[x] | .cpys d x=>[d,x] | .cvsb x=>[x] | .slA _ _ x l h=>x::(l.toList++h.toList)
def aOu:aJ->Option Nat
  | .t n=>some n
  | _=>none
def lN(o:aY):List Nat:=(aX o.ai).filterMap aOu++(match o.guard with | some (g,_)=>[g] | none=>[])
def Pf:AI->Bool
  | .call _ _=>true
  | .alloc _=>false | .box _=>false | .store _ _ _=>false | .bslc _ _ _ _=>false | .callv _ _=>false | .app _ _ _ _ _=>false | .apps _ _=>false | .mk _ _ _ _ _=>false | .clr _ _ _=>false | .cpys _ _=>false | .cvsb _=>false
  | _=>true
def rF:AI->Bool
  | .load _ _ _=>false | .cvbs _=>false | .ixL _ _ _=>false
  | x=>Pf x
def aCB(x:AI):AI->Bool
  | .alloc _=>true | .box _=>true | .bslc _ _ _ _=>true
  | .call _ _=>true
  | .store _ _ _=>rF x
  | .app _ _ _ _ _=>match x with | .mov _=>true | .slL _ _ _ _=>true | _=>false
  | _=>false
def tT:Option Nat->Option Nat->Bool
  | some d,some e=>d != e
  | _,_=>true
def kM(d:Option Nat)(o:aY):Bool:=match d with | none=>true | some t=>!(lN o).contains t
def wX:AI->Bool
  | .lenL _=>true | .bin _ _ _=>true | .slL _ _ _ _=>true
  | _=>false
def aGe:AI->Bool
  | .app _ _ _ _ _=>true | .call _ _=>true
  | _=>false
def W7(x y:Bool × aY):Bool:=tT x.2.dst y.2.dst&&kM x.2.dst y.2&&kM y.2.dst x.2&&((x.1&&(y.1||aCB x.2.ai y.2.ai))||(!x.1&&y.1&&wX y.2.ai&&aGe x.2.ai))
def isCall:AI->Bool
  | .call _ _=>true
  | _=>false
def W8(l:List aY)(d:Option Nat):Bool:=l.any fun p=>match p.ai,d with
  | .app _ _ _ (.t n) _,some d=>n==d
  | _,_=>false
def oY(c:List (List Nat))(l:List aY):List (Bool × aY):=
  l.zipIdx.map fun (o,i)=>(Pf o.ai&&(!isCall o.ai||!W8 l o.dst)&&(!isCall o.ai||!(List.range l.length).all fun j=>i==j||(c.getD i []).contains j||(c.getD j []).contains i),o)
theorem Ax{c:List (List Nat)}{l:List aY}:(oY c l).map (·.2)=l:=by
  simp only[oY,aQC];exact List.zipIdx_map_fst 0 l
def Ay(c:List (List Nat))(todo:List Nat)(i:Nat):Bool:=todo.all fun j=>!(c.getD i []).contains j
def Fr(c:List (List Nat))(q:List Bool):Nat->List Nat->List Nat
  | 0,_=>[]
  | n+1,todo=>match (todo.find? fun i=>q.getD i false&&Ay c todo i).or (todo.find? (Ay c todo)) with
    | some i=>i::Fr c q n (todo.erase i)
    | none=>[]
def W9(c:List (List Nat))(q late:List Bool):Nat->List Nat->List Nat
  | 0,_=>[]
  | n+1,todo=>match ((todo.find? fun i=>q.getD i false&&!late.getD i false&&Ay c todo i).or (todo.find? fun i=>!q.getD i false&&Ay c todo i)).or (todo.find? (Ay c todo)) with
    | some i=>i::W9 c q late n (todo.erase i)
    | none=>[]
def oH:Bool × aY:=(false,⟨none,.lenA 0,none⟩)
def mI(p:Nat->Nat->Bool):List Nat->Bool
  | []=>true
  | i::r=>r.all (p i)&&mI p r
def Xa(c:List (List Nat))(ops:List Oper)(l:List (Bool × aY))(ord:List Nat):Bool:=
  ([Region.Mode.text,.gc,.any].all fun md=>uV md ops)&&((List.range l.length).all fun i=>ord.contains i)&&(ord.all fun i=>decide (i < l.length))&&
  mI (fun i j=>i != j&&((c.getD j []).contains i||W7 (l.getD i oH) (l.getD j oH))) ord
def yG(c:List (List Nat))(ops:List Oper)(l:List (Bool × aY))(ord:List Nat):Option (List (Bool × aY)):=
  if Xa c ops l ord then some (ord.map fun i=>l.getD i oH) else none
theorem Mf{L:Nat->Prop}(ops:List Oper)(hcl:∀ (i:Nat) o,ops[i]?=some o->L i->∀ e∈jR o,L e):
    ∀ (i:Nat) o,ops[i]?=some o->(∀ e∈jR o,L e)->∀ j∈(jD ops []).getD i [],L j:=by
  have key:∀ (suf pre:List Oper) (acc:List (List Nat)),pre++suf=ops->pre.length=acc.length->
      (∀ (i:Nat) o,pre[i]?=some o->(∀ e∈jR o,L e)->∀ j∈acc.getD i [],L j)->∀ (i:Nat) o,ops[i]?=some o->(∀ e∈jR o,L e)->∀ j∈(jD suf acc).getD i [],L j:=by
    intro suf
    induction suf with
    | nil=>
      intro pre acc hp hl h i o ho he j hj;simp at hp;subst hp;exact h i o ho he j hj
    | cons o0 suf ih=>
      intro pre acc hp hl h;refine ih (pre++[o0]) _ (by simp[hp]) (by simp[hl]) (fun i o ho he j hj=>?_)
      rcases gR ho with h1 | ⟨h1,rfl⟩
      · have hlt:=aG h1
        rw[aQl,aQu (by omega),<- aQl] at hj;exact h i o h1 he j hj
      · subst h1
        rw[aQl,hl] at hj;simp only[aQA (aQf _),aQZ,List.getElem?_cons_zero,aQP,List.mem_eraseDups,List.mem_append,List.mem_flatMap] at hj;rcases hj with hj | ⟨e,he1,hj⟩
        · exact he j hj
        · have hLe:=he e he1
          by_cases hep:e < pre.length
          · have hpe:pre[e]?=some (pre[e]'hep):=aQi hep
            have hoe:ops[e]?=some (pre[e]'hep):=by rw[<- hp];exact bN hpe
            exact h e _ hpe (hcl e _ hoe hLe) j hj
          · rw[aQl,aQ7 (by omega)] at hj
            simp at hj
  exact key ops [] [] rfl rfl (fun i o h=>by simp at h)
def Fs(ai:AI)(hp:List aC):List aC:=match ai with | .slL _ _ _ _=>[] | _=>hp
def yU(P:Program)(G:aH)(sl:List AV)(hp:List aC)(o:aY)(v:AV):Prop:=
  (yT G ⟨sl,hp⟩ o.guard/\v=.tup [])\/
  (iQ G ⟨sl,hp⟩ o.guard/\(cT G ⟨sl,Fs o.ai hp⟩ o.ai=some v\/∃ f args cargs r,o.ai=.call f args/\QC P G f cargs r/\∀ n,args.map (aK G sl)=cargs.map (cU (cH [] n))/\v=cU (cH [] n) r))
def uW(P:Program)(G:aH)(k:Nat)(f:FuncId)(avs:List AV)(hp:List aC)(T:AV->List aC->Prop):Prop:=
  ∀ F γ (w:World) (vs:Array Value),dB F γ hp w->dY F G->k<=γ.length->lZ F γ avs vs->
    Calls P f vs w fun e w'=>∃ r av os F' γ',e=.returned r/\T av os/\gP k F γ w F' γ' w'/\dB F' γ' (hp++os) w'/\(∀ (id:Nat) (o:OI),γ[id]?=some o->γ'[id]?=some o)/\RV F' γ' av r
def rG(P:Program)(G:aH)(k:Nat)(dst:Option Nat)(ai:AI)(K:AS->Prop)(sl:List AV)(hp:List aC):Prop:=
  match ai with
  | .alloc zero=>K ⟨aO sl dst (.one (.ptr hp.length 0)),hp++[.box (zero.map cI)]⟩
  | .box x=>∃ cs,cellsOf (aK G sl x)=some cs/\K ⟨aO sl dst (.one (.ptr hp.length 0)),hp++[.box cs]⟩
  | .bslc size len zero parts=>∃ es,iB ((List.range (len * size)).map fun i=>cI (zero.getD (i % zero.length) undef)) (parts.map fun (j,x)=>(j * size,size,aK G sl x))=some (jB es.flatten)/\
      (∀ e∈es,e.length=size)/\es.length=len/\K ⟨aO sl dst (.one (.bld hp.length len)),hp++[.arr len size es]⟩
  | .store size x v=>dst=none/\
      ((∃ id off cs vs,aK G sl x=.one (.ptr id off)/\cellsOf (aK G sl v)=some vs/\aI hp id=.box cs/\vs.length=size/\off+size<=cs.length/\K ⟨sl,hp.set id (.box (cN cs off vs))⟩)\/
       (∃ id i s off cap es e ds,aK G sl x=.one (.ept id i s off)/\cellsOf (aK G sl v)=some (jB ds)/\aI hp id=.arr cap s es/\es[i]?=some e/\ds.length=size/\off+size<=e.length/\
          K ⟨sl,hp.set id (.arr cap s (es.set i (e.take off++ds++e.drop (off+size))))⟩))
  | .app size bytes _ s x=>(aK G sl s=cX (.slice none 0 0)/\∃ news,rC hp (aK G sl x)=some news/\(∀ e∈news,e.length=size)/\news.length * bytes<=140737488355328/\
        ∀ cap',news.length<=cap'->K ⟨aO sl dst (.one (.bld hp.length news.length)),hp.map (cJ (·==hp.length))++[.arr cap' size news]⟩)\/
      ∃ id n cap es news,aK G sl s=.one (.bld id n)/\aI hp id=.arr cap size es/\n<=es.length/\rC hp (aK G sl x)=some news/\(∀ e∈news,e.length=size)/\
      (n+news.length) * bytes<=140737488355328/\∀ cap',n+news.length<=cap'->K ⟨aO (sl.map (aZ (·==id))) dst (.one (.bld id (n+news.length))),(hp.map (cJ (·==id))).set id (.arr cap' size (es.take n++news))⟩
  | .call f args=>∃ T,uW P G k f (args.map (aK G sl)) hp T/\(∃ av os,T av os)/\∀ av os,T av os->K ⟨aO sl dst av,hp++os⟩
  | ai=>WR P G k [⟨dst,ai,none⟩] K ⟨sl,hp⟩
def V4(P:Program)(G:aH)(k:Nat)(o:aY)(K:AS->Prop)(st:AS):Prop:=
  (yT G st o.guard/\K ⟨aO st.sl o.dst (.tup []),st.hp⟩)\/(iQ G st o.guard/\rG P G k o.dst o.ai K st.sl st.hp)
def jA(P:Program)(G:aH)(k:Nat)(K:AS->Prop):List (Bool × aY)->AS->Prop
  | [],st=>K st
  | (true,o)::l,st=>∃ v,yU P G st.sl st.hp o v/\jA P G k K l ⟨aO st.sl o.dst v,st.hp⟩
  | (false,o)::l,st=>V4 P G k o (jA P G k K l) st
section
variable {P:Program} {G:aH} {k:Nat} {F:Fz} {γ:List OI} {w:World} {a:Act}
theorem yH{α β:Type}{f g:α->Option β}:∀ (l:List α),(∀ x∈l,f x=g x)->l.mapM f=l.mapM g
  | [],_=>rfl
  | x::l,h=>by rw[aQ2,aQ2,h x aQt,yH l (fun y hy=>h y (aQE _ hy))]
theorem Ec{sl sl':List AV}{hp:List aC}{ai:AI}(h:∀ x∈aX ai,aK G sl x=aK G sl' x):cT G ⟨sl,hp⟩ ai=cT G ⟨sl',hp⟩ ai:=by
  cases ai with
  | slS x l hh=>
    have h1:=h x (by simp[aX]);have h2:l.map (aK G sl)=l.map (aK G sl'):=by cases l with | none=>rfl | some y=>simp[h y (by simp[aX])]
    have h3:hh.map (aK G sl)=hh.map (aK G sl'):=by cases hh with | none=>rfl | some y=>simp[h y (by simp[aX])]
    simp only[cT,h1,h2,h3]
  | slL s x l hh=>
    have h1:=h x (by simp[aX]);have h2:l.map (aK G sl)=l.map (aK G sl'):=by cases l with | none=>rfl | some y=>simp[h y (by simp[aX])]
    have h3:hh.map (aK G sl)=hh.map (aK G sl'):=by cases hh with | none=>rfl | some y=>simp[h y (by simp[aX])]
    simp only[cT,h1,h2,h3]
  | slA n s x l hh=>
    have h1:=h x (by simp[aX]);have h2:l.map (aK G sl)=l.map (aK G sl'):=by cases l with | none=>rfl | some y=>simp[h y (by simp[aX])]
    have h3:hh.map (aK G sl)=hh.map (aK G sl'):=by cases hh with | none=>rfl | some y=>simp[h y (by simp[aX])]
    simp only[cT,h1,h2,h3]
  | build z ps=>
    have:(ps.map fun (o,s,x)=>(o,s,aK G sl x))=ps.map fun (o,s,x)=>(o,s,aK G sl' x):=aQz (fun p hp=>by
      obtain⟨o,s,x⟩:=p;simp only[h x (by simp only[aX,List.mem_map];exact⟨_,hp,rfl⟩)])
    simp only[cT,this]
  | mkfn f cs=>
    have:(cs.mapM fun c=>qV (aK G sl c))=cs.mapM fun c=>qV (aK G sl' c):=yH cs (fun c hc=>by rw[h c (by simpa[aX] using hc)])
    simp only[cT,this]
  | pick c x y=>simp only[cT,h c (by simp[aX]),h x (by simp[aX]),h y (by simp[aX])]
  | bin op x y=>simp only[cT,h x (by simp[aX]),h y (by simp[aX])]
  | binb n x y=>simp only[cT,h x (by simp[aX]),h y (by simp[aX])]
  | eqs n ks x y=>simp only[cT,h x (by simp[aX]),h y (by simp[aX])]
  | ixA n s x y=>simp only[cT,h x (by simp[aX]),h y (by simp[aX])]
  | ixL s x y=>simp only[cT,h x (by simp[aX]),h y (by simp[aX])]
  | ixS x y=>simp only[cT,h x (by simp[aX]),h y (by simp[aX])]
  | min2 x y=>simp only[cT,h x (by simp[aX]),h y (by simp[aX])]
  | max2 x y=>simp only[cT,h x (by simp[aX]),h y (by simp[aX])]
  | mov x=>simp only[cT,h x (by simp[aX])]
  | load g s x=>simp only[cT,h x (by simp[aX])]
  | nilc x=>simp only[cT,h x (by simp[aX])]
  | isnil p n x=>simp only[cT,h x (by simp[aX])]
  | mpx ok z x y=>simp only[cT,h x (by simp[aX]),h y (by simp[aX])]
  | un op x=>simp only[cT,h x (by simp[aX])]
  | conv op x=>simp only[cT,h x (by simp[aX])]
  | cvid x=>simp only[cT,h x (by simp[aX])]
  | cvbs x=>simp only[cT,h x (by simp[aX])]
  | addo o x=>simp only[cT,h x (by simp[aX])]
  | fld g s o x=>simp only[cT,h x (by simp[aX])]
  | ext x n=>simp only[cT,h x (by simp[aX])]
  | lenS x=>simp only[cT,h x (by simp[aX])]
  | lenL x=>simp only[cT,h x (by simp[aX])]
  | _=>rfl
theorem gH{sl sl':List AV}{o:aY}(h:∀ t∈lN o,sl.getD t .junk=sl'.getD t .junk):(∀ x∈aX o.ai,aK G sl x=aK G sl' x)/\(∀ g b,o.guard=some (g,b)->aK G sl (.t g)=aK G sl' (.t g)):=by
  refine⟨fun x hx=>?_,fun g b hg=>?_⟩
  · cases x with
    | t n=>exact h n (by simp only[lN,List.mem_append,List.mem_filterMap];exact .inl ⟨_,hx,rfl⟩)
    | k v=>rfl
    | g n=>rfl
    | f n=>rfl
  · exact h g (by simp[lN,hg])
theorem eU{sl sl':List AV}{hp hp':List aC}{o:aY}(h:∀ t∈lN o,sl.getD t .junk=sl'.getD t .junk)(hg:iQ G ⟨sl,hp⟩ o.guard):iQ G ⟨sl',hp'⟩ o.guard:=by
  obtain⟨_,h2⟩:=gH (G:=G) h;cases hgd:o.guard with
  | none=>trivial
  | some q=>obtain⟨g,b⟩:=q;rw[hgd] at hg;simp only[iQ] at hg ⊢;rw[<- h2 g b hgd];exact hg
theorem mQ{sl sl':List AV}{hp hp':List aC}{o:aY}(h:∀ t∈lN o,sl.getD t .junk=sl'.getD t .junk)(hg:yT G ⟨sl,hp⟩ o.guard):yT G ⟨sl',hp'⟩ o.guard:=by
  obtain⟨_,h2⟩:=gH (G:=G) h;cases hgd:o.guard with
  | none=>rw[hgd] at hg;exact hg
  | some q=>obtain⟨g,b⟩:=q;rw[hgd] at hg;simp only[yT] at hg ⊢;rw[<- h2 g b hgd];exact hg
theorem yU.congr{sl sl':List AV}{hp:List aC}{o:aY}{v:AV}(h:∀ t∈lN o,sl.getD t .junk=sl'.getD t .junk)(hq:yU P G sl hp o v):yU P G sl' hp o v:=by
  obtain⟨h1,h2⟩:=gH (G:=G) h;rcases hq with⟨h3,h4⟩ | ⟨h3,h4⟩
  · exact .inl ⟨mQ h h3,h4⟩
  · refine .inr ⟨eU h h3, ?_⟩
    rcases h4 with h4 | ⟨f,args,cargs,r,h5,h6,h7⟩
    · exact .inl (by rw[<- Ec h1];exact h4)
    · refine .inr ⟨f,args,cargs,r,h5,h6,fun n=>⟨?_,(h7 n).2⟩⟩
      rw[<- (h7 n).1];exact aQz (fun x hx=>(h1 x (by rw[h5];exact hx)).symm)
theorem iR{hp:List aC}{ob:aC}{id:Nat}(h:aI hp id≠.dead):aI (hp++[ob]) id=aI hp id:=by
  unfold aI at *;rw[aQl] at h;cases hx:hp[id]? with
  | none=>rw[hx] at h;exact absurd rfl h
  | some y=>rw[aQl,aQl,bN hx,hx]
theorem Mg{hp:List aC}{ob:aC}{g:Bool}{s:Nat}{x v:AV}(h:lB hp g s x=some v):lB (hp++[ob]) g s x=some v:=by
  unfold lB at *;split at h
  · rename_i id o
    have hne:aI hp id≠.dead:=by intro e;rw[e] at h;cases h
    simp only[iR hne];exact h
  · rename_i id i s' o
    have hne:aI hp id≠.dead:=by intro e;rw[e] at h;cases h
    simp only[iR hne];exact h
  · exact h
  · cases h
theorem Mh{hp:List aC}{ob:aC}{x v:AV}(h:mF hp x=some v):mF (hp++[ob]) x=some v:=by
  unfold mF at *;split at h
  · exact h
  · exact h
  · rename_i id n
    have hne:aI hp id≠.dead:=by intro e;rw[e] at h;cases h
    simp only[iR hne];exact h
  · rename_i id k n z
    have hne:aI hp id≠.dead:=by intro e;rw[e] at h;cases h
    simp only[iR hne];exact h
  · cases h
theorem Sz{hp:List aC}{ob:aC}{s:Nat}{x v:AV}{i:Int}(h:uM hp s x i=some v):uM (hp++[ob]) s x i=some v:=by
  unfold uM at *;split at h
  · exact h
  · rename_i id n
    have hne:aI hp id≠.dead:=by intro e;rw[e] at h;cases h
    simp only[iR hne];exact h
  · rename_i id k n z
    have hne:aI hp id≠.dead:=by intro e;rw[e] at h;cases h
    simp only[iR hne];exact h
  · cases h
theorem S0{hp:List aC}{ob:aC}{s:Nat}{x v:AV}{l r:Option AV}(h:kJ hp s x l r=some v):kJ (hp++[ob]) s x l r=some v:=by
  unfold kJ at *;split at h
  · exact h
  · exact h
  · rename_i id n
    have hne:aI hp id≠.dead:=by intro e;rw[e] at h;cases h
    simp only[iR hne];exact h
  · rename_i id k n z
    have hne:aI hp id≠.dead:=by intro e;rw[e] at h;cases h
    simp only[iR hne];exact h
  · cases h
theorem Xb{sl:List AV}{hp:List aC}{ob:aC}{ai:AI}{v:AV}(h:cT G ⟨sl,hp⟩ ai=some v):cT G ⟨sl,hp++[ob]⟩ ai=some v:=by
  cases ai with
  | load g s x=>exact Mg h
  | cvbs x=>exact Mh h
  | slL s x l r=>exact S0 h
  | ixL s x i=>
    simp only[cT] at h ⊢;cases hi:bP (aK G sl i) with
    | none=>rw[hi] at h;cases h
    | some n=>rw[hi] at h;exact Sz h
  | _=>exact h
theorem Xc{sl:List AV}{hp hp':List aC}{ai:AI}(hh:rF ai=true):cT G ⟨sl,Fs ai hp⟩ ai=cT G ⟨sl,Fs ai hp'⟩ ai:=by
  cases ai<;>first | rfl | (simp[rF] at hh;done)
theorem S1{sl:List AV}{hp:List aC}{ob:aC}{ai:AI}{v:AV}(h:cT G ⟨sl,Fs ai hp⟩ ai=some v):cT G ⟨sl,Fs ai (hp++[ob])⟩ ai=some v:=by
  cases ai<;>first | exact h | exact Xb h
theorem Xd{hp:List aC}{s:Nat}{x v:AV}{l r:Option AV}(h:kJ [] s x l r=some v):kJ hp s x l r=some v:=by
  unfold kJ at *;split at h
  · exact h
  · exact h
  · simp[aI] at h
  · simp[aI] at h
  · cases h
theorem aCC{sl:List AV}{hp:List aC}{ai:AI}{v:AV}(h:cT G ⟨sl,Fs ai hp⟩ ai=some v):cT G ⟨sl,hp⟩ ai=some v:=by
  cases ai<;>first | exact h | exact Xd h
theorem yU.push{sl:List AV}{hp:List aC}{ob:aC}{o:aY}{v:AV}(hq:yU P G sl hp o v):yU P G sl (hp++[ob]) o v:=by
  rcases hq with⟨h3,h4⟩ | ⟨h3,h4⟩
  · exact .inl ⟨mQ (fun _ _=>rfl) h3,h4⟩
  · exact .inr ⟨eU (fun _ _=>rfl) h3,h4.imp S1 id⟩
theorem yU.pushL{sl:List AV}{o:aY}{v:AV}:∀ (os:List aC) {hp:List aC},yU P G sl hp o v->yU P G sl (hp++os) o v
  | [],hp,h=>by simpa using h
  | ob::os,hp,h=>by
    have:=yU.pushL os (hp:=hp++[ob]) h.push;simpa using this
theorem yU.free{sl:List AV}{hp hp':List aC}{o:aY}{v:AV}(hh:rF o.ai=true)(hq:yU P G sl hp o v):yU P G sl hp' o v:=by
  rcases hq with⟨h3,h4⟩ | ⟨h3,h4⟩
  · exact .inl ⟨mQ (fun _ _=>rfl) h3,h4⟩
  · exact .inr ⟨eU (fun _ _=>rfl) h3,h4.imp (fun h=>by rw[<- Xc hh];exact h) id⟩
theorem Xe{sl:List AV}{d:Option Nat}{v:AV}{t:Nat}(h:d≠some t):(aO sl d v)[t]?=sl[t]?:=by
  cases d with
  | none=>rfl
  | some d=>simp only[aO];rw[aQx (fun e=>h (by rw[e]))]
theorem eW{sl:List AV}{d:Option Nat}{v:AV}{o:aY}(h:kM d o=true):∀ t∈lN o,(aO sl d v).getD t .junk=sl.getD t .junk:=by
  intro t ht;rw[aQl,aQl,Xe];intro e;subst e;simp[kM] at h;exact h ht
theorem fR{sl:List AV}{d e:Option Nat}{u v:AV}(h:tT d e=true):aO (aO sl d u) e v=aO (aO sl e v) d u:=by
  cases d with
  | none=>rfl
  | some d=>cases e with
    | none=>rfl
    | some e=>
      simp[tT] at h;simp only[aO];exact List.set_comm _ _ h
theorem Is{sl:List AV}{d:Option Nat}{u:AV}{f:AV->AV}:(aO sl d u).map f=aO (sl.map f) d (f u):=by
  cases d with
  | none=>rfl
  | some d=>simp[aO,aQH]
theorem Xf(p:Nat->Bool)(l:List Value):(l.map cI).map (cF p)=l.map cI:=by
  rw[aQC];exact aQz (fun v _=>by simp[cI,cF,aR.keep])
theorem iS{p:Nat->Bool}{sl:List AV}(x:aJ):aK G (sl.map (aZ p)) x=aZ p (aK G sl x):=by
  cases x with
  | t n=>
    simp only[aK,aQl,aQh];cases sl[n]? with
    | none=>rfl
    | some y=>rfl
  | k v=>
    simp only[aK];unfold Wi;split
    · split
      · simp only[aZ,Xf]
      · rfl
    · rfl
    · simp[cX,aZ,cF,aR.keep]
  | g n=>
    simp only[aK];cases G n with
    | none=>rfl
    | some cs=>simp[aZ,cF,aR.keep]
  | f n=>simp[aK,aZ,cF,aR.keep,keepL]
theorem yI{p:Nat->Bool}{v:AV}{b:Bool}(h:cG v=some b):cG (aZ p v)=some b:=by
  unfold cG at h;split at h
  · simp[aZ,cF,aR.keep];exact h
  · cases h
theorem Mi{p:Nat->Bool}{v:AV}{b:Int}(h:bP v=some b):bP (aZ p v)=some b:=by
  unfold bP at h;split at h
  · simp[aZ,cF,aR.keep];exact h
  · cases h
theorem pT{p:Nat->Bool}{x:Option AV}{t d n:Nat}(h:dI x t d=some n):dI (x.map (aZ p)) t d=some n:=by
  cases x with
  | none=>exact h
  | some v=>
    simp only[dI,aQg] at h ⊢;cases hi:bP v with
    | none=>rw[hi] at h;cases h
    | some i=>rw[hi] at h;rw[Mi hi];exact h
theorem S2{p:Nat->Bool}{s:Nat}{x v:AV}{l r:Option AV}(h:kJ [] s x l r=some v):kJ [] s (aZ p x) (l.map (aZ p)) (r.map (aZ p))=some (aZ p v):=by
  unfold kJ at h;split at h
  · obtain⟨a,h1,h2⟩:=aQX.1 h
    obtain⟨b,h3,h4⟩:=aQX.1 h2;have e:∀ d:DC,aZ p (.one (.dc d))=.one (.dc d):=fun d=>by simp[aZ,cF,aR.keep]
    split at h4
    · injection h4 with h4;subst h4
      rw[e,e];simp only[kJ,pT h1,pT h3,aQq];rw[if_pos (by assumption)]
    · cases h4
  · obtain⟨a,h1,h2⟩:=aQX.1 h
    obtain⟨b,h3,h4⟩:=aQX.1 h2;injection h4 with h4;subst h4;have e:∀ d:DC,aZ p (.one (.dc d))=.one (.dc d):=fun d=>by simp[aZ,cF,aR.keep]
    rw[e];simp only[kJ,pT h1,pT h3,aQq]
  · simp[aI] at h
  · simp[aI] at h
  · cases h
def Xg(ai:AI):Prop:=(∃ x,ai=.mov x)\/∃ s x l h,ai=.slL s x l h
theorem yU.kill{sl:List AV}{hp hp':List aC}{p:Nat->Bool}{o:aY}{v:AV}(hx:Xg o.ai)(hq:yU P G sl hp o v):yU P G (sl.map (aZ p)) hp' o (aZ p v):=by
  rcases hq with⟨h3,rfl⟩ | ⟨h3,h4⟩
  · refine .inl ⟨?_,rfl⟩
    cases hgd:o.guard with
    | none=>rw[hgd] at h3;exact h3
    | some q=>obtain⟨g,b⟩:=q;rw[hgd] at h3;simp only[yT] at h3 ⊢;rw[iS];exact h3.imp yI (fun h=>by rw[h];rfl)
  · refine .inr ⟨?_, ?_⟩
    · cases hgd:o.guard with
      | none=>trivial
      | some q=>obtain⟨g,b⟩:=q;rw[hgd] at h3;simp only[iQ] at h3 ⊢;rw[iS];exact yI h3
    · rcases h4 with h4 | ⟨f,args,cargs,r,h5,_⟩
      · left
        rcases hx with⟨x,hx⟩ | ⟨s,x,l,r,hx⟩
        · rw[hx] at h4 ⊢
          simp only[cT,Option.some.injEq] at h4 ⊢;rw[<- h4,iS]
        · rw[hx] at h4 ⊢
          have:=S2 (p:=p) h4;simp only[cT,Fs,iS];rw[Option.map_map,Option.map_map] at this;have e:(aZ p ∘ aK G sl)=aK G (sl.map (aZ p)):=by funext y;simp only[Function.comp,iS]
          rw[e] at this;exact this
      · rcases hx with⟨x,hx⟩ | ⟨s,x,l,r,hx⟩<;>(rw[hx] at h5;cases h5)
theorem S3{o:Oper}{e:Nat}:e∈jR o↔∃ x,x∈o.after/\Region.binds .any x=true/\x.on=e:=by
  simp only[jR,List.mem_map,List.mem_filter,Array.mem_toList_iff];constructor
  · rintro⟨x,⟨h1,h2⟩,h3⟩;exact⟨x,h1,h2,h3⟩
  · rintro⟨x,h1,h2,h3⟩;exact⟨x,⟨h1,h2⟩,h3⟩
theorem S4{md:Region.Mode}{e:Edge}(h:Region.binds .any e=true):Region.binds md e=true:=by
  unfold Region.binds at *;split at h<;>simp_all
theorem lI{md:Region.Mode}{opsA:Array Oper}{listed:Array Bool}(hsz:listed.size=opsA.size){i:Nat}(h:i∈Region.ready md opsA listed):
    i < opsA.size/\listed.getD i false=false/\∃ o,opsA[i]?=some o/\∀ e∈jR o,listed.getD e false=true:=by
  obtain⟨h1,o,ho,h2⟩:=mem_ready.1 h;have hlt:i < opsA.size:=(Array.getElem?_eq_some_iff.1 ho).1;refine⟨hlt, ?_,o,ho,fun e he=>?_⟩
  · have:listed[i]?=some (listed[i]'(by omega)):=aQI (by omega)
    rw[aRp,this] at h1 ⊢;exact h1
  · obtain⟨x,hx,hb,rfl⟩:=S3.1 he
    exact h2 x hx (S4 hb)
theorem rH{md:Region.Mode}{opsA:Array Oper}{listed:Array Bool}(hsz:listed.size=opsA.size){i:Nat}{o:Oper}(hlt:i < opsA.size)(h1:listed.getD i false=false)(ho:opsA[i]?=some o)
    (h2:∀ e∈jI md o,listed.getD e false=true):i∈Region.ready md opsA listed:=by
  refine mem_ready.2 ⟨?_,o,ho,fun x hx hb=>h2 _ (by simp only[jI,List.mem_map,List.mem_filter,Array.mem_toList_iff];exact⟨x,⟨hx,hb⟩,rfl⟩)⟩
  have:listed[i]?=some (listed[i]'(by omega)):=aQI (by omega);rw[aRp,this] at h1 ⊢;exact h1
theorem V4.mono{o:aY}{K K':AS->Prop}{st:AS}(hk:∀ s,K s->K' s)(h:V4 P G k o K st):V4 P G k o K' st:=by
  rcases h with⟨h1,h2⟩ | ⟨h1,h2⟩
  · exact .inl ⟨h1,hk _ h2⟩
  · refine .inr ⟨h1, ?_⟩
    obtain⟨dst,ai,gd⟩:=o;cases ai with
    | alloc z=>exact hk _ h2
    | box x=>obtain⟨cs,h3,h4⟩:=h2;exact⟨cs,h3,hk _ h4⟩
    | bslc s n z ps=>obtain⟨es,h3,h4,h5,h6⟩:=h2;exact⟨es,h3,h4,h5,hk _ h6⟩
    | store s x v=>
      obtain⟨h3,h4⟩:=h2;refine⟨h3, ?_⟩;rcases h4 with⟨id,off,cs,vs,g1,g2,g3,g4,g5,g6⟩ | ⟨id,i,s',off,cap,es,e,ds,g1,g2,g3,g4,g5,g6,g7⟩
      · exact .inl ⟨id,off,cs,vs,g1,g2,g3,g4,g5,hk _ g6⟩
      · exact .inr ⟨id,i,s',off,cap,es,e,ds,g1,g2,g3,g4,g5,g6,hk _ g7⟩
    | app s b z x y=>
      rcases h2 with⟨g1,news,g4,g5,g6,g7⟩ | ⟨id,n,cap,es,news,g1,g2,g3,g4,g5,g6,g7⟩
      · exact .inl ⟨g1,news,g4,g5,g6,fun c hc=>hk _ (g7 c hc)⟩
      · exact .inr ⟨id,n,cap,es,news,g1,g2,g3,g4,g5,g6,fun c hc=>hk _ (g7 c hc)⟩
    | call f args=>obtain⟨T,h3,hne,h4⟩:=h2;exact⟨T,h3,hne,fun av os ht=>hk _ (h4 av os ht)⟩
    | _=>exact WR.mono h2 hk
theorem rG.swap{x y:aY}{K:AS->Prop}{sl:List AV}{hp:List aC}{v:AV}(hd:tT x.dst y.dst=true)(h1:kM x.dst y=true)(h2:kM y.dst x=true)(hc:aCB x.ai y.ai=true)
    (hq:yU P G sl hp x v) (h:rG P G k y.dst y.ai K (aO sl x.dst v) hp):
    rG P G k y.dst y.ai (fun s=>∃ v',yU P G s.sl s.hp x v'/\K ⟨aO s.sl x.dst v',s.hp⟩) sl hp:=by
  have hr:=(gH (G:=G) (eW (sl:=sl) (v:=v) h1)).1;obtain⟨ydst,yai,yg⟩:=y;simp only at hr hd h2 hc h ⊢;cases yai with
  | alloc z=>
    refine⟨v,(hq.push).congr (fun t ht=>(eW h2 t ht).symm), ?_⟩
    simp only;rw[<- fR hd];exact h
  | box a=>
    obtain⟨cs,h3,h4⟩:=h;rw[hr a (by simp[aX])] at h3;refine⟨cs,h3,v,(hq.push).congr (fun t ht=>(eW h2 t ht).symm), ?_⟩
    simp only;rw[<- fR hd];exact h4
  | bslc s n z ps=>
    obtain⟨es,h3,h4,h5,h6⟩:=h;have hps:(ps.map fun (j,x')=>(j * s,s,aK G (aO sl x.dst v) x'))=ps.map fun (j,x')=>(j * s,s,aK G sl x'):=
      aQz (fun p hp=>by
        obtain⟨j,x'⟩:=p;simp only[hr x' (by simp only[aX,List.mem_map];exact⟨_,hp,rfl⟩)])
    rw[hps] at h3;refine⟨es,h3,h4,h5,v,(hq.push).congr (fun t ht=>(eW h2 t ht).symm), ?_⟩
    simp only;rw[<- fR hd];exact h6
  | store s a b=>
    obtain⟨h3,h4⟩:=h;refine⟨h3, ?_⟩;rcases h4 with⟨id,off,cs,vs,g1,g2,g3,g4,g5,g6⟩ | ⟨id,i,s',off,cap,es,e,ds,g1,g2,g3,g4,g5,g6,g7⟩
    · rw[hr a (by simp[aX])] at g1
      rw[hr b (by simp[aX])] at g2;exact .inl ⟨id,off,cs,vs,g1,g2,g3,g4,g5,v,hq.free hc,g6⟩
    · rw[hr a (by simp[aX])] at g1
      rw[hr b (by simp[aX])] at g2;exact .inr ⟨id,i,s',off,cap,es,e,ds,g1,g2,g3,g4,g5,g6,v,hq.free hc,g7⟩
  | app s b z a c=>
    have hmov:Xg x.ai/\rF x.ai=true:=by
      simp only[aCB] at hc;split at hc
      · rename_i q h;exact⟨.inl ⟨q,h⟩,by rw[h];rfl⟩
      · rename_i s x l r h;exact⟨.inr ⟨s,x,l,r,h⟩,by rw[h];rfl⟩
      · cases hc
    obtain⟨hmov,hless⟩:=hmov;rcases h with⟨g1,news,g4,g5,g6,g7⟩ | ⟨id,n,cap,es,news,g1,g2,g3,g4,g5,g6,g7⟩
    · rw[hr a (by simp[aX])] at g1
      rw[hr c (by simp[aX])] at g4;refine .inl ⟨g1,news,g4,g5,g6,fun cap' hcap=>⟨v,(hq.free hless).congr (fun t ht=>(eW h2 t ht).symm), ?_⟩⟩
      simp only;rw[<- fR hd];exact g7 cap' hcap
    rw[hr a (by simp[aX])] at g1;rw[hr c (by simp[aX])] at g4;refine .inr ⟨id,n,cap,es,news,g1,g2,g3,g4,g5,g6,fun cap' hcap=>⟨aZ (·==id) v,(hq.kill (hp':=(hp.map (cJ (·==id))).set id (.arr cap' s (es.take n++news))) hmov).congr (fun t ht=>(eW h2 t ht).symm), ?_⟩⟩
    have:=g7 cap' hcap;rw[Is] at this;simp only;rw[<- fR hd];exact this
  | call f args=>
    obtain⟨T,h3,hne,h4⟩:=h;have he:args.map (aK G (aO sl x.dst v))=args.map (aK G sl):=aQz (fun a ha=>hr a (by simpa[aX] using ha))
    rw[he] at h3;refine⟨T,h3,hne,fun av os ht=>⟨v,(hq.pushL os).congr (fun t ht=>(eW h2 t ht).symm), ?_⟩⟩
    simp only;rw[<- fR hd];exact h4 av os ht
  | _=>cases hc
theorem V4.swap{x y:aY}{K:AS->Prop}{st:AS}{v:AV}(hd:tT x.dst y.dst=true)(h1:kM x.dst y=true)(h2:kM y.dst x=true)(hc:aCB x.ai y.ai=true)
    (hq:yU P G st.sl st.hp x v) (h:V4 P G k y K ⟨aO st.sl x.dst v,st.hp⟩):V4 P G k y (fun s=>∃ v',yU P G s.sl s.hp x v'/\K ⟨aO s.sl x.dst v',s.hp⟩) st:=by
  rcases h with⟨h3,h4⟩ | ⟨h3,h4⟩
  · refine .inl ⟨mQ (eW h1) h3,v,hq.congr (fun t ht=>(eW h2 t ht).symm), ?_⟩
    simp only;rw[<- fR hd];exact h4
  · exact .inr ⟨eU (eW h1) h3,rG.swap hd h1 h2 hc hq h4⟩
def uX(G:aH)(sl:List AV)(o:aY)(v:AV):Prop:=
  (yT G ⟨sl,[]⟩ o.guard/\v=.tup [])\/(iQ G ⟨sl,[]⟩ o.guard/\cT G ⟨sl,[]⟩ o.ai=some v)
theorem iH{sl:List AV}{hp:List aC}{o:aY}{v:AV}(hl:wX o.ai=true):yU P G sl hp o v↔uX G sl o v:=by
  have g1:yT G ⟨sl,hp⟩ o.guard↔yT G ⟨sl,[]⟩ o.guard:=by cases o.guard<;>rfl
  have g2:iQ G ⟨sl,hp⟩ o.guard↔iQ G ⟨sl,[]⟩ o.guard:=by cases o.guard<;>rfl
  unfold yU uX;rw[g1,g2];obtain⟨d,ai,g⟩:=o;cases ai<;>first | (cases hl;done) | skip
  all_goals
    constructor
    · rintro (h | ⟨h3,h4 | ⟨f,args,cargs,r,h5,_⟩⟩)
      · exact .inl h
      · exact .inr ⟨h3,h4⟩
      · cases h5
    · rintro (h | ⟨h3,h4⟩)
      · exact .inl h
      · exact .inr ⟨h3,.inl h4⟩
theorem Az{sl:List AV}{o:aY}{v v':AV}(h:uX G sl o v)(h':uX G sl o v'):v=v':=by
  have key:¬ (yT G ⟨sl,[]⟩ o.guard/\iQ G ⟨sl,[]⟩ o.guard):=by
    rintro⟨h1,h2⟩;cases hg:o.guard with
    | none=>rw[hg] at h1;exact h1
    | some q=>
      rw[hg] at h1 h2;obtain⟨g,b⟩:=q;simp only[yT,iQ] at h1 h2;rcases h1 with h1 | h1
      · rw[h1] at h2;cases b<;>simp at h2
      · rw[h1] at h2;simp[cG] at h2
  rcases h with⟨h1,rfl⟩ | ⟨h1,h2⟩
  · rcases h' with⟨_,rfl⟩ | ⟨h3,_⟩
    · rfl
    · exact absurd ⟨h1,h3⟩ key
  · rcases h' with⟨h3,_⟩ | ⟨_,h4⟩
    · exact absurd ⟨h3,h1⟩ key
    · rw[h2] at h4;injection h4
theorem pU{p:Nat->Bool}{a:AV}{d:DC}(h:aZ p a=.one (.dc d)):a=.one (.dc d):=by
  cases a with
  | one c=>
    simp only[aZ,cF,AV.one.injEq] at h;split at h
    · rw[h]
    · cases h
  | _=>simp[aZ] at h
theorem tJ{p:Nat->Bool}{a:AV}{b:Bool}(h:cG (aZ p a)=some b):cG a=some b:=by
  unfold cG at h;split at h
  · rename_i hv;rw[pU hv];exact h
  · cases h
theorem Mj{p:Nat->Bool}{a:AV}(h:aZ p a=.tup []):a=.tup []:=by
  cases a<;>simp[aZ] at h ⊢;exact h
theorem Ft{p:Nat->Bool}{a:AV}{b:Int}(h:bP (aZ p a)=some b):bP a=some b:=by
  unfold bP at h;split at h
  · rename_i hv;rw[pU hv];exact h
  · cases h
theorem mJ{p:Nat->Bool}{x:Option AV}{t d n:Nat}(h:dI (x.map (aZ p)) t d=some n):dI x t d=some n:=by
  cases x with
  | none=>exact h
  | some a=>
    simp only[dI,aQg] at h ⊢;cases ha:bP (aZ p a) with
    | none=>rw[ha] at h;cases h
    | some i=>rw[ha] at h;rw[Ft ha];exact h
theorem Ed{s:Nat}{x v:AV}{l r:Option AV}(h:kJ [] s x l r=some v):∃ d,x=.one (.dc d):=by
  unfold kJ at h;split at h
  · exact⟨_,rfl⟩
  · exact⟨_,rfl⟩
  · simp[aI] at h
  · simp[aI] at h
  · cases h
theorem Xh{sl:List AV}{o:aY}{v:AV}(hl:wX o.ai=true)(h:uX G sl o v)(p:Nat->Bool):aZ p v=v:=by
  have e:∀ d:DC,aZ p (.one (.dc d))=.one (.dc d):=fun d=>by simp[aZ,cF,aR.keep]
  rcases h with⟨_,rfl⟩ | ⟨_,h⟩
  · rfl
  · obtain⟨d,ai,g⟩:=o
    cases ai<;>first | (cases hl;done) | skip
    · simp only[cT,eK] at h
      split at h
      · split at h
        · split at h
          · cases h
          · injection h with h;rw[<- h];exact e _
        · split at h
          · cases h
          · injection h with h;rw[<- h];exact e _
        · split at h
          · obtain⟨u,_,rfl⟩:=Option.map_eq_some_iff.1 h;exact e _
          · cases h
      · obtain⟨u,_,rfl⟩:=Option.map_eq_some_iff.1 h;exact e _
      · cases h
    · simp only[cT] at h
      obtain⟨d,hd⟩:=Ed h;rw[hd] at h;unfold kJ at h;split at h
      · obtain⟨_,_,h⟩:=aQX.1 h
        obtain⟨_,_,h⟩:=aQX.1 h;split at h
        · injection h with h;rw[<- h];exact e _
        · cases h
      · obtain⟨_,_,h⟩:=aQX.1 h
        obtain⟨_,_,h⟩:=aQX.1 h;injection h with h;rw[<- h];exact e _
      · simp[aI] at h
      · simp[aI] at h
      · cases h
    · simp only[cT,qI] at h
      split at h
      · injection h with h;rw[<- h];exact e _
      · injection h with h;rw[<- h];exact e _
      · injection h with h;rw[<- h];exact e _
      · injection h with h;rw[<- h];exact e _
      · cases h
theorem Fu{p:Nat->Bool}{a v:AV}(h:qI (aZ p a)=some v):qI a=some v:=by
  cases a with
  | one c=>
    simp only[aZ,cF] at h;split at h
    · exact h
    · simp[qI] at h
  | _=>simp[aZ,qI] at h
theorem It{p:Nat->Bool}{op:BinOp}{a b v:AV}(h:eK op (aZ p a) (aZ p b)=some v):eK op a b=some v:=by
  unfold eK at h;split at h
  · rename_i ha hb;rw[pU ha,pU hb];exact h
  · rename_i ha hb;rw[pU ha,pU hb];exact h
  · cases h
theorem Iu{p:Nat->Bool}{s:Nat}{x v:AV}{l r:Option AV}(h:kJ [] s (aZ p x) (l.map (aZ p)) (r.map (aZ p))=some v):kJ [] s x l r=some v:=by
  obtain⟨d,hd⟩:=Ed h;have hx:=pU hd;subst hx;have e:aZ p (.one (.dc d))=.one (.dc d):=by simp[aZ,cF,aR.keep]
  rw[e] at h;unfold kJ at h ⊢;split at h
  · obtain⟨a,h1,h⟩:=aQX.1 h
    obtain⟨b,h2,h⟩:=aQX.1 h;simp only[mJ h1,mJ h2,aQq];exact h
  · obtain⟨a,h1,h⟩:=aQX.1 h
    obtain⟨b,h2,h⟩:=aQX.1 h;simp only[mJ h1,mJ h2,aQq];exact h
  · simp[aI] at h
  · simp[aI] at h
  · cases h
theorem yJ{p:Nat->Bool}{sl:List AV}{o:aY}{v:AV}(hl:wX o.ai=true)(h:uX G (sl.map (aZ p)) o v):uX G sl o v:=by
  rcases h with⟨h1,rfl⟩ | ⟨h1,h2⟩
  · refine .inl ⟨?_,rfl⟩
    cases hg:o.guard with
    | none=>rw[hg] at h1;exact h1
    | some q=>obtain⟨g,b⟩:=q;rw[hg] at h1;simp only[yT] at h1 ⊢;rw[iS] at h1;exact h1.imp tJ Mj
  · refine .inr ⟨?_, ?_⟩
    · cases hg:o.guard with
      | none=>trivial
      | some q=>obtain⟨g,b⟩:=q;rw[hg] at h1;simp only[iQ] at h1 ⊢;rw[iS] at h1;exact tJ h1
    · obtain⟨d,ai,g⟩:=o
      cases ai<;>first | (cases hl;done) | skip
      · simp only[cT,iS] at h2 ⊢;exact It h2
      · simp only[cT,iS] at h2 ⊢
        have e:∀ l:Option aJ,l.map (aK G (sl.map (aZ p)))=(l.map (aK G sl)).map (aZ p):=fun l=>by cases l<;>simp[iS]
        rw[e,e] at h2;exact Iu h2
      · simp only[cT,iS] at h2 ⊢;exact Fu h2
theorem jA.swapB{x y:aY}{K:AS->Prop}{st:AS}(hd:tT x.dst y.dst=true)(h1:kM x.dst y=true)(h2:kM y.dst x=true)(hl:wX y.ai=true)(hb:aGe x.ai=true)
    (h:V4 P G k x (fun s=>∃ u,yU P G s.sl s.hp y u/\K ⟨aO s.sl y.dst u,s.hp⟩) st):∃ u,yU P G st.sl st.hp y u/\V4 P G k x K ⟨aO st.sl y.dst u,st.hp⟩:=by
  
  have back:∀ {sl:List AV} {w u:AV},uX G (aO sl x.dst w) y u->uX G sl y u:=fun {sl w u} hq=>by
    rw[<- iH (P:=P) (hp:=[]) hl] at hq ⊢;exact hq.congr (fun t ht=>eW h1 t ht)
  rcases h with⟨h3,u,hq,h4⟩ | ⟨h3,h4⟩
  · rw[iH hl] at hq
    refine⟨u,(iH hl).2 (back hq),.inl ⟨mQ (fun t ht=>(eW h2 t ht).symm) h3, ?_⟩⟩
    simp only;rw[fR hd] at h4;exact h4
  · obtain⟨xd,xai,xg⟩:=x
    cases xai<;>first | (cases hb;done) | skip
    case app s b z a c=>
      have ra:∀ u,aK G (aO st.sl y.dst u) a=aK G st.sl a:=fun u=>(gH (G:=G) (eW (sl:=st.sl) (v:=u) h2)).1 a (by simp[aX])
      have rc:∀ u,aK G (aO st.sl y.dst u) c=aK G st.sl c:=fun u=>(gH (G:=G) (eW (sl:=st.sl) (v:=u) h2)).1 c (by simp[aX])
      rcases h4 with⟨g1,news,g4,g5,g6,g7⟩ | ⟨id,n,cap,es,news,g1,g2,g3,g4,g5,g6,g7⟩
      · obtain⟨u,hq,_⟩:=g7 news.length (aQf _)
        rw[iH hl] at hq;have hq0:=back hq;refine⟨u,(iH hl).2 hq0,.inr ⟨eU (fun t ht=>(eW h2 t ht).symm) h3,.inl ⟨by rw[ra];exact g1,news,by rw[rc];exact g4,g5,g6,fun cap' hcap=>?_⟩⟩⟩
        obtain⟨u',hq',hK⟩:=g7 cap' hcap;rw[iH hl] at hq';have:=Az hq0 (back hq');subst this;simp only at hK ⊢;rw[fR hd] at hK;exact hK
      · obtain⟨u,hq,_⟩:=g7 (n+news.length) (aQf _)
        rw[iH hl] at hq;have hq0:=yJ hl (back hq);refine⟨u,(iH hl).2 hq0,.inr ⟨eU (fun t ht=>(eW h2 t ht).symm) h3,.inr ⟨id,n,cap,es,news,by rw[ra];exact g1,g2,g3,by rw[rc];exact g4,g5,g6,fun cap' hcap=>?_⟩⟩⟩
        obtain⟨u',hq',hK⟩:=g7 cap' hcap;rw[iH hl] at hq';have:=Az hq0 (yJ hl (back hq'));subst this;simp only at hK ⊢;rw[Is,Xh hl hq0];rw[fR hd] at hK;exact hK
    case call f args=>
      obtain⟨T,t1,⟨av0,os0,t2⟩,t3⟩:=h4;obtain⟨u,hq,_⟩:=t3 av0 os0 t2;rw[iH hl] at hq;have hq0:=back hq;have he:∀ u,args.map (aK G (aO st.sl y.dst u))=args.map (aK G st.sl):=fun u=>aQz (fun a ha=>(gH (G:=G) (eW (sl:=st.sl) (v:=u) h2)).1 a (by simpa[aX] using ha))
      refine⟨u,(iH hl).2 hq0,.inr ⟨eU (fun t ht=>(eW h2 t ht).symm) h3,T,by rw[he];exact t1,⟨av0,os0,t2⟩,fun av os ht=>?_⟩⟩
      obtain⟨u',hq',hK⟩:=t3 av os ht;rw[iH hl] at hq';have:=Az hq0 (back hq');subst this;simp only at hK ⊢;rw[fR hd] at hK;exact hK
theorem jA.swap{x y:Bool × aY}{K:AS->Prop}{l:List (Bool × aY)}{st:AS}(hc:W7 x y=true)(h:jA P G k K (x::y::l) st):jA P G k K (y::x::l) st:=by
  obtain⟨bx,x⟩:=x;obtain⟨by',y⟩:=y;simp only[W7,aQp,Bool.or_eq_true] at hc;obtain⟨⟨⟨hd,h1⟩,h2⟩,⟨hb,h3⟩ | ⟨⟨⟨hb,hy⟩,hl⟩,hx⟩⟩:=hc
  · subst hb
    obtain⟨v,hv,h⟩:=h;cases by' with
    | true=>
      obtain⟨u,hu,h⟩:=h;refine⟨u,hu.congr (eW h1),v,hv.congr (fun t ht=>(eW h2 t ht).symm), ?_⟩
      simp only;rw[<- fR hd];exact h
    | false=>exact V4.swap hd h1 h2 (h3.resolve_left (by simp)) hv h
  · have hbx:bx=false:=by simpa using hb
    subst hbx;subst hy;exact jA.swapB hd h1 h2 hl hx h
theorem jA.front{y:Bool × aY}{K:AS->Prop}{ys:List (Bool × aY)}:∀ (xs:List (Bool × aY)) (st:AS),(∀ x∈xs,W7 x y=true)->jA P G k K (xs++y::ys) st->jA P G k K (y::(xs++ys)) st
  | [],st,_,h=>h
  | x::xs,st,hc,h=>by
    refine jA.swap (hc x aQt) ?_;obtain⟨b,x⟩:=x;cases b with
    | true=>
      obtain⟨v,hv,h⟩:=h;exact⟨v,hv,jA.front xs _ (fun x' hx'=>hc x' (aQE _ hx')) h⟩
    | false=>exact V4.mono (fun s hs=>jA.front xs s (fun x' hx'=>hc x' (aQE _ hx')) hs) h
theorem wpQ{o:Oper}{a:Act}{w:World}{K:Act->World->Prop}{Q Q':Exit->Act->World->Prop}(hQ:∀ e a w,e≠.normal->Q e a w->Q' e a w)(hh:o.wp P a w K Q):o.wp P a w K Q':=by
  unfold Oper.wp at *;generalize (execOp a.eval o).run P w=r at *;cases r with
  | ok n w'=>
    cases n<;>simp only[Oper.upon] at hh ⊢<;>
      first
        | exact hh
        | exact Calls.mono hh (fun e w'' he=>by
            cases e<;>first | exact he | exact hQ _ _ _ (by simp) he | (obtain⟨a,w,h⟩:=he;exact⟨a,w,hQ _ _ _ (by simp) h⟩))
  | halt x w'=>cases x<;>simp only[Oper.upon] at hh ⊢<;>first | exact hh | exact hQ _ _ _ (by simp) hh
theorem WR.guard{o:aY}{K:AS->Prop}{st:AS}{ai:AI}(hg:iQ G st o.guard)(hai:o.ai=ai)(h:WR P G k [⟨o.dst,ai,none⟩] K st):WR P G k [o] K st:=by
  intro opsA l hc F γ a w hi hs hg' hk QE hq;obtain⟨oper,l',rfl,h1,h2,h3,h4⟩:=mG hc;have hl:l'=[]:=by
    cases l' with
    | nil=>rfl
    | cons o' l'=>
      exfalso;simp only[bA] at h4;cases g1:cC P opsA o' with
      | none=>simp[g1] at h4
      | some y=>cases g2:bA P opsA l' with
        | none=>simp[g1,g2] at h4
        | some r=>simp[g1,g2] at h4
  subst hl;have hc2:bA P opsA [{ oper with guard:=none }]=some [⟨o.dst,ai,none⟩]:=by
    simp only[bA,cC,aQX,Option.map_eq_some_iff];refine⟨⟨o.dst,ai,none⟩,⟨ai, ?_,none,rfl,by simp[h3]⟩,[],rfl,rfl⟩;rw[<- hai];exact h1
  have:=h opsA _ hc2 F γ a w hi hs hg' hk QE hq;simp only[wpList] at this ⊢;rw[(mP (b':=true) hs h2).1 hg,if_pos rfl];have hw:Region.wanted { oper with guard:=none } (yielded opsA a.tmps)=true:=rfl
  rw[if_pos hw] at this;exact this
theorem WR.callA{o:aY}{rest:List aY}{K:AS->Prop}{st:AS}{f:FuncId}{args:List aJ}{T:AV->List aC->Prop}(hgd:iQ G st o.guard)(ha:o.ai=.call f args)
    (hac:uW P G k f (args.map (aK G st.sl)) st.hp T) (h:∀ av os,T av os->WR P G k rest K ⟨aO st.sl o.dst av,st.hp++os⟩):WR P G k (o::rest) K st:=by
  refine WR.step hgd (fun F γ a w oper hc hd hi hs hg hk=>?_)
  rw[ha] at hc;obtain⟨c,hop,hcal,rfl,hok⟩:=uT hc;obtain⟨dst,op,type,pos,after,guard⟩:=oper;simp only at hop;subst hop;have hv:=uU (G:=G) hs hg c.args;refine .inr ⟨f,c.args.map a.eval, ?_,(hac F γ w _ hi hg hk hv).mono ?_⟩
  · simp[execOp,resolve,hcal,Act.eval,Deferred.ofValue,invoke,kL hok]
  · rintro e w' ⟨r,av,os,F',γ',rfl,hT,hE,hI,hx,hR⟩
    refine⟨r,_,F',γ',rfl,h av os hT,hE,hI,(hs.ext hE.sub hx).put _ hR, ?_⟩;have h1:=hi.len;have h2:=hI.len;rw[aQc] at h2;omega
theorem uW.of{f:FuncId}{cargs avs:List AV}{hp:List aC}{Qc:AV->List aC->Prop}(hac:AC P G f cargs [] Qc)(hargs:avs=cargs.map (cU (cH [] hp.length))):
    uW P G k f avs hp (fun av os=>∃ av0 os0,Qc av0 os0/\av=cU (cH [] hp.length) av0/\os=os0.map (fQ (cH [] hp.length))):=by
  intro F γ w vs hi hg hk hv;have hln:=hi.len;have hρ:∀ t,cH [] hp.length t=γ.length+t:=fun t=>by simp[cH,hln]
  have hnone:∀ (id:Nat) (o:OI),γ[cH [] hp.length id]?=some o->([]:List OI)[id]?=some o:=fun id o h=>by
    rw[hρ,aQ7 (by omega)] at h;cases h
  have hv0:lZ F [] cargs vs:=by
    rw[hargs] at hv;refine⟨by rw[hv.1];simp,fun i av v h1 h2=>?_⟩
    exact RV.unren hnone (hv.2 i _ v (by rw[aQh,h1];rfl) h2)
  have hi0:dB F [] [] w:=⟨hi.fz,rfl,fun i j b h=>by simp[cB] at h,fun i b h=>by simp[cB] at h,fun i o x h=>by simp at h⟩
  refine (hac F [] vs w hi0 hg hv0).mono ?_;rintro e w' ⟨r,av,os,F',γ1,rfl,hQ,_,hE,hI,hR⟩;have hsub:∀ (id:Nat) (o:OI),γ[id]?=some o->(γ++γ1)[id]?=some o:=fun _ _ h=>bN h
  have hren:∀ (id:Nat) (o:OI),γ1[id]?=some o->(γ++γ1)[cH [] hp.length id]?=some o:=fun id o h=>by
    rw[hρ,aQA (by omega)];simpa using h
  have hnew:∀ i b,cB γ1 i=some b->w.heap.size<=b:=fun i b h=>by
    rcases hE.blk i b h with⟨j,hj⟩ | h
    · simp[cB] at hj
    · exact h
  have hsplit:∀ i b,cB (γ++γ1) i=some b->(i < γ.length/\cB γ i=some b)\/(γ.length<=i/\cB γ1 (i - γ.length)=some b):=fun i b h=>by
    obtain⟨y,hy,hyb⟩:=cL h;by_cases hil:i < γ.length
    · rw[aQu hil] at hy;exact .inl ⟨hil,bL hy hyb⟩
    · rw[aQA (by omega)] at hy;exact .inr ⟨by omega,bL hy hyb⟩
  have hfar:∀ b,b < w.heap.size->w'.heap[b]?=w.heap[b]?:=fun b hb=>hE.far b hb (fun i h=>by simp[cB] at h)
  refine⟨r,_,_,F',γ++γ1,rfl,⟨av,os,hQ,rfl,rfl⟩, ?_, ?_,hsub,hR.ren hren⟩
  · refine⟨hE.sub,hE.os,hE.tape,hE.output,hE.size,fun b hb _=>hfar b hb,fun b o h=>?_,fun i b h=>?_,fun i _ b h=>hsub _ _ h⟩
    · rcases hE.new b o h with h1 | h1 | ⟨i,h1⟩
      · exact .inl h1
      · exact .inr (.inl h1)
      · simp[cB] at h1
    · rcases hsplit i b h with⟨_,h1⟩ | ⟨_,h1⟩
      · exact .inl ⟨i,h1⟩
      · exact .inr (hnew _ b h1)
  · refine⟨hI.fz,by have:=hI.len;simp[hln,this],fun i j b h1 h2=>?_,fun i b h=>?_,fun i o x h1 h2=>?_⟩
    · rcases hsplit i b h1 with⟨a1,b1⟩ | ⟨a1,b1⟩<;>rcases hsplit j b h2 with⟨a2,b2⟩ | ⟨a2,b2⟩
      · exact hi.nd i j b b1 b2
      · have:=hi.lt b1;have:=hnew _ b b2;omega
      · have:=hi.lt b2;have:=hnew _ b b1;omega
      · have:=hI.nd _ _ b b1 b2;omega
    · rcases hsplit i b h with⟨_,h1⟩ | ⟨_,h1⟩
      · have hlt:=hi.lt h1
        cases hF:F' b with
        | none=>rfl
        | some o=>
          rcases hE.new b o hF with h3 | h3 | ⟨j,h3⟩
          · rw[hi.disj i b h1] at h3;cases h3
          · omega
          · simp[cB] at h3
      · exact hI.disj _ b h1
    · by_cases hil:i < γ.length
      · rw[aQu (by omega)] at h1
        rw[aQu hil] at h2;have hok:=hi.ok i o x h1 h2;exact hok.ext hE.sub hsub (fun b hb=>hfar b (hok.lt hb))
      · rw[aQA (by omega),aQh] at h1
        rw[aQA (by omega)] at h2;obtain⟨o0,h3,rfl⟩:=Option.map_eq_some_iff.1 h1;rw[<- hln] at h3;exact (hI.ok _ o0 x h3 h2).ren hren
theorem rG.run{o:aY}{K:AS->Prop}{st:AS}(hg:iQ G st o.guard)(h:rG P G k o.dst o.ai K st.sl st.hp):WR P G k [o] K st:=by
  cases hai:o.ai with
  | alloc z=>rw[hai] at h;exact WR.alloc hg hai (WR.nil h)
  | box x=>rw[hai] at h;obtain⟨cs,h3,h4⟩:=h;exact WR.box hg hai h3 (WR.nil h4)
  | bslc s n z ps=>rw[hai] at h;obtain⟨es,h3,h4,h5,h6⟩:=h;exact WR.bslc hg hai h3 h4 h5 (WR.nil h6)
  | store s x v=>
    rw[hai] at h;obtain⟨h3,h4⟩:=h;rcases h4 with⟨id,off,cs,vs,g1,g2,g3,g4,g5,g6⟩ | ⟨id,i,s',off,cap,es,e,ds,g1,g2,g3,g4,g5,g6,g7⟩
    · exact WR.store hg hai h3 g1 g2 g3 g4 g5 (WR.nil g6)
    · exact WR.storeE hg hai h3 g1 g2 g3 g4 g5 g6 rfl (WR.nil g7)
  | app s b z x y=>
    rw[hai] at h;rcases h with⟨g1,news,g4,g5,g6,g7⟩ | ⟨id,n,cap,es,news,g1,g2,g3,g4,g5,g6,g7⟩
    · exact WR.appNil hg hai g1 g4 g5 g6 (fun c hc=>WR.nil (g7 c hc))
    · exact WR.app hg hai g1 g2 g3 g4 g5 g6 (fun c hc=>WR.nil (g7 c hc))
  | call f args=>
    rw[hai] at h;obtain⟨T,h3,_,h4⟩:=h;exact WR.callA hg hai h3 (fun av os ht=>WR.nil (h4 av os ht))
  | _=>
    rw[hai] at h;exact WR.guard hg hai h
theorem jA.head{y:Bool × aY}{K:AS->Prop}{l:List (Bool × aY)}{st:AS}(h:jA P G k K (y::l) st):WR P G k [y.2] (jA P G k K l) st:=by
  obtain⟨b,o⟩:=y;cases b with
  | true=>
    obtain⟨v,hv,h⟩:=h;rcases hv with⟨h1,rfl⟩ | ⟨h1,h2 | ⟨f,args,cargs,r,h5,h6,h7⟩⟩
    · exact WR.skip h1 (WR.nil h)
    · exact WR.pur h1 (aCC h2) (WR.nil h)
    · exact WR.callQ h1 h5 h6 (h7 st.hp.length).1 (WR.nil (by rw[<- (h7 st.hp.length).2];exact h))
  | false=>
    rcases h with⟨h1,h2⟩ | ⟨h1,h2⟩
    · exact WR.skip h1 (WR.nil h2)
    · exact rG.run h1 h2
theorem WR.op{o:aY}{K:AS->Prop}{st:AS}{opsA:Array Oper}{i:Nat}{oper:Oper}{QE:Exit->Act->World->Prop}{NX:Act->World->Prop}(h:WR P G k [o] K st)(hoi:opsA[i]?=some oper)(hco:cC P opsA oper=some o)
    (hi:dB F γ st.hp w) (hs:bT F γ st.sl a) (hg:dY F G) (hk:k<=γ.length)
    (hN:∀ a' w' F' γ' st',K st'->gP k F γ w F' γ' w'->dB F' γ' st'.hp w'->bT F' γ' st'.sl a'->k<=γ'.length->NX a' w'):wpOp P opsA QE i NX a w:=by
  have:=h opsA [oper] (by simp[bA,hco]) F γ a w hi hs hg hk (fun e a w=>match e with | .normal=>NX a w | e=>QE e a w) hN
  unfold wpOp;rw[hoi];simp only[wpList] at this ⊢;split
  · rename_i hw
    rw[if_pos hw] at this;rcases this with h1 | ⟨h1,a',w',h2⟩
    · exact .inl (wpQ (fun e a w hne h=>by cases e<;>first | exact absurd rfl hne | exact h) h1)
    · exact .inr ⟨h1,a',w',h2⟩
  · rename_i hw
    rw[if_neg hw] at this;exact this
theorem uY{p:Nat->Nat->Bool}:∀ (l:List Nat),mI p l=true->l.Pairwise fun i j=>p i j=true
  | [],_=>List.Pairwise.nil
  | i::r,h=>by
    simp only[mI,aQp] at h;exact List.Pairwise.cons (fun j hj=>aRl.1 h.1 j hj) (uY r h.2)
theorem Xi{id:Nat}{opsA:Array Oper}{l lp:List (Bool × aY)}{ord:List Nat}{K:AS->Prop}{st:AS}(hc:bA P opsA opsA.toList=some (l.map (·.2)))
    (hd:yG (jD opsA.toList []) opsA.toList l ord=some lp) (hw:jA P G k K lp st) (hi:dB F γ st.hp w) (hs:bT F γ st.sl a) (hg:dY F G) (hk:k<=γ.length)
    {QE:Exit->Act->World->Prop} (hQ:∀ a' w' F' γ' st',K st'->gP k F γ w F' γ' w'->dB F' γ' st'.hp w'->bT F' γ' st'.sl a'->k<=γ'.length->QE .normal a' w'):(Code.region id opsA true).wp P QE a w:=by
  refine wp_region_draw fun t=>?_
  suffices hmd:∀ md:Region.Mode,wpAny P md opsA QE opsA.size (Array.replicate opsA.size false) a { w with drawn:=w.drawn+1 } by
    unfold Region.schedule;split
    · exact wpAny_sound opsA.size t _ a _ (hmd _)
    · exact wpAny_sound opsA.size (t / 2) _ a _ (hmd _)
  intro md;unfold yG at hd;split at hd
  · rename_i hok
    injection hd with hd
    subst hd;simp only[Xa,aQp] at hok;obtain⟨⟨⟨hb0,hall0⟩,hlt0⟩,hpr⟩:=hok;have hpw:=uY _ hpr;have comp:∀ (ops:List Oper) (l:List aY),bA P opsA ops=some l->ops.length=l.length/\∀ (i:Nat) o x,ops[i]?=some o->l[i]?=some x->cC P opsA o=some x:=by
      intro ops
      induction ops with
      | nil=>intro l h;simp[bA] at h;subst h;exact⟨rfl,fun i o x h=>by simp at h⟩
      | cons o ops ih=>
        intro l h;simp only[bA] at h;cases h1:cC P opsA o with
        | none=>simp[h1] at h
        | some y=>cases h2:bA P opsA ops with
          | none=>simp[h1,h2] at h
          | some r=>
            simp[h1,h2] at h;subst h;obtain⟨i1,i2⟩:=ih r h2;refine⟨by simp[i1],fun i o' x' ho hx=>?_⟩
            cases i with
            | zero=>simp at ho hx;subst ho;subst hx;exact h1
            | succ i=>exact i2 i o' x' (by simpa using ho) (by simpa using hx)
    obtain⟨hlen,hcomp⟩:=comp _ _ hc;have hN:opsA.size=l.length:=by simpa using hlen
    have hop:∀ (i:Nat) oper,opsA[i]?=some oper->cC P opsA oper=some (l.getD i oH).2:=by
      intro i oper h;have hlt:i < l.length:=by rw[<- hN];exact (Array.getElem?_eq_some_iff.1 h).1
      refine hcomp i oper _ (by simpa using h) ?_;rw[aQh,aQi hlt,aQl,aQi hlt];rfl
    have htop:uV md opsA.toList=true:=by
      have:=aRl.1 hb0 md (by cases md<;>simp);exact this
    simp only[uV,Pe,aQp] at htop;generalize W6 (opsA.toList.map (jI md)) opsA.toList.length [] (List.range opsA.toList.length)=tord at htop;obtain⟨⟨ht1,ht3⟩,ht2⟩:=htop;have hrange:∀ (i:Nat) o,opsA[i]?=some o->∀ e∈jI md o,e < opsA.size:=by
      intro i o ho e he;have h1:=aRl.1 ht3 (jI md o) (List.mem_map.2 ⟨o,by
        rw[Array.mem_toList_iff];exact aRE ho,rfl⟩)
      simpa using aRl.1 h1 e he
    have htall:∀ (listed:Array Bool),listed.size=opsA.size->Region.ready md opsA listed=[]->∀ (r done:List Nat),rE (opsA.toList.map (jI md)) r done=true->(∀ j∈done,j < opsA.size->listed.getD j false=true)->∀ j∈r,j < opsA.size->listed.getD j false=true:=by
      intro listed hsz hno r
      induction r with
      | nil=>intro done _ _ j hj;cases hj
      | cons i r ih=>
        intro done h hd j hj hlt;simp only[rE,aQp] at h;have hi0:i < opsA.size->listed.getD i false=true:=by
          intro hil;cases hlj:listed.getD i false with
          | true=>rfl
          | false=>
            exfalso;have hoi:opsA[i]?=some opsA[i]:=aQI hil;have:i∈Region.ready md opsA listed:=rH hsz hil hlj hoi (fun e he=>by
              have h3:=aRl.1 h.1 e (by
                rw[aQl,aQh];simp only[aQ3,hoi,aQg,aQP];exact he)
              have hmem:e∈done:=by simpa using h3
              exact hd e hmem (hrange i _ hoi e he))
            rw[hno] at this;cases this
        rcases List.mem_cons.1 hj with rfl | hj
        · exact hi0 hlt
        · exact ih (i::done) h.2 (fun q hq hql=>by
            rcases List.mem_cons.1 hq with rfl | hq
            · exact hi0 hql
            · exact hd q hq hql) j hj hlt
    have main:∀ (fuel:Nat) (listed:Array Bool) (a:Act) (w':World) (F':Fz) (γ':List OI) (U:List Nat) (st:AS),listed.size=opsA.size->(∀ i,i < opsA.size->(listed.getD i false=false↔i∈U))->(∀ i∈U,i < opsA.size)->
        (U.Pairwise fun i j=>(i != j&&(((jD opsA.toList []).getD j []).contains i||W7 (l.getD i oH) (l.getD j oH)))=true)->
        (∀ (i:Nat) o,opsA[i]?=some o->listed.getD i false=true->∀ e∈jR o,listed.getD e false=true)->U.length<=fuel->
        gP k F γ w F' γ' w'->dB F' γ' st.hp w'->bT F' γ' st.sl a->k<=γ'.length->jA P G k K (U.map fun i=>l.getD i oH) st->wpAny P md opsA QE fuel listed a w':=by
      intro fuel
      induction fuel with
      | zero=>
        intro listed a w' F' γ' U st hsz hU hUl hpw hcl hf hE hI hS hk' hA;have hnil:U=[]:=aRf (by omega);subst hnil;refine⟨?_,hQ a w' F' γ' st hA hE hI hS hk'⟩;rw[List.eq_nil_iff_forall_not_mem];intro i hi;obtain⟨h1,h2,_⟩:=lI hsz hi;have:=(hU i h1).1 h2;simp at this
      | succ fuel ih=>
        intro listed a w' F' γ' U st hsz hU hUl hpw hcl hf hE hI hS hk' hA;refine⟨fun hno=>?_,fun i hi=>?_⟩
        · have hz:∀ j,j < opsA.size->listed.getD j false=true:=by
            intro j hj;refine htall listed hsz hno tord [] ht1 (fun j hj=>by cases hj) j ?_ hj
            have:=aRl.1 ht2 j (by simpa using hj);simpa using this
          cases U with
          | nil=>exact hQ a w' F' γ' st hA hE hI hS hk'
          | cons u U=>
            have h1:=hUl u aQt;have:=(hU u h1).2 aQt;rw[hz u h1] at this;cases this
        · obtain⟨h1,h2,oper,hoi,he⟩:=lI hsz hi
          have hclo:∀ j∈(jD opsA.toList []).getD i [],listed.getD j false=true:=
            Mf (L:=fun j=>listed.getD j false=true) opsA.toList (fun i o h=>hcl i o (by simpa using h)) i oper (by simpa using hoi) he
          obtain⟨R1,R2,rfl⟩:=List.append_of_mem ((hU i h1).1 h2);have hpw2:=List.pairwise_append.1 hpw;have hfront:jA P G k K ((l.getD i oH)::(R1.map (fun i=>l.getD i oH)++R2.map fun i=>l.getD i oH)) st:=by
            refine jA.front _ _ (fun x hx=>?_) (by simpa using hA)
            obtain⟨r,hr,rfl⟩:=List.mem_map.1 hx;have h3:=hpw2.2.2 r hr i aQt;simp only[aQp,Bool.or_eq_true,List.contains_iff_mem] at h3;rcases h3.2 with h4 | h4
            · have h5:=hclo r h4
              have h6:=(hU r (hUl r (by simp[hr]))).2 (by simp[hr]);rw[h5] at h6;cases h6
            · exact h4
          rw[<- aQL] at hfront;refine WR.op (jA.head hfront) hoi (hop i oper hoi) hI hS (hg.sub hE.sub) hk' (fun a'' w'' F'' γ'' st'' q1 q2 q3 q4 q5=>?_)
          have hnd:i∉R1/\i∉R2:=by
            refine⟨fun h=>?_,fun h=>?_⟩
            · have:=hpw2.2.2 i h i aQt
              simp at this
            · have:=(List.pairwise_cons.1 hpw2.2.1).1 i h
              simp at this
          refine ih _ a'' w'' F'' γ'' (R1++R2) st'' (by simpa using hsz) (fun j hj=>?_) (fun j hj=>hUl j (by simp at hj ⊢;rcases hj with h | h<;>simp[h])) ?_ (fun j oj hoj hj e hee=>?_) (by simp at hf ⊢;omega) (hE.trans q2) q3 q4 q5 q1
          · by_cases hij:i=j
            · subst hij
              rw[show (listed.setIfInBounds i true).getD i false=true by rw[aRp,aRL (by omega)];rfl];simp[hnd]
            · rw[getD_set_ne false hij,hU j hj]
              simp[Ne.symm hij]
          · exact hpw.sublist (by simp)
          · by_cases hij:i=j
            · subst hij
              rw[hoi] at hoj;injection hoj with hoj;subst hoj
              exact getD_set_true (he e hee)
            · rw[getD_set_ne false hij] at hj
              exact getD_set_true (hcl j oj hoj hj e hee)
    have hrep:∀ j,(Array.replicate opsA.size false).getD j false=false:=by
      intro j;rw[aRp];by_cases hjs:j < opsA.size<;>simp[hjs]
    have hlo:ord.length<=opsA.size:=by
      have hnd:ord.Nodup:=hpw.imp (fun h e=>by simp[e] at h)
      have:=List.Nodup.length_le_of_subset hnd (l₂:=List.range l.length) (fun i hi=>by
        have:=aRl.1 hlt0 i hi;simpa using this)
      simpa[hN] using this
    exact main opsA.size (Array.replicate opsA.size false) a { w with drawn:=w.drawn+1 } F γ ord st (by simp) (fun i hi=>by
        rw[hrep];have:=aRl.1 hall0 i (by simpa[<- hN] using hi);simpa using this) (fun i hi=>by
        have:=aRl.1 hlt0 i hi;rw[hN];simpa using this) hpw (fun i o ho hl=>by rw[hrep] at hl;cases hl) hlo (gP.drawn _ _ _ _ _) (hi.drawn _) hs hk hw
  · cases hd
end
end Go.Proofs.YtcplecjhmnblpaaGreatDoor
