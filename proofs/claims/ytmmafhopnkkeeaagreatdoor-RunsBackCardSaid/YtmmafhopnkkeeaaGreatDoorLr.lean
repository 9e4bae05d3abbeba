/- A region whose order is drawn: operations that don't touch each other may change places. Conditions: none. -/
import Derived.Test.YtmmafhopnkkeeaaGreatDoorLo
namespace Go.Proofs.YtmmafhopnkkeeaaGreatDoor
def edgesOf (o:Oper):List Nat:=(o.after.toList.filter (Region.binds .any)).map (·.on)
def edgesM (md:Region.Mode) (o:Oper):List Nat:=(o.after.toList.filter (Region.binds md)).map (·.on)
def kahn (E:List (List Nat)):Nat→List Nat→List Nat→List Nat
  | 0,_,_=>[]
  | n+1,done,todo=>match todo.find? fun i=>(E.getD i []).all done.contains with
    | some i=>i::kahn E n (i::done) (todo.erase i)
    | none=>[]
def topoOK (E:List (List Nat)):List Nat→List Nat→Bool
  | [],_=>true
  | i::r,done=>((E.getD i []).all fun e=>done.contains e)&&topoOK E r (i::done)
def topoE (n:Nat) (E:List (List Nat)) (o:List Nat):Bool:=topoOK E o []&&(E.all fun l=>l.all fun e=>decide (e < n))&&(List.range n).all fun i=>o.contains i
def topoM (md:Region.Mode) (ops:List Oper):Bool:=topoE ops.length (ops.map (edgesM md)) (kahn (ops.map (edgesM md)) ops.length [] (List.range ops.length))
def cloL:List Oper→List (List Nat)→List (List Nat)
  | [],acc=>acc
  | o::ops,acc=>cloL ops (acc++[(edgesOf o++(edgesOf o).flatMap fun e=>acc.getD e []).eraseDups])
def argsAI:AI→List AArg
  | .mov x=>[x] | .pick c a b=>[c,a,b] | .alloc _=>[] | .box x=>[x] | .load _ _ x=>[x] | .store _ x v=>[x,v] | .nilc x=>[x] | .isnil _ _ x=>[x] | .mpx _ _ x k=>[x,k]
  | .bin _ x y=>[x,y] | .binb _ x y=>[x,y] | .eqs _ _ x y=>[x,y] | .un _ x=>[x] | .conv _ x=>[x] | .cvid x=>[x] | .cvbs x=>[x]
  | .addo _ x=>[x] | .fld _ _ _ x=>[x] | .ixA _ _ x i=>[x,i] | .ixL _ x i=>[x,i] | .ixS x i=>[x,i] | .ixV _ x i=>[x,i] | .s2p _ x=>[x]
  | .slS x l h=>x::(l.toList++h.toList) | .slL _ x l h=>x::(l.toList++h.toList)
  | .bslc _ _ _ ps=>ps.map (·.2) | .build _ ps=>ps.map (·.2.2) | .ext x _=>[x] | .lenS x=>[x] | .lenL x=>[x] | .lenA _=>[]
  | .min2 x y=>[x,y] | .max2 x y=>[x,y] | .mkfn _ cs=>cs | .call _ xs=>xs | .callv x xs=>x::xs | .app _ _ _ x y=>[x,y] | .apps x y=>[x,y] | .mk _ _ _ l c=>[l,c] | .clr _ _ x=>[x] | .cpys d x=>[d,x] | .cvsb x=>[x] | .slA _ _ x l h=>x::(l.toList++h.toList)
def argT:AArg→Option Nat
  | .t n=>some n
  | _=>none
def readsOp (o:AOp):List Nat:=(argsAI o.ai).filterMap argT++(match o.guard with | some (g,_)=>[g] | none=>[])
def quietAI:AI→Bool
  | .call _ _=>true
  | .alloc _=>false | .box _=>false | .store _ _ _=>false | .bslc _ _ _ _=>false | .callv _ _=>false | .app _ _ _ _ _=>false | .apps _ _=>false | .mk _ _ _ _ _=>false | .clr _ _ _=>false | .cpys _ _=>false | .cvsb _=>false
  | _=>true
def heapless:AI→Bool
  | .load _ _ _=>false | .cvbs _=>false | .ixL _ _ _=>false
  | x=>quietAI x
def effC (x:AI):AI→Bool
  | .alloc _=>true | .box _=>true | .bslc _ _ _ _=>true
  | .call _ _=>true
  | .store _ _ _=>heapless x
  | .app _ _ _ _ _=>match x with | .mov _=>true | .slL _ _ _ _=>true | _=>false
  | _=>false
def apartD:Option Nat→Option Nat→Bool
  | some d,some e=>d != e
  | _,_=>true
def apartR (d:Option Nat) (o:AOp):Bool:=match d with | none=>true | some t=>!(readsOp o).contains t
def lateAI:AI→Bool
  | .lenL _=>true | .bin _ _ _=>true | .slL _ _ _ _=>true
  | _=>false
def backX:AI→Bool
  | .app _ _ _ _ _=>true | .call _ _=>true
  | _=>false
def cmpO (x y:Bool × AOp):Bool:=apartD x.2.dst y.2.dst&&apartR x.2.dst y.2&&apartR y.2.dst x.2&&((x.1&&(y.1||effC x.2.ai y.2.ai))||(!x.1&&y.1&&lateAI y.2.ai&&backX x.2.ai))
def isCall:AI→Bool
  | .call _ _=>true
  | _=>false
def extended (l:List AOp) (d:Option Nat):Bool:=l.any fun p=>match p.ai,d with
  | .app _ _ _ (.t n) _,some d=>n==d
  | _,_=>false
def quietsOf (c:List (List Nat)) (l:List AOp):List (Bool × AOp):=
  l.zipIdx.map fun (o,i)=>(quietAI o.ai&&(!isCall o.ai||!extended l o.dst)&&(!isCall o.ai||!(List.range l.length).all fun j=>i==j||(c.getD i []).contains j||(c.getD j []).contains i),o)
theorem quiets_snd {c:List (List Nat)} {l:List AOp}:(quietsOf c l).map (·.2)=l:=by
  simp only [quietsOf,List.map_map]
  exact List.zipIdx_map_fst 0 l
def readyO (c:List (List Nat)) (todo:List Nat) (i:Nat):Bool:=todo.all fun j=>!(c.getD i []).contains j
def orderO (c:List (List Nat)) (q:List Bool):Nat→List Nat→List Nat
  | 0,_=>[]
  | n+1,todo=>match (todo.find? fun i=>q.getD i false&&readyO c todo i).or (todo.find? (readyO c todo)) with
    | some i=>i::orderO c q n (todo.erase i)
    | none=>[]
def orderL (c:List (List Nat)) (q late:List Bool):Nat→List Nat→List Nat
  | 0,_=>[]
  | n+1,todo=>match ((todo.find? fun i=>q.getD i false&&!late.getD i false&&readyO c todo i).or (todo.find? fun i=>!q.getD i false&&readyO c todo i)).or (todo.find? (readyO c todo)) with
    | some i=>i::orderL c q late n (todo.erase i)
    | none=>[]
def dummyO:Bool × AOp:=(false,⟨none,.lenA 0,none⟩)
def pairsOK (p:Nat→Nat→Bool):List Nat→Bool
  | []=>true
  | i::r=>r.all (p i)&&pairsOK p r
def drawOK (c:List (List Nat)) (ops:List Oper) (l:List (Bool × AOp)) (ord:List Nat):Bool:=
  ([Region.Mode.text,.gc,.any].all fun md=>topoM md ops)&&((List.range l.length).all fun i=>ord.contains i)&&(ord.all fun i=>decide (i < l.length))&&
  pairsOK (fun i j=>i != j&&((c.getD j []).contains i||cmpO (l.getD i dummyO) (l.getD j dummyO))) ord
def drawC (c:List (List Nat)) (ops:List Oper) (l:List (Bool × AOp)) (ord:List Nat):Option (List (Bool × AOp)):=
  if drawOK c ops l ord then some (ord.map fun i=>l.getD i dummyO) else none
theorem clo_ok {L:Nat→Prop} (ops:List Oper) (hcl:∀ (i:Nat) o,ops[i]?=some o→L i→∀ e∈edgesOf o,L e):
    ∀ (i:Nat) o,ops[i]?=some o→(∀ e∈edgesOf o,L e)→∀ j∈(cloL ops []).getD i [],L j:=by
  have key:∀ (suf pre:List Oper) (acc:List (List Nat)),pre++suf=ops→pre.length=acc.length→
      (∀ (i:Nat) o,pre[i]?=some o→(∀ e∈edgesOf o,L e)→∀ j∈acc.getD i [],L j)→∀ (i:Nat) o,ops[i]?=some o→(∀ e∈edgesOf o,L e)→∀ j∈(cloL suf acc).getD i [],L j:=by
    intro suf
    induction suf with
    | nil=>
      intro pre acc hp hl h i o ho he j hj
      simp at hp;subst hp
      exact h i o ho he j hj
    | cons o0 suf ih=>
      intro pre acc hp hl h
      refine ih (pre++[o0]) _ (by simp [hp]) (by simp [hl]) (fun i o ho he j hj=>?_)
      rcases append_one ho with h1 | ⟨h1,rfl⟩
      · have hlt:=lt_of_get h1
        rw [List.getD_eq_getElem?_getD,List.getElem?_append_left (by omega),← List.getD_eq_getElem?_getD] at hj
        grind
      · subst h1
        rw [List.getD_eq_getElem?_getD,hl] at hj
        simp only [List.getElem?_append_right (Nat.le_refl _),Nat.sub_self,List.getElem?_cons_zero,Option.getD_some,List.mem_eraseDups,List.mem_append,List.mem_flatMap] at hj
        grind
  exact key ops [] [] rfl rfl (fun i o h=>by simp at h)
def qhp (ai:AI) (hp:List AObj):List AObj:=match ai with | .slL _ _ _ _=>[] | _=>hp
def QOp (P:Program) (G:Glob) (sl:List AV) (hp:List AObj) (o:AOp) (v:AV):Prop:=
  (gNo G ⟨sl,hp⟩ o.guard∧v=.tup [])∨
  (gOK G ⟨sl,hp⟩ o.guard∧(evP G ⟨sl,qhp o.ai hp⟩ o.ai=some v∨∃ f args cargs r,o.ai=.call f args∧QC P G f cargs r∧∀ n,args.map (evA G sl)=cargs.map (renV (jmap [] n))∧v=renV (jmap [] n) r))
def CallA (P:Program) (G:Glob) (k:Nat) (f:FuncId) (avs:List AV) (hp:List AObj) (T:AV→List AObj→Prop):Prop:=
  ∀ F γ (w:World) (vs:Array Value),Inv F γ hp w→GlobOK F G→k≤γ.length→argsOK F γ avs vs→
    Calls P f vs w fun e w'=>∃ r av os F' γ',e=.returned r∧T av os∧Ext k F γ w F' γ' w'∧Inv F' γ' (hp++os) w'∧(∀ (id:Nat) (o:OI),γ[id]?=some o→γ'[id]?=some o)∧RV F' γ' av r
def EffI (P:Program) (G:Glob) (k:Nat) (dst:Option Nat) (ai:AI) (K:AS→Prop) (sl:List AV) (hp:List AObj):Prop:=
  match ai with
  | .alloc zero=>K ⟨putS sl dst (.one (.ptr hp.length 0)),hp++[.box (zero.map rawC)]⟩
  | .box x=>∃ cs,cellsOf (evA G sl x)=some cs∧K ⟨putS sl dst (.one (.ptr hp.length 0)),hp++[.box cs]⟩
  | .bslc size len zero parts=>(∃ es,fillV ((List.range (len * size)).map fun i=>rawC (zero.getD (i % zero.length) undef)) (parts.map fun (j,x)=>(j * size,size,evA G sl x))=some (dcC es.flatten)∧
      (∀ e∈es,e.length=size)∧es.length=len∧K ⟨putS sl dst (.one (.bld hp.length len)),hp++[.arr len size es]⟩)∨
      (size=1∧∃ cs,fillV ((List.range (len * size)).map fun i=>rawC (zero.getD (i % zero.length) undef)) (parts.map fun (j,x)=>(j * size,size,evA G sl x))=some cs∧K ⟨putS sl dst (.one (.bls hp.length 0 len 1)),hp++[.box cs]⟩)
  | .store size x v=>dst=none∧
      ((∃ id off cs vs,evA G sl x=.one (.ptr id off)∧cellsOf (evA G sl v)=some vs∧hpGet hp id=.box cs∧vs.length=size∧off+size≤cs.length∧K ⟨sl,hp.set id (.box (putAt cs off vs))⟩)∨
       (∃ id i s off cap es e ds,evA G sl x=.one (.ept id i s off)∧cellsOf (evA G sl v)=some (dcC ds)∧hpGet hp id=.arr cap s es∧es[i]?=some e∧ds.length=size∧off+size≤e.length∧
          K ⟨sl,hp.set id (.arr cap s (es.set i (e.take off++ds++e.drop (off+size))))⟩))
  | .app size bytes _ s x=>(evA G sl s=rawV (.slice none 0 0)∧∃ news,srcV hp (evA G sl x)=some news∧(∀ e∈news,e.length=size)∧news.length * bytes≤140737488355328∧
        ∀ cap',news.length≤cap'→K ⟨putS sl dst (.one (.bld hp.length news.length)),hp.map (killO (·==hp.length))++[.arr cap' size news]⟩)∨
      ∃ id n cap es news,evA G sl s=.one (.bld id n)∧hpGet hp id=.arr cap size es∧n≤es.length∧srcV hp (evA G sl x)=some news∧(∀ e∈news,e.length=size)∧
      (n+news.length) * bytes≤140737488355328∧∀ cap',n+news.length≤cap'→K ⟨putS (sl.map (killV (·==id))) dst (.one (.bld id (n+news.length))),(hp.map (killO (·==id))).set id (.arr cap' size (es.take n++news))⟩
  | .call f args=>∃ T,CallA P G k f (args.map (evA G sl)) hp T∧(∃ av os,T av os)∧∀ av os,T av os→K ⟨putS sl dst av,hp++os⟩
  | ai=>WR P G k [⟨dst,ai,none⟩] K ⟨sl,hp⟩
def Eff (P:Program) (G:Glob) (k:Nat) (o:AOp) (K:AS→Prop) (st:AS):Prop:=
  (gNo G st o.guard∧K ⟨putS st.sl o.dst (.tup []),st.hp⟩)∨(gOK G st o.guard∧EffI P G k o.dst o.ai K st.sl st.hp)
def AWL (P:Program) (G:Glob) (k:Nat) (K:AS→Prop):List (Bool × AOp)→AS→Prop
  | [],st=>K st
  | (true,o)::l,st=>∃ v,QOp P G st.sl st.hp o v∧AWL P G k K l ⟨putS st.sl o.dst v,st.hp⟩
  | (false,o)::l,st=>Eff P G k o (AWL P G k K l) st
section
variable {P:Program} {G:Glob} {k:Nat} {F:Fz} {γ:List OI} {w:World} {a:Act}
theorem mapM_congr' {α β:Type} {f g:α→Option β}:∀ (l:List α),(∀ x∈l,f x=g x)→l.mapM f=l.mapM g
  | [],_=>rfl
  | x::l,h=>by rw [List.mapM_cons,List.mapM_cons,h x List.mem_cons_self,mapM_congr' l (fun y hy=>h y (List.mem_cons_of_mem _ hy))]
theorem evP_congr {sl sl':List AV} {hp:List AObj} {ai:AI} (h:∀ x∈argsAI ai,evA G sl x=evA G sl' x):evP G ⟨sl,hp⟩ ai=evP G ⟨sl',hp⟩ ai:=by
  cases ai with
  | slS x l hh=>
    have h1:=h x (by simp [argsAI])
    have h2:l.map (evA G sl)=l.map (evA G sl'):=by cases l with | none=>rfl | some y=>grind[argsAI]
    have h3:hh.map (evA G sl)=hh.map (evA G sl'):=by cases hh with | none=>rfl | some y=>grind[argsAI]
    grind[evP]
  | slL s x l hh=>
    have h1:=h x (by simp [argsAI])
    have h2:l.map (evA G sl)=l.map (evA G sl'):=by cases l with | none=>rfl | some y=>grind[argsAI]
    have h3:hh.map (evA G sl)=hh.map (evA G sl'):=by cases hh with | none=>rfl | some y=>grind[argsAI]
    grind[evP]
  | slA n s x l hh=>
    have h1:=h x (by simp [argsAI])
    have h2:l.map (evA G sl)=l.map (evA G sl'):=by cases l with | none=>rfl | some y=>grind[argsAI]
    have h3:hh.map (evA G sl)=hh.map (evA G sl'):=by cases hh with | none=>rfl | some y=>grind[argsAI]
    grind[evP]
  | build z ps=>
    have:(ps.map fun (o,s,x)=>(o,s,evA G sl x))=ps.map fun (o,s,x)=>(o,s,evA G sl' x):=List.map_congr_left (fun p hp=>by
      obtain ⟨o,s,x⟩:=p
      simp only [h x (by simp only [argsAI,List.mem_map];grind)])
    grind[evP]
  | mkfn f cs=>
    grind[oneOf,evA,mapM_congr',argsAI,evP]
  | pick c x y=>grind[evP,argsAI]
  | bin op x y=>grind[evP,argsAI]
  | binb n x y=>grind[evP,argsAI]
  | eqs n ks x y=>grind[evP,argsAI]
  | ixA n s x y=>grind[evP,argsAI]
  | ixL s x y=>grind[evP,argsAI]
  | ixS x y=>grind[evP,argsAI]
  | ixV n x y=>grind[evP,argsAI]
  | s2p n x=>grind[evP,argsAI]
  | min2 x y=>grind[evP,argsAI]
  | max2 x y=>grind[evP,argsAI]
  | mov x=>grind[evP,argsAI]
  | load g s x=>grind[evP,argsAI]
  | nilc x=>grind[evP,argsAI]
  | isnil p n x=>grind[evP,argsAI]
  | mpx ok z x y=>grind[evP,argsAI]
  | un op x=>grind[evP,argsAI]
  | conv op x=>grind[evP,argsAI]
  | cvid x=>grind[evP,argsAI]
  | cvbs x=>grind[evP,argsAI]
  | addo o x=>grind[evP,argsAI]
  | fld g s o x=>grind[evP,argsAI]
  | ext x n=>grind[evP,argsAI]
  | lenS x=>grind[evP,argsAI]
  | lenL x=>grind[evP,argsAI]
  | _=>rfl
theorem evA_of_reads {sl sl':List AV} {o:AOp} (h:∀ t∈readsOp o,sl.getD t .junk=sl'.getD t .junk):(∀ x∈argsAI o.ai,evA G sl x=evA G sl' x)∧(∀ g b,o.guard=some (g,b)→evA G sl (.t g)=evA G sl' (.t g)):=by
  refine ⟨fun x hx=>?_,fun g b hg=>?_⟩
  · cases x with
    | t n=>exact h n (by simp only [readsOp,List.mem_append,List.mem_filterMap];exact .inl ⟨_,hx,rfl⟩)
    | k v=>rfl
    | g n=>rfl
    | f n=>rfl
  · exact h g (by simp [readsOp,hg])
theorem gOK_congr {sl sl':List AV} {hp hp':List AObj} {o:AOp} (h:∀ t∈readsOp o,sl.getD t .junk=sl'.getD t .junk) (hg:gOK G ⟨sl,hp⟩ o.guard):gOK G ⟨sl',hp'⟩ o.guard:=by
  obtain ⟨_,h2⟩:=evA_of_reads (G:=G) h
  cases hgd:o.guard with
  | none=>trivial
  | some q=>grind[gOK]
theorem gNo_congr {sl sl':List AV} {hp hp':List AObj} {o:AOp} (h:∀ t∈readsOp o,sl.getD t .junk=sl'.getD t .junk) (hg:gNo G ⟨sl,hp⟩ o.guard):gNo G ⟨sl',hp'⟩ o.guard:=by
  obtain ⟨_,h2⟩:=evA_of_reads (G:=G) h
  cases hgd:o.guard with
  | none=>rw [hgd] at hg;exact hg
  | some q=>grind[gNo]
theorem QOp.congr {sl sl':List AV} {hp:List AObj} {o:AOp} {v:AV} (h:∀ t∈readsOp o,sl.getD t .junk=sl'.getD t .junk) (hq:QOp P G sl hp o v):QOp P G sl' hp o v:=by
  obtain ⟨h1,h2⟩:=evA_of_reads (G:=G) h
  rcases hq with ⟨h3,h4⟩ | ⟨h3,h4⟩
  · exact .inl ⟨gNo_congr h h3,h4⟩
  · refine .inr ⟨gOK_congr h h3, ?_⟩
    rcases h4 with h4 | ⟨f,args,cargs,r,h5,h6,h7⟩
    · grind[evP_congr]
    · refine .inr ⟨f,args,cargs,r,h5,h6,fun n=>⟨?_,(h7 n).2⟩⟩
      rw [← (h7 n).1]
      exact List.map_congr_left (fun x hx=>(h1 x (by rw [h5];exact hx)).symm)
theorem hpGet_push {hp:List AObj} {ob:AObj} {id:Nat} (h:hpGet hp id≠.dead):hpGet (hp++[ob]) id=hpGet hp id:=by
  unfold hpGet at *
  grind
theorem loadV_push {hp:List AObj} {ob:AObj} {g:Bool} {s:Nat} {x v:AV} (h:loadV hp g s x=some v):loadV (hp++[ob]) g s x=some v:=by
  unfold loadV at *
  split at h
  all_goals grind[id,hpGet,hpGet_push]
theorem cvbsV_push {hp:List AObj} {ob:AObj} {x v:AV} (h:cvbsV hp x=some v):cvbsV (hp++[ob]) x=some v:=by
  unfold cvbsV at *
  split at h
  all_goals grind[id,hpGet,hpGet_push]
theorem ixLV_push {hp:List AObj} {ob:AObj} {s:Nat} {x v:AV} {i:Int} (h:ixLV hp s x i=some v):ixLV (hp++[ob]) s x i=some v:=by
  unfold ixLV at *
  split at h
  all_goals grind[id,hpGet,hpGet_push]
theorem slLV_push {hp:List AObj} {ob:AObj} {s:Nat} {x v:AV} {l r:Option AV} (h:slLV hp s x l r=some v):slLV (hp++[ob]) s x l r=some v:=by
  unfold slLV at *
  split at h
  all_goals grind[id,hpGet,hpGet_push]
theorem evP_push {sl:List AV} {hp:List AObj} {ob:AObj} {ai:AI} {v:AV} (h:evP G ⟨sl,hp⟩ ai=some v):evP G ⟨sl,hp++[ob]⟩ ai=some v:=by
  cases ai with
  | load g s x=>exact loadV_push h
  | cvbs x=>exact cvbsV_push h
  | slL s x l r=>exact slLV_push h
  | ixL s x i=>
    simp only [evP] at h ⊢
    cases hi:asInt? (evA G sl i) with
    | none=>simp_all
    | some n=>grind[ixLV_push]
  | _=>exact h
theorem evP_free {sl:List AV} {hp hp':List AObj} {ai:AI} (hh:heapless ai=true):evP G ⟨sl,qhp ai hp⟩ ai=evP G ⟨sl,qhp ai hp'⟩ ai:=by
  cases ai<;>first | rfl | grind[heapless]
theorem evP_pushQ {sl:List AV} {hp:List AObj} {ob:AObj} {ai:AI} {v:AV} (h:evP G ⟨sl,qhp ai hp⟩ ai=some v):evP G ⟨sl,qhp ai (hp++[ob])⟩ ai=some v:=by
  cases ai<;>first | exact h | exact evP_push h
theorem slLV_nil {hp:List AObj} {s:Nat} {x v:AV} {l r:Option AV} (h:slLV [] s x l r=some v):slLV hp s x l r=some v:=by
  unfold slLV at *
  grind[hpGet]
theorem evP_ofQ {sl:List AV} {hp:List AObj} {ai:AI} {v:AV} (h:evP G ⟨sl,qhp ai hp⟩ ai=some v):evP G ⟨sl,hp⟩ ai=some v:=by
  cases ai<;>first | exact h | exact slLV_nil h
theorem QOp.push {sl:List AV} {hp:List AObj} {ob:AObj} {o:AOp} {v:AV} (hq:QOp P G sl hp o v):QOp P G sl (hp++[ob]) o v:=by
  rcases hq with ⟨h3,h4⟩ | ⟨h3,h4⟩
  · exact .inl ⟨gNo_congr (fun _ _=>rfl) h3,h4⟩
  · exact .inr ⟨gOK_congr (fun _ _=>rfl) h3,h4.imp evP_pushQ id⟩
theorem QOp.pushL {sl:List AV} {o:AOp} {v:AV}:∀ (os:List AObj) {hp:List AObj},QOp P G sl hp o v→QOp P G sl (hp++os) o v
  | [],hp,h=>by simpa using h
  | ob::os,hp,h=>by
    have:=QOp.pushL os (hp:=hp++[ob]) h.push
    simpa using this
theorem QOp.free {sl:List AV} {hp hp':List AObj} {o:AOp} {v:AV} (hh:heapless o.ai=true) (hq:QOp P G sl hp o v):QOp P G sl hp' o v:=by
  rcases hq with ⟨h3,h4⟩ | ⟨h3,h4⟩
  · exact .inl ⟨gNo_congr (fun _ _=>rfl) h3,h4⟩
  · exact .inr ⟨gOK_congr (fun _ _=>rfl) h3,h4.imp (fun h=>by grind[evP_free]) id⟩
theorem putS_get {sl:List AV} {d:Option Nat} {v:AV} {t:Nat} (h:d≠some t):(putS sl d v)[t]?=sl[t]?:=by
  cases d with
  | none=>rfl
  | some d=>grind[putS,List.getElem?_set_ne]
theorem get_far {sl:List AV} {d:Option Nat} {v:AV} {o:AOp} (h:apartR d o=true):∀ t∈readsOp o,(putS sl d v).getD t .junk=sl.getD t .junk:=by
  intro t ht
  rw [List.getD_eq_getElem?_getD,List.getD_eq_getElem?_getD,putS_get]
  grind[apartR]
theorem putS_comm {sl:List AV} {d e:Option Nat} {u v:AV} (h:apartD d e=true):putS (putS sl d u) e v=putS (putS sl e v) d u:=by
  cases d with
  | none=>rfl
  | some d=>cases e with
    | none=>rfl
    | some e=>
      grind[apartD,putS,List.set_comm]
theorem putS_map {sl:List AV} {d:Option Nat} {u:AV} {f:AV→AV}:(putS sl d u).map f=putS (sl.map f) d (f u):=by
  cases d with
  | none=>rfl
  | some d=>simp [putS,List.map_set]
theorem kill_raw (p:Nat→Bool) (l:List Value):(l.map rawC).map (killC p)=l.map rawC:=by
  simp_all[List.map_map,List.map_congr_left,rawC,killC,Cel.keep]
theorem evA_kill {p:Nat→Bool} {sl:List AV} (x:AArg):evA G (sl.map (killV p)) x=killV p (evA G sl x):=by
  cases x with
  | t n=>
    simp only [evA,List.getD_eq_getElem?_getD,List.getElem?_map]
    cases sl[n]? with
    | none=>rfl
    | some y=>rfl
  | k v=>
    simp only [evA]
    unfold avOf
    split
    · grind[killV,kill_raw]
    all_goals simp_all[rawV,killV,killC,Cel.keep]
  | g n=>
    grind[evA,killV,killC,Cel.keep]
  | f n=>simp [evA,killV,killC,Cel.keep,keepL]
theorem asBool_kill {p:Nat→Bool} {v:AV} {b:Bool} (h:asBool? v=some b):asBool? (killV p v)=some b:=by
  unfold asBool? at h
  split at h
  · simp [killV,killC,Cel.keep];exact h
  · cases h
theorem asInt_kill {p:Nat→Bool} {v:AV} {b:Int} (h:asInt? v=some b):asInt? (killV p v)=some b:=by
  unfold asInt? at h
  split at h
  · simp [killV,killC,Cel.keep];exact h
  · cases h
theorem bound_kill {p:Nat→Bool} {x:Option AV} {t d n:Nat} (h:bound x t d=some n):bound (x.map (killV p)) t d=some n:=by
  cases x with
  | none=>exact h
  | some v=>
    grind[bound,asInt?,asInt_kill]
theorem slLV_kill {p:Nat→Bool} {s:Nat} {x v:AV} {l r:Option AV} (h:slLV [] s x l r=some v):slLV [] s (killV p x) (l.map (killV p)) (r.map (killV p))=some (killV p v):=by
  unfold slLV at h
  split at h
  · obtain ⟨a,h1,h2⟩:=Option.bind_eq_some_iff.1 h
    obtain ⟨b,h3,h4⟩:=Option.bind_eq_some_iff.1 h2
    have e:∀ d:DC,killV p (.one (.dc d))=.one (.dc d):=fun d=>by simp [killV,killC,Cel.keep]
    split at h4
    · injection h4 with h4;subst h4
      simp_all[slLV,bound_kill,Option.bind_some,if_pos]
    grind
  · obtain ⟨a,h1,h2⟩:=Option.bind_eq_some_iff.1 h
    obtain ⟨b,h3,h4⟩:=Option.bind_eq_some_iff.1 h2
    injection h4 with h4;subst h4
    simp_all[killV,killC,Cel.keep,slLV,bound_kill,Option.bind_some]
  all_goals grind[hpGet]
def killOK (ai:AI):Prop:=(∃ x,ai=.mov x)∨∃ s x l h,ai=.slL s x l h
theorem QOp.kill {sl:List AV} {hp hp':List AObj} {p:Nat→Bool} {o:AOp} {v:AV} (hx:killOK o.ai) (hq:QOp P G sl hp o v):QOp P G (sl.map (killV p)) hp' o (killV p v):=by
  rcases hq with ⟨h3,rfl⟩ | ⟨h3,h4⟩
  · refine .inl ⟨?_,rfl⟩
    cases hgd:o.guard with
    | none=>rw [hgd] at h3;exact h3
    | some q=>obtain ⟨g,b⟩:=q;rw [hgd] at h3;simp only [gNo] at h3 ⊢;rw [evA_kill];exact h3.imp asBool_kill (fun h=>by rw [h];rfl)
  · refine .inr ⟨?_, ?_⟩
    · cases hgd:o.guard with
      | none=>trivial
      | some q=>grind[gOK,evA_kill,asBool_kill]
    · rcases h4 with h4 | ⟨f,args,cargs,r,h5,_⟩
      · left
        rcases hx with ⟨x,hx⟩ | ⟨s,x,l,r,hx⟩
        · grind[evP,Option.some.injEq,evA_kill]
        · rw [hx] at h4 ⊢
          have:=slLV_kill (p:=p) h4
          simp only [evP,qhp,evA_kill]
          rw [Option.map_map,Option.map_map] at this
          have e:(killV p ∘ evA G sl)=evA G (sl.map (killV p)):=by funext y;simp only [Function.comp,evA_kill]
          simp_all
      · rcases hx with ⟨x,hx⟩ | ⟨s,x,l,r,hx⟩<;>(simp_all)
theorem mem_edges {o:Oper} {e:Nat}:e∈edgesOf o↔∃ x,x∈o.after∧Region.binds .any x=true∧x.on=e:=by
  grind[edgesOf]
theorem binds_any {md:Region.Mode} {e:Edge} (h:Region.binds .any e=true):Region.binds md e=true:=by
  grind[Region.binds]
theorem ready_elim {md:Region.Mode} {opsA:Array Oper} {listed:Array Bool} (hsz:listed.size=opsA.size) {i:Nat} (h:i∈Region.ready md opsA listed):
    i < opsA.size∧listed.getD i false=false∧∃ o,opsA[i]?=some o∧∀ e∈edgesOf o,listed.getD e false=true:=by
  obtain ⟨h1,o,ho,h2⟩:=mem_ready.1 h
  have hlt:i < opsA.size:=(Array.getElem?_eq_some_iff.1 ho).1
  refine ⟨hlt, ?_,o,ho,fun e he=>?_⟩
  · simp_all
  · obtain ⟨x,hx,hb,rfl⟩:=mem_edges.1 he
    grind[binds_any]
theorem ready_intro {md:Region.Mode} {opsA:Array Oper} {listed:Array Bool} (hsz:listed.size=opsA.size) {i:Nat} {o:Oper} (hlt:i < opsA.size) (h1:listed.getD i false=false) (ho:opsA[i]?=some o)
    (h2:∀ e∈edgesM md o,listed.getD e false=true):i∈Region.ready md opsA listed:=by
  refine mem_ready.2 ⟨?_,o,ho,fun x hx hb=>h2 _ (by simp only [edgesM,List.mem_map,List.mem_filter,Array.mem_toList_iff];grind)⟩
  simp_all
theorem Eff.mono {o:AOp} {K K':AS→Prop} {st:AS} (hk:∀ s,K s→K' s) (h:Eff P G k o K st):Eff P G k o K' st:=by
  rcases h with ⟨h1,h2⟩ | ⟨h1,h2⟩
  · exact .inl ⟨h1,hk _ h2⟩
  · refine .inr ⟨h1, ?_⟩
    obtain ⟨dst,ai,gd⟩:=o
    cases ai with
    | alloc z=>exact hk _ h2
    | box x=>obtain ⟨cs,h3,h4⟩:=h2;exact ⟨cs,h3,hk _ h4⟩
    | bslc s n z ps=>
      rcases h2 with ⟨es,h3,h4,h5,h6⟩ | ⟨h3,cs,h4,h6⟩
      · exact .inl ⟨es,h3,h4,h5,hk _ h6⟩
      · exact .inr ⟨h3,cs,h4,hk _ h6⟩
    | store s x v=>
      obtain ⟨h3,h4⟩:=h2
      refine ⟨h3, ?_⟩
      grind
    | app s b z x y=>
      rcases h2 with ⟨g1,news,g4,g5,g6,g7⟩ | ⟨id,n,cap,es,news,g1,g2,g3,g4,g5,g6,g7⟩
      · exact .inl ⟨g1,news,g4,g5,g6,fun c hc=>hk _ (g7 c hc)⟩
      · exact .inr ⟨id,n,cap,es,news,g1,g2,g3,g4,g5,g6,fun c hc=>hk _ (g7 c hc)⟩
    | call f args=>obtain ⟨T,h3,hne,h4⟩:=h2;exact ⟨T,h3,hne,fun av os ht=>hk _ (h4 av os ht)⟩
    | _=>exact WR.mono h2 hk
theorem EffI.swap {x y:AOp} {K:AS→Prop} {sl:List AV} {hp:List AObj} {v:AV} (hd:apartD x.dst y.dst=true) (h1:apartR x.dst y=true) (h2:apartR y.dst x=true) (hc:effC x.ai y.ai=true)
    (hq:QOp P G sl hp x v) (h:EffI P G k y.dst y.ai K (putS sl x.dst v) hp):
    EffI P G k y.dst y.ai (fun s=>∃ v',QOp P G s.sl s.hp x v'∧K ⟨putS s.sl x.dst v',s.hp⟩) sl hp:=by
  have hr:=(evA_of_reads (G:=G) (get_far (sl:=sl) (v:=v) h1)).1
  obtain ⟨ydst,yai,yg⟩:=y
  simp only at hr hd h2 hc h ⊢
  cases yai with
  | alloc z=>
    refine ⟨v,(hq.push).congr (fun t ht=>(get_far h2 t ht).symm), ?_⟩
    simp only
    rw [← putS_comm hd];exact h
  | box a=>
    obtain ⟨cs,h3,h4⟩:=h
    rw [hr a (by simp [argsAI])] at h3
    refine ⟨cs,h3,v,(hq.push).congr (fun t ht=>(get_far h2 t ht).symm), ?_⟩
    grind[putS_comm]
  | bslc s n z ps=>
    have hps:(ps.map fun (j,x')=>(j * s,s,evA G (putS sl x.dst v) x'))=ps.map fun (j,x')=>(j * s,s,evA G sl x'):=
      List.map_congr_left (fun p hp=>by
        obtain ⟨j,x'⟩:=p
        simp only [hr x' (by simp only [argsAI,List.mem_map];grind)])
    rcases h with ⟨es,h3,h4,h5,h6⟩ | ⟨h3,cs,h4,h6⟩
    · rw [hps] at h3
      refine .inl ⟨es,h3,h4,h5,v,(hq.push).congr (fun t ht=>(get_far h2 t ht).symm), ?_⟩
      grind[putS_comm]
    · rw [hps] at h4
      refine .inr ⟨h3,cs,h4,v,(hq.push).congr (fun t ht=>(get_far h2 t ht).symm), ?_⟩
      grind[putS_comm]
  | store s a b=>
    obtain ⟨h3,h4⟩:=h
    refine ⟨h3, ?_⟩
    rcases h4 with ⟨id,off,cs,vs,g1,g2,g3,g4,g5,g6⟩ | ⟨id,i,s',off,cap,es,e,ds,g1,g2,g3,g4,g5,g6,g7⟩
    · rw [hr a (by simp [argsAI])] at g1
      rw [hr b (by simp [argsAI])] at g2
      exact .inl ⟨id,off,cs,vs,g1,g2,g3,g4,g5,v,hq.free hc,g6⟩
    · rw [hr a (by simp [argsAI])] at g1
      rw [hr b (by simp [argsAI])] at g2
      exact .inr ⟨id,i,s',off,cap,es,e,ds,g1,g2,g3,g4,g5,g6,v,hq.free hc,g7⟩
  | app s b z a c=>
    have hmov:killOK x.ai∧heapless x.ai=true:=by
      simp only [effC] at hc
      split at hc
      · rename_i q h;exact ⟨.inl ⟨q,h⟩,by rw [h];rfl⟩
      · rename_i s x l r h;exact ⟨.inr ⟨s,x,l,r,h⟩,by rw [h];rfl⟩
      grind
    obtain ⟨hmov,hless⟩:=hmov
    rcases h with ⟨g1,news,g4,g5,g6,g7⟩ | ⟨id,n,cap,es,news,g1,g2,g3,g4,g5,g6,g7⟩
    · rw [hr a (by simp [argsAI])] at g1
      rw [hr c (by simp [argsAI])] at g4
      refine .inl ⟨g1,news,g4,g5,g6,fun cap' hcap=>⟨v,(hq.free hless).congr (fun t ht=>(get_far h2 t ht).symm), ?_⟩⟩
      grind[putS_comm]
    rw [hr a (by simp [argsAI])] at g1
    rw [hr c (by simp [argsAI])] at g4
    refine .inr ⟨id,n,cap,es,news,g1,g2,g3,g4,g5,g6,fun cap' hcap=>⟨killV (·==id) v,(hq.kill (hp':=(hp.map (killO (·==id))).set id (.arr cap' s (es.take n++news))) hmov).congr (fun t ht=>(get_far h2 t ht).symm), ?_⟩⟩
    grind[putS_map,putS_comm]
  | call f args=>
    obtain ⟨T,h3,hne,h4⟩:=h
    have he:args.map (evA G (putS sl x.dst v))=args.map (evA G sl):=List.map_congr_left (fun a ha=>hr a (by grind[argsAI]))
    rw [he] at h3
    refine ⟨T,h3,hne,fun av os ht=>⟨v,(hq.pushL os).congr (fun t ht=>(get_far h2 t ht).symm), ?_⟩⟩
    grind[putS_comm]
  | _=>cases hc
theorem Eff.swap {x y:AOp} {K:AS→Prop} {st:AS} {v:AV} (hd:apartD x.dst y.dst=true) (h1:apartR x.dst y=true) (h2:apartR y.dst x=true) (hc:effC x.ai y.ai=true)
    (hq:QOp P G st.sl st.hp x v) (h:Eff P G k y K ⟨putS st.sl x.dst v,st.hp⟩):Eff P G k y (fun s=>∃ v',QOp P G s.sl s.hp x v'∧K ⟨putS s.sl x.dst v',s.hp⟩) st:=by
  rcases h with ⟨h3,h4⟩ | ⟨h3,h4⟩
  · refine .inl ⟨gNo_congr (get_far h1) h3,v,hq.congr (fun t ht=>(get_far h2 t ht).symm), ?_⟩
    grind[putS_comm]
  · exact .inr ⟨gOK_congr (get_far h1) h3,EffI.swap hd h1 h2 hc hq h4⟩
def QLate (G:Glob) (sl:List AV) (o:AOp) (v:AV):Prop:=
  (gNo G ⟨sl,[]⟩ o.guard∧v=.tup [])∨(gOK G ⟨sl,[]⟩ o.guard∧evP G ⟨sl,[]⟩ o.ai=some v)
theorem late_iff {sl:List AV} {hp:List AObj} {o:AOp} {v:AV} (hl:lateAI o.ai=true):QOp P G sl hp o v↔QLate G sl o v:=by
  have g1:gNo G ⟨sl,hp⟩ o.guard↔gNo G ⟨sl,[]⟩ o.guard:=by cases o.guard<;>rfl
  have g2:gOK G ⟨sl,hp⟩ o.guard↔gOK G ⟨sl,[]⟩ o.guard:=by cases o.guard<;>rfl
  unfold QOp QLate
  rw [g1,g2]
  obtain ⟨d,ai,g⟩:=o
  cases ai<;>first | (cases hl;done) | skip
  all_goals
    constructor
    · rintro (h | ⟨h3,h4 | ⟨f,args,cargs,r,h5,_⟩⟩)
      · grind
      · exact .inr ⟨h3,h4⟩
      grind
    · rintro (h | ⟨h3,h4⟩)
      · grind
      · exact .inr ⟨h3,.inl h4⟩
theorem late_fun {sl:List AV} {o:AOp} {v v':AV} (h:QLate G sl o v) (h':QLate G sl o v'):v=v':=by
  have key:¬ (gNo G ⟨sl,[]⟩ o.guard∧gOK G ⟨sl,[]⟩ o.guard):=by
    rintro ⟨h1,h2⟩
    cases hg:o.guard with
    | none=>rw [hg] at h1;exact h1
    | some q=>
      grind[gNo,gOK,asBool?]
  rcases h with ⟨h1,rfl⟩ | ⟨h1,h2⟩
  · rcases h' with ⟨_,rfl⟩ | ⟨h3,_⟩
    all_goals simp_all
  · rcases h' with ⟨h3,_⟩ | ⟨_,h4⟩
    all_goals simp_all
theorem kill_dc {p:Nat→Bool} {a:AV} {d:DC} (h:killV p a=.one (.dc d)):a=.one (.dc d):=by
  cases a with
  | one c=>
    grind[killV,killC,AV.one.injEq]
  | _=>simp [killV] at h
theorem asBool_unkill {p:Nat→Bool} {a:AV} {b:Bool} (h:asBool? (killV p a)=some b):asBool? a=some b:=by
  unfold asBool? at h
  split at h
  · rename_i hv;rw [kill_dc hv];exact h
  · cases h
theorem tup_unkill {p:Nat→Bool} {a:AV} (h:killV p a=.tup []):a=.tup []:=by
  cases a<;>simp [killV] at h ⊢
  exact h
theorem asInt_unkill {p:Nat→Bool} {a:AV} {b:Int} (h:asInt? (killV p a)=some b):asInt? a=some b:=by
  unfold asInt? at h
  split at h
  · rename_i hv;rw [kill_dc hv];exact h
  · cases h
theorem bound_unkill {p:Nat→Bool} {x:Option AV} {t d n:Nat} (h:bound (x.map (killV p)) t d=some n):bound x t d=some n:=by
  cases x with
  | none=>exact h
  | some a=>
    grind[bound,asInt?,killV,asInt_unkill]
theorem slLV_nilD {s:Nat} {x v:AV} {l r:Option AV} (h:slLV [] s x l r=some v):∃ d,x=.one (.dc d):=by
  unfold slLV at h
  split at h
  · simp_all
  · simp_all
  · simp [hpGet] at h
  · simp [hpGet] at h
  · cases h
theorem late_raw {sl:List AV} {o:AOp} {v:AV} (hl:lateAI o.ai=true) (h:QLate G sl o v) (p:Nat→Bool):killV p v=v:=by
  have e:∀ d:DC,killV p (.one (.dc d))=.one (.dc d):=fun d=>by simp [killV,killC,Cel.keep]
  rcases h with ⟨_,rfl⟩ | ⟨_,h⟩
  · rfl
  · obtain ⟨d,ai,g⟩:=o
    cases ai<;>first | (cases hl;done) | skip
    · simp only [evP,binV] at h
      split at h
      · split at h
        · grind
        · grind
        · split at h
          · obtain ⟨u,_,rfl⟩:=Option.map_eq_some_iff.1 h;exact e _
          · cases h
      · obtain ⟨u,_,rfl⟩:=Option.map_eq_some_iff.1 h;exact e _
      · cases h
    · simp only [evP] at h
      obtain ⟨d,hd⟩:=slLV_nilD h
      rw [hd] at h
      unfold slLV at h
      grind[Option.bind_eq_some_iff,hpGet]
    · simp only [evP,lenLV] at h
      grind
theorem lenLV_unkill {p:Nat→Bool} {a v:AV} (h:lenLV (killV p a)=some v):lenLV a=some v:=by
  cases a with
  | one c=>
    simp only [killV,killC] at h
    split at h
    all_goals grind[lenLV]
  | _=>grind[killV,lenLV]
theorem binV_unkill {p:Nat→Bool} {op:BinOp} {a b v:AV} (h:binV op (killV p a) (killV p b)=some v):binV op a b=some v:=by
  unfold binV at h
  split at h
  · rename_i ha hb;rw [kill_dc ha,kill_dc hb];exact h
  · rename_i ha hb;rw [kill_dc ha,kill_dc hb];exact h
  · cases h
theorem slLV_unkill {p:Nat→Bool} {s:Nat} {x v:AV} {l r:Option AV} (h:slLV [] s (killV p x) (l.map (killV p)) (r.map (killV p))=some v):slLV [] s x l r=some v:=by
  obtain ⟨d,hd⟩:=slLV_nilD h
  have hx:=kill_dc hd
  subst hx
  have e:killV p (.one (.dc d))=.one (.dc d):=by omega
  rw [e] at h
  unfold slLV at h ⊢
  split at h
  · grind[Option.bind_eq_some_iff,bound_unkill]
  all_goals grind[Option.bind_eq_some_iff,bound_unkill,hpGet]
theorem late_unkill {p:Nat→Bool} {sl:List AV} {o:AOp} {v:AV} (hl:lateAI o.ai=true) (h:QLate G (sl.map (killV p)) o v):QLate G sl o v:=by
  rcases h with ⟨h1,rfl⟩ | ⟨h1,h2⟩
  · refine .inl ⟨?_,rfl⟩
    cases hg:o.guard with
    | none=>rw [hg] at h1;exact h1
    | some q=>grind[gNo,evA_kill,asBool_unkill,tup_unkill]
  · refine .inr ⟨?_, ?_⟩
    · cases hg:o.guard with
      | none=>trivial
      | some q=>grind[gOK,evA_kill,asBool_unkill]
    · obtain ⟨d,ai,g⟩:=o
      cases ai<;>first | (cases hl;done) | skip
      · grind[evP,evA_kill,binV_unkill]
      · simp only [evP,evA_kill] at h2 ⊢
        have e:∀ l:Option AArg,l.map (evA G (sl.map (killV p)))=(l.map (evA G sl)).map (killV p):=fun l=>by cases l<;>simp [evA_kill]
        grind[slLV_unkill]
      grind[evP,evA_kill,lenLV_unkill]
theorem AWL.swapB {x y:AOp} {K:AS→Prop} {st:AS} (hd:apartD x.dst y.dst=true) (h1:apartR x.dst y=true) (h2:apartR y.dst x=true) (hl:lateAI y.ai=true) (hb:backX x.ai=true)
    (h:Eff P G k x (fun s=>∃ u,QOp P G s.sl s.hp y u∧K ⟨putS s.sl y.dst u,s.hp⟩) st):∃ u,QOp P G st.sl st.hp y u∧Eff P G k x K ⟨putS st.sl y.dst u,st.hp⟩:=by
  -- the late operation's value before the other
  have back:∀ {sl:List AV} {w u:AV},QLate G (putS sl x.dst w) y u→QLate G sl y u:=fun {sl w u} hq=>by
    rw [← late_iff (P:=P) (hp:=[]) hl] at hq ⊢
    exact hq.congr (fun t ht=>get_far h1 t ht)
  rcases h with ⟨h3,u,hq,h4⟩ | ⟨h3,h4⟩
  · rw [late_iff hl] at hq
    refine ⟨u,(late_iff hl).2 (back hq),.inl ⟨gNo_congr (fun t ht=>(get_far h2 t ht).symm) h3, ?_⟩⟩
    grind[putS_comm]
  · obtain ⟨xd,xai,xg⟩:=x
    cases xai<;>first | (cases hb;done) | skip
    case app s b z a c=>
      have ra:∀ u,evA G (putS st.sl y.dst u) a=evA G st.sl a:=fun u=>(evA_of_reads (G:=G) (get_far (sl:=st.sl) (v:=u) h2)).1 a (by simp [argsAI])
      have rc:∀ u,evA G (putS st.sl y.dst u) c=evA G st.sl c:=fun u=>(evA_of_reads (G:=G) (get_far (sl:=st.sl) (v:=u) h2)).1 c (by simp [argsAI])
      rcases h4 with ⟨g1,news,g4,g5,g6,g7⟩ | ⟨id,n,cap,es,news,g1,g2,g3,g4,g5,g6,g7⟩
      · obtain ⟨u,hq,_⟩:=g7 news.length (Nat.le_refl _)
        rw [late_iff hl] at hq
        have hq0:=back hq
        refine ⟨u,(late_iff hl).2 hq0,.inr ⟨gOK_congr (fun t ht=>(get_far h2 t ht).symm) h3,.inl ⟨by simp_all,news,by simp_all,g5,g6,fun cap' hcap=>?_⟩⟩⟩
        grind[late_iff,late_fun,putS_comm]
      · obtain ⟨u,hq,_⟩:=g7 (n+news.length) (Nat.le_refl _)
        rw [late_iff hl] at hq
        have hq0:=late_unkill hl (back hq)
        refine ⟨u,(late_iff hl).2 hq0,.inr ⟨gOK_congr (fun t ht=>(get_far h2 t ht).symm) h3,.inr ⟨id,n,cap,es,news,by simp_all,g2,g3,by simp_all,g5,g6,fun cap' hcap=>?_⟩⟩⟩
        grind[late_iff,late_fun,late_unkill,putS_map,late_raw,putS_comm]
    case call f args=>
      obtain ⟨T,t1,⟨av0,os0,t2⟩,t3⟩:=h4
      obtain ⟨u,hq,_⟩:=t3 av0 os0 t2
      rw [late_iff hl] at hq
      have hq0:=back hq
      have he:∀ u,args.map (evA G (putS st.sl y.dst u))=args.map (evA G st.sl):=fun u=>List.map_congr_left (fun a ha=>(evA_of_reads (G:=G) (get_far (sl:=st.sl) (v:=u) h2)).1 a (by grind[argsAI]))
      refine ⟨u,(late_iff hl).2 hq0,.inr ⟨gOK_congr (fun t ht=>(get_far h2 t ht).symm) h3,T,by grind,⟨av0,os0,t2⟩,fun av os ht=>?_⟩⟩
      grind[late_iff,late_fun,putS_comm]
theorem AWL.swap {x y:Bool × AOp} {K:AS→Prop} {l:List (Bool × AOp)} {st:AS} (hc:cmpO x y=true) (h:AWL P G k K (x::y::l) st):AWL P G k K (y::x::l) st:=by
  obtain ⟨bx,x⟩:=x
  obtain ⟨by',y⟩:=y
  simp only [cmpO,Bool.and_eq_true,Bool.or_eq_true] at hc
  obtain ⟨⟨⟨hd,h1⟩,h2⟩,⟨hb,h3⟩ | ⟨⟨⟨hb,hy⟩,hl⟩,hx⟩⟩:=hc
  · subst hb
    obtain ⟨v,hv,h⟩:=h
    cases by' with
    | true=>
      obtain ⟨u,hu,h⟩:=h
      refine ⟨u,hu.congr (get_far h1),v,hv.congr (fun t ht=>(get_far h2 t ht).symm), ?_⟩
      grind[putS_comm]
    | false=>exact Eff.swap hd h1 h2 (h3.resolve_left (by simp)) hv h
  · have hbx:bx=false:=by simp_all
    subst hbx;subst hy
    exact AWL.swapB hd h1 h2 hl hx h
theorem AWL.front {y:Bool × AOp} {K:AS→Prop} {ys:List (Bool × AOp)}:∀ (xs:List (Bool × AOp)) (st:AS),(∀ x∈xs,cmpO x y=true)→AWL P G k K (xs++y::ys) st→AWL P G k K (y::(xs++ys)) st
  | [],st,_,h=>h
  | x::xs,st,hc,h=>by
    refine AWL.swap (hc x List.mem_cons_self) ?_
    obtain ⟨b,x⟩:=x
    cases b with
    | true=>
      obtain ⟨v,hv,h⟩:=h
      exact ⟨v,hv,AWL.front xs _ (fun x' hx'=>hc x' (List.mem_cons_of_mem _ hx')) h⟩
    | false=>exact Eff.mono (fun s hs=>AWL.front xs s (fun x' hx'=>hc x' (List.mem_cons_of_mem _ hx')) hs) h
theorem wpQ {o:Oper} {a:Act} {w:World} {K:Act→World→Prop} {Q Q':Exit→Act→World→Prop} (hQ:∀ e a w,e≠.normal→Q e a w→Q' e a w) (hh:o.wp P a w K Q):o.wp P a w K Q':=by
  unfold Oper.wp at *
  generalize (execOp a.eval o).run P w=r at *
  cases r with
  | ok n w'=>
    cases n<;>simp only [Oper.upon] at hh ⊢<;>
      first
        | exact hh
        | exact Calls.mono hh (fun e w'' he=>by
            cases e<;>first | exact he | exact hQ _ _ _ (by simp) he | (obtain ⟨a,w,h⟩:=he;exact ⟨a,w,hQ _ _ _ (by simp) h⟩))
  | halt x w'=>cases x<;>simp only [Oper.upon] at hh ⊢<;>first | exact hh | exact hQ _ _ _ (by simp) hh
theorem WR.guard {o:AOp} {K:AS→Prop} {st:AS} {ai:AI} (hg:gOK G st o.guard) (hai:o.ai=ai) (h:WR P G k [⟨o.dst,ai,none⟩] K st):WR P G k [o] K st:=by
  intro opsA l hc F γ a w hi hs hg' hk QE hq
  obtain ⟨oper,l',rfl,h1,h2,h3,h4⟩:=compile_cons hc
  have hl:l'=[]:=by
    cases l' with
    | nil=>rfl
    | cons o' l'=>
      exfalso
      simp only [compileOps] at h4
      cases g1:compileOpr P opsA o' with
      | none=>simp_all
      | some y=>simp_all
  subst hl
  have hc2:compileOps P opsA [{ oper with guard:=none }]=some [⟨o.dst,ai,none⟩]:=by
    simp only [compileOps,compileOpr,Option.bind_eq_some_iff,Option.map_eq_some_iff]
    refine ⟨⟨o.dst,ai,none⟩,⟨ai, ?_,none,rfl,by simp [h3]⟩,[],rfl,rfl⟩
    rw [← hai];exact h1
  have:=h opsA _ hc2 F γ a w hi hs hg' hk QE hq
  simp only [wpList] at this ⊢
  rw [(wanted_of (b':=true) hs h2).1 hg,if_pos rfl]
  have hw:Region.wanted { oper with guard:=none } (yielded opsA a.tmps)=true:=rfl
  rw [if_pos hw] at this
  exact this
theorem WR.callA {o:AOp} {rest:List AOp} {K:AS→Prop} {st:AS} {f:FuncId} {args:List AArg} {T:AV→List AObj→Prop} (hgd:gOK G st o.guard) (ha:o.ai=.call f args)
    (hac:CallA P G k f (args.map (evA G st.sl)) st.hp T) (h:∀ av os,T av os→WR P G k rest K ⟨putS st.sl o.dst av,st.hp++os⟩):WR P G k (o::rest) K st:=by
  refine WR.step hgd (fun F γ a w oper hc hd hi hs hg hk=>?_)
  rw [ha] at hc
  obtain ⟨c,hop,hcal,rfl,hok⟩:=call_inv hc
  obtain ⟨dst,op,type,pos,after,guard⟩:=oper
  simp only at hop
  subst hop
  have hv:=args_ok (G:=G) hs hg c.args
  refine .inr ⟨f,c.args.map a.eval, ?_,(hac F γ w _ hi hg hk hv).mono ?_⟩
  · grind[execOp,resolve,Act.eval,Deferred.ofValue,invoke,run_callFunc]
  · rintro e w' ⟨r,av,os,F',γ',rfl,hT,hE,hI,hx,hR⟩
    refine ⟨r,_,F',γ',rfl,h av os hT,hE,hI,(hs.ext hE.sub hx).put _ hR, ?_⟩
    have h1:=hi.len
    have h2:=hI.len
    grind
theorem CallA.of {f:FuncId} {cargs avs:List AV} {hp:List AObj} {Qc:AV→List AObj→Prop} (hac:AC P G f cargs [] Qc) (hargs:avs=cargs.map (renV (jmap [] hp.length))):
    CallA P G k f avs hp (fun av os=>∃ av0 os0,Qc av0 os0∧av=renV (jmap [] hp.length) av0∧os=os0.map (renO (jmap [] hp.length))):=by
  intro F γ w vs hi hg hk hv
  have hln:=hi.len
  have hρ:∀ t,jmap [] hp.length t=γ.length+t:=fun t=>by simp [jmap,hln]
  have hnone:∀ (id:Nat) (o:OI),γ[jmap [] hp.length id]?=some o→([]:List OI)[id]?=some o:=fun id o h=>by
    simp_all
  have hv0:argsOK F [] cargs vs:=by
    rw [hargs] at hv
    refine ⟨by rw [hv.1];simp,fun i av v h1 h2=>?_⟩
    exact RV.unren hnone (hv.2 i _ v (by simp_all) h2)
  have hi0:Inv F [] [] w:=⟨hi.fz,rfl,fun i j b h=>by simp [blkAt] at h,fun i b h=>by simp [blkAt] at h,fun i o x h=>by simp at h⟩
  refine (hac F [] vs w hi0 hg hv0).mono ?_
  rintro e w' ⟨r,av,os,F',γ1,rfl,hQ,_,hE,hI,hR⟩
  have hsub:∀ (id:Nat) (o:OI),γ[id]?=some o→(γ++γ1)[id]?=some o:=fun _ _ h=>get_append_left h
  have hren:∀ (id:Nat) (o:OI),γ1[id]?=some o→(γ++γ1)[jmap [] hp.length id]?=some o:=fun id o h=>by
    grind
  have hnew:∀ i b,blkAt γ1 i=some b→w.heap.size≤b:=fun i b h=>by
    rcases hE.blk i b h with ⟨j,hj⟩ | h
    all_goals grind[blkAt]
  have hsplit:∀ i b,blkAt (γ++γ1) i=some b→(i < γ.length∧blkAt γ i=some b)∨(γ.length≤i∧blkAt γ1 (i - γ.length)=some b):=fun i b h=>by
    grind[blkAt_some,List.getElem?_append_left,blkAt_of,List.getElem?_append_right]
  have hfar:∀ b,b < w.heap.size→w'.heap[b]?=w.heap[b]?:=fun b hb=>hE.far b hb (fun i h=>by simp [blkAt] at h)
  refine ⟨r,_,_,F',γ++γ1,rfl,⟨av,os,hQ,rfl,rfl⟩, ?_, ?_,hsub,hR.ren hren⟩
  · refine ⟨hE.sub,hE.os,hE.tape,hE.output,hE.size,fun b hb _=>hfar b hb,fun b o h=>?_,fun i b h=>?_,fun i _ b h=>hsub _ _ h⟩
    · rcases hE.new b o h with h1 | h1 | ⟨i,h1⟩
      all_goals grind[blkAt]
    grind
  · refine ⟨hI.fz,by have:=hI.len;simp_all,fun i j b h1 h2=>?_,fun i b h=>?_,fun i o x h1 h2=>?_⟩
    · rcases hsplit i b h1 with ⟨a1,b1⟩ | ⟨a1,b1⟩<;>rcases hsplit j b h2 with ⟨a2,b2⟩ | ⟨a2,b2⟩
      · exact hi.nd i j b b1 b2
      · have:=hi.lt b1;grind
      · have:=hi.lt b2;grind
      · have:=hI.nd _ _ b b1 b2;omega
    · rcases hsplit i b h with ⟨_,h1⟩ | ⟨_,h1⟩
      · have hlt:=hi.lt h1
        cases hF:F' b with
        | none=>rfl
        | some o=>
          rcases hE.new b o hF with h3 | h3 | ⟨j,h3⟩
          · rw [hi.disj i b h1] at h3;cases h3
          all_goals grind[blkAt]
      · exact hI.disj _ b h1
    · by_cases hil:i < γ.length
      · rw [List.getElem?_append_left (by omega)] at h1
        rw [List.getElem?_append_left hil] at h2
        have hok:=hi.ok i o x h1 h2
        exact hok.ext hE.sub hsub (fun b hb=>hfar b (hok.lt hb))
      · rw [List.getElem?_append_right (by omega),List.getElem?_map] at h1
        rw [List.getElem?_append_right (by omega)] at h2
        obtain ⟨o0,h3,rfl⟩:=Option.map_eq_some_iff.1 h1
        rw [← hln] at h3
        exact (hI.ok _ o0 x h3 h2).ren hren
theorem EffI.run {o:AOp} {K:AS→Prop} {st:AS} (hg:gOK G st o.guard) (h:EffI P G k o.dst o.ai K st.sl st.hp):WR P G k [o] K st:=by
  cases hai:o.ai with
  | alloc z=>rw [hai] at h;exact WR.alloc hg hai (WR.nil h)
  | box x=>rw [hai] at h;obtain ⟨cs,h3,h4⟩:=h;grind[WR.box,WR.nil]
  | bslc s n z ps=>
    rw [hai] at h
    rcases h with ⟨es,h3,h4,h5,h6⟩ | ⟨h3,cs,h4,h6⟩
    all_goals grind[WR.bslc,WR.nil,WR.bslcB]
  | store s x v=>
    rw [hai] at h
    obtain ⟨h3,h4⟩:=h
    rcases h4 with ⟨id,off,cs,vs,g1,g2,g3,g4,g5,g6⟩ | ⟨id,i,s',off,cap,es,e,ds,g1,g2,g3,g4,g5,g6,g7⟩
    · grind[WR.store,WR.nil]
    · exact WR.storeE hg hai h3 g1 g2 g3 g4 g5 g6 rfl (WR.nil g7)
  | app s b z x y=>
    rw [hai] at h
    rcases h with ⟨g1,news,g4,g5,g6,g7⟩ | ⟨id,n,cap,es,news,g1,g2,g3,g4,g5,g6,g7⟩
    · grind[WR.appNil,WR.nil]
    grind[WR.app,WR.nil]
  | call f args=>
    rw [hai] at h
    obtain ⟨T,h3,_,h4⟩:=h
    grind[WR.callA,WR.nil]
  | _=>
    rw [hai] at h
    exact WR.guard hg hai h
theorem AWL.head {y:Bool × AOp} {K:AS→Prop} {l:List (Bool × AOp)} {st:AS} (h:AWL P G k K (y::l) st):WR P G k [y.2] (AWL P G k K l) st:=by
  obtain ⟨b,o⟩:=y
  cases b with
  | true=>
    obtain ⟨v,hv,h⟩:=h
    rcases hv with ⟨h1,rfl⟩ | ⟨h1,h2 | ⟨f,args,cargs,r,h5,h6,h7⟩⟩
    · exact WR.skip h1 (WR.nil h)
    · exact WR.pur h1 (evP_ofQ h2) (WR.nil h)
    · exact WR.callQ h1 h5 h6 (h7 st.hp.length).1 (WR.nil (by grind))
  | false=>
    rcases h with ⟨h1,h2⟩ | ⟨h1,h2⟩
    all_goals grind[WR.skip,WR.nil,EffI.run]
theorem WR.op {o:AOp} {K:AS→Prop} {st:AS} {opsA:Array Oper} {i:Nat} {oper:Oper} {QE:Exit→Act→World→Prop} {NX:Act→World→Prop} (h:WR P G k [o] K st) (hoi:opsA[i]?=some oper) (hco:compileOpr P opsA oper=some o)
    (hi:Inv F γ st.hp w) (hs:Slots F γ st.sl a) (hg:GlobOK F G) (hk:k≤γ.length)
    (hN:∀ a' w' F' γ' st',K st'→Ext k F γ w F' γ' w'→Inv F' γ' st'.hp w'→Slots F' γ' st'.sl a'→k≤γ'.length→NX a' w'):wpOp P opsA QE i NX a w:=by
  have:=h opsA [oper] (by simp [compileOps,hco]) F γ a w hi hs hg hk (fun e a w=>match e with | .normal=>NX a w | e=>QE e a w) hN
  unfold wpOp
  rw [hoi]
  simp only [wpList] at this ⊢
  split
  · rename_i hw
    rw [if_pos hw] at this
    rcases this with h1 | ⟨h1,a',w',h2⟩
    · exact .inl (wpQ (fun e a w hne h=>by simp_all) h1)
    · exact .inr ⟨h1,a',w',h2⟩
  simp_all
theorem pairs_ok {p:Nat→Nat→Bool}:∀ (l:List Nat),pairsOK p l=true→l.Pairwise fun i j=>p i j=true
  | [],_=>List.Pairwise.nil
  | i::r,h=>by
    simp only [pairsOK,Bool.and_eq_true] at h
    exact List.Pairwise.cons (fun j hj=>List.all_eq_true.1 h.1 j hj) (pairs_ok r h.2)
theorem drawn_ok {id:Nat} {opsA:Array Oper} {l lp:List (Bool × AOp)} {ord:List Nat} {K:AS→Prop} {st:AS} (hc:compileOps P opsA opsA.toList=some (l.map (·.2)))
    (hd:drawC (cloL opsA.toList []) opsA.toList l ord=some lp) (hw:AWL P G k K lp st) (hi:Inv F γ st.hp w) (hs:Slots F γ st.sl a) (hg:GlobOK F G) (hk:k≤γ.length)
    {QE:Exit→Act→World→Prop} (hQ:∀ a' w' F' γ' st',K st'→Ext k F γ w F' γ' w'→Inv F' γ' st'.hp w'→Slots F' γ' st'.sl a'→k≤γ'.length→QE .normal a' w'):(Code.region id opsA true).wp P QE a w:=by
  refine wp_region_draw fun t=>?_
  suffices hmd:∀ md:Region.Mode,wpAny P md opsA QE opsA.size (Array.replicate opsA.size false) a { w with drawn:=w.drawn+1 } by
    unfold Region.schedule
    split
    · exact wpAny_sound opsA.size t _ a _ (hmd _)
    · exact wpAny_sound opsA.size (t / 2) _ a _ (hmd _)
  intro md
  unfold drawC at hd
  split at hd
  · rename_i hok
    injection hd with hd
    subst hd
    simp only [drawOK,Bool.and_eq_true] at hok
    obtain ⟨⟨⟨hb0,hall0⟩,hlt0⟩,hpr⟩:=hok
    have hpw:=pairs_ok _ hpr
    have comp:∀ (ops:List Oper) (l:List AOp),compileOps P opsA ops=some l→ops.length=l.length∧∀ (i:Nat) o x,ops[i]?=some o→l[i]?=some x→compileOpr P opsA o=some x:=by
      intro ops
      induction ops with
      | nil=>intro l h;simp [compileOps] at h;subst h;exact ⟨rfl,fun i o x h=>by simp at h⟩
      | cons o ops ih=>
        intro l h
        simp only [compileOps] at h
        cases h1:compileOpr P opsA o with
        | none=>simp [h1] at h
        | some y=>cases h2:compileOps P opsA ops with
          | none=>simp [h1,h2] at h
          | some r=>
            simp [h1,h2] at h
            subst h
            obtain ⟨i1,i2⟩:=ih r h2
            refine ⟨by simp [i1],fun i o' x' ho hx=>?_⟩
            cases i with
            | zero=>simp_all
            | succ i=>grind
    obtain ⟨hlen,hcomp⟩:=comp _ _ hc
    have hN:opsA.size=l.length:=by simpa using hlen
    have hop:∀ (i:Nat) oper,opsA[i]?=some oper→compileOpr P opsA oper=some (l.getD i dummyO).2:=by
      intro i oper h
      have hlt:i < l.length:=by rw [← hN];exact (Array.getElem?_eq_some_iff.1 h).1
      refine hcomp i oper _ (by simpa using h) ?_
      rw [List.getElem?_map,List.getElem?_eq_getElem hlt,List.getD_eq_getElem?_getD,List.getElem?_eq_getElem hlt]
      rfl
    have htop:topoM md opsA.toList=true:=by
      have:=List.all_eq_true.1 hb0 md (by cases md<;>simp)
      exact this
    simp only [topoM,topoE,Bool.and_eq_true] at htop
    generalize kahn (opsA.toList.map (edgesM md)) opsA.toList.length [] (List.range opsA.toList.length)=tord at htop
    obtain ⟨⟨ht1,ht3⟩,ht2⟩:=htop
    have hrange:∀ (i:Nat) o,opsA[i]?=some o→∀ e∈edgesM md o,e < opsA.size:=by
      intro i o ho e he
      have h1:=List.all_eq_true.1 ht3 (edgesM md o) (List.mem_map.2 ⟨o,by
        rw [Array.mem_toList_iff]
        exact Array.mem_of_getElem? ho,rfl⟩)
      simpa using List.all_eq_true.1 h1 e he
    have htall:∀ (listed:Array Bool),listed.size=opsA.size→Region.ready md opsA listed=[]→∀ (r done:List Nat),topoOK (opsA.toList.map (edgesM md)) r done=true→(∀ j∈done,j < opsA.size→listed.getD j false=true)→∀ j∈r,j < opsA.size→listed.getD j false=true:=by
      intro listed hsz hno r
      induction r with
      | nil=>intro done _ _ j hj;cases hj
      | cons i r ih=>
        intro done h hd j hj hlt
        simp only [topoOK,Bool.and_eq_true] at h
        have hi0:i < opsA.size→listed.getD i false=true:=by
          intro hil
          cases hlj:listed.getD i false with
          | true=>rfl
          | false=>
            exfalso
            have hoi:opsA[i]?=some opsA[i]:=Array.getElem?_eq_getElem hil
            have:i∈Region.ready md opsA listed:=ready_intro hsz hil hlj hoi (fun e he=>by
              have h3:=List.all_eq_true.1 h.1 e (by
                rw [List.getD_eq_getElem?_getD,List.getElem?_map]
                simp only [Array.getElem?_toList,hoi,Option.map_some,Option.getD_some]
                exact he)
              have hmem:e∈done:=by grind
              exact hd e hmem (hrange i _ hoi e he))
            rw [hno] at this
            cases this
        rcases List.mem_cons.1 hj with rfl | hj
        · exact hi0 hlt
        · exact ih (i::done) h.2 (fun q hq hql=>by
            rcases List.mem_cons.1 hq with rfl | hq
            · grind
            · grind) j hj hlt
    have main:∀ (fuel:Nat) (listed:Array Bool) (a:Act) (w':World) (F':Fz) (γ':List OI) (U:List Nat) (st:AS),listed.size=opsA.size→(∀ i,i < opsA.size→(listed.getD i false=false↔i∈U))→(∀ i∈U,i < opsA.size)→
        (U.Pairwise fun i j=>(i != j&&(((cloL opsA.toList []).getD j []).contains i||cmpO (l.getD i dummyO) (l.getD j dummyO)))=true)→
        (∀ (i:Nat) o,opsA[i]?=some o→listed.getD i false=true→∀ e∈edgesOf o,listed.getD e false=true)→U.length≤fuel→
        Ext k F γ w F' γ' w'→Inv F' γ' st.hp w'→Slots F' γ' st.sl a→k≤γ'.length→AWL P G k K (U.map fun i=>l.getD i dummyO) st→wpAny P md opsA QE fuel listed a w':=by
      intro fuel
      induction fuel with
      | zero=>
        intro listed a w' F' γ' U st hsz hU hUl hpw hcl hf hE hI hS hk' hA
        have hnil:U=[]:=List.eq_nil_of_length_eq_zero (by omega)
        subst hnil
        refine ⟨?_,hQ a w' F' γ' st hA hE hI hS hk'⟩
        rw [List.eq_nil_iff_forall_not_mem]
        intro i hi
        obtain ⟨h1,h2,_⟩:=ready_elim hsz hi
        have:=(hU i h1).1 h2
        simp at this
      | succ fuel ih=>
        intro listed a w' F' γ' U st hsz hU hUl hpw hcl hf hE hI hS hk' hA
        refine ⟨fun hno=>?_,fun i hi=>?_⟩
        · have hz:∀ j,j < opsA.size→listed.getD j false=true:=by
            intro j hj
            refine htall listed hsz hno tord [] ht1 (fun j hj=>by cases hj) j ?_ hj
            have:=List.all_eq_true.1 ht2 j (by simpa using hj)
            simpa using this
          cases U with
          | nil=>exact hQ a w' F' γ' st hA hE hI hS hk'
          | cons u U=>
            have h1:=hUl u List.mem_cons_self
            have:=(hU u h1).2 List.mem_cons_self
            rw [hz u h1] at this;cases this
        · obtain ⟨h1,h2,oper,hoi,he⟩:=ready_elim hsz hi
          have hclo:∀ j∈(cloL opsA.toList []).getD i [],listed.getD j false=true:=
            clo_ok (L:=fun j=>listed.getD j false=true) opsA.toList (fun i o h=>hcl i o (by simpa using h)) i oper (by simpa using hoi) he
          obtain ⟨R1,R2,rfl⟩:=List.append_of_mem ((hU i h1).1 h2)
          have hpw2:=List.pairwise_append.1 hpw
          have hfront:AWL P G k K ((l.getD i dummyO)::(R1.map (fun i=>l.getD i dummyO)++R2.map fun i=>l.getD i dummyO)) st:=by
            refine AWL.front _ _ (fun x hx=>?_) (by simpa using hA)
            obtain ⟨r,hr,rfl⟩:=List.mem_map.1 hx
            have h3:=hpw2.2.2 r hr i List.mem_cons_self
            simp only [Bool.and_eq_true,Bool.or_eq_true,List.contains_iff_mem] at h3
            rcases h3.2 with h4 | h4
            · have h5:=hclo r h4
              have h6:=(hU r (hUl r (by simp [hr]))).2 (by simp [hr])
              rw [h5] at h6;cases h6
            · exact h4
          rw [← List.map_append] at hfront
          refine WR.op (AWL.head hfront) hoi (hop i oper hoi) hI hS (hg.sub hE.sub) hk' (fun a'' w'' F'' γ'' st'' q1 q2 q3 q4 q5=>?_)
          have hnd:i∉R1∧i∉R2:=by
            refine ⟨fun h=>?_,fun h=>?_⟩
            · have:=hpw2.2.2 i h i List.mem_cons_self
              simp at this
            · have:=(List.pairwise_cons.1 hpw2.2.1).1 i h
              simp at this
          refine ih _ a'' w'' F'' γ'' (R1++R2) st'' (by simpa using hsz) (fun j hj=>?_) (fun j hj=>hUl j (by simp at hj ⊢;rcases hj with h | h<;>simp [h])) ?_ (fun j oj hoj hj e hee=>?_) (by simp at hf ⊢;omega) (hE.trans q2) q3 q4 q5 q1
          · by_cases hij:i=j
            · subst hij
              rw [show (listed.setIfInBounds i true).getD i false=true by rw [Array.getD_eq_getD_getElem?,Array.getElem?_setIfInBounds_self_of_lt (by omega)];rfl]
              simp [hnd]
            · rw [getD_set_ne false hij,hU j hj]
              simp [Ne.symm hij]
          · exact hpw.sublist (by simp)
          · by_cases hij:i=j
            · subst hij
              rw [hoi] at hoj;injection hoj with hoj;subst hoj
              exact getD_set_true (he e hee)
            · rw [getD_set_ne false hij] at hj
              exact getD_set_true (hcl j oj hoj hj e hee)
    have hrep:∀ j,(Array.replicate opsA.size false).getD j false=false:=by
      intro j
      rw [Array.getD_eq_getD_getElem?]
      by_cases hjs:j < opsA.size<;>simp [hjs]
    have hlo:ord.length≤opsA.size:=by
      have hnd:ord.Nodup:=hpw.imp (fun h e=>by simp [e] at h)
      have:=List.Nodup.length_le_of_subset hnd (l₂:=List.range l.length) (fun i hi=>by
        have:=List.all_eq_true.1 hlt0 i hi
        simpa using this)
      simpa [hN] using this
    exact main opsA.size (Array.replicate opsA.size false) a { w with drawn:=w.drawn+1 } F γ ord st (by simp) (fun i hi=>by
        rw [hrep]
        have:=List.all_eq_true.1 hall0 i (by simpa [← hN] using hi)
        simpa using this) (fun i hi=>by
        have:=List.all_eq_true.1 hlt0 i hi
        rw [hN];simpa using this) hpw (fun i o ho hl=>by rw [hrep] at hl;cases hl) hlo (Ext.drawn _ _ _ _ _) (hi.drawn _) hs hk hw
  · cases hd
end
end Go.Proofs.YtmmafhopnkkeeaaGreatDoor
