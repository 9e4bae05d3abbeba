/- Part. Conditions: none. -/
import Derived.Test.YtalhnjjchkmfeaaGreatDoorLo
namespace Go.Proofs.YtalhnjjchkmfeaaGreatDoor
set_option linter.unusedSimpArgs false
set_option linter.unusedVariables false
def kZ(o:Oper):L Nat:=(o.after.toList.filter (Region.binds .any)).map (·.on)
def kM(b:Region.Mode)(o:Oper):L Nat:=(o.after.toList.filter (Region.binds b)).map (·.on)
def aEH(E:L (L Nat)):Nat->L Nat->L Nat->L Nat
 |0,_,_=>[]
 | n+1,done,b=>match b.find? fun i=>(E.getD i []).all done.contains with
   | some i=>i::aEH E n (i::done) (b.erase i)
   | none=>[]
def uL(E:L (L Nat)):L Nat->L Nat->Bool
 |[],_=>true
 |i::r,done=>((E.getD i []).all fun e=>done.contains e)&&uL E r (i::done)
def Zu(n:Nat)(E:L (L Nat))(o:L Nat):Bool:=uL E o []&&(E.all fun l=>l.all fun e=>decide (e<n))&&(List.range n).all fun i=>o.contains i
def C5(b:Region.Mode)(ops:L Oper):Bool:=Zu ops.length (ops.map (kM b)) (aEH (ops.map (kM b)) ops.length [] (List.range ops.length))
def kE:L Oper->L (L Nat)->L (L Nat)
 |[],b=>b
 |o::ops,b=>kE ops (b++[(kZ o++(kZ o).flatMap fun e=>b.getD e []).eraseDups])
def bK:AI->L aH
 |.mov x=>[x]|.pick c a b=>[c,a,b]|.alloc _=>[]|.box x=>[x]|.load _ _ x=>[x]|.store _ x v=>[x,v]|.nilc x=>[x]|.isnil _ _ x=>[x]|.mpx _ _ x k=>[x,k]
 |.bin _ x y=>[x,y]|.binb _ x y=>[x,y]|.eqs _ _ x y=>[x,y]|.un _ x=>[x]|.conv _ x=>[x]|.cvid x=>[x]|.cvbs x=>[x]
 |.addo _ x=>[x]|.fld _ _ _ x=>[x]|.ixA _ _ x i=>[x,i]|.ixL _ x i=>[x,i]|.ixS x i=>[x,i]|.ixV _ x i=>[x,i]|.s2p _ x=>[x]
 |.slS x l h=>x::(l.toList++h.toList)|.slL _ x l h=>x::(l.toList++h.toList)
 |.bslc _ _ _ e=>e.map (·.2)|.build _ e=>e.map (·.2.2)|.ext x _=>[x]|.lenS x=>[x]|.lenL x=>[x]|.lenA _=>[]
 |.min2 x y=>[x,y]|.max2 x y=>[x,y]|.mkfn _ cs=>cs|.call _ f=>f|.callv x f=>x::f|.app _ _ _ x y=>[x,y]|.apps x y=>[x,y]|.mk _ _ _ l c=>[l,c]|.clr _ _ x=>[x]|.cpys d x=>[d,x]|.cvsb x=>[x]|.slA _ _ x l h=>x::(l.toList++h.toList)
def aXl:aH->Option Nat
 |.t n=>some n
 |_=>none
def mY(o:aN):L Nat:=(bK o.ai).filterMap aXl++(match o.guard with|some (g,_)=>[g]|none=>[])
def Zv:AI->Bool
 |.call _ _=>true
 |.alloc _=>false|.box _=>false|.store _ _ _=>false|.bslc _ _ _ _=>false|.callv _ _=>false|.app _ _ _ _ _=>false|.apps _ _=>false|.mk _ _ _ _ _=>false|.clr _ _ _=>false|.cpys _ _=>false|.cvsb _=>false
 |_=>true
def uM:AI->Bool
 |.load _ _ _=>false|.cvbs _=>false|.ixL _ _ _=>false
 |x=>Zv x
def aJC(x:AI):AI->Bool
 |.alloc _=>true|.box _=>true|.bslc _ _ _ _=>true
 |.call _ _=>true
 |.store _ _ _=>uM x
 |.app _ _ _ _ _=>match x with|.mov _=>true|.slL _ _ _ _=>true|_=>false
 |_=>false
def Cb:Option Nat->Option Nat->Bool
 |some d,some e=>d != e
 |_,_=>true
def lT(d:Option Nat)(o:aN):Bool:=match d with|none=>true|some t=>!(mY o).contains t
def E1:AI->Bool
 |.lenL _=>true|.bin _ _ _=>true|.slL _ _ _ _=>true
 |_=>false
def aNK:AI->Bool
 |.app _ _ _ _ _=>true|.call _ _=>true
 |_=>false
def aEI(x y:Bool×aN):Bool:=Cb x.2.dst y.2.dst&&lT x.2.dst y.2&&lT y.2.dst x.2&&((x.1&&(y.1||aJC x.2.ai y.2.ai))||(!x.1&&y.1&&E1 y.2.ai&&aNK x.2.ai))
def isCall:AI->Bool
 |.call _ _=>true
 |_=>false
def aEJ(l:L aN)(d:Option Nat):Bool:=l.any fun p=>match p.ai,d with
 |.app _ _ _ (.t n) _,some d=>n==d
 |_,_=>false
def rF(c:L (L Nat))(l:L aN):L (Bool×aN):=
 l.zipIdx.map fun (o,i)=>(Zv o.ai&&(!isCall o.ai||!aEJ l o.dst)&&(!isCall o.ai||!(List.range l.length).all fun j=>i==j||(c.getD i []).contains j||(c.getD j []).contains i),o)
theorem Iw{c:L (L Nat)}{l:L aN}:(rF c l).map (·.2)=l:=by
 simp only[rF,aZ5];exact List.zipIdx_map_fst 0 l
def Ix(c:L (L Nat))(b:L Nat)(i:Nat):Bool:=b.all fun j=>!(c.getD i []).contains j
def O3(c:L (L Nat))(q:L Bool):Nat->L Nat->L Nat
 |0,_=>[]
 | n+1,b=>match (b.find? fun i=>q.getD i false&&Ix c b i).or (b.find? (Ix c b)) with
   | some i=>i::O3 c q n (b.erase i)
   | none=>[]
def aEK(c:L (L Nat))(q d:L Bool):Nat->L Nat->L Nat
 |0,_=>[]
 | n+1,b=>match ((b.find? fun i=>q.getD i false&&!d.getD i false&&Ix c b i).or (b.find? fun i=>!q.getD i false&&Ix c b i)).or (b.find? (Ix c b)) with
   | some i=>i::aEK c q d n (b.erase i)
   | none=>[]
def qS:Bool×aN:=(false,⟨none,.lenA 0,none⟩)
def oF(p:Nat->Nat->Bool):L Nat->Bool
 |[]=>true
 |i::r=>r.all (p i)&&oF p r
def aEL(c:L (L Nat))(ops:L Oper)(l:L (Bool×aN))(b:L Nat):Bool:=
 ([Region.Mode.text,.gc,.any].all fun d=>C5 d ops)&&((List.range l.length).all fun i=>b.contains i)&&(b.all fun i=>decide (i<l.length))&&
 oF (fun i j=>i != j&&((c.getD j []).contains i||aEI (l.getD i qS) (l.getD j qS))) b
def Gd(c:L (L Nat))(ops:L Oper)(l:L (Bool×aN))(b:L Nat):Option (L (Bool×aN)):=
 if aEL c ops l b then some (b.map fun i=>l.getD i qS) else none
theorem Wq{L:Nat->Prop}(ops:List Oper)(q:∀(i:Nat) o,ops[i]?=some o->L i->∀e∈kZ o,L e):∀(i:Nat) o,ops[i]?=some o->(∀e∈kZ o,L e)->∀j∈(kE ops []).getD i [],L j:=by
 have n:∀(d b:List Oper)(c:List (List Nat)),b++d=ops->b.length=c.length->
   (∀(i:Nat) o,b[i]?=some o->(∀e∈kZ o,L e)->∀j∈c.getD i [],L j)->∀(i:Nat) o,ops[i]?=some o->(∀e∈kZ o,L e)->∀j∈(kE d c).getD i [],L j:=by
  intro d
  induction d with
  |nil=>
   intro b c hp l h i o m p j f;simp at hp;subst hp;exact h i o m p j f
  |cons t d s=>
   intro b c hp l h;refine s (b++[t]) _ (by simp[hp]) (by simp[l]) (fun i o m p j f=>?_)
   rcases iN m with g|⟨g,rfl⟩;have r:=aK g;rw[aZN,aZU (by omega),<- aZN] at f
   grind
   subst g;rw[aZN,l] at f;simp only[aZ0 (aZE _),bAr,bBi,bAl,List.mem_eraseDups,bAY,List.mem_flatMap] at f;grind
 exact n ops [] [] rfl rfl (fun i o h=>by simp at h)
def O4(b:AI)(hp:L aD):L aD:=match b with|.slL _ _ _ _=>[]|_=>hp
def G1(P:Program)(G:aF)(sl:L AV)(hp:L aD)(o:aN)(v:AV):Prop:=
 (G0 G ⟨sl,hp⟩ o.guard/\v=.tup [])\/
 (jR G ⟨sl,hp⟩ o.guard/\(dL G ⟨sl,O4 o.ai hp⟩ o.ai=some v\/∃f c b r,o.ai=.call f c/\QC P G f b r/\∀n,c.map (aM G sl)=b.map (dP (cQ [] n))/\v=dP (cQ [] n) r))
def C6(P:Program)(G:aF)(k:Nat)(f:FuncId)(b:L AV)(hp:L aD)(T:AV->L aD->Prop):Prop:=
 ∀F γ (w:World) (vs:Array Value),dV F γ hp w->fZ F G->k<=γ.length->mR F γ b vs->
  Calls P f vs w fun e w'=>∃r c os F' γ',e=.returned r/\T c os/\iL k F γ w F' γ' w'/\dV F' γ' (hp++os) w'/\(∀(id:Nat)(o:OI),γ[id]?=some o->γ'[id]?=some o)/\RV F' γ' c r
def uN(P:Program)(G:aF)(k:Nat)(d:Option Nat)(o:AI)(K:AS->Prop)(sl:L AV)(hp:L aD):Prop:=
 match o with
 |.alloc c=>K ⟨aR sl d (.one (.ptr hp.length 0)),hp++[.box (c.map cK)]⟩
 |.box x=>∃cs,cellsOf (aM G sl x)=some cs/\K ⟨aR sl d (.one (.ptr hp.length 0)),hp++[.box cs]⟩
 | .bslc size len c h=>(∃ es,iQ ((List.range (len * size)).map fun i=>cK (c.getD (i % c.length) undef)) (h.map fun (j,x)=>(j * size,size,aM G sl x))=some (kY es.flatten)/\
     (∀ e∈es,e.length=size)/\es.length=len/\K ⟨aR sl d (.one (.bld hp.length len)),hp++[.arr len size es]⟩)\/
     (size=1/\∃ cs,iQ ((List.range (len * size)).map fun i=>cK (c.getD (i % c.length) undef)) (h.map fun (j,x)=>(j * size,size,aM G sl x))=some cs/\K ⟨aR sl d (.one (.bls hp.length 0 len 1)),hp++[.box cs]⟩)
 | .store size x v=>d=none/\
     ((∃ id off cs vs,aM G sl x=.one (.ptr id off)/\cellsOf (aM G sl v)=some vs/\aL hp id=.box cs/\vs.length=size/\off+size<=cs.length/\K ⟨sl,hp.set id (.box (dA cs off vs))⟩)\/
      (∃ id i s off cap es e p,aM G sl x=.one (.ept id i s off)/\cellsOf (aM G sl v)=some (kY p)/\aL hp id=.arr cap s es/\es[i]?=some e/\p.length=size/\off+size<=e.length/\
         K ⟨sl,hp.set id (.arr cap s (es.set i (e.take off++p++e.drop (off+size))))⟩))
 | .app size bytes _ s x=>(aM G sl s=dX (.slice none 0 0)/\∃ b,sF hp (aM G sl x)=some b/\(∀ e∈b,e.length=size)/\b.length * bytes<=140737488355328/\
       ∀ g,b.length<=g->K ⟨aR sl d (.one (.bld hp.length b.length)),hp.map (cU (·==hp.length))++[.arr g size b]⟩)\/
     ∃ id n cap es b,aM G sl s=.one (.bld id n)/\aL hp id=.arr cap size es/\n<=es.length/\sF hp (aM G sl x)=some b/\(∀ e∈b,e.length=size)/\
     (n+b.length) * bytes<=140737488355328/\∀ g,n+b.length<=g->K ⟨aR (sl.map (bG (·==id))) d (.one (.bld id (n+b.length))),(hp.map (cU (·==id))).set id (.arr g size (es.take n++b))⟩
 |.call f l=>∃T,C6 P G k f (l.map (aM G sl)) hp T/\(∃m os,T m os)/\∀m os,T m os->K ⟨aR sl d m,hp++os⟩
 |o=>WR P G k [⟨d,o,none⟩] K ⟨sl,hp⟩
def Eff(P:Program)(G:aF)(k:Nat)(o:aN)(K:AS->Prop)(st:AS):Prop:=
 (G0 G st o.guard/\K ⟨aR st.sl o.dst (.tup []),st.hp⟩)\/(jR G st o.guard/\uN P G k o.dst o.ai K st.sl st.hp)
def kB(P:Program)(G:aF)(k:Nat)(K:AS->Prop):L (Bool×aN)->AS->Prop
 |[],st=>K st
 |(true,o)::l,st=>∃v,G1 P G st.sl st.hp o v/\kB P G k K l ⟨aR st.sl o.dst v,st.hp⟩
 |(false,o)::l,st=>Eff P G k o (kB P G k K l) st
section
variable {P:Program}{G:aF}{k:Nat}{F:Fz}{γ:L OI}{w:World}{a:Act}
theorem Ge{α c:Type}{f g:α->Option c}:∀(l:L α),(∀x∈l,f x=g x)->l.mapM f=l.mapM g
 |[],_=>rfl
 |x::l,h=>by rw[bAA,bAA,h x aZT,Ge l (fun y b=>h y (aZ3 _ b))]
theorem Mt{sl b:L AV}{hp:L aD}{ai:AI}(h:∀x∈bK ai,aM G sl x=aM G b x):dL G ⟨sl,hp⟩ ai=dL G ⟨b,hp⟩ ai:=by
 cases ai with
 |slS x l d=>
  have e:=h x (by simp[bK]);have i:l.map (aM G sl)=l.map (aM G b):=by cases l with|none=>rfl|some y=>grind[bK]
  have h3:d.map (aM G sl)=d.map (aM G b):=by cases d with|none=>rfl|some y=>grind[bK]
  grind[dL]
 |slL s x l d=>
  have e:=h x (by simp[bK]);have i:l.map (aM G sl)=l.map (aM G b):=by cases l with|none=>rfl|some y=>grind[bK]
  have h3:d.map (aM G sl)=d.map (aM G b):=by cases d with|none=>rfl|some y=>grind[bK]
  grind[dL]
 |slA n s x l d=>
  have e:=h x (by simp[bK]);have i:l.map (aM G sl)=l.map (aM G b):=by cases l with|none=>rfl|some y=>grind[bK]
  have h3:d.map (aM G sl)=d.map (aM G b):=by cases d with|none=>rfl|some y=>grind[bK]
  grind[dL]
 |build z m=>
  have:(m.map fun (o,s,x)=>(o,s,aM G sl x))=m.map fun (o,s,x)=>(o,s,aM G b x):=aZ1 (fun p hp=>by
    obtain⟨o,s,x⟩:=p;simp only[h x (by simp only[bK,List.mem_map];grind)])
  grind[dL]
 |mkfn f cs=>
  grind[jF,aM,Ge,bK,dL]
 |pick c x y=>grind[dL,bK]
 |bin j x y=>grind[dL,bK]
 |binb n x y=>grind[dL,bK]
 |eqs n q x y=>grind[dL,bK]
 |ixA n s x y=>grind[dL,bK]
 |ixL s x y=>grind[dL,bK]
 |ixS x y=>grind[dL,bK]
 |ixV n x y=>grind[dL,bK]
 |s2p n x=>grind[dL,bK]
 |min2 x y=>grind[dL,bK]
 |max2 x y=>grind[dL,bK]
 |mov x=>grind[dL,bK]
 |load g s x=>grind[dL,bK]
 |nilc x=>grind[dL,bK]
 |isnil p n x=>grind[dL,bK]
 |mpx r z x y=>grind[dL,bK]
 |un j x=>grind[dL,bK]
 |conv j x=>grind[dL,bK]
 |cvid x=>grind[dL,bK]
 |cvbs x=>grind[dL,bK]
 |addo o x=>grind[dL,bK]
 |fld g s o x=>grind[dL,bK]
 |ext x n=>grind[dL,bK]
 |lenS x=>grind[dL,bK]
 |lenL x=>grind[dL,bK]
 |_=>rfl
theorem iF{sl c:L AV}{o:aN}(h:∀t∈mY o,sl.getD t .junk=c.getD t .junk):(∀x∈bK o.ai,aM G sl x=aM G c x)/\(∀g b,o.guard=some (g,b)->aM G sl (.t g)=aM G c (.t g)):=by
 refine⟨fun x e=>?_,fun g b d=>?_⟩
 cases x with
 |t n=>exact h n (by simp only[mY,bAY,List.mem_filterMap];exact .inl ⟨_,e,rfl⟩)
 |k v=>rfl
 |g n=>rfl
 |f n=>rfl
 exact h g (by simp[mY,d])
theorem gA{sl b:L AV}{hp hp':L aD}{o:aN}(h:∀t∈mY o,sl.getD t .junk=b.getD t .junk)(e:jR G ⟨sl,hp⟩ o.guard):jR G ⟨b,hp'⟩ o.guard:=by
 obtain⟨_,d⟩:=iF (G:=G) h;cases c:o.guard with
 |none=>trivial
 |some q=>grind[jR]
theorem oV{sl b:L AV}{hp hp':L aD}{o:aN}(h:∀t∈mY o,sl.getD t .junk=b.getD t .junk)(d:G0 G ⟨sl,hp⟩ o.guard):G0 G ⟨b,hp'⟩ o.guard:=by
 obtain⟨_,e⟩:=iF (G:=G) h;cases c:o.guard with
 |none=>rw[c] at d;exact d
 |some q=>grind[G0]
theorem G1.congr{sl d:L AV}{hp:L aD}{o:aN}{v:AV}(h:∀t∈mY o,sl.getD t .junk=d.getD t .junk)(g:G1 P G sl hp o v):G1 P G d hp o v:=by
 obtain⟨e,j⟩:=iF (G:=G) h;rcases g with⟨h3,h4⟩|⟨h3,h4⟩;exact .inl ⟨oV h h3,h4⟩;refine .inr ⟨gA h h3,?_⟩;rcases h4 with h4|⟨f,c,b,r,h5,h6,h7⟩;grind[Mt];refine .inr ⟨f,c,b,r,h5,h6,fun n=>⟨?_,(h7 n).2⟩⟩
 rw[<- (h7 n).1];exact aZ1 (fun x i=>(e x (by rw[h5];exact i)).symm)
theorem sG{hp:L aD}{b:aD}{id:Nat}(h:aL hp id≠.dead):aL (hp++[b]) id=aL hp id:=by
 unfold aL at *;grind
theorem Wr{hp:L aD}{b:aD}{g:Bool}{s:Nat}{x v:AV}(h:mK hp g s x=some v):mK (hp++[b]) g s x=some v:=by
 unfold mK at *;split at h;all_goals grind[id,aL,sG]
theorem Ws{hp:L aD}{b:aD}{x v:AV}(h:nZ hp x=some v):nZ (hp++[b]) x=some v:=by
 unfold nZ at *;split at h;all_goals grind[id,aL,sG]
theorem aBY{hp:L aD}{b:aD}{s:Nat}{x v:AV}{i:Int}(h:Cv hp s x i=some v):Cv (hp++[b]) s x i=some v:=by
 unfold Cv at *;split at h;all_goals grind[id,aL,sG]
theorem aBZ{hp:L aD}{b:aD}{s:Nat}{x v:AV}{l r:Option AV}(h:lM hp s x l r=some v):lM (hp++[b]) s x l r=some v:=by
 unfold lM at *;split at h;all_goals grind[id,aL,sG]
theorem aEM{sl:L AV}{hp:L aD}{c:aD}{b:AI}{v:AV}(h:dL G ⟨sl,hp⟩ b=some v):dL G ⟨sl,hp++[c]⟩ b=some v:=by
 cases b with
 |load g s x=>exact Wr h
 |cvbs x=>exact Ws h
 |slL s x l r=>exact aBZ h
 |ixL s x i=>
  simp only[dL] at h ⊢;cases d:bI (aM G sl i) with
  |none=>simp_all
  |some n=>grind[aBY]
 |_=>exact h
theorem aEN{sl:L AV}{hp hp':L aD}{ai:AI}(b:uM ai=true):dL G ⟨sl,O4 ai hp⟩ ai=dL G ⟨sl,O4 ai hp'⟩ ai:=by
 cases ai<;>first|rfl|grind[uM]
theorem aB0{sl:L AV}{hp:L aD}{c:aD}{b:AI}{v:AV}(h:dL G ⟨sl,O4 b hp⟩ b=some v):dL G ⟨sl,O4 b (hp++[c])⟩ b=some v:=by
 cases b<;>first|exact h|exact aEM h
theorem aEO{hp:L aD}{s:Nat}{x v:AV}{l r:Option AV}(h:lM [] s x l r=some v):lM hp s x l r=some v:=by
 unfold lM at *;grind[aL]
theorem aJD{sl:L AV}{hp:L aD}{b:AI}{v:AV}(h:dL G ⟨sl,O4 b hp⟩ b=some v):dL G ⟨sl,hp⟩ b=some v:=by
 cases b<;>first|exact h|exact aEO h
theorem G1.push{sl:L AV}{hp:L aD}{c:aD}{o:aN}{v:AV}(b:G1 P G sl hp o v):G1 P G sl (hp++[c]) o v:=by
 rcases b with⟨h3,h4⟩|⟨h3,h4⟩;exact .inl ⟨oV (fun _ _=>rfl) h3,h4⟩
 exact .inr ⟨gA (fun _ _=>rfl) h3,h4.imp aB0 id⟩
theorem G1.pushL{sl:L AV}{o:aN}{v:AV}:∀(os:L aD) {hp:L aD},G1 P G sl hp o v->G1 P G sl (hp++os) o v
 |[],hp,h=>by simpa using h
 | b::os,hp,h=>by
   have:=G1.pushL os (hp:=hp++[b]) h.push;simpa using this
theorem G1.free{sl:L AV}{hp hp':L aD}{o:aN}{v:AV}(c:uM o.ai=true)(b:G1 P G sl hp o v):G1 P G sl hp' o v:=by
 rcases b with⟨h3,h4⟩|⟨h3,h4⟩;exact .inl ⟨oV (fun _ _=>rfl) h3,h4⟩
 exact .inr ⟨gA (fun _ _=>rfl) h3,h4.imp (fun h=>by grind[aEN]) id⟩
theorem aEP{sl:L AV}{d:Option Nat}{v:AV}{t:Nat}(h:d≠some t):(aR sl d v)[t]?=sl[t]?:=by
 cases d with
 |none=>rfl
 |some d=>grind[aR,List.getElem?_set_ne]
theorem fW{sl:L AV}{d:Option Nat}{v:AV}{o:aN}(h:lT d o=true):∀t∈mY o,(aR sl d v).getD t .junk=sl.getD t .junk:=by
 intro t b;rw[aZN,aZN,aEP];grind[lT]
theorem gB{sl:L AV}{d e:Option Nat}{u v:AV}(h:Cb d e=true):aR (aR sl d u) e v=aR (aR sl e v) d u:=by
 cases d with
 |none=>rfl
 | some d=>cases e with
   | none=>rfl
   | some e=>
     grind[Cb,aR,List.set_comm]
theorem Rz{sl:L AV}{d:Option Nat}{u:AV}{f:AV->AV}:(aR sl d u).map f=aR (sl.map f) d (f u):=by
 cases d with
 |none=>rfl
 |some d=>simp[aR,bAd]
theorem aEQ(p:Nat->Bool)(l:L Value):(l.map cK).map (cN p)=l.map cK:=by
 simp_all[aZ5,aZ1,cK,cN,aV.keep]
theorem jU{p:Nat->Bool}{sl:L AV}(x:aH):aM G (sl.map (bG p)) x=bG p (aM G sl x):=by
 cases x with
 |t n=>
  simp only[aM,aZN,aZI];cases sl[n]? with
  |none=>rfl
  |some y=>rfl
 |k v=>
  simp only[aM];unfold aEj;split;grind[bG,aEQ];all_goals simp_all[dX,bG,cN,aV.keep]
 |g n=>
  grind[aM,bG,cN,aV.keep]
 |f n=>simp[aM,bG,cN,aV.keep,keepL]
theorem Gf{p:Nat->Bool}{v:AV}{b:Bool}(h:cO v=some b):cO (bG p v)=some b:=by
 unfold cO at h;split at h;simp[bG,cN,aV.keep];exact h;cases h
theorem Wt{p:Nat->Bool}{v:AV}{b:Int}(h:bI v=some b):bI (bG p v)=some b:=by
 unfold bI at h;split at h;simp[bG,cN,aV.keep];exact h;cases h
theorem Iy{p:Nat->Bool}{x:Option AV}{t d n:Nat}(h:eI x t d=some n):eI (x.map (bG p)) t d=some n:=by
 cases x with
 |none=>exact h
 |some v=>
  grind[eI,bI,Wt]
theorem aB1{p:Nat->Bool}{s:Nat}{x v:AV}{l r:Option AV}(h:lM [] s x l r=some v):lM [] s (bG p x) (l.map (bG p)) (r.map (bG p))=some (bG p v):=by
 unfold lM at h;split at h;obtain⟨a,f,c⟩:=bAk.1 h;obtain⟨b,h3,h4⟩:=bAk.1 c;have e:∀d:DC,bG p (.one (.dc d))=.one (.dc d):=fun d=>by simp[bG,cN,aV.keep]
 split at h4;injection h4 with h4;subst h4
 simp_all[lM,Iy,aZQ,if_pos]
 grind
 obtain⟨a,f,c⟩:=bAk.1 h;obtain⟨b,h3,h4⟩:=bAk.1 c;injection h4 with h4;subst h4;simp_all[bG,cN,aV.keep,lM,Iy,aZQ];all_goals grind[aL]
def aER(b:AI):Prop:=(∃x,b=.mov x)\/∃s x l h,b=.slL s x l h
theorem G1.kill{sl:L AV}{hp hp':L aD}{p:Nat->Bool}{o:aN}{v:AV}(d:aER o.ai)(m:G1 P G sl hp o v):G1 P G (sl.map (bG p)) hp' o (bG p v):=by
 rcases m with⟨h3,rfl⟩|⟨h3,h4⟩;refine .inl ⟨?_,rfl⟩;cases c:o.guard with
 |none=>rw[c] at h3;exact h3
 |some q=>obtain⟨g,b⟩:=q;rw[c] at h3;simp only[G0] at h3 ⊢;rw[jU];exact h3.imp Gf (fun h=>by rw[h];rfl)
 refine .inr ⟨?_,?_⟩;cases c:o.guard with
 |none=>trivial
 |some q=>grind[jR,jU,Gf]
 rcases h4 with h4|⟨f,j,i,r,h5,_⟩
 left
 rcases d with⟨x,d⟩|⟨s,x,l,r,d⟩;grind[dL,Option.some.injEq,jU];rw[d] at h4 ⊢;have:=aB1 (p:=p) h4;simp only[dL,O4,jU];rw[Option.map_map,Option.map_map] at this;have e:(bG p ∘ aM G sl)=aM G (sl.map (bG p)):=by funext y;simp only[Function.comp,jU]
 simp_all
 rcases d with⟨x,d⟩|⟨s,x,l,r,d⟩<;>(simp_all)
theorem aB2{o:Oper}{e:Nat}:e∈kZ o↔∃x,x∈o.after/\Region.binds .any x=true/\x.on=e:=by
 grind[kZ]
theorem aB3{b:Region.Mode}{e:Edge}(h:Region.binds .any e=true):Region.binds b e=true:=by
 grind[Region.binds]
theorem mS{j:Region.Mode}{opsA:Array Oper}{b:Array Bool}(g:b.size=opsA.size){i:Nat}(h:i∈Region.ready j opsA b):i<opsA.size/\b.getD i false=false/\∃o,opsA[i]?=some o/\∀e∈kZ o,b.getD e false=true:=by
 obtain⟨l,o,d,m⟩:=mem_ready.1 h;have c:i<opsA.size:=(Array.getElem?_eq_some_iff.1 d).1;refine⟨c,?_,o,d,fun e f=>?_⟩
 simp_all
 obtain⟨x,p,n,rfl⟩:=aB2.1 f;grind[aB3]
theorem uO{b:Region.Mode}{opsA:Array Oper}{listed:Array Bool}(g:listed.size=opsA.size){i:Nat}{o:Oper}(d:i<opsA.size)(h:listed.getD i false=false)(f:opsA[i]?=some o) (c:∀e∈kM b o,listed.getD e false=true):i∈Region.ready b opsA listed:=by
 refine mem_ready.2 ⟨?_,o,f,fun x l j=>c _ (by simp only[kM,List.mem_map,List.mem_filter,Array.mem_toList_iff];grind)⟩
 simp_all
theorem Eff.mono{o:aN}{K u:AS->Prop}{st:AS}(g:∀s,K s->u s)(h:Eff P G k o K st):Eff P G k o u st:=by
 rcases h with⟨q,e⟩|⟨q,e⟩;exact .inl ⟨q,g _ e⟩;refine .inr ⟨q,?_⟩;obtain⟨D,B,J⟩:=o;cases B with
 |alloc z=>exact g _ e
 |box x=>obtain⟨cs,h3,h4⟩:=e;exact⟨cs,h3,g _ h4⟩
 |bslc s n z M=>
  rcases e with⟨es,h3,h4,h5,h6⟩|⟨h3,cs,h4,h6⟩;exact .inl ⟨es,h3,h4,h5,g _ h6⟩;exact .inr ⟨h3,cs,h4,g _ h6⟩
 |store s x v=>
  obtain⟨h3,h4⟩:=e;refine⟨h3,?_⟩;grind
 |app s b z x y=>
  rcases e with⟨i,d,j,l,m,p⟩|⟨id,n,cap,es,d,i,E,H,j,l,m,p⟩;exact .inl ⟨i,d,j,l,m,fun c r=>g _ (p c r)⟩
  exact .inr ⟨id,n,cap,es,d,i,E,H,j,l,m,fun c r=>g _ (p c r)⟩
 |call f A=>obtain⟨T,h3,t,h4⟩:=e;exact⟨T,h3,t,fun C os I=>g _ (h4 C os I)⟩
 |_=>exact WR.mono e g
theorem uN.swap{x y:aN}{K:AS->Prop}{sl:L AV}{hp:L aD}{v:AV}(X:Cb x.dst y.dst=true)(h1:lT x.dst y=true)(E:lT y.dst x=true)(N:aJC x.ai y.ai=true) (B:G1 P G sl hp x v) (h:uN P G k y.dst y.ai K (aR sl x.dst v) hp):uN P G k y.dst y.ai (fun s=>∃Z,G1 P G s.sl s.hp x Z/\K ⟨aR s.sl x.dst Z,s.hp⟩) sl hp:=by
 have m:=(iF (G:=G) (fW (sl:=sl) (v:=v) h1)).1;obtain⟨ydst,W,yg⟩:=y;simp only at m X E N h ⊢;cases W with
 |alloc z=>
  refine⟨v,(B.push).congr (fun t d=>(fW E t d).symm),?_⟩
  simp only;rw[<- gB X];exact h
 |box a=>
  obtain⟨cs,h3,h4⟩:=h;rw[m a (by simp[bK])] at h3;refine⟨cs,h3,v,(B.push).congr (fun t d=>(fW E t d).symm),?_⟩
  grind[gB]
 |bslc s n z Y=>
  have R:(Y.map fun (j,S)=>(j * s,s,aM G (aR sl x.dst v) S))=Y.map fun (j,S)=>(j * s,s,aM G sl S):=
    aZ1 (fun p hp=>by
      obtain⟨j,S⟩:=p;simp only[m S (by simp only[bK,List.mem_map];grind)])
  rcases h with⟨es,h3,h4,h5,h6⟩|⟨h3,cs,h4,h6⟩;rw[R] at h3;refine .inl ⟨es,h3,h4,h5,v,(B.push).congr (fun t d=>(fW E t d).symm),?_⟩
  grind[gB]
  rw[R] at h4;refine .inr ⟨h3,cs,h4,v,(B.push).congr (fun t d=>(fW E t d).symm),?_⟩
  grind[gB]
 |store s a b=>
  obtain⟨h3,h4⟩:=h;refine⟨h3,?_⟩;rcases h4 with⟨id,off,cs,vs,o,H,O,A,I,J⟩|⟨id,i,s',off,cap,es,e,ds,o,H,O,A,I,J,U⟩;rw[m a (by simp[bK])] at o
  rw[m b (by simp[bK])] at H;exact .inl ⟨id,off,cs,vs,o,H,O,A,I,v,B.free N,J⟩;rw[m a (by simp[bK])] at o;rw[m b (by simp[bK])] at H;exact .inr ⟨id,i,s',off,cap,es,e,ds,o,H,O,A,I,J,v,B.free N,U⟩
 |app s b z a c=>
  have u:aER x.ai/\uM x.ai=true:=by
   simp only[aJC] at N;split at N;rename_i q h;exact⟨.inl ⟨q,h⟩,by rw[h];rfl⟩;rename_i s x l r h;exact⟨.inr ⟨s,x,l,r,h⟩,by rw[h];rfl⟩;grind
  obtain⟨u,M⟩:=u;rcases h with⟨o,g,A,I,J,U⟩|⟨id,n,cap,es,g,o,H,O,A,I,J,U⟩;rw[m a (by simp[bK])] at o
  rw[m c (by simp[bK])] at A;refine .inl ⟨o,g,A,I,J,fun D Q=>⟨v,(B.free M).congr (fun t d=>(fW E t d).symm),?_⟩⟩
  grind[gB]
  rw[m a (by simp[bK])] at o;rw[m c (by simp[bK])] at A;refine .inr ⟨id,n,cap,es,g,o,H,O,A,I,J,fun D Q=>⟨bG (·==id) v,(B.kill (hp':=(hp.map (cU (·==id))).set id (.arr D s (es.take n++g))) u).congr (fun t d=>(fW E t d).symm),?_⟩⟩
  grind[Rz,gB]
 |call f C=>
  obtain⟨T,h3,V,h4⟩:=h;have he:C.map (aM G (aR sl x.dst v))=C.map (aM G sl):=aZ1 (fun a ha=>m a (by grind[bK]))
  rw[he] at h3;refine⟨T,h3,V,fun av os d=>⟨v,(B.pushL os).congr (fun t d=>(fW E t d).symm),?_⟩⟩
  grind[gB]
 |_=>cases N
theorem Eff.swap{x y:aN}{K:AS->Prop}{st:AS}{v:AV}(g:Cb x.dst y.dst=true)(b:lT x.dst y=true)(c:lT y.dst x=true)(f:aJC x.ai y.ai=true) (d:G1 P G st.sl st.hp x v) (h:Eff P G k y K ⟨aR st.sl x.dst v,st.hp⟩):Eff P G k y (fun s=>∃e,G1 P G s.sl s.hp x e/\K ⟨aR s.sl x.dst e,s.hp⟩) st:=by
 rcases h with⟨h3,h4⟩|⟨h3,h4⟩;refine .inl ⟨oV (fW b) h3,v,d.congr (fun t i=>(fW c t i).symm),?_⟩
 grind[gB]
 ·exact .inr ⟨gA (fW b) h3,uN.swap g b c f d h4⟩
def C7(G:aF)(sl:L AV)(o:aN)(v:AV):Prop:=
 (G0 G ⟨sl,[]⟩ o.guard/\v=.tup [])\/(jR G ⟨sl,[]⟩ o.guard/\dL G ⟨sl,[]⟩ o.ai=some v)
theorem jJ{sl:L AV}{hp:L aD}{o:aN}{v:AV}(l:E1 o.ai=true):G1 P G sl hp o v↔C7 G sl o v:=by
 have i:G0 G ⟨sl,hp⟩ o.guard↔G0 G ⟨sl,[]⟩ o.guard:=by cases o.guard<;>rfl
 have j:jR G ⟨sl,hp⟩ o.guard↔jR G ⟨sl,[]⟩ o.guard:=by cases o.guard<;>rfl
 unfold G1 C7;rw[i,j];obtain⟨d,e,g⟩:=o;cases e<;>first|(cases l;done)|skip
 all_goals
  constructor;rintro (h|⟨h3,h4|⟨f,c,b,r,h5,_⟩⟩)
  grind
  exact .inr ⟨h3,h4⟩;grind;rintro (h|⟨h3,h4⟩)
  grind
  exact .inr ⟨h3,.inl h4⟩
theorem Iz{sl:L AV}{o:aN}{v v':AV}(h:C7 G sl o v)(c:C7 G sl o v'):v=v':=by
 have f:¬ (G0 G ⟨sl,[]⟩ o.guard/\jR G ⟨sl,[]⟩ o.guard):=by
  rintro⟨b,d⟩;cases e:o.guard with
  |none=>rw[e] at b;exact b
  |some q=>
   grind[G0,jR,cO]
 rcases h with⟨b,rfl⟩|⟨b,d⟩
 ·rcases c with⟨_,rfl⟩|⟨h3,_⟩;all_goals simp_all
 ·rcases c with⟨h3,_⟩|⟨_,h4⟩;all_goals simp_all
theorem sI{p:Nat->Bool}{a:AV}{d:DC}(h:bG p a=.one (.dc d)):a=.one (.dc d):=by
 cases a with
 |one c=>
  grind[bG,cN,AV.one.injEq]
 |_=>simp[bG] at h
theorem B0{p:Nat->Bool}{a:AV}{b:Bool}(h:cO (bG p a)=some b):cO a=some b:=by
 unfold cO at h;split at h;rename_i c;rw[sI c];exact h;cases h
theorem Wu{p:Nat->Bool}{a:AV}(h:bG p a=.tup []):a=.tup []:=by
 cases a<;>simp[bG] at h ⊢;exact h
theorem O5{p:Nat->Bool}{a:AV}{b:Int}(h:bI (bG p a)=some b):bI a=some b:=by
 unfold bI at h;split at h;rename_i c;rw[sI c];exact h;cases h
theorem C8{p:Nat->Bool}{x:Option AV}{t d n:Nat}(h:eI (x.map (bG p)) t d=some n):eI x t d=some n:=by
 cases x with
 |none=>exact h
 |some a=>
  grind[eI,bI,bG,O5]
theorem Mu{s:Nat}{x v:AV}{l r:Option AV}(h:lM [] s x l r=some v):∃d,x=.one (.dc d):=by
 unfold lM at h;split at h;simp_all;simp_all;simp[aL] at h;simp[aL] at h;cases h
theorem aES{sl:L AV}{o:aN}{v:AV}(f:E1 o.ai=true)(h:C7 G sl o v)(p:Nat->Bool):bG p v=v:=by
 have e:∀d:DC,bG p (.one (.dc d))=.one (.dc d):=fun d=>by simp[bG,cN,aV.keep]
 rcases h with⟨_,rfl⟩|⟨_,h⟩;rfl
 ·obtain⟨d,b,g⟩:=o;cases b<;>first|(cases f;done)|skip
  simp only[dL,fX] at h;split at h;split at h;grind;grind;split at h;obtain⟨u,_,rfl⟩:=Option.map_eq_some_iff.1 h;exact e _;cases h;obtain⟨u,_,rfl⟩:=Option.map_eq_some_iff.1 h;exact e _;cases h;simp only[dL] at h;obtain⟨d,c⟩:=Mu h;rw[c] at h;unfold lM at h;grind[Option.bind_eq_some_iff,aL];simp only[dL,tJ] at h;grind
theorem O6{p:Nat->Bool}{a v:AV}(h:tJ (bG p a)=some v):tJ a=some v:=by
 cases a with
 |one c=>
  simp only[bG,cN] at h;split at h;all_goals grind[tJ]
 |_=>grind[bG,tJ]
theorem R0{p:Nat->Bool}{e:BinOp}{a b v:AV}(h:fX e (bG p a) (bG p b)=some v):fX e a b=some v:=by
 unfold fX at h;split at h;rename_i c d;rw[sI c,sI d];exact h;rename_i c d;rw[sI c,sI d];exact h;cases h
theorem R3{p:Nat->Bool}{s:Nat}{x v:AV}{l r:Option AV}(h:lM [] s (bG p x) (l.map (bG p)) (r.map (bG p))=some v):lM [] s x l r=some v:=by
 obtain⟨d,b⟩:=Mu h;have c:=sI b;subst c;have e:bG p (.one (.dc d))=.one (.dc d):=by omega
 rw[e] at h;unfold lM at h ⊢;split at h;grind[Option.bind_eq_some_iff,C8];all_goals grind[Option.bind_eq_some_iff,C8,aL]
theorem Gg{p:Nat->Bool}{sl:L AV}{o:aN}{v:AV}(j:E1 o.ai=true)(h:C7 G (sl.map (bG p)) o v):C7 G sl o v:=by
 rcases h with⟨b,rfl⟩|⟨b,i⟩;refine .inl ⟨?_,rfl⟩;cases c:o.guard with
 |none=>rw[c] at b;exact b
 |some q=>grind[G0,jU,B0,Wu]
 refine .inr ⟨?_,?_⟩;cases c:o.guard with
 |none=>trivial
 |some q=>grind[jR,jU,B0]
 ·obtain⟨d,f,g⟩:=o;cases f<;>first|(cases j;done)|skip
  grind[dL,jU,R0]
  simp only[dL,jU] at i ⊢;have e:∀l:Option aH,l.map (aM G (sl.map (bG p)))=(l.map (aM G sl)).map (bG p):=fun l=>by cases l<;>simp[jU]
  grind[R3]
  grind[dL,jU,O6]
theorem kB.swapB{x y:aN}{K:AS->Prop}{st:AS}(S:Cb x.dst y.dst=true)(N:lT x.dst y=true)(m:lT y.dst x=true)(j:E1 y.ai=true)(O:aNK x.ai=true) (h:Eff P G k x (fun s=>∃u,G1 P G s.sl s.hp y u/\K ⟨aR s.sl y.dst u,s.hp⟩) st):∃u,G1 P G st.sl st.hp y u/\Eff P G k x K ⟨aR st.sl y.dst u,st.hp⟩:=by
 
 have e:∀ {sl:L AV} {w u:AV},C7 G (aR sl x.dst w) y u->C7 G sl y u:=fun {sl w u} g=>by
   rw[<- jJ (P:=P) (hp:=[]) j] at g ⊢;exact g.congr (fun t l=>fW N t l)
 rcases h with⟨h3,u,g,h4⟩|⟨h3,h4⟩;rw[jJ j] at g;refine⟨u,(jJ j).2 (e g),.inl ⟨oV (fun t l=>(fW m t l).symm) h3,?_⟩⟩
 grind[gB]
 ·obtain⟨X,D,Y⟩:=x;cases D<;>first|(cases O;done)|skip
  case app s b z a c=>
   have V:∀u,aM G (aR st.sl y.dst u) a=aM G st.sl a:=fun u=>(iF (G:=G) (fW (sl:=st.sl) (v:=u) m)).1 a (by simp[bK])
   have W:∀u,aM G (aR st.sl y.dst u) c=aM G st.sl c:=fun u=>(iF (G:=G) (fW (sl:=st.sl) (v:=u) m)).1 c (by simp[bK])
   rcases h4 with⟨H,d,M,A,B,C⟩|⟨id,n,cap,es,d,H,I,J,M,A,B,C⟩;obtain⟨u,g,_⟩:=C d.length (aZE _);rw[jJ j] at g;have i:=e g;refine⟨u,(jJ j).2 i,.inr ⟨gA (fun t l=>(fW m t l).symm) h3,.inl ⟨by simp_all,d,by simp_all,A,B,fun p q=>?_⟩⟩⟩
   grind[jJ,Iz,gB]
   obtain⟨u,g,_⟩:=C (n+d.length) (aZE _);rw[jJ j] at g;have i:=Gg j (e g);refine⟨u,(jJ j).2 i,.inr ⟨gA (fun t l=>(fW m t l).symm) h3,.inr ⟨id,n,cap,es,d,by simp_all,I,J,by simp_all,A,B,fun p q=>?_⟩⟩⟩
   grind[jJ,Iz,Gg,Rz,aES,gB]
  case call f args=>
   obtain⟨T,t1,⟨o,r,E⟩,t3⟩:=h4;obtain⟨u,g,_⟩:=t3 o r E;rw[jJ j] at g;have i:=e g;have U:∀u,args.map (aM G (aR st.sl y.dst u))=args.map (aM G st.sl):=fun u=>aZ1 (fun a R=>(iF (G:=G) (fW (sl:=st.sl) (v:=u) m)).1 a (by grind[bK]))
   refine⟨u,(jJ j).2 i,.inr ⟨gA (fun t l=>(fW m t l).symm) h3,T,by grind,⟨o,r,E⟩,fun Q os l=>?_⟩⟩
   grind[jJ,Iz,gB]
theorem kB.swap{x y:Bool×aN}{K:AS->Prop}{l:L (Bool×aN)}{st:AS}(g:aEI x y=true)(h:kB P G k K (x::y::l) st):kB P G k K (y::x::l) st:=by
 obtain⟨bx,x⟩:=x;obtain⟨b,y⟩:=y;simp only[aEI,aZO,Bool.or_eq_true] at g;obtain⟨⟨⟨i,c⟩,d⟩,⟨f,h3⟩|⟨⟨⟨f,q⟩,m⟩,p⟩⟩:=g;subst f;obtain⟨v,j,h⟩:=h;cases b with
 |true=>
  obtain⟨u,o,h⟩:=h;refine⟨u,o.congr (fW c),v,j.congr (fun t n=>(fW d t n).symm),?_⟩
  grind[gB]
 |false=>exact Eff.swap i c d (h3.resolve_left (by simp)) j h
 have e:bx=false:=by simp_all
 subst e;subst q;exact kB.swapB i c d m p h
theorem kB.front{y:Bool×aN}{K:AS->Prop}{g:L (Bool×aN)}:∀(d:L (Bool×aN)) (st:AS),(∀x∈d,aEI x y=true)->kB P G k K (d++y::g) st->kB P G k K (y::(d++g)) st
 |[],st,_,h=>h
 | x::d,st,e,h=>by
   refine kB.swap (e x aZT) ?_;obtain⟨b,x⟩:=x;cases b with
   | true=>
     obtain⟨v,j,h⟩:=h;exact⟨v,j,kB.front d _ (fun f c=>e f (aZ3 _ c)) h⟩
   | false=>exact Eff.mono (fun s i=>kB.front d s (fun f c=>e f (aZ3 _ c)) i) h
theorem wpQ{o:Oper}{a:Act}{w:World}{K:Act->World->Prop}{Q Q':Exit->Act->World->Prop}(c:∀e a w,e≠.normal->Q e a w->Q' e a w)(b:o.wp P a w K Q):o.wp P a w K Q':=by
 unfold Oper.wp at *;generalize (execOp a.eval o).run P w=r at *;cases r with
 |ok n w'=>
  cases n<;>simp only[Oper.upon] at b ⊢<;>
   first
    |exact b
    | exact Calls.mono b (fun e f d=>by
        cases e<;>first | exact d | exact c _ _ _ (by simp) d | (obtain⟨a,w,h⟩:=d;exact⟨a,w,c _ _ _ (by simp) h⟩))
 |halt x w'=>cases x<;>simp only[Oper.upon] at b ⊢<;>first|exact b|exact c _ _ _ (by simp) b
theorem WR.guard{o:aN}{K:AS->Prop}{st:AS}{c:AI}(q:jR G st o.guard)(d:o.ai=c)(h:WR P G k [⟨o.dst,c,none⟩] K st):WR P G k [o] K st:=by
 intro opsA l p F γ a w r i f s j u;obtain⟨b,g,rfl,m,n,h3,h4⟩:=oD p;have t:g=[]:=by
  cases g with
  |nil=>rfl
  |cons x g=>
   exfalso;simp only[bH] at h4;cases z:cG P opsA x with
   |none=>simp_all
   |some y=>simp_all
 subst t;have e:bH P opsA [{ b with guard:=none }]=some [⟨o.dst,c,none⟩]:=by
  simp only[bH,cG,bAk,Option.map_eq_some_iff];refine⟨⟨o.dst,c,none⟩,⟨c,?_,none,rfl,by simp[h3]⟩,[],rfl,rfl⟩;rw[<- d];exact m
 have:=h opsA _ e F γ a w r i f s j u;simp only[wpList] at this ⊢;rw[(oU (b':=true) i n).1 q,if_pos rfl];have v:Region.wanted { b with guard:=none } (yielded opsA a.tmps)=true:=rfl
 rw[if_pos v] at this;exact this
theorem WR.callA{o:aN}{d:L aN}{K:AS->Prop}{st:AS}{f:FuncId}{b:L aH}{T:AV->L aD->Prop}(p:jR G st o.guard)(D:o.ai=.call f b) (n:C6 P G k f (b.map (aM G st.sl)) st.hp T) (h:∀j os,T j os->WR P G k d K ⟨aR st.sl o.dst j,st.hp++os⟩):WR P G k (o::d) K st:=by
 refine WR.step p (fun F γ a w i t Q x y v E=>?_)
 rw[D] at t;obtain⟨c,g,u,rfl,H⟩:=C3 t;obtain⟨A,R,z,M,l,m⟩:=i;simp only at g;subst g;have I:=C4 (G:=G) y v c.args;refine .inr ⟨f,c.args.map a.eval,?_,(n F γ w _ x v E I).mono ?_⟩;grind[execOp,resolve,Act.eval,Deferred.ofValue,invoke,lS];rintro e w' ⟨r,j,os,F',γ',rfl,C,q,s,J,B⟩;refine⟨r,_,F',γ',rfl,h j os C,q,s,(y.ext q.sub J).put _ B,?_⟩;have N:=x.len;have O:=s.len;grind
theorem C6.of{f:FuncId}{d B:L AV}{hp:L aD}{T:AV->L aD->Prop}(N:AC P G f d [] T)(y:B=d.map (dP (cQ [] hp.length))):C6 P G k f B hp (fun J os=>∃A I,T A I/\J=dP (cQ [] hp.length) A/\os=I.map (fA (cQ [] hp.length))):=by
 intro F γ w vs s hg hk R;have E:=s.len;have hρ:∀t,cQ [] hp.length t=γ.length+t:=fun t=>by simp[cQ,E]
 have z:∀ (id:Nat) (o:OI),γ[cQ [] hp.length id]?=some o->([]:L OI)[id]?=some o:=fun id o h=>by
   simp_all
 have S:mR F [] d vs:=by
  rw[y] at R;refine⟨by rw[R.1];simp,fun i J v g p=>?_⟩
  exact RV.unren z (R.2 i _ v (by simp_all) p)
 have O:dV F [] [] w:=⟨s.fz,rfl,fun i j b h=>by simp[cF] at h,fun i b h=>by simp[cF] at h,fun i o x h=>by simp at h⟩
 refine (N F [] vs w O hg S).mono ?_;rintro e w' ⟨r,J,os,F',l,rfl,Y,_,n,C,Z⟩;have m:∀(id:Nat)(o:OI),γ[id]?=some o->(γ++l)[id]?=some o:=fun _ _ h=>bY h
 have u:∀ (id:Nat) (o:OI),l[id]?=some o->(γ++l)[cQ [] hp.length id]?=some o:=fun id o h=>by
   grind
 have U:∀ i b,cF l i=some b->w.heap.size<=b:=fun i b h=>by
   rcases n.blk i b h with⟨j,hj⟩ | h
   all_goals grind[cF]
 have c:∀ i b,cF (γ++l) i=some b->(i < γ.length/\cF γ i=some b)\/(γ.length<=i/\cF l (i - γ.length)=some b):=fun i b h=>by
   grind[dC,List.getElem?_append_left,bT,List.getElem?_append_right]
 have q:∀b,b<w.heap.size->w'.heap[b]?=w.heap[b]?:=fun b D=>n.far b D (fun i h=>by simp[cF] at h)
 refine⟨r,_,_,F',γ++l,rfl,⟨J,os,Y,rfl,rfl⟩,?_,?_,m,Z.ren u⟩;refine⟨n.sub,n.os,n.tape,n.output,n.size,fun b D _=>q b D,fun b o h=>?_,fun i b h=>?_,fun i _ b h=>m _ _ h⟩
 ·rcases n.new b o h with g|g|⟨i,g⟩;all_goals grind[cF]
 grind
 refine⟨C.fz,by have:=C.len;simp_all,fun i j b g p=>?_,fun i b h=>?_,fun i o x g p=>?_⟩
 rcases c i b g with⟨V,K⟩|⟨V,K⟩<;>rcases c j b p with⟨W,M⟩|⟨W,M⟩;exact s.nd i j b K M;have:=s.lt K;grind;have:=s.lt M;grind;have:=C.nd _ _ b K M;omega;rcases c i b h with⟨_,g⟩|⟨_,g⟩;have hlt:=s.lt g;cases X:F' b with
 |none=>rfl
 |some o=>
  rcases n.new b o X with h3|h3|⟨j,h3⟩;rw[s.disj i b g] at h3;cases h3;all_goals grind[cF]
 exact C.disj _ b g;by_cases Q:i<γ.length;rw[aZU (by omega)] at g;rw[aZU Q] at p;have H:=s.ok i o x g p;exact H.ext n.sub m (fun b D=>q b (H.lt D))
 rw[aZ0 (by omega),aZI] at g;rw[aZ0 (by omega)] at p;obtain⟨o0,h3,rfl⟩:=Option.map_eq_some_iff.1 g;rw[<- E] at h3;exact (C.ok _ o0 x h3 p).ren u
theorem uN.run{o:aN}{K:AS->Prop}{st:AS}(t:jR G st o.guard)(h:uN P G k o.dst o.ai K st.sl st.hp):WR P G k [o] K st:=by
 cases c:o.ai with
 |alloc z=>rw[c] at h;exact WR.alloc t c (WR.nil h)
 |box x=>rw[c] at h;obtain⟨cs,h3,h4⟩:=h;grind[WR.box,WR.nil]
 |bslc s n z B=>
  rw[c] at h;rcases h with⟨es,h3,h4,h5,h6⟩|⟨h3,cs,h4,h6⟩
  all_goals grind[WR.bslc,WR.nil,WR.bslcB]
 |store s x v=>
  rw[c] at h;obtain⟨h3,h4⟩:=h;rcases h4 with⟨id,off,cs,vs,g,p,q,j,l,m⟩|⟨id,i,C,off,cap,es,e,A,g,p,q,j,l,m,r⟩
  grind[WR.store,WR.nil]
  exact WR.storeE t c h3 g p q j l m rfl (WR.nil r)
 |app s b z x y=>
  rw[c] at h;rcases h with⟨g,d,j,l,m,r⟩|⟨id,n,cap,es,d,g,p,q,j,l,m,r⟩
  grind[WR.appNil,WR.nil]
  grind[WR.app,WR.nil]
 |call f u=>
  rw[c] at h;obtain⟨T,h3,_,h4⟩:=h;grind[WR.callA,WR.nil]
 |_=>
  rw[c] at h;exact WR.guard t c h
theorem kB.head{y:Bool×aN}{K:AS->Prop}{l:L (Bool×aN)}{st:AS}(h:kB P G k K (y::l) st):WR P G k [y.2] (kB P G k K l) st:=by
 obtain⟨b,o⟩:=y;cases b with
 |true=>
  obtain⟨v,i,h⟩:=h;rcases i with⟨c,rfl⟩|⟨c,e|⟨f,g,d,r,h5,h6,h7⟩⟩;exact WR.skip c (WR.nil h);exact WR.pur c (aJD e) (WR.nil h);exact WR.callQ c h5 h6 (h7 st.hp.length).1 (WR.nil (by grind))
 |false=>
  rcases h with⟨c,e⟩|⟨c,e⟩;all_goals grind[WR.skip,WR.nil,uN.run]
theorem WR.op{o:aN}{K:AS->Prop}{st:AS}{opsA:Array Oper}{i:Nat}{b:Oper}{m:Exit->Act->World->Prop}{f:Act->World->Prop}(h:WR P G k [o] K st)(l:opsA[i]?=some b)(j:cG P opsA b=some o) (r:dV F γ st.hp w) (u:bZ F γ st.sl a) (q:fZ F G) (s:k<=γ.length) (p:∀d w' F' γ' c,K c->iL k F γ w F' γ' w'->dV F' γ' c.hp w'->bZ F' γ' c.sl d->k<=γ'.length->f d w'):wpOp P opsA m i f a w:=by
 have:=h opsA [b] (by simp[bH,j]) F γ a w r u q s (fun e a w=>match e with|.normal=>f a w|e=>m e a w) p
 unfold wpOp;rw[l];simp only[wpList] at this ⊢;split;rename_i v;rw[if_pos v] at this;rcases this with g|⟨g,d,w',n⟩
 exact .inl (wpQ (fun e a w t h=>by simp_all) g)
 exact .inr ⟨g,d,w',n⟩;simp_all
theorem C9{p:Nat->Nat->Bool}:∀(l:L Nat),oF p l=true->l.Pairwise fun i j=>p i j=true
 |[],_=>List.Pairwise.nil
 | i::r,h=>by
   simp only[oF,aZO] at h;exact List.Pairwise.cons (fun j b=>bA0.1 h.1 j b) (C9 r h.2)
theorem aET{id:Nat}{opsA:Array Oper}{l lp:List (Bool×aN)}{J:List Nat}{K:AS->Prop}{st:AS}(hc:bH P opsA opsA.toList=some (l.map (·.2))) (M:Gd (kE opsA.toList []) opsA.toList l J=some lp) (hw:kB P G k K lp st) (z:dV F γ st.hp w) (hs:bZ F γ st.sl a) (hg:fZ F G) (hk:k<=γ.length) {QE:Exit->Act->World->Prop} (hQ:∀a' w' F' γ' Z,K Z->iL k F γ w F' γ' w'->dV F' γ' Z.hp w'->bZ F' γ' Z.sl a'->k<=γ'.length->QE .normal a' w'):(Code.region id opsA true).wp P QE a w:=by
 refine wp_region_draw fun t=>?_
 suffices hmd:∀v:Region.Mode,wpAny P v opsA QE opsA.size (Array.replicate opsA.size false) a { w with drawn:=w.drawn+1 } by
  unfold Region.schedule;split;exact wpAny_sound opsA.size t _ a _ (hmd _);exact wpAny_sound opsA.size (t / 2) _ a _ (hmd _)
 intro v;unfold Gd at M;split at M
 ·rename_i hok;injection M with M
  subst M;simp only[aEL,aZO] at hok;obtain⟨⟨⟨hb0,R⟩,N⟩,hpr⟩:=hok;have p:=C9 _ hpr;have comp:∀(ops:List Oper)(l:List aN),bH P opsA ops=some l->ops.length=l.length/\∀(i:Nat) o x,ops[i]?=some o->l[i]?=some x->cG P opsA o=some x:=by
   intro ops
   induction ops with
   |nil=>intro l h;simp[bH] at h;subst h;exact⟨rfl,fun i o x h=>by simp at h⟩
   |cons o ops ih=>
    intro l h;simp only[bH] at h;cases s:cG P opsA o with
    |none=>simp[s] at h
    | some y=>cases Q:bH P opsA ops with
      | none=>simp[s,Q] at h
      | some r=>
        simp[s,Q] at h;subst h;obtain⟨i1,i2⟩:=ih r Q;refine⟨by simp[i1],fun i o' x' ho hx=>?_⟩
        cases i with
        | zero=>simp_all
        | succ i=>grind
  obtain⟨hlen,T⟩:=comp _ _ hc;have hN:opsA.size=l.length:=by simpa using hlen
  have hop:∀(i:Nat) b,opsA[i]?=some b->cG P opsA b=some (l.getD i qS).2:=by
   intro i b h;have A:i<l.length:=by rw[<- hN];exact (Array.getElem?_eq_some_iff.1 h).1
   refine T i b _ (by simpa using h) ?_;rw[aZI,aZJ A,aZN,aZJ A];rfl
  have D:C5 v opsA.toList=true:=by
   have:=bA0.1 hb0 v (by cases v<;>simp);exact this
  simp only[C5,Zu,aZO] at D;generalize aEH (opsA.toList.map (kM v)) opsA.toList.length [] (List.range opsA.toList.length)=tord at D;obtain⟨⟨ht1,ht3⟩,ht2⟩:=D;have I:∀(i:Nat) o,opsA[i]?=some o->∀e∈kM v o,e<opsA.size:=by
   intro i o ho e V;have s:=bA0.1 ht3 (kM v o) (List.mem_map.2 ⟨o,by
     rw[Array.mem_toList_iff];exact Array.mem_of_getElem? ho,rfl⟩)
   simpa using bA0.1 s e V
  have Y:∀(listed:Array Bool),listed.size=opsA.size->Region.ready v opsA listed=[]->∀(r done:List Nat),uL (opsA.toList.map (kM v)) r done=true->(∀j∈done,j<opsA.size->listed.getD j false=true)->∀j∈r,j<opsA.size->listed.getD j false=true:=by
   intro listed g X r
   induction r with
   |nil=>intro done _ _ j c;cases c
   |cons i r ih=>
    intro done h M j c A;simp only[uL,aZO] at h;have hi0:i<opsA.size->listed.getD i false=true:=by
     intro hil;cases hlj:listed.getD i false with
     |true=>rfl
     |false=>
      exfalso;have f:opsA[i]?=some opsA[i]:=bAe hil;have:i∈Region.ready v opsA listed:=uO g hil hlj f (fun e V=>by
        have h3:=bA0.1 h.1 e (by
          rw[aZN,aZI];simp only[bAF,f,aZF,bAl];exact V)
        have hmem:e∈done:=by grind
        exact M e hmem (I i _ f e V))
      rw[X] at this;cases this
    rcases bAQ.1 c with rfl|c;exact hi0 A
    ·exact ih (i::done) h.2 (fun q hq hql=>by
     rcases bAQ.1 hq with rfl|hq
     · grind
     · grind) j c A
  have main:∀(d:Nat)(listed:Array Bool)(a:Act)(w':World)(F':Fz)(γ':List OI)(U:List Nat)(st:AS),listed.size=opsA.size->(∀i,i<opsA.size->(listed.getD i false=false↔i∈U))->(∀i∈U,i<opsA.size)->
    (U.Pairwise fun i j=>(i != j&&(((kE opsA.toList []).getD j []).contains i||aEI (l.getD i qS) (l.getD j qS)))=true)->
    (∀(i:Nat) o,opsA[i]?=some o->listed.getD i false=true->∀e∈kZ o,listed.getD e false=true)->U.length<=d->
    iL k F γ w F' γ' w'->dV F' γ' st.hp w'->bZ F' γ' st.sl a->k<=γ'.length->kB P G k K (U.map fun i=>l.getD i qS) st->wpAny P v opsA QE d listed a w':=by
   intro d
   induction d with
   |zero=>
    intro listed a w' F' γ' U st g hU E p S hf hE hI hS H hA;have hnil:U=[]:=bAL (by omega);subst hnil;refine⟨?_,hQ a w' F' γ' st hA hE hI hS H⟩;rw[List.eq_nil_iff_forall_not_mem];intro i z;obtain⟨s,Q,_⟩:=mS g z;have:=(hU i s).1 Q;simp at this
   |succ d ih=>
    intro listed a w' F' γ' U st g hU E p S hf hE hI hS H hA;refine⟨fun X=>?_,fun i z=>?_⟩
    have hz:∀j,j<opsA.size->listed.getD j false=true:=by
     intro j c;refine Y listed g X tord [] ht1 (fun j c=>by cases c) j ?_ c
     have:=bA0.1 ht2 j (by simpa using c);simpa using this
    cases U with
    |nil=>exact hQ a w' F' γ' st hA hE hI hS H
    |cons u U=>
     have s:=E u aZT;have:=(hU u s).2 aZT;rw[hz u s] at this;cases this
    obtain⟨s,Q,b,f,V⟩:=mS g z;have hclo:∀j∈(kE opsA.toList []).getD i [],listed.getD j false=true:=
     Wq (L:=fun j=>listed.getD j false=true) opsA.toList (fun i o h=>S i o (by simpa using h)) i b (by simpa using f) V
    obtain⟨R1,R2,rfl⟩:=List.append_of_mem ((hU i s).1 Q);have C:=List.pairwise_append.1 p;have m:kB P G k K ((l.getD i qS)::(R1.map (fun i=>l.getD i qS)++R2.map fun i=>l.getD i qS)) st:=by
      refine kB.front _ _ (fun x hx=>?_) (by simpa using hA)
      obtain⟨r,hr,rfl⟩:=List.mem_map.1 hx;have h3:=C.2.2 r hr i aZT;simp only[aZO,Bool.or_eq_true,List.contains_iff_mem] at h3;rcases h3.2 with h4 | h4
      · have h5:=hclo r h4
        have h6:=(hU r (E r (by simp[hr]))).2 (by simp[hr]);rw[h5] at h6;cases h6
      · exact h4
    rw[<- bAg] at m;refine WR.op (kB.head m) f (hop i b f) hI hS (hg.sub hE.sub) H (fun a'' w'' F'' γ'' st'' q1 q2 q3 q4 q5=>?_)
    have W:i∉R1/\i∉R2:=by
     refine⟨fun h=>?_,fun h=>?_⟩
     have:=C.2.2 i h i aZT;simp at this;have:=(List.pairwise_cons.1 C.2.1).1 i h;simp at this
    refine ih _ a'' w'' F'' γ'' (R1++R2) st'' (by simpa using g) (fun j c=>?_) (fun j c=>E j (by simp at c ⊢;rcases c with h|h<;>simp[h])) ?_ (fun j oj B c e hee=>?_) (by simp at hf ⊢;omega) (hE.trans q2) q3 q4 q5 q1
    by_cases n:i=j;subst n;rw[show (listed.setIfInBounds i true).getD i false=true by rw[bBa,bBl (by omega)];rfl];simp[W];rw[getD_set_ne false n,hU j c];simp[Ne.symm n];exact p.sublist (by simp);by_cases n:i=j;subst n;rw[f] at B;injection B with B;subst B
    exact getD_set_true (V e hee);rw[getD_set_ne false n] at c;exact getD_set_true (S j oj B c e hee)
  have O:∀j,(Array.replicate opsA.size false).getD j false=false:=by
   intro j;rw[bBa];by_cases hjs:j<opsA.size<;>simp[hjs]
  have hlo:J.length<=opsA.size:=by
   have W:J.Nodup:=p.imp (fun h e=>by simp[e] at h)
   have:=List.Nodup.length_le_of_subset W (l₂:=List.range l.length) (fun i z=>by
     have:=bA0.1 N i z;simpa using this)
   simpa[hN] using this
  exact main opsA.size (Array.replicate opsA.size false) a { w with drawn:=w.drawn+1 } F γ J st (by simp) (fun i z=>by
      rw[O];have:=bA0.1 R i (by simpa[<- hN] using z);simpa using this) (fun i z=>by
      have:=bA0.1 N i z;rw[hN];simpa using this) p (fun i o ho hl=>by rw[O] at hl;cases hl) hlo (iL.drawn _ _ _ _ _) (z.drawn _) hs hk hw
 cases M
