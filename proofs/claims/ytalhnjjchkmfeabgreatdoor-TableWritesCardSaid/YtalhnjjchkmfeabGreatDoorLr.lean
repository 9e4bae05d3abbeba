/- Part. Conditions: none. -/
import Derived.Test.YtalhnjjchkmfeabGreatDoorLo
namespace Go.Proofs.YtalhnjjchkmfeabGreatDoor
set_option linter.unusedSimpArgs false
set_option linter.unusedVariables false
def lG(o:Oper):L Nat:=(o.after.toList.filter (Region.binds .any)).map (·.on)
def kU(b:Region.Mode)(o:Oper):L Nat:=(o.after.toList.filter (Region.binds b)).map (·.on)
def aD4(E:L (L Nat)):Nat->L Nat->L Nat->L Nat
 |0,_,_=>[]
 | n+1,done,b=>match b.find? fun i=>(E.getD i []).all done.contains with
   | some i=>i::aD4 E n (i::done) (b.erase i)
   | none=>[]
def uR(E:L (L Nat)):L Nat->L Nat->Bool
 |[],_=>true
 |i::r,done=>((E.getD i []).all fun e=>done.contains e)&&uR E r (i::done)
def Yp(n:Nat)(E:L (L Nat))(o:L Nat):Bool:=uR E o []&&(E.all fun l=>l.all fun e=>decide (e<n))&&(List.range n).all fun i=>o.contains i
def Cz(b:Region.Mode)(ops:L Oper):Bool:=Yp ops.length (ops.map (kU b)) (aD4 (ops.map (kU b)) ops.length [] (List.range ops.length))
def kJ:L Oper->L (L Nat)->L (L Nat)
 |[],b=>b
 |o::ops,b=>kJ ops (b++[(lG o++(lG o).flatMap fun e=>b.getD e []).eraseDups])
def bK:AI->L aI
 |.mov x=>[x]|.pick c a b=>[c,a,b]|.alloc _=>[]|.box x=>[x]|.load _ _ x=>[x]|.store _ x v=>[x,v]|.nilc x=>[x]|.isnil _ _ x=>[x]|.mpx _ _ x k=>[x,k]
 |.bin _ x y=>[x,y]|.binb _ x y=>[x,y]|.eqs _ _ x y=>[x,y]|.un _ x=>[x]|.conv _ x=>[x]|.cvid x=>[x]|.cvbs x=>[x]
 |.addo _ x=>[x]|.fld _ _ _ x=>[x]|.ixA _ _ x i=>[x,i]|.ixL _ x i=>[x,i]|.ixS x i=>[x,i]|.ixV _ x i=>[x,i]|.s2p _ x=>[x]
 |.slS x l h=>x::(l.toList++h.toList)|.slL _ x l h=>x::(l.toList++h.toList)
 |.bslc _ _ _ e=>e.map (·.2)|.build _ e=>e.map (·.2.2)|.ext x _=>[x]|.lenS x=>[x]|.lenL x=>[x]|.lenA _=>[]
 |.min2 x y=>[x,y]|.max2 x y=>[x,y]|.mkfn _ cs=>cs|.call _ f=>f|.callv x f=>x::f|.app _ _ _ x y=>[x,y]|.apps x y=>[x,y]|.mk _ _ _ l c=>[l,c]|.clr _ _ x=>[x]|.cpys d x=>[d,x]|.cvsb x=>[x]|.slA _ _ x l h=>x::(l.toList++h.toList)
def aWR:aI->Option Nat
 |.t n=>some n
 |_=>none
def nG(o:aO):L Nat:=(bK o.ai).filterMap aWR++(match o.guard with|some (g,_)=>[g]|none=>[])
def Yq:AI->Bool
 |.call _ _=>true
 |.alloc _=>false|.box _=>false|.store _ _ _=>false|.bslc _ _ _ _=>false|.callv _ _=>false|.app _ _ _ _ _=>false|.apps _ _=>false|.mk _ _ _ _ _=>false|.clr _ _ _=>false|.cpys _ _=>false|.cvsb _=>false
 |_=>true
def uS:AI->Bool
 |.load _ _ _=>false|.cvbs _=>false|.ixL _ _ _=>false
 |x=>Yq x
def aJb(x:AI):AI->Bool
 |.alloc _=>true|.box _=>true|.bslc _ _ _ _=>true
 |.call _ _=>true
 |.store _ _ _=>uS x
 |.app _ _ _ _ _=>match x with|.mov _=>true|.slL _ _ _ _=>true|_=>false
 |_=>false
def B0:Option Nat->Option Nat->Bool
 |some d,some e=>d != e
 |_,_=>true
def mC(d:Option Nat)(o:aO):Bool:=match d with|none=>true|some t=>!(nG o).contains t
def Es:AI->Bool
 |.lenL _=>true|.bin _ _ _=>true|.slL _ _ _ _=>true
 |_=>false
def aNe:AI->Bool
 |.app _ _ _ _ _=>true|.call _ _=>true
 |_=>false
def aD5(x y:Bool×aO):Bool:=B0 x.2.dst y.2.dst&&mC x.2.dst y.2&&mC y.2.dst x.2&&((x.1&&(y.1||aJb x.2.ai y.2.ai))||(!x.1&&y.1&&Es y.2.ai&&aNe x.2.ai))
def isCall:AI->Bool
 |.call _ _=>true
 |_=>false
def aD6(l:L aO)(d:Option Nat):Bool:=l.any fun p=>match p.ai,d with
 |.app _ _ _ (.t n) _,some d=>n==d
 |_,_=>false
def rR(c:L (L Nat))(l:L aO):L (Bool×aO):=
 l.zipIdx.map fun (o,i)=>(Yq o.ai&&(!isCall o.ai||!aD6 l o.dst)&&(!isCall o.ai||!(List.range l.length).all fun j=>i==j||(c.getD i []).contains j||(c.getD j []).contains i),o)
theorem Ia{c:L (L Nat)}{l:L aO}:(rR c l).map (·.2)=l:=by
 simp only[rR,aZG];exact List.zipIdx_map_fst 0 l
def Ib(c:L (L Nat))(b:L Nat)(i:Nat):Bool:=b.all fun j=>!(c.getD i []).contains j
def Nz(c:L (L Nat))(q:L Bool):Nat->L Nat->L Nat
 |0,_=>[]
 | n+1,b=>match (b.find? fun i=>q.getD i false&&Ib c b i).or (b.find? (Ib c b)) with
   | some i=>i::Nz c q n (b.erase i)
   | none=>[]
def aD7(c:L (L Nat))(q d:L Bool):Nat->L Nat->L Nat
 |0,_=>[]
 | n+1,b=>match ((b.find? fun i=>q.getD i false&&!d.getD i false&&Ib c b i).or (b.find? fun i=>!q.getD i false&&Ib c b i)).or (b.find? (Ib c b)) with
   | some i=>i::aD7 c q d n (b.erase i)
   | none=>[]
def rE:Bool×aO:=(false,⟨none,.lenA 0,none⟩)
def oU(p:Nat->Nat->Bool):L Nat->Bool
 |[]=>true
 |i::r=>r.all (p i)&&oU p r
def aD8(c:L (L Nat))(ops:L Oper)(l:L (Bool×aO))(b:L Nat):Bool:=
 ([Region.Mode.text,.gc,.any].all fun d=>Cz d ops)&&((List.range l.length).all fun i=>b.contains i)&&(b.all fun i=>decide (i<l.length))&&
 oU (fun i j=>i != j&&((c.getD j []).contains i||aD5 (l.getD i rE) (l.getD j rE))) b
def Fw(c:L (L Nat))(ops:L Oper)(l:L (Bool×aO))(b:L Nat):Option (L (Bool×aO)):=
 if aD8 c ops l b then some (b.map fun i=>l.getD i rE) else none
theorem Vr{L:Nat->Prop}(ops:List Oper)(q:∀(i:Nat) o,ops[i]?=some o->L i->∀e∈lG o,L e):∀(i:Nat) o,ops[i]?=some o->(∀e∈lG o,L e)->∀j∈(kJ ops []).getD i [],L j:=by
 have n:∀(d b:List Oper)(c:List (List Nat)),b++d=ops->b.length=c.length->
   (∀(i:Nat) o,b[i]?=some o->(∀e∈lG o,L e)->∀j∈c.getD i [],L j)->∀(i:Nat) o,ops[i]?=some o->(∀e∈lG o,L e)->∀j∈(kJ d c).getD i [],L j:=by
  intro d
  induction d with
  |nil=>
   intro b c hp l h i o m p j f;simp at hp;subst hp;exact h i o m p j f
  |cons t d s=>
   intro b c hp l h;refine s (b++[t]) _ (by simp[hp]) (by simp[l]) (fun i o m p j f=>?_)
   rcases iR m with g|⟨g,rfl⟩;have r:=aJ g;rw[aZo,aZv (by omega),<- aZo] at f
   grind
   subst g;rw[aZo,l] at f;simp only[aZD (aZe _),aZ1,List.getElem?_cons_zero,aZU,List.mem_eraseDups,bAB,List.mem_flatMap] at f;grind
 exact n ops [] [] rfl rfl (fun i o h=>by simp at h)
def N0(b:AI)(hp:L aD):L aD:=match b with|.slL _ _ _ _=>[]|_=>hp
def Gg(P:Program)(G:aE)(sl:L AV)(hp:L aD)(o:aO)(v:AV):Prop:=
 (Gf G ⟨sl,hp⟩ o.guard/\v=.tup [])\/
 (kB G ⟨sl,hp⟩ o.guard/\(dJ G ⟨sl,N0 o.ai hp⟩ o.ai=some v\/∃f c b r,o.ai=.call f c/\QC P G f b r/\∀n,c.map (aM G sl)=b.map (dO (cQ [] n))/\v=dO (cQ [] n) r))
def C0(P:Program)(G:aE)(k:Nat)(f:FuncId)(b:L AV)(hp:L aD)(T:AV->L aD->Prop):Prop:=
 ∀F γ (w:World) (vs:Array Value),eG F γ hp w->fZ F G->k<=γ.length->mX F γ b vs->
  Calls P f vs w fun e w'=>∃r av os F' γ',e=.returned r/\T av os/\iU k F γ w F' γ' w'/\eG F' γ' (hp++os) w'/\(∀(id:Nat)(o:OI),γ[id]?=some o->γ'[id]?=some o)/\RV F' γ' av r
def uT(P:Program)(G:aE)(k:Nat)(d:Option Nat)(m:AI)(K:AS->Prop)(sl:L AV)(hp:L aD):Prop:=
 match m with
 |.alloc c=>K ⟨aS sl d (.one (.ptr hp.length 0)),hp++[.box (c.map cN)]⟩
 |.box x=>∃cs,cellsOf (aM G sl x)=some cs/\K ⟨aS sl d (.one (.ptr hp.length 0)),hp++[.box cs]⟩
 | .bslc size len c h=>(∃ es,iV ((List.range (len * size)).map fun i=>cN (c.getD (i % c.length) undef)) (h.map fun (j,x)=>(j * size,size,aM G sl x))=some (oR es.flatten)/\
     (∀ e∈es,e.length=size)/\es.length=len/\K ⟨aS sl d (.one (.bld hp.length len)),hp++[.arr len size es]⟩)\/
     (size=1/\∃ cs,iV ((List.range (len * size)).map fun i=>cN (c.getD (i % c.length) undef)) (h.map fun (j,x)=>(j * size,size,aM G sl x))=some cs/\K ⟨aS sl d (.one (.bls hp.length 0 len 1)),hp++[.box cs]⟩)
 | .store size x v=>d=none/\
     ((∃ id off cs vs,aM G sl x=.one (.ptr id off)/\cellsOf (aM G sl v)=some vs/\aL hp id=.box cs/\vs.length=size/\off+size<=cs.length/\K ⟨sl,hp.set id (.box (dB cs off vs))⟩)\/
      (∃ id i s off cap es e o,aM G sl x=.one (.ept id i s off)/\cellsOf (aM G sl v)=some (oR o)/\aL hp id=.arr cap s es/\es[i]?=some e/\o.length=size/\off+size<=e.length/\
         K ⟨sl,hp.set id (.arr cap s (es.set i (e.take off++o++e.drop (off+size))))⟩))
 | .app size bytes _ s x=>(aM G sl s=dS (.slice none 0 0)/\∃ b,sV hp (aM G sl x)=some b/\(∀ e∈b,e.length=size)/\b.length * bytes<=140737488355328/\
       ∀ g,b.length<=g->K ⟨aS sl d (.one (.bld hp.length b.length)),hp.map (cU (·==hp.length))++[.arr g size b]⟩)\/
     ∃ id n cap es b,aM G sl s=.one (.bld id n)/\aL hp id=.arr cap size es/\n<=es.length/\sV hp (aM G sl x)=some b/\(∀ e∈b,e.length=size)/\
     (n+b.length) * bytes<=140737488355328/\∀ g,n+b.length<=g->K ⟨aS (sl.map (bG (·==id))) d (.one (.bld id (n+b.length))),(hp.map (cU (·==id))).set id (.arr g size (es.take n++b))⟩
 |.call f l=>∃T,C0 P G k f (l.map (aM G sl)) hp T/\(∃av os,T av os)/\∀av os,T av os->K ⟨aS sl d av,hp++os⟩
 |m=>WR P G k [⟨d,m,none⟩] K ⟨sl,hp⟩
def Eff(P:Program)(G:aE)(k:Nat)(o:aO)(K:AS->Prop)(st:AS):Prop:=
 (Gf G st o.guard/\K ⟨aS st.sl o.dst (.tup []),st.hp⟩)\/(kB G st o.guard/\uT P G k o.dst o.ai K st.sl st.hp)
def kH(P:Program)(G:aE)(k:Nat)(K:AS->Prop):L (Bool×aO)->AS->Prop
 |[],st=>K st
 |(true,o)::l,st=>∃v,Gg P G st.sl st.hp o v/\kH P G k K l ⟨aS st.sl o.dst v,st.hp⟩
 |(false,o)::l,st=>Eff P G k o (kH P G k K l) st
section
variable {P:Program}{G:aE}{k:Nat}{F:Fz}{γ:L OI}{w:World}{a:Act}
theorem Fx{α c:Type}{f g:α->Option c}:∀(l:L α),(∀x∈l,f x=g x)->l.mapM f=l.mapM g
 |[],_=>rfl
 |x::l,h=>by rw[aZ8,aZ8,h x aZt,Fx l (fun y b=>h y (aZB _ b))]
theorem L4{sl b:L AV}{hp:L aD}{ai:AI}(h:∀x∈bK ai,aM G sl x=aM G b x):dJ G ⟨sl,hp⟩ ai=dJ G ⟨b,hp⟩ ai:=by
 cases ai with
 |slS x l d=>
  have e:=h x (by simp[bK]);have i:l.map (aM G sl)=l.map (aM G b):=by cases l with|none=>rfl|some y=>grind[bK]
  have h3:d.map (aM G sl)=d.map (aM G b):=by cases d with|none=>rfl|some y=>grind[bK]
  grind[dJ]
 |slL s x l d=>
  have e:=h x (by simp[bK]);have i:l.map (aM G sl)=l.map (aM G b):=by cases l with|none=>rfl|some y=>grind[bK]
  have h3:d.map (aM G sl)=d.map (aM G b):=by cases d with|none=>rfl|some y=>grind[bK]
  grind[dJ]
 |slA n s x l d=>
  have e:=h x (by simp[bK]);have i:l.map (aM G sl)=l.map (aM G b):=by cases l with|none=>rfl|some y=>grind[bK]
  have h3:d.map (aM G sl)=d.map (aM G b):=by cases d with|none=>rfl|some y=>grind[bK]
  grind[dJ]
 |build z m=>
  have:(m.map fun (o,s,x)=>(o,s,aM G sl x))=m.map fun (o,s,x)=>(o,s,aM G b x):=aZC (fun p hp=>by
    obtain⟨o,s,x⟩:=p;simp only[h x (by simp only[bK,List.mem_map];grind)])
  grind[dJ]
 |mkfn f cs=>
  grind[jM,aM,Fx,bK,dJ]
 |pick c x y=>grind[dJ,bK]
 |bin j x y=>grind[dJ,bK]
 |binb n x y=>grind[dJ,bK]
 |eqs n q x y=>grind[dJ,bK]
 |ixA n s x y=>grind[dJ,bK]
 |ixL s x y=>grind[dJ,bK]
 |ixS x y=>grind[dJ,bK]
 |ixV n x y=>grind[dJ,bK]
 |s2p n x=>grind[dJ,bK]
 |min2 x y=>grind[dJ,bK]
 |max2 x y=>grind[dJ,bK]
 |mov x=>grind[dJ,bK]
 |load g s x=>grind[dJ,bK]
 |nilc x=>grind[dJ,bK]
 |isnil p n x=>grind[dJ,bK]
 |mpx r z x y=>grind[dJ,bK]
 |un j x=>grind[dJ,bK]
 |conv j x=>grind[dJ,bK]
 |cvid x=>grind[dJ,bK]
 |cvbs x=>grind[dJ,bK]
 |addo o x=>grind[dJ,bK]
 |fld g s o x=>grind[dJ,bK]
 |ext x n=>grind[dJ,bK]
 |lenS x=>grind[dJ,bK]
 |lenL x=>grind[dJ,bK]
 |_=>rfl
theorem iF{sl c:L AV}{o:aO}(h:∀t∈nG o,sl.getD t .junk=c.getD t .junk):(∀x∈bK o.ai,aM G sl x=aM G c x)/\(∀g b,o.guard=some (g,b)->aM G sl (.t g)=aM G c (.t g)):=by
 refine⟨fun x e=>?_,fun g b d=>?_⟩
 cases x with
 |t n=>exact h n (by simp only[nG,bAB,List.mem_filterMap];exact .inl ⟨_,e,rfl⟩)
 |k v=>rfl
 |g n=>rfl
 |f n=>rfl
 exact h g (by simp[nG,d])
theorem gC{sl b:L AV}{hp hp':L aD}{o:aO}(h:∀t∈nG o,sl.getD t .junk=b.getD t .junk)(e:kB G ⟨sl,hp⟩ o.guard):kB G ⟨b,hp'⟩ o.guard:=by
 obtain⟨_,d⟩:=iF (G:=G) h;cases c:o.guard with
 |none=>trivial
 |some q=>grind[kB]
theorem pD{sl b:L AV}{hp hp':L aD}{o:aO}(h:∀t∈nG o,sl.getD t .junk=b.getD t .junk)(d:Gf G ⟨sl,hp⟩ o.guard):Gf G ⟨b,hp'⟩ o.guard:=by
 obtain⟨_,e⟩:=iF (G:=G) h;cases c:o.guard with
 |none=>rw[c] at d;exact d
 |some q=>grind[Gf]
theorem Gg.congr{sl d:L AV}{hp:L aD}{o:aO}{v:AV}(h:∀t∈nG o,sl.getD t .junk=d.getD t .junk)(g:Gg P G sl hp o v):Gg P G d hp o v:=by
 obtain⟨e,j⟩:=iF (G:=G) h;rcases g with⟨h3,h4⟩|⟨h3,h4⟩;exact .inl ⟨pD h h3,h4⟩;refine .inr ⟨gC h h3,?_⟩;rcases h4 with h4|⟨f,c,b,r,h5,h6,h7⟩;grind[L4];refine .inr ⟨f,c,b,r,h5,h6,fun n=>⟨?_,(h7 n).2⟩⟩
 rw[<- (h7 n).1];exact aZC (fun x i=>(e x (by rw[h5];exact i)).symm)
theorem sW{hp:L aD}{b:aD}{id:Nat}(h:aL hp id≠.dead):aL (hp++[b]) id=aL hp id:=by
 unfold aL at *;grind
theorem Vs{hp:L aD}{b:aD}{g:Bool}{s:Nat}{x v:AV}(h:mR hp g s x=some v):mR (hp++[b]) g s x=some v:=by
 unfold mR at *;split at h;all_goals grind[id,aL,sW]
theorem Vt{hp:L aD}{b:aD}{x v:AV}(h:oQ hp x=some v):oQ (hp++[b]) x=some v:=by
 unfold oQ at *;split at h;all_goals grind[id,aL,sW]
theorem aBm{hp:L aD}{b:aD}{s:Nat}{x v:AV}{i:Int}(h:Cp hp s x i=some v):Cp (hp++[b]) s x i=some v:=by
 unfold Cp at *;split at h;all_goals grind[id,aL,sW]
theorem aBn{hp:L aD}{b:aD}{s:Nat}{x v:AV}{l r:Option AV}(h:lV hp s x l r=some v):lV (hp++[b]) s x l r=some v:=by
 unfold lV at *;split at h;all_goals grind[id,aL,sW]
theorem aD9{sl:L AV}{hp:L aD}{c:aD}{b:AI}{v:AV}(h:dJ G ⟨sl,hp⟩ b=some v):dJ G ⟨sl,hp++[c]⟩ b=some v:=by
 cases b with
 |load g s x=>exact Vs h
 |cvbs x=>exact Vt h
 |slL s x l r=>exact aBn h
 |ixL s x i=>
  simp only[dJ] at h ⊢;cases d:bH (aM G sl i) with
  |none=>simp_all
  |some n=>grind[aBm]
 |_=>exact h
theorem aEa{sl:L AV}{hp hp':L aD}{ai:AI}(b:uS ai=true):dJ G ⟨sl,N0 ai hp⟩ ai=dJ G ⟨sl,N0 ai hp'⟩ ai:=by
 cases ai<;>first|rfl|grind[uS]
theorem aBo{sl:L AV}{hp:L aD}{c:aD}{b:AI}{v:AV}(h:dJ G ⟨sl,N0 b hp⟩ b=some v):dJ G ⟨sl,N0 b (hp++[c])⟩ b=some v:=by
 cases b<;>first|exact h|exact aD9 h
theorem aEb{hp:L aD}{s:Nat}{x v:AV}{l r:Option AV}(h:lV [] s x l r=some v):lV hp s x l r=some v:=by
 unfold lV at *;grind[aL]
theorem aJc{sl:L AV}{hp:L aD}{b:AI}{v:AV}(h:dJ G ⟨sl,N0 b hp⟩ b=some v):dJ G ⟨sl,hp⟩ b=some v:=by
 cases b<;>first|exact h|exact aEb h
theorem Gg.push{sl:L AV}{hp:L aD}{c:aD}{o:aO}{v:AV}(b:Gg P G sl hp o v):Gg P G sl (hp++[c]) o v:=by
 rcases b with⟨h3,h4⟩|⟨h3,h4⟩;exact .inl ⟨pD (fun _ _=>rfl) h3,h4⟩
 exact .inr ⟨gC (fun _ _=>rfl) h3,h4.imp aBo id⟩
theorem Gg.pushL{sl:L AV}{o:aO}{v:AV}:∀(os:L aD) {hp:L aD},Gg P G sl hp o v->Gg P G sl (hp++os) o v
 |[],hp,h=>by simpa using h
 | b::os,hp,h=>by
   have:=Gg.pushL os (hp:=hp++[b]) h.push;simpa using this
theorem Gg.free{sl:L AV}{hp hp':L aD}{o:aO}{v:AV}(c:uS o.ai=true)(b:Gg P G sl hp o v):Gg P G sl hp' o v:=by
 rcases b with⟨h3,h4⟩|⟨h3,h4⟩;exact .inl ⟨pD (fun _ _=>rfl) h3,h4⟩
 exact .inr ⟨gC (fun _ _=>rfl) h3,h4.imp (fun h=>by grind[aEa]) id⟩
theorem aEc{sl:L AV}{d:Option Nat}{v:AV}{t:Nat}(h:d≠some t):(aS sl d v)[t]?=sl[t]?:=by
 cases d with
 |none=>rfl
 |some d=>grind[aS,List.getElem?_set_ne]
theorem fW{sl:L AV}{d:Option Nat}{v:AV}{o:aO}(h:mC d o=true):∀t∈nG o,(aS sl d v).getD t .junk=sl.getD t .junk:=by
 intro t b;rw[aZo,aZo,aEc];grind[mC]
theorem gD{sl:L AV}{d e:Option Nat}{u v:AV}(h:B0 d e=true):aS (aS sl d u) e v=aS (aS sl e v) d u:=by
 cases d with
 |none=>rfl
 | some d=>cases e with
   | none=>rfl
   | some e=>
     grind[B0,aS,List.set_comm]
theorem Rf{sl:L AV}{d:Option Nat}{u:AV}{f:AV->AV}:(aS sl d u).map f=aS (sl.map f) d (f u):=by
 cases d with
 |none=>rfl
 |some d=>simp[aS,aZN]
theorem aEd(p:Nat->Bool)(l:L Value):(l.map cN).map (cO p)=l.map cN:=by
 simp_all[aZG,aZC,cN,cO,aU.keep]
theorem kD{p:Nat->Bool}{sl:L AV}(x:aI):aM G (sl.map (bG p)) x=bG p (aM G sl x):=by
 cases x with
 |t n=>
  simp only[aM,aZo,aZj];cases sl[n]? with
  |none=>rfl
  |some y=>rfl
 |k v=>
  simp only[aM];unfold aDG;split;grind[bG,aEd];all_goals simp_all[dS,bG,cO,aU.keep]
 |g n=>
  grind[aM,bG,cO,aU.keep]
 |f n=>simp[aM,bG,cO,aU.keep,keepL]
theorem Fy{p:Nat->Bool}{v:AV}{b:Bool}(h:cP v=some b):cP (bG p v)=some b:=by
 unfold cP at h;split at h;simp[bG,cO,aU.keep];exact h;cases h
theorem Vu{p:Nat->Bool}{v:AV}{b:Int}(h:bH v=some b):bH (bG p v)=some b:=by
 unfold bH at h;split at h;simp[bG,cO,aU.keep];exact h;cases h
theorem Ic{p:Nat->Bool}{x:Option AV}{t d n:Nat}(h:eI x t d=some n):eI (x.map (bG p)) t d=some n:=by
 cases x with
 |none=>exact h
 |some v=>
  grind[eI,bH,Vu]
theorem aBp{p:Nat->Bool}{s:Nat}{x v:AV}{l r:Option AV}(h:lV [] s x l r=some v):lV [] s (bG p x) (l.map (bG p)) (r.map (bG p))=some (bG p v):=by
 unfold lV at h;split at h;obtain⟨a,f,c⟩:=aZT.1 h;obtain⟨b,h3,h4⟩:=aZT.1 c;have e:∀d:DC,bG p (.one (.dc d))=.one (.dc d):=fun d=>by simp[bG,cO,aU.keep]
 split at h4;injection h4 with h4;subst h4
 simp_all[lV,Ic,aZs,if_pos]
 grind
 obtain⟨a,f,c⟩:=aZT.1 h;obtain⟨b,h3,h4⟩:=aZT.1 c;injection h4 with h4;subst h4;simp_all[bG,cO,aU.keep,lV,Ic,aZs];all_goals grind[aL]
def aEe(b:AI):Prop:=(∃x,b=.mov x)\/∃s x l h,b=.slL s x l h
theorem Gg.kill{sl:L AV}{hp hp':L aD}{p:Nat->Bool}{o:aO}{v:AV}(d:aEe o.ai)(m:Gg P G sl hp o v):Gg P G (sl.map (bG p)) hp' o (bG p v):=by
 rcases m with⟨h3,rfl⟩|⟨h3,h4⟩;refine .inl ⟨?_,rfl⟩;cases c:o.guard with
 |none=>rw[c] at h3;exact h3
 |some q=>obtain⟨g,b⟩:=q;rw[c] at h3;simp only[Gf] at h3 ⊢;rw[kD];exact h3.imp Fy (fun h=>by rw[h];rfl)
 refine .inr ⟨?_,?_⟩;cases c:o.guard with
 |none=>trivial
 |some q=>grind[kB,kD,Fy]
 rcases h4 with h4|⟨f,j,i,r,h5,_⟩
 left
 rcases d with⟨x,d⟩|⟨s,x,l,r,d⟩;grind[dJ,Option.some.injEq,kD];rw[d] at h4 ⊢;have:=aBp (p:=p) h4;simp only[dJ,N0,kD];rw[Option.map_map,Option.map_map] at this;have e:(bG p ∘ aM G sl)=aM G (sl.map (bG p)):=by funext y;simp only[Function.comp,kD]
 simp_all
 rcases d with⟨x,d⟩|⟨s,x,l,r,d⟩<;>(simp_all)
theorem aBq{o:Oper}{e:Nat}:e∈lG o↔∃x,x∈o.after/\Region.binds .any x=true/\x.on=e:=by
 grind[lG]
theorem aBr{b:Region.Mode}{e:Edge}(h:Region.binds .any e=true):Region.binds b e=true:=by
 grind[Region.binds]
theorem mY{j:Region.Mode}{opsA:Array Oper}{b:Array Bool}(g:b.size=opsA.size){i:Nat}(h:i∈Region.ready j opsA b):i<opsA.size/\b.getD i false=false/\∃o,opsA[i]?=some o/\∀e∈lG o,b.getD e false=true:=by
 obtain⟨l,o,d,m⟩:=mem_ready.1 h;have c:i<opsA.size:=(Array.getElem?_eq_some_iff.1 d).1;refine⟨c,?_,o,d,fun e f=>?_⟩
 simp_all
 obtain⟨x,p,n,rfl⟩:=aBq.1 f;grind[aBr]
theorem uU{b:Region.Mode}{opsA:Array Oper}{listed:Array Bool}(g:listed.size=opsA.size){i:Nat}{o:Oper}(d:i<opsA.size)(h:listed.getD i false=false)(f:opsA[i]?=some o) (c:∀e∈kU b o,listed.getD e false=true):i∈Region.ready b opsA listed:=by
 refine mem_ready.2 ⟨?_,o,f,fun x l j=>c _ (by simp only[kU,List.mem_map,List.mem_filter,Array.mem_toList_iff];grind)⟩
 simp_all
theorem Eff.mono{o:aO}{K u:AS->Prop}{st:AS}(g:∀s,K s->u s)(h:Eff P G k o K st):Eff P G k o u st:=by
 rcases h with⟨q,e⟩|⟨q,e⟩;exact .inl ⟨q,g _ e⟩;refine .inr ⟨q,?_⟩;obtain⟨C,B,I⟩:=o;cases B with
 |alloc z=>exact g _ e
 |box x=>obtain⟨cs,h3,h4⟩:=e;exact⟨cs,h3,g _ h4⟩
 |bslc s n z J=>
  rcases e with⟨es,h3,h4,h5,h6⟩|⟨h3,cs,h4,h6⟩;exact .inl ⟨es,h3,h4,h5,g _ h6⟩;exact .inr ⟨h3,cs,h4,g _ h6⟩
 |store s x v=>
  obtain⟨h3,h4⟩:=e;refine⟨h3,?_⟩;grind
 |app s b z x y=>
  rcases e with⟨i,d,j,l,m,p⟩|⟨id,n,cap,es,d,i,D,E,j,l,m,p⟩;exact .inl ⟨i,d,j,l,m,fun c r=>g _ (p c r)⟩
  exact .inr ⟨id,n,cap,es,d,i,D,E,j,l,m,fun c r=>g _ (p c r)⟩
 |call f A=>obtain⟨T,h3,t,h4⟩:=e;exact⟨T,h3,t,fun av os H=>g _ (h4 av os H)⟩
 |_=>exact WR.mono e g
theorem uT.swap{x y:aO}{K:AS->Prop}{sl:L AV}{hp:L aD}{v:AV}(X:B0 x.dst y.dst=true)(h1:mC x.dst y=true)(E:mC y.dst x=true)(N:aJb x.ai y.ai=true) (B:Gg P G sl hp x v) (h:uT P G k y.dst y.ai K (aS sl x.dst v) hp):uT P G k y.dst y.ai (fun s=>∃Z,Gg P G s.sl s.hp x Z/\K ⟨aS s.sl x.dst Z,s.hp⟩) sl hp:=by
 have m:=(iF (G:=G) (fW (sl:=sl) (v:=v) h1)).1;obtain⟨ydst,W,yg⟩:=y;simp only at m X E N h ⊢;cases W with
 |alloc z=>
  refine⟨v,(B.push).congr (fun t d=>(fW E t d).symm),?_⟩
  simp only;rw[<- gD X];exact h
 |box a=>
  obtain⟨cs,h3,h4⟩:=h;rw[m a (by simp[bK])] at h3;refine⟨cs,h3,v,(B.push).congr (fun t d=>(fW E t d).symm),?_⟩
  grind[gD]
 |bslc s n z Y=>
  have R:(Y.map fun (j,S)=>(j * s,s,aM G (aS sl x.dst v) S))=Y.map fun (j,S)=>(j * s,s,aM G sl S):=
    aZC (fun p hp=>by
      obtain⟨j,S⟩:=p;simp only[m S (by simp only[bK,List.mem_map];grind)])
  rcases h with⟨es,h3,h4,h5,h6⟩|⟨h3,cs,h4,h6⟩;rw[R] at h3;refine .inl ⟨es,h3,h4,h5,v,(B.push).congr (fun t d=>(fW E t d).symm),?_⟩
  grind[gD]
  rw[R] at h4;refine .inr ⟨h3,cs,h4,v,(B.push).congr (fun t d=>(fW E t d).symm),?_⟩
  grind[gD]
 |store s a b=>
  obtain⟨h3,h4⟩:=h;refine⟨h3,?_⟩;rcases h4 with⟨id,off,cs,vs,o,H,O,A,I,J⟩|⟨id,i,s',off,cap,es,e,ds,o,H,O,A,I,J,U⟩;rw[m a (by simp[bK])] at o
  rw[m b (by simp[bK])] at H;exact .inl ⟨id,off,cs,vs,o,H,O,A,I,v,B.free N,J⟩;rw[m a (by simp[bK])] at o;rw[m b (by simp[bK])] at H;exact .inr ⟨id,i,s',off,cap,es,e,ds,o,H,O,A,I,J,v,B.free N,U⟩
 |app s b z a c=>
  have u:aEe x.ai/\uS x.ai=true:=by
   simp only[aJb] at N;split at N;rename_i q h;exact⟨.inl ⟨q,h⟩,by rw[h];rfl⟩;rename_i s x l r h;exact⟨.inr ⟨s,x,l,r,h⟩,by rw[h];rfl⟩;grind
  obtain⟨u,M⟩:=u;rcases h with⟨o,g,A,I,J,U⟩|⟨id,n,cap,es,g,o,H,O,A,I,J,U⟩;rw[m a (by simp[bK])] at o
  rw[m c (by simp[bK])] at A;refine .inl ⟨o,g,A,I,J,fun D Q=>⟨v,(B.free M).congr (fun t d=>(fW E t d).symm),?_⟩⟩
  grind[gD]
  rw[m a (by simp[bK])] at o;rw[m c (by simp[bK])] at A;refine .inr ⟨id,n,cap,es,g,o,H,O,A,I,J,fun D Q=>⟨bG (·==id) v,(B.kill (hp':=(hp.map (cU (·==id))).set id (.arr D s (es.take n++g))) u).congr (fun t d=>(fW E t d).symm),?_⟩⟩
  grind[Rf,gD]
 |call f C=>
  obtain⟨T,h3,V,h4⟩:=h;have he:C.map (aM G (aS sl x.dst v))=C.map (aM G sl):=aZC (fun a ha=>m a (by grind[bK]))
  rw[he] at h3;refine⟨T,h3,V,fun av os d=>⟨v,(B.pushL os).congr (fun t d=>(fW E t d).symm),?_⟩⟩
  grind[gD]
 |_=>cases N
theorem Eff.swap{x y:aO}{K:AS->Prop}{st:AS}{v:AV}(g:B0 x.dst y.dst=true)(b:mC x.dst y=true)(c:mC y.dst x=true)(f:aJb x.ai y.ai=true) (d:Gg P G st.sl st.hp x v) (h:Eff P G k y K ⟨aS st.sl x.dst v,st.hp⟩):Eff P G k y (fun s=>∃e,Gg P G s.sl s.hp x e/\K ⟨aS s.sl x.dst e,s.hp⟩) st:=by
 rcases h with⟨h3,h4⟩|⟨h3,h4⟩;refine .inl ⟨pD (fW b) h3,v,d.congr (fun t i=>(fW c t i).symm),?_⟩
 grind[gD]
 ·exact .inr ⟨gC (fW b) h3,uT.swap g b c f d h4⟩
def C1(G:aE)(sl:L AV)(o:aO)(v:AV):Prop:=
 (Gf G ⟨sl,[]⟩ o.guard/\v=.tup [])\/(kB G ⟨sl,[]⟩ o.guard/\dJ G ⟨sl,[]⟩ o.ai=some v)
theorem jS{sl:L AV}{hp:L aD}{o:aO}{v:AV}(l:Es o.ai=true):Gg P G sl hp o v↔C1 G sl o v:=by
 have i:Gf G ⟨sl,hp⟩ o.guard↔Gf G ⟨sl,[]⟩ o.guard:=by cases o.guard<;>rfl
 have j:kB G ⟨sl,hp⟩ o.guard↔kB G ⟨sl,[]⟩ o.guard:=by cases o.guard<;>rfl
 unfold Gg C1;rw[i,j];obtain⟨d,e,g⟩:=o;cases e<;>first|(cases l;done)|skip
 all_goals
  constructor;rintro (h|⟨h3,h4|⟨f,c,b,r,h5,_⟩⟩)
  grind
  exact .inr ⟨h3,h4⟩;grind;rintro (h|⟨h3,h4⟩)
  grind
  exact .inr ⟨h3,.inl h4⟩
theorem Ie{sl:L AV}{o:aO}{v v':AV}(h:C1 G sl o v)(c:C1 G sl o v'):v=v':=by
 have f:¬ (Gf G ⟨sl,[]⟩ o.guard/\kB G ⟨sl,[]⟩ o.guard):=by
  rintro⟨b,d⟩;cases e:o.guard with
  |none=>rw[e] at b;exact b
  |some q=>
   grind[Gf,kB,cP]
 rcases h with⟨b,rfl⟩|⟨b,d⟩
 ·rcases c with⟨_,rfl⟩|⟨h3,_⟩;all_goals simp_all
 ·rcases c with⟨h3,_⟩|⟨_,h4⟩;all_goals simp_all
theorem sX{p:Nat->Bool}{a:AV}{d:DC}(h:bG p a=.one (.dc d)):a=.one (.dc d):=by
 cases a with
 |one c=>
  grind[bG,cO,AV.one.injEq]
 |_=>simp[bG] at h
theorem Bq{p:Nat->Bool}{a:AV}{b:Bool}(h:cP (bG p a)=some b):cP a=some b:=by
 unfold cP at h;split at h;rename_i c;rw[sX c];exact h;cases h
theorem Vv{p:Nat->Bool}{a:AV}(h:bG p a=.tup []):a=.tup []:=by
 cases a<;>simp[bG] at h ⊢;exact h
theorem N3{p:Nat->Bool}{a:AV}{b:Int}(h:bH (bG p a)=some b):bH a=some b:=by
 unfold bH at h;split at h;rename_i c;rw[sX c];exact h;cases h
theorem C2{p:Nat->Bool}{x:Option AV}{t d n:Nat}(h:eI (x.map (bG p)) t d=some n):eI x t d=some n:=by
 cases x with
 |none=>exact h
 |some a=>
  grind[eI,bH,bG,N3]
theorem L5{s:Nat}{x v:AV}{l r:Option AV}(h:lV [] s x l r=some v):∃d,x=.one (.dc d):=by
 unfold lV at h;split at h;simp_all;simp_all;simp[aL] at h;simp[aL] at h;cases h
theorem aEf{sl:L AV}{o:aO}{v:AV}(f:Es o.ai=true)(h:C1 G sl o v)(p:Nat->Bool):bG p v=v:=by
 have e:∀d:DC,bG p (.one (.dc d))=.one (.dc d):=fun d=>by simp[bG,cO,aU.keep]
 rcases h with⟨_,rfl⟩|⟨_,h⟩;rfl
 ·obtain⟨d,b,g⟩:=o;cases b<;>first|(cases f;done)|skip
  simp only[dJ,fX] at h;split at h;split at h;grind;grind;split at h;obtain⟨u,_,rfl⟩:=Option.map_eq_some_iff.1 h;exact e _;cases h;obtain⟨u,_,rfl⟩:=Option.map_eq_some_iff.1 h;exact e _;cases h;simp only[dJ] at h;obtain⟨d,c⟩:=L5 h;rw[c] at h;unfold lV at h;grind[Option.bind_eq_some_iff,aL];simp only[dJ,tV] at h;grind
theorem N4{p:Nat->Bool}{a v:AV}(h:tV (bG p a)=some v):tV a=some v:=by
 cases a with
 |one c=>
  simp only[bG,cO] at h;split at h;all_goals grind[tV]
 |_=>grind[bG,tV]
theorem Rg{p:Nat->Bool}{e:BinOp}{a b v:AV}(h:fX e (bG p a) (bG p b)=some v):fX e a b=some v:=by
 unfold fX at h;split at h;rename_i c d;rw[sX c,sX d];exact h;rename_i c d;rw[sX c,sX d];exact h;cases h
theorem Rh{p:Nat->Bool}{s:Nat}{x v:AV}{l r:Option AV}(h:lV [] s (bG p x) (l.map (bG p)) (r.map (bG p))=some v):lV [] s x l r=some v:=by
 obtain⟨d,b⟩:=L5 h;have c:=sX b;subst c;have e:bG p (.one (.dc d))=.one (.dc d):=by omega
 rw[e] at h;unfold lV at h ⊢;split at h;grind[Option.bind_eq_some_iff,C2];all_goals grind[Option.bind_eq_some_iff,C2,aL]
theorem F3{p:Nat->Bool}{sl:L AV}{o:aO}{v:AV}(j:Es o.ai=true)(h:C1 G (sl.map (bG p)) o v):C1 G sl o v:=by
 rcases h with⟨b,rfl⟩|⟨b,i⟩;refine .inl ⟨?_,rfl⟩;cases c:o.guard with
 |none=>rw[c] at b;exact b
 |some q=>grind[Gf,kD,Bq,Vv]
 refine .inr ⟨?_,?_⟩;cases c:o.guard with
 |none=>trivial
 |some q=>grind[kB,kD,Bq]
 ·obtain⟨d,f,g⟩:=o;cases f<;>first|(cases j;done)|skip
  grind[dJ,kD,Rg]
  simp only[dJ,kD] at i ⊢;have e:∀l:Option aI,l.map (aM G (sl.map (bG p)))=(l.map (aM G sl)).map (bG p):=fun l=>by cases l<;>simp[kD]
  grind[Rh]
  grind[dJ,kD,N4]
theorem kH.swapB{x y:aO}{K:AS->Prop}{st:AS}(R:B0 x.dst y.dst=true)(N:mC x.dst y=true)(m:mC y.dst x=true)(j:Es y.ai=true)(O:aNe x.ai=true) (h:Eff P G k x (fun s=>∃u,Gg P G s.sl s.hp y u/\K ⟨aS s.sl y.dst u,s.hp⟩) st):∃u,Gg P G st.sl st.hp y u/\Eff P G k x K ⟨aS st.sl y.dst u,st.hp⟩:=by
 
 have e:∀ {sl:L AV} {w u:AV},C1 G (aS sl x.dst w) y u->C1 G sl y u:=fun {sl w u} g=>by
   rw[<- jS (P:=P) (hp:=[]) j] at g ⊢;exact g.congr (fun t l=>fW N t l)
 rcases h with⟨h3,u,g,h4⟩|⟨h3,h4⟩;rw[jS j] at g;refine⟨u,(jS j).2 (e g),.inl ⟨pD (fun t l=>(fW m t l).symm) h3,?_⟩⟩
 grind[gD]
 ·obtain⟨W,D,X⟩:=x;cases D<;>first|(cases O;done)|skip
  case app s b z a c=>
   have U:∀u,aM G (aS st.sl y.dst u) a=aM G st.sl a:=fun u=>(iF (G:=G) (fW (sl:=st.sl) (v:=u) m)).1 a (by simp[bK])
   have V:∀u,aM G (aS st.sl y.dst u) c=aM G st.sl c:=fun u=>(iF (G:=G) (fW (sl:=st.sl) (v:=u) m)).1 c (by simp[bK])
   rcases h4 with⟨H,d,M,A,B,C⟩|⟨id,n,cap,es,d,H,I,J,M,A,B,C⟩;obtain⟨u,g,_⟩:=C d.length (aZe _);rw[jS j] at g;have i:=e g;refine⟨u,(jS j).2 i,.inr ⟨gC (fun t l=>(fW m t l).symm) h3,.inl ⟨by simp_all,d,by simp_all,A,B,fun p q=>?_⟩⟩⟩
   grind[jS,Ie,gD]
   obtain⟨u,g,_⟩:=C (n+d.length) (aZe _);rw[jS j] at g;have i:=F3 j (e g);refine⟨u,(jS j).2 i,.inr ⟨gC (fun t l=>(fW m t l).symm) h3,.inr ⟨id,n,cap,es,d,by simp_all,I,J,by simp_all,A,B,fun p q=>?_⟩⟩⟩
   grind[jS,Ie,F3,Rf,aEf,gD]
  case call f args=>
   obtain⟨T,t1,⟨o,r,E⟩,t3⟩:=h4;obtain⟨u,g,_⟩:=t3 o r E;rw[jS j] at g;have i:=e g;have S:∀u,args.map (aM G (aS st.sl y.dst u))=args.map (aM G st.sl):=fun u=>aZC (fun a Q=>(iF (G:=G) (fW (sl:=st.sl) (v:=u) m)).1 a (by grind[bK]))
   refine⟨u,(jS j).2 i,.inr ⟨gC (fun t l=>(fW m t l).symm) h3,T,by grind,⟨o,r,E⟩,fun av os l=>?_⟩⟩
   grind[jS,Ie,gD]
theorem kH.swap{x y:Bool×aO}{K:AS->Prop}{l:L (Bool×aO)}{st:AS}(g:aD5 x y=true)(h:kH P G k K (x::y::l) st):kH P G k K (y::x::l) st:=by
 obtain⟨bx,x⟩:=x;obtain⟨b,y⟩:=y;simp only[aD5,aZq,Bool.or_eq_true] at g;obtain⟨⟨⟨i,c⟩,d⟩,⟨f,h3⟩|⟨⟨⟨f,q⟩,m⟩,p⟩⟩:=g;subst f;obtain⟨v,j,h⟩:=h;cases b with
 |true=>
  obtain⟨u,o,h⟩:=h;refine⟨u,o.congr (fW c),v,j.congr (fun t n=>(fW d t n).symm),?_⟩
  grind[gD]
 |false=>exact Eff.swap i c d (h3.resolve_left (by simp)) j h
 have e:bx=false:=by simp_all
 subst e;subst q;exact kH.swapB i c d m p h
theorem kH.front{y:Bool×aO}{K:AS->Prop}{g:L (Bool×aO)}:∀(d:L (Bool×aO)) (st:AS),(∀x∈d,aD5 x y=true)->kH P G k K (d++y::g) st->kH P G k K (y::(d++g)) st
 |[],st,_,h=>h
 | x::d,st,e,h=>by
   refine kH.swap (e x aZt) ?_;obtain⟨b,x⟩:=x;cases b with
   | true=>
     obtain⟨v,j,h⟩:=h;exact⟨v,j,kH.front d _ (fun f c=>e f (aZB _ c)) h⟩
   | false=>exact Eff.mono (fun s i=>kH.front d s (fun f c=>e f (aZB _ c)) i) h
theorem wpQ{o:Oper}{a:Act}{w:World}{K:Act->World->Prop}{Q Q':Exit->Act->World->Prop}(c:∀e a w,e≠.normal->Q e a w->Q' e a w)(b:o.wp P a w K Q):o.wp P a w K Q':=by
 unfold Oper.wp at *;generalize (execOp a.eval o).run P w=r at *;cases r with
 |ok n w'=>
  cases n<;>simp only[Oper.upon] at b ⊢<;>
   first
    |exact b
    | exact Calls.mono b (fun e f d=>by
        cases e<;>first | exact d | exact c _ _ _ (by simp) d | (obtain⟨a,w,h⟩:=d;exact⟨a,w,c _ _ _ (by simp) h⟩))
 |halt x w'=>cases x<;>simp only[Oper.upon] at b ⊢<;>first|exact b|exact c _ _ _ (by simp) b
theorem WR.guard{o:aO}{K:AS->Prop}{st:AS}{c:AI}(q:kB G st o.guard)(d:o.ai=c)(h:WR P G k [⟨o.dst,c,none⟩] K st):WR P G k [o] K st:=by
 intro opsA l p F γ a w r i f s j u;obtain⟨b,g,rfl,m,n,h3,h4⟩:=oT p;have t:g=[]:=by
  cases g with
  |nil=>rfl
  |cons x g=>
   exfalso;simp only[bF] at h4;cases z:cH P opsA x with
   |none=>simp_all
   |some y=>simp_all
 subst t;have e:bF P opsA [{ b with guard:=none }]=some [⟨o.dst,c,none⟩]:=by
  simp only[bF,cH,aZT,Option.map_eq_some_iff];refine⟨⟨o.dst,c,none⟩,⟨c,?_,none,rfl,by simp[h3]⟩,[],rfl,rfl⟩;rw[<- d];exact m
 have:=h opsA _ e F γ a w r i f s j u;simp only[wpList] at this ⊢;rw[(pC (b':=true) i n).1 q,if_pos rfl];have v:Region.wanted { b with guard:=none } (yielded opsA a.tmps)=true:=rfl
 rw[if_pos v] at this;exact this
theorem WR.callA{o:aO}{d:L aO}{K:AS->Prop}{st:AS}{f:FuncId}{b:L aI}{T:AV->L aD->Prop}(n:kB G st o.guard)(C:o.ai=.call f b) (m:C0 P G k f (b.map (aM G st.sl)) st.hp T) (h:∀av os,T av os->WR P G k d K ⟨aS st.sl o.dst av,st.hp++os⟩):WR P G k (o::d) K st:=by
 refine WR.step n (fun F γ a w i s O v x u D=>?_)
 rw[C] at s;obtain⟨c,g,t,rfl,E⟩:=Cx s;obtain⟨z,Q,y,J,j,l⟩:=i;simp only at g;subst g;have H:=Cy (G:=G) x u c.args;refine .inr ⟨f,c.args.map a.eval,?_,(m F γ w _ v u D H).mono ?_⟩;grind[execOp,resolve,Act.eval,Deferred.ofValue,invoke,mB];rintro e w' ⟨r,av,os,F',γ',rfl,B,p,q,I,A⟩;refine⟨r,_,F',γ',rfl,h av os B,p,q,(x.ext p.sub I).put _ A,?_⟩;have M:=v.len;have N:=q.len;grind
theorem C0.of{f:FuncId}{d B:L AV}{hp:L aD}{S:AV->L aD->Prop}(M:AC P G f d [] S)(y:B=d.map (dO (cQ [] hp.length))):C0 P G k f B hp (fun av os=>∃A I,S A I/\av=dO (cQ [] hp.length) A/\os=I.map (eL (cQ [] hp.length))):=by
 intro F γ w vs s Z hk Q;have E:=s.len;have hρ:∀t,cQ [] hp.length t=γ.length+t:=fun t=>by simp[cQ,E]
 have z:∀ (id:Nat) (o:OI),γ[cQ [] hp.length id]?=some o->([]:L OI)[id]?=some o:=fun id o h=>by
   simp_all
 have R:mX F [] d vs:=by
  rw[y] at Q;refine⟨by rw[Q.1];simp,fun i av v g p=>?_⟩
  exact RV.unren z (Q.2 i _ v (by simp_all) p)
 have N:eG F [] [] w:=⟨s.fz,rfl,fun i j b h=>by simp[cG] at h,fun i b h=>by simp[cG] at h,fun i o x h=>by simp at h⟩
 refine (M F [] vs w N Z R).mono ?_;rintro e w' ⟨r,av,os,F',l,rfl,X,_,n,C,Y⟩;have m:∀(id:Nat)(o:OI),γ[id]?=some o->(γ++l)[id]?=some o:=fun _ _ h=>bX h
 have u:∀ (id:Nat) (o:OI),l[id]?=some o->(γ++l)[cQ [] hp.length id]?=some o:=fun id o h=>by
   grind
 have T:∀ i b,cG l i=some b->w.heap.size<=b:=fun i b h=>by
   rcases n.blk i b h with⟨j,hj⟩ | h
   all_goals grind[cG]
 have c:∀ i b,cG (γ++l) i=some b->(i < γ.length/\cG γ i=some b)\/(γ.length<=i/\cG l (i - γ.length)=some b):=fun i b h=>by
   grind[dD,List.getElem?_append_left,bV,List.getElem?_append_right]
 have q:∀b,b<w.heap.size->w'.heap[b]?=w.heap[b]?:=fun b D=>n.far b D (fun i h=>by simp[cG] at h)
 refine⟨r,_,_,F',γ++l,rfl,⟨av,os,X,rfl,rfl⟩,?_,?_,m,Y.ren u⟩;refine⟨n.sub,n.os,n.tape,n.output,n.size,fun b D _=>q b D,fun b o h=>?_,fun i b h=>?_,fun i _ b h=>m _ _ h⟩
 ·rcases n.new b o h with g|g|⟨i,g⟩;all_goals grind[cG]
 grind
 refine⟨C.fz,by have:=C.len;simp_all,fun i j b g p=>?_,fun i b h=>?_,fun i o x g p=>?_⟩
 rcases c i b g with⟨U,J⟩|⟨U,J⟩<;>rcases c j b p with⟨V,K⟩|⟨V,K⟩;exact s.nd i j b J K;have:=s.lt J;grind;have:=s.lt K;grind;have:=C.nd _ _ b J K;omega;rcases c i b h with⟨_,g⟩|⟨_,g⟩;have hlt:=s.lt g;cases W:F' b with
 |none=>rfl
 |some o=>
  rcases n.new b o W with h3|h3|⟨j,h3⟩;rw[s.disj i b g] at h3;cases h3;all_goals grind[cG]
 exact C.disj _ b g;by_cases O:i<γ.length;rw[aZv (by omega)] at g;rw[aZv O] at p;have H:=s.ok i o x g p;exact H.ext n.sub m (fun b D=>q b (H.lt D))
 rw[aZD (by omega),aZj] at g;rw[aZD (by omega)] at p;obtain⟨o0,h3,rfl⟩:=Option.map_eq_some_iff.1 g;rw[<- E] at h3;exact (C.ok _ o0 x h3 p).ren u
theorem uT.run{o:aO}{K:AS->Prop}{st:AS}(t:kB G st o.guard)(h:uT P G k o.dst o.ai K st.sl st.hp):WR P G k [o] K st:=by
 cases c:o.ai with
 |alloc z=>rw[c] at h;exact WR.alloc t c (WR.nil h)
 |box x=>rw[c] at h;obtain⟨cs,h3,h4⟩:=h;grind[WR.box,WR.nil]
 |bslc s n z B=>
  rw[c] at h;rcases h with⟨es,h3,h4,h5,h6⟩|⟨h3,cs,h4,h6⟩
  all_goals grind[WR.bslc,WR.nil,WR.bslcB]
 |store s x v=>
  rw[c] at h;obtain⟨h3,h4⟩:=h;rcases h4 with⟨id,off,cs,vs,g,p,q,j,l,m⟩|⟨id,i,C,off,cap,es,e,A,g,p,q,j,l,m,r⟩
  grind[WR.store,WR.nil]
  exact WR.storeE t c h3 g p q j l m rfl (WR.nil r)
 |app s b z x y=>
  rw[c] at h;rcases h with⟨g,d,j,l,m,r⟩|⟨id,n,cap,es,d,g,p,q,j,l,m,r⟩
  grind[WR.appNil,WR.nil]
  grind[WR.app,WR.nil]
 |call f u=>
  rw[c] at h;obtain⟨T,h3,_,h4⟩:=h;grind[WR.callA,WR.nil]
 |_=>
  rw[c] at h;exact WR.guard t c h
theorem kH.head{y:Bool×aO}{K:AS->Prop}{l:L (Bool×aO)}{st:AS}(h:kH P G k K (y::l) st):WR P G k [y.2] (kH P G k K l) st:=by
 obtain⟨b,o⟩:=y;cases b with
 |true=>
  obtain⟨v,i,h⟩:=h;rcases i with⟨c,rfl⟩|⟨c,e|⟨f,g,d,r,h5,h6,h7⟩⟩;exact WR.skip c (WR.nil h);exact WR.pur c (aJc e) (WR.nil h);exact WR.callQ c h5 h6 (h7 st.hp.length).1 (WR.nil (by grind))
 |false=>
  rcases h with⟨c,e⟩|⟨c,e⟩;all_goals grind[WR.skip,WR.nil,uT.run]
theorem WR.op{o:aO}{K:AS->Prop}{st:AS}{opsA:Array Oper}{i:Nat}{b:Oper}{m:Exit->Act->World->Prop}{f:Act->World->Prop}(h:WR P G k [o] K st)(l:opsA[i]?=some b)(j:cH P opsA b=some o) (r:eG F γ st.hp w) (u:bY F γ st.sl a) (q:fZ F G) (s:k<=γ.length) (p:∀d w' F' γ' c,K c->iU k F γ w F' γ' w'->eG F' γ' c.hp w'->bY F' γ' c.sl d->k<=γ'.length->f d w'):wpOp P opsA m i f a w:=by
 have:=h opsA [b] (by simp[bF,j]) F γ a w r u q s (fun e a w=>match e with|.normal=>f a w|e=>m e a w) p
 unfold wpOp;rw[l];simp only[wpList] at this ⊢;split;rename_i v;rw[if_pos v] at this;rcases this with g|⟨g,d,w',n⟩
 exact .inl (wpQ (fun e a w t h=>by simp_all) g)
 exact .inr ⟨g,d,w',n⟩;simp_all
theorem C3{p:Nat->Nat->Bool}:∀(l:L Nat),oU p l=true->l.Pairwise fun i j=>p i j=true
 |[],_=>List.Pairwise.nil
 | i::r,h=>by
   simp only[oU,aZq] at h;exact List.Pairwise.cons (fun j b=>bAr.1 h.1 j b) (C3 r h.2)
theorem aEg{id:Nat}{opsA:Array Oper}{l lp:List (Bool×aO)}{J:List Nat}{K:AS->Prop}{st:AS}(hc:bF P opsA opsA.toList=some (l.map (·.2))) (M:Fw (kJ opsA.toList []) opsA.toList l J=some lp) (hw:kH P G k K lp st) (z:eG F γ st.hp w) (hs:bY F γ st.sl a) (hg:fZ F G) (hk:k<=γ.length) {QE:Exit->Act->World->Prop} (hQ:∀a' w' F' γ' Z,K Z->iU k F γ w F' γ' w'->eG F' γ' Z.hp w'->bY F' γ' Z.sl a'->k<=γ'.length->QE .normal a' w'):(Code.region id opsA true).wp P QE a w:=by
 refine wp_region_draw fun t=>?_
 suffices hmd:∀v:Region.Mode,wpAny P v opsA QE opsA.size (Array.replicate opsA.size false) a { w with drawn:=w.drawn+1 } by
  unfold Region.schedule;split;exact wpAny_sound opsA.size t _ a _ (hmd _);exact wpAny_sound opsA.size (t / 2) _ a _ (hmd _)
 intro v;unfold Fw at M;split at M
 ·rename_i hok;injection M with M
  subst M;simp only[aD8,aZq] at hok;obtain⟨⟨⟨hb0,R⟩,N⟩,hpr⟩:=hok;have p:=C3 _ hpr;have comp:∀(ops:List Oper)(l:List aO),bF P opsA ops=some l->ops.length=l.length/\∀(i:Nat) o x,ops[i]?=some o->l[i]?=some x->cH P opsA o=some x:=by
   intro ops
   induction ops with
   |nil=>intro l h;simp[bF] at h;subst h;exact⟨rfl,fun i o x h=>by simp at h⟩
   |cons o ops ih=>
    intro l h;simp only[bF] at h;cases s:cH P opsA o with
    |none=>simp[s] at h
    | some y=>cases Q:bF P opsA ops with
      | none=>simp[s,Q] at h
      | some r=>
        simp[s,Q] at h;subst h;obtain⟨i1,i2⟩:=ih r Q;refine⟨by simp[i1],fun i o' x' ho hx=>?_⟩
        cases i with
        | zero=>simp_all
        | succ i=>grind
  obtain⟨hlen,T⟩:=comp _ _ hc;have hN:opsA.size=l.length:=by simpa using hlen
  have hop:∀(i:Nat) b,opsA[i]?=some b->cH P opsA b=some (l.getD i rE).2:=by
   intro i b h;have A:i<l.length:=by rw[<- hN];exact (Array.getElem?_eq_some_iff.1 h).1
   refine T i b _ (by simpa using h) ?_;rw[aZj,aZi A,aZo,aZi A];rfl
  have D:Cz v opsA.toList=true:=by
   have:=bAr.1 hb0 v (by cases v<;>simp);exact this
  simp only[Cz,Yp,aZq] at D;generalize aD4 (opsA.toList.map (kU v)) opsA.toList.length [] (List.range opsA.toList.length)=tord at D;obtain⟨⟨ht1,ht3⟩,ht2⟩:=D;have I:∀(i:Nat) o,opsA[i]?=some o->∀e∈kU v o,e<opsA.size:=by
   intro i o ho e V;have s:=bAr.1 ht3 (kU v o) (List.mem_map.2 ⟨o,by
     rw[Array.mem_toList_iff];exact Array.mem_of_getElem? ho,rfl⟩)
   simpa using bAr.1 s e V
  have Y:∀(listed:Array Bool),listed.size=opsA.size->Region.ready v opsA listed=[]->∀(r done:List Nat),uR (opsA.toList.map (kU v)) r done=true->(∀j∈done,j<opsA.size->listed.getD j false=true)->∀j∈r,j<opsA.size->listed.getD j false=true:=by
   intro listed g X r
   induction r with
   |nil=>intro done _ _ j c;cases c
   |cons i r ih=>
    intro done h M j c A;simp only[uR,aZq] at h;have hi0:i<opsA.size->listed.getD i false=true:=by
     intro hil;cases hlj:listed.getD i false with
     |true=>rfl
     |false=>
      exfalso;have f:opsA[i]?=some opsA[i]:=aZR hil;have:i∈Region.ready v opsA listed:=uU g hil hlj f (fun e V=>by
        have h3:=bAr.1 h.1 e (by
          rw[aZo,aZj];simp only[bAe,f,aZf,aZU];exact V)
        have hmem:e∈done:=by grind
        exact M e hmem (I i _ f e V))
      rw[X] at this;cases this
    rcases bAl.1 c with rfl|c;exact hi0 A
    ·exact ih (i::done) h.2 (fun q hq hql=>by
     rcases bAl.1 hq with rfl|hq
     · grind
     · grind) j c A
  have main:∀(d:Nat)(listed:Array Bool)(a:Act)(w':World)(F':Fz)(γ':List OI)(U:List Nat)(st:AS),listed.size=opsA.size->(∀i,i<opsA.size->(listed.getD i false=false↔i∈U))->(∀i∈U,i<opsA.size)->
    (U.Pairwise fun i j=>(i != j&&(((kJ opsA.toList []).getD j []).contains i||aD5 (l.getD i rE) (l.getD j rE)))=true)->
    (∀(i:Nat) o,opsA[i]?=some o->listed.getD i false=true->∀e∈lG o,listed.getD e false=true)->U.length<=d->
    iU k F γ w F' γ' w'->eG F' γ' st.hp w'->bY F' γ' st.sl a->k<=γ'.length->kH P G k K (U.map fun i=>l.getD i rE) st->wpAny P v opsA QE d listed a w':=by
   intro d
   induction d with
   |zero=>
    intro listed a w' F' γ' U st g hU E p S hf hE hI hS H hA;have hnil:U=[]:=bAk (by omega);subst hnil;refine⟨?_,hQ a w' F' γ' st hA hE hI hS H⟩;rw[List.eq_nil_iff_forall_not_mem];intro i z;obtain⟨s,Q,_⟩:=mY g z;have:=(hU i s).1 Q;simp at this
   |succ d ih=>
    intro listed a w' F' γ' U st g hU E p S hf hE hI hS H hA;refine⟨fun X=>?_,fun i z=>?_⟩
    have hz:∀j,j<opsA.size->listed.getD j false=true:=by
     intro j c;refine Y listed g X tord [] ht1 (fun j c=>by cases c) j ?_ c
     have:=bAr.1 ht2 j (by simpa using c);simpa using this
    cases U with
    |nil=>exact hQ a w' F' γ' st hA hE hI hS H
    |cons u U=>
     have s:=E u aZt;have:=(hU u s).2 aZt;rw[hz u s] at this;cases this
    obtain⟨s,Q,b,f,V⟩:=mY g z;have hclo:∀j∈(kJ opsA.toList []).getD i [],listed.getD j false=true:=
     Vr (L:=fun j=>listed.getD j false=true) opsA.toList (fun i o h=>S i o (by simpa using h)) i b (by simpa using f) V
    obtain⟨R1,R2,rfl⟩:=List.append_of_mem ((hU i s).1 Q);have C:=List.pairwise_append.1 p;have m:kH P G k K ((l.getD i rE)::(R1.map (fun i=>l.getD i rE)++R2.map fun i=>l.getD i rE)) st:=by
      refine kH.front _ _ (fun x hx=>?_) (by simpa using hA)
      obtain⟨r,hr,rfl⟩:=List.mem_map.1 hx;have h3:=C.2.2 r hr i aZt;simp only[aZq,Bool.or_eq_true,List.contains_iff_mem] at h3;rcases h3.2 with h4 | h4
      · have h5:=hclo r h4
        have h6:=(hU r (E r (by simp[hr]))).2 (by simp[hr]);rw[h5] at h6;cases h6
      · exact h4
    rw[<- aZQ] at m;refine WR.op (kH.head m) f (hop i b f) hI hS (hg.sub hE.sub) H (fun a'' w'' F'' γ'' st'' q1 q2 q3 q4 q5=>?_)
    have W:i∉R1/\i∉R2:=by
     refine⟨fun h=>?_,fun h=>?_⟩
     have:=C.2.2 i h i aZt;simp at this;have:=(List.pairwise_cons.1 C.2.1).1 i h;simp at this
    refine ih _ a'' w'' F'' γ'' (R1++R2) st'' (by simpa using g) (fun j c=>?_) (fun j c=>E j (by simp at c ⊢;rcases c with h|h<;>simp[h])) ?_ (fun j oj B c e hee=>?_) (by simp at hf ⊢;omega) (hE.trans q2) q3 q4 q5 q1
    by_cases n:i=j;subst n;rw[show (listed.setIfInBounds i true).getD i false=true by rw[bAG,bAM (by omega)];rfl];simp[W];rw[getD_set_ne false n,hU j c];simp[Ne.symm n];exact p.sublist (by simp);by_cases n:i=j;subst n;rw[f] at B;injection B with B;subst B
    exact getD_set_true (V e hee);rw[getD_set_ne false n] at c;exact getD_set_true (S j oj B c e hee)
  have O:∀j,(Array.replicate opsA.size false).getD j false=false:=by
   intro j;rw[bAG];by_cases hjs:j<opsA.size<;>simp[hjs]
  have hlo:J.length<=opsA.size:=by
   have W:J.Nodup:=p.imp (fun h e=>by simp[e] at h)
   have:=List.Nodup.length_le_of_subset W (l₂:=List.range l.length) (fun i z=>by
     have:=bAr.1 N i z;simpa using this)
   simpa[hN] using this
  exact main opsA.size (Array.replicate opsA.size false) a { w with drawn:=w.drawn+1 } F γ J st (by simp) (fun i z=>by
      rw[O];have:=bAr.1 R i (by simpa[<- hN] using z);simpa using this) (fun i z=>by
      have:=bAr.1 N i z;rw[hN];simpa using this) p (fun i o ho hl=>by rw[O] at hl;cases hl) hlo (iU.drawn _ _ _ _ _) (z.drawn _) hs hk hw
 cases M
