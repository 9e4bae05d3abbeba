/- Part. Conditions: none. -/
import Derived.Test.YtalhnjjchkmfeabGreatDoorVq
import Derived.Test.YtalhnjjchkmfeabGreatDoorVi
import Derived.Test.YtalhnjjchkmfeabGreatDoorMb
import Derived.KernelRfl
namespace Go.Proofs.YtalhnjjchkmfeabGreatDoor
set_option maxHeartbeats 4000000
set_option linter.unusedSimpArgs false
set_option linter.unusedVariables false
set_option maxRecDepth 4000
section
variable {G:aE}{bb:Bool}
section
variable {B:aN}
theorem To(p:aV->Bool)(f:Nat)(hf:∀r:aV,EV G (Tb B) f [r.v] []=some (vb (p r),[]))(l:L aV)(h:l.length<=1000000):EV G (Tb B) 146 [cV l,.one (.fn f [])] []=some (vi (if ix (fun k=>p (l.getD k ⟨0,0⟩)=true) l.length=l.length then -1 else (ix (fun k=>p (l.getD k ⟨0,0⟩)=true) l.length:Nat)),[]):=by
 refine aA rfl ?_;simp (disch:=omega) only[go_sem,h146c,aY9];rw[dP (fun k=>⟨(cV l::.one (.fn f [])::jk 5 (vi l.length::vi k::jk 10 [])),[]⟩) (fun k=>p (l.getD k ⟨0,0⟩)=true) l.length ?_ ?_]
 rotate_left
 rfl;intro k d g;have c:=g k (aZe _);have a:=hf l[k];rw[kC l k d] at c;simp (disch:=omega) only[go_sem,h146l0,aY9,aV.e,a,c];obtain⟨d,hp,g⟩:=bI (fun k=>p (l.getD k ⟨0,0⟩)=true) l.length
 generalize ix (fun k=>p (l.getD k ⟨0,0⟩)=true) l.length=k at *
 rcases hp with rfl|⟨b,hp⟩;simp (disch:=omega) only[go_sem,h146l0,aY9];have a:=hf l[k];rw[kC l k b] at hp;rw[if_neg (by omega)];simp (disch:=omega) only[go_sem,h146l0,aY9,aV.e,a,hp]
end
theorem aAg(l:L aV)(a:l.length<=1000000):EV G (Tb (bs bb)) 199 [cV l] []=some (.one (.bld 0 l.length),[.arr 0 2 (l.map aV.e)]):=by
 refine jO rfl ?_;show (if gG 2 (l.map aV.e)=true/\(l.map aV.e).length*16<=140737488355328 then some (AV.one (.bld 0 (l.map aV.e).length),[aD.arr 0 2 (l.map aV.e)]) else none)=_
 rw[if_pos ⟨Z8 l,by rw[aY9];omega⟩,aY9]
theorem aLC(a:aK)(b:a.rs.length<=1000000):EV G (Tb (bs bb)) 62 [a.v] []=some (a.v,[]):=by
 refine aA rfl ?_;have q:=Ww (G:=G) (B:=bs bb) a.rs b;simp (disch:=omega) only[go_sem,h62c,q,jQ,aY9]
def pX(a b:aK):Bool:=decide (a.ty=b.ty)&&(decide (a.nm=b.nm)&&(decide (a.id=b.id)&&(decide (a.fl=b.fl)&&(decide (a.res=b.res)&&(decide (a.va=b.va)&&(decide (a.fi=b.fi)&&(decide (a.rs=b.rs)&&(decide (a.al=b.al)&&(decide (a.sz=b.sz)&&(decide (a.vd=b.vd)))))))))))
theorem aCJ(a b:aK):pX a b=true↔a=b:=by
 cases a;cases b;simp[pX]
theorem aLD(a b:aK)(r:a.W)(s:b.W):EV G (Tb (bs bb)) 79 [a.v,b.v] []=some (vb (pX a b),[]):=by
 refine aA rfl ?_;have i:=dA r.nm s.nm;have j:=dA r.va s.va;have q:=Wx (G:=G) (B:=bs bb) a.rs b.rs (by have:=r.rl;omega);by_cases c:a.ty=b.ty
 rotate_left
 simp (disch:=omega) only[go_sem,h79c,i,j,q,c];simp[pX,c];by_cases d:a.nm=b.nm
 rotate_left
 simp (disch:=omega) only[go_sem,h79c,i,j,q,eq_true c,d];simp[pX,c,d];by_cases e:a.id=b.id
 rotate_left
 simp (disch:=omega) only[go_sem,h79c,i,j,q,eq_true c,eq_true d,e];simp[pX,c,d,e];by_cases f:a.fl=b.fl
 rotate_left
 simp (disch:=omega) only[go_sem,h79c,i,j,q,eq_true c,eq_true d,eq_true e,f];simp[pX,c,d,e,f];by_cases k:a.res=b.res
 rotate_left
 have n:(a.res==b.res)=false:=by simpa using k
 simp (disch:=omega) only[go_sem,h79c,i,j,q,eq_true c,eq_true d,eq_true e,eq_true f,n];simp[pX,c,d,e,f,k];have n:(a.res==b.res)=true:=by simpa using k
 by_cases g:a.va=b.va
 rotate_left
 simp (disch:=omega) only[go_sem,h79c,i,j,q,eq_true c,eq_true d,eq_true e,eq_true f,n,g];simp[pX,c,d,e,f,k,g];by_cases h:a.fi=b.fi
 rotate_left
 simp (disch:=omega) only[go_sem,h79c,i,j,q,eq_true c,eq_true d,eq_true e,eq_true f,n,eq_true g,h];simp[pX,c,d,e,f,k,g,h];by_cases l:a.rs=b.rs
 rotate_left
 simp (disch:=omega) only[go_sem,h79c,i,j,q,eq_true c,eq_true d,eq_true e,eq_true f,n,eq_true g,eq_true h,l];simp[pX,c,d,e,f,k,g,h,l];by_cases o:a.al=b.al
 rotate_left
 simp (disch:=omega) only[go_sem,h79c,i,j,q,eq_true c,eq_true d,eq_true e,eq_true f,n,eq_true g,eq_true h,eq_true l,o];simp[pX,c,d,e,f,k,g,h,l,o];by_cases p:a.sz=b.sz
 rotate_left
 simp (disch:=omega) only[go_sem,h79c,i,j,q,eq_true c,eq_true d,eq_true e,eq_true f,n,eq_true g,eq_true h,eq_true l,eq_true o,p];simp[pX,c,d,e,f,k,g,h,l,o,p];by_cases m:a.vd=b.vd
 rotate_left
 simp (disch:=omega) only[go_sem,h79c,i,j,q,eq_true c,eq_true d,eq_true e,eq_true f,n,eq_true g,eq_true h,eq_true l,eq_true o,eq_true p,m];simp[pX,c,d,e,f,k,g,h,l,o,p,m];simp (disch:=omega) only[go_sem,h79c,i,j,q,eq_true c,eq_true d,eq_true e,eq_true f,n,eq_true g,eq_true h,eq_true l,eq_true o,eq_true p,eq_true m];simp[pX,c,d,e,f,k,g,h,l,o,p,m]
theorem aK.nil_W:aK.nil.W:=⟨jV,jV,aZx _,aZx _,aZx _⟩
end
section
variable {G:aE}{bb:Bool}
end
section
variable {G:aE}{bb:Bool}
abbrev rtv(p:aK×Int):AV:=.tup [p.1.t,.one (.dc (ci p.2))]
end
section
variable {G:aE}{B:aN}
theorem aNH(c:L Int)(x:Int):c.map tX++[[.raw (.int .i64 x)]]=(c++[x]).map tX:=by simp[tX]
theorem aCK(r:aV)(C:L Int)(j:Nat)(l:L aV)(k:Nat)(g:k<l.length)(b:l[k]=r)(f:j<r.n.toNat)(h:-1<=r.s/\r.s<=1000)(d:C.length+r.n.toNat<=200000000)(i:l.length<=1000000):K7 [0,2,0,0] 1 (EC (EV G (Tb B)) G h65l0 ⟨(cV l::jk 2 (.one (.bld 0 (C++Aw r j).length)::vi k::vi j::jk 35 [])),[.arr 0 1 (el (C++Aw r j))]⟩)=some ⟨(cV l::jk 2 (.one (.bld 0 (C++Aw r (j+1)).length)::vi k::vi (j+1:Nat)::jk 35 [])),[.arr 0 1 (el (C++Aw r (j+1)))]⟩:=by
 have a:(C++Aw r j).length=C.length+j:=by simp[Aw]
 rw[S0,<- aZr];generalize C++Aw r j=D at a ⊢;subst b;by_cases c:l[k].s=-1;all_goals simp (disch:=omega) only[go_sem,h65l0,aY9,aV.e,c,aNH,aZa]
theorem Cd(l:L aV)(a:rW l):EV G (Tb B) 65 [cV l] []=some (vl (el (rY l)),[]):=by
 refine aA rfl ?_;have f:=a.len;simp (disch:=omega) only[go_sem,h65c,aY9];rw[aQ (fun k=>⟨(cV l::jk 2 (.one (.bld 0 (rY (l.take k)).length)::vi k::jk 36 [])),[.arr 0 1 (el (rY (l.take k)))]⟩) l.length ?_ ?_]
 simp (disch:=omega) only[go_sem,h65l1,aY9,aZO];rfl;intro k b;have h:=a.el _ (aZk b);have i:=a.n_le (aZk b);have h3:=Ax (l.take k) (fun r c=>(a.el r (aZA c)).2.2)
 have h4:=iJ l k (fun r c=>(a.el r c).2.2)
 have h5:=a.sum;rw[S4 l k b];generalize rY (l.take k)=C at h3 ⊢;simp (disch:=omega) only[go_sem,h65l1,aY9];rw[aQ (fun j=>⟨(cV l::jk 2 (.one (.bld 0 (C++Aw l[k] j).length)::vi k::vi j::jk 35 [])),[.arr 0 1 (el (C++Aw l[k] j))]⟩) l[k].n.toNat ?_ ?_]
 have g:((l[k].n.toNat:Nat):Int)=l[k].n:=by omega
 simp (disch:=omega) only[go_sem,h65l0,aY9,aV.e,g];simp[Aw,jk];intro j d;exact aCK l[k] C j l k b rfl d (by omega) (by omega) (by omega)
end
section
variable {G:aE}{B:aN}
end
section
variable {G:aE}{bb:Bool}
theorem mJ{a:aK}(d:a.W)(h:iL a=0):a.Ok:=by
 unfold iL at h;split at h;exact absurd h (by decide);rename_i b;split at h;exact absurd h (by decide);rename_i c;split at h;exact absurd h (by decide);rename_i h3;split at h;rename_i h4;exact absurd h h4;rename_i h4;exact⟨d,Classical.not_not.1 b,by simpa using c,Classical.not_not.1 h3,Classical.not_not.1 h4⟩
theorem aK.Ok.bd{a:aK}(h:a.Ok):a.Bd:=aK.bd h.w h.ty h.nm h.rg h.e
def fJ(a:aK):L Int:=if iL a=0 then uE a else []
theorem Mu(a:aK)(b:a.W):EV G (Tb (bs bb)) 155 [a.v] []=some (.tup [.one (.dc (.raw (.string (fF (fJ a))))),.one (.dc (ci (iL a)))],[]):=by
 refine aA rfl ?_;have q:=Du (G:=G) (bb:=bb) a b;unfold fJ;by_cases c:iL a=0;have d:=E6 (G:=G) (bb:=bb) a (mJ b c).bd;rw[if_pos c];simp (disch:=omega) only[go_sem,h155c,q,c,d];rw[if_neg c];simp (disch:=omega) only[go_sem,h155c,q,c,aG]
theorem sJ{a:aK}(b:a.W):(fJ a).length<=440:=by
 unfold fJ;by_cases c:iL a=0;rw[if_pos c,nU a (mJ b c).bd];unfold iL at c;split at c;exact absurd c (by decide);split at c;exact absurd c (by decide);split at c;exact absurd c (by decide);split at c;rename_i h4;exact absurd c h4;split at c;exact absurd c (by decide);omega;rw[if_neg c];simp
theorem aCL(a:aK)(b:a.W):EV G (Tb (bs bb)) 154 [a.v] []=some (.tup [.one (.dc (ci (fJ a).length)),.one (.dc (ci (iL a)))],[]):=by
 refine aA rfl ?_;have q:=Mu (G:=G) (bb:=bb) a b;have:=sJ b;simp (disch:=omega) only[go_sem,h154c,q]
end
section
variable {G:aE}{bb:Bool}
theorem Mv(a:aK):EV G (Tb (bs bb)) 173 [a.v] []=some (.agg [.dc (ci a.ty),.dc (.raw (.string (fF a.nm))),.dc (ci a.fi)],[]):=by
 refine aA rfl ?_;simp (disch:=omega) only[go_sem,h173c,aG]
end
section
variable {G:aE}{bb:Bool}
def mP(a b:Int):Int:=if a<b then -1 else if a > b then 1 else 0
theorem W6(a:Int):EV G (Tb (bs bb)) 239 [vi a] []=some (vb false,[]):=by
 refine aA rfl ?_;simp (disch:=omega) only[go_sem,h239c]
theorem aQg(a b:Int):EV G (Tb (bs bb)) 207 [vi a,vi b] []=some (vi (mP a b),[]):=by
 refine aA rfl ?_;unfold mP;by_cases c:a<b;rw[if_pos c];simp (disch:=omega) only[go_sem,h207c,W6,eq_true c];rw[if_neg c];by_cases d:b<a;rw[if_pos d];simp (disch:=omega) only[go_sem,h207c,W6,c,eq_true d];rw[if_neg d];simp (disch:=omega) only[go_sem,h207c,W6,c,d]
theorem E9(a b:Int):EV G (Tb (bs bb)) 226 [vi a,vi b] []=some (vi (mP a b),[]):=by
 refine aA rfl ?_;unfold mP;by_cases c:a<b;rw[if_pos c];simp (disch:=omega) only[go_sem,h226c,eq_true c];rw[if_neg c];by_cases d:b<a;rw[if_pos d];simp (disch:=omega) only[go_sem,h226c,c,eq_true d];rw[if_neg d];simp (disch:=omega) only[go_sem,h226c,c,d]
theorem W7(s:ByteArray):EV G (Tb (bs bb)) 240 [.one (.dc (.raw (.string s)))] []=some (vb false,[]):=by
 refine aA rfl ?_;simp (disch:=omega) only[go_sem,h240c]
def ltS(a b:L Int):Bool:=Op.bytesLess (fF a).toList (fF b).toList
def gtS(a b:L Int):Bool:=!(Op.bytesLess (fF a).toList (fF b).toList||(fF a).toList==(fF b).toList)
theorem sK(a b:L Int):fX .lss (sv a) (sv b)=some (vb (ltS a b)):=rfl
theorem Dz(a b:L Int):fX .gtr (sv a) (sv b)=some (vb (gtS a b)):=rfl
def Ll(a b:L Int):Int:=if ltS a b=true then -1 else if gtS a b=true then 1 else 0
theorem aQh(a b:L Int):EV G (Tb (bs bb)) 208 [sv a,sv b] []=some (vi (Ll a b),[]):=by
 refine aA rfl ?_;unfold Ll;cases c:ltS a b with
 |true=>
  rw[if_pos rfl];simp (disch:=omega) only[go_sem,h208c,W7,sK,c]
 |false=>
  rw[if_neg (by decide)];cases d:gtS a b with
  |true=>
   rw[if_pos rfl];simp (disch:=omega) only[go_sem,h208c,W7,sK,Dz,c,d]
  |false=>
   rw[if_neg (by decide)];simp (disch:=omega) only[go_sem,h208c,W7,sK,Dz,c,d]
theorem aXE(l:L Int)(g:l.length<=1000):EV G (Tb (bs bb)) 206 [vl (el l)] []=some (vi (aT l),[]):=by
 refine aA rfl ?_;simp (disch:=omega) only[go_sem,h206c,aY9];have a:∀ k (b:k < l.length),¬ l.getD k 0≠0->K7 [3,2,0,0] 0 (EC (EV G (Tb (bs bb))) G h206l0 ⟨(jk 3 (vi 0::jk 2 (vl (el l)::vi l.length::vi k::jk 9 []))),[]⟩)=some ⟨(jk 3 (vi 0::jk 2 (vl (el l)::vi l.length::vi (k+1:Nat)::jk 9 []))),[]⟩:=fun k b f=>by
  rw[bW l k b] at f;simp (disch:=omega) only[go_sem,h206l0,aY9,tX]
 rcases O3 (fun k=>l.getD k 0≠0) l.length with h|⟨j,e,c,d⟩
 rw[aQ (fun k=>⟨(jk 3 (vi 0::jk 2 (vl (el l)::vi l.length::vi k::jk 9 []))),[]⟩) l.length ?_ ?_]
 rw[iK l h];simp (disch:=omega) only[go_sem,h206l0];rfl;exact fun k b=>a k b (h k b)
 rw[aQ (fun k=>⟨(jk 3 (vi 0::jk 2 (vl (el l)::vi l.length::vi k::jk 9 []))),[]⟩) j ?_ ?_]
 rw[kM l j e d c];rw[bW l j e] at c;simp (disch:=omega) only[go_sem,h206l0,aY9,tX];rfl;exact fun k b=>a k (by omega) (d k b)
def D0(a b:aK):Int:=aT [mP a.ty b.ty,Ll a.nm b.nm,mP a.fi b.fi,mP a.id b.id]
theorem Fa(a b:aK):EV G (Tb (bs bb)) 152 [a.v,b.v] []=some (vi (D0 a b),[]):=by
 refine aA rfl ?_;have q:=aXE (G:=G) (bb:=bb) [mP a.ty b.ty,Ll a.nm b.nm,mP a.fi b.fi,mP a.id b.id] (by simp);simp only[el,aZl,aZm,tX] at q;simp (disch:=omega) only[go_sem,h152c,aQg,aQh,q];rfl
def Ce(a b:aK):Bool:=decide (a.ty=b.ty)&&(decide (a.nm=b.nm)&&decide (a.fi=b.fi))
theorem Mw(a b:aK)(f:aH a.nm)(g:aH b.nm):EV G (Tb (bs bb)) 153 [a.v,b.v] []=some (vb (Ce a b),[]):=by
 refine aA rfl ?_;have e:=dA f g;unfold Ce;by_cases c:a.ty=b.ty;by_cases d:a.nm=b.nm;simp (disch:=omega) only[go_sem,h153c,e,eq_true c,eq_true d];simp (disch:=omega) only[go_sem,h153c,e,eq_true c,d];simp (disch:=omega) only[go_sem,h153c,e,c]
abbrev aUQ(ty:Int)(b:L Int)(a:Int):L aU:=[.dc (ci ty),.dc (.raw (.string (fF b))),.dc (ci a)]
theorem aQi(a b:aK):EV G (Tb (bs bb)) 225 [.agg (aUQ a.ty a.nm a.fi),.agg (aUQ b.ty b.nm b.fi)] []=some (vi (aT [mP a.ty b.ty,Ll a.nm b.nm,mP a.fi b.fi]),[]):=by
 refine aA rfl ?_;have c:=E9 (G:=G) (bb:=bb) a.ty b.ty;have i:=E9 (G:=G) (bb:=bb) a.fi b.fi;by_cases d:mP a.ty b.ty=0;rw[d] at c;rw[d,bD];unfold Ll;cases f:ltS a.nm b.nm with
 |true=>
  rw[if_pos rfl];simp (disch:=omega) only[go_sem,h225c,c,sK,f];rfl
 |false=>
  rw[if_neg (by decide)];cases g:gtS a.nm b.nm with
  |true=>
   rw[if_pos rfl];simp (disch:=omega) only[go_sem,h225c,c,sK,Dz,f,g];rfl
  |false=>
   rw[if_neg (by decide)];have e:aT [0,mP a.fi b.fi]=mP a.fi b.fi:=by
    rw[bD];by_cases h:mP a.fi b.fi=0;rw[h];rfl;rw[bA _ _ h]
   rw[e];simp (disch:=omega) only[go_sem,h225c,c,i,sK,Dz,f,g]
 rw[bA _ _ d];generalize mP a.ty b.ty=e at d c;simp (disch:=omega) only[go_sem,h225c,c,d]
theorem W8(l:L Int)(e:Int):aT (l++[e])=if aT l≠0 then aT l else e:=by
 induction l with
 |nil=>
  show aT [e]=if (0:Int)≠0 then 0 else e
  rw[if_neg (by decide)];by_cases h:e=0;rw[h];rfl;rw[bA _ _ h]
 |cons x l a=>
  by_cases h:x=0;rw[h,aZp,bD,bD,a];rw[aZp,bA _ _ h,bA _ _ h,if_pos h]
theorem Jv(a b:aK):EV G (Tb (bs bb)) 172 [a.v,b.v] []=some (vi (D0 a b),[]):=by
 refine aA rfl ?_;have f:=Mv (G:=G) (bb:=bb) a;have g:=Mv (G:=G) (bb:=bb) b;have d:=aQi (G:=G) (bb:=bb) a b;have i:=E9 (G:=G) (bb:=bb) a.id b.id;have e:=W8 [mP a.ty b.ty,Ll a.nm b.nm,mP a.fi b.fi] (mP a.id b.id);unfold D0;rw[show [mP a.ty b.ty,Ll a.nm b.nm,mP a.fi b.fi,mP a.id b.id]=[mP a.ty b.ty,Ll a.nm b.nm,mP a.fi b.fi]++[mP a.id b.id] from rfl,e]
 generalize aT [mP a.ty b.ty,Ll a.nm b.nm,mP a.fi b.fi]=x at d ⊢;by_cases c:x=0;rw[if_neg (fun h=>h c)]
 simp (disch:=omega) only[go_sem,h172c,f,g,d,i,eq_true c];rw[if_pos c];simp (disch:=omega) only[go_sem,h172c,f,g,d,c]
end
section
variable {G:aE}{bb:Bool}
theorem gB(l:L aK)(k:Nat)(a:k<l.length):l.getD k aK.nil=l[k]:=by simp[List.getD,a]
theorem Pf(l:L aK):((l.map aK.e).all fun e=>decide (e.length=11))=true:=by simp[aK.e]
abbrev Pg:L aU:=[cN (Zi 0),cN (.string (fF [])),cN (Zi 0),cN (Zi 0),cN (.bool false),cN (.string (fF [])),cN (Zi 0),cN (.slice none 0 0),cN (Zi 0),cN (Zi 0),cN (Zi 0)]
end
section
variable {G:aE}{bb:Bool}
theorem ixA(l:L aK)(k:Nat)(a:k<l.length):(l.map aK.e)[k]?=some l[k].e:=by
 rw[aZj,aZi a];rfl
noncomputable def jG(p:aK->Bool)(l:L aK):Int:=if ix (fun k=>p (l.getD k aK.nil)=true) l.length=l.length then -1 else (ix (fun k=>p (l.getD k aK.nil)=true) l.length:Nat)
theorem aGv(l:L aK)(i:Nat)(b:i<l.length)(a:aK):EV G (Tb (bs bb)) 205 [a.v,.one (.ptr 0 0),.one (.ptr 1 0)] [.box [.dc (.slc (l.map aK.e))],.box [.dc (ci i)]]=some (vb (decide (a.id=l[i].id)),[.box [.dc (.slc (l.map aK.e))],.box [.dc (ci i)]]):=by
 refine aA rfl ?_;simp (disch:=omega) only[go_sem,h205c,aY9,ixA,aK.e]
theorem aQj(l:L aK)(i:Nat)(c:i<l.length)(m:L aK)(g:m.length<=1000000):EV G (Tb (bs bb)) 92 [vl (m.map aK.e),.one (.fn 205 [.ptr 0 0,.ptr 1 0])] [.box [.dc (.slc (l.map aK.e))],.box [.dc (ci i)]]=some (vi (jG (fun a=>decide (a.id=l[i].id)) m),[.box [.dc (.slc (l.map aK.e))],.box [.dc (ci i)]]):=by
 refine aA rfl ?_;simp (disch:=omega) only[go_sem,h92c,aY9];unfold jG;rw[dP (fun k=>⟨(vl (m.map aK.e)::.one (.fn 205 [.ptr 0 0,.ptr 1 0])::jk 5 (vi m.length::vi k::jk 10 [])),[.box [.dc (.slc (l.map aK.e))],.box [.dc (ci i)]]⟩) (fun k=>decide ((m.getD k aK.nil).id=l[i].id)=true) m.length ?_ ?_]
 rotate_left
 rfl;intro k d f;have h3:=f k (aZe _);rw[gB m k d] at h3;have h4:decide (m[k].id=l[i].id)=false:=by simpa using h3
 have q:=aGv (G:=G) (bb:=bb) l i c m[k];rw[h4] at q;simp (disch:=omega) only[go_sem,h92l0,aY9,ixA,aK.e,q];obtain⟨d,hp,f⟩:=bI (fun k=>decide ((m.getD k aK.nil).id=l[i].id)=true) m.length
 generalize ix (fun k=>decide ((m.getD k aK.nil).id=l[i].id)=true) m.length=k at *
 rcases hp with rfl|⟨b,hp⟩;rw[if_pos rfl];simp (disch:=omega) only[go_sem,h92l0,aY9];rw[if_neg (by omega)];rw[gB m k b] at hp;have q:=aGv (G:=G) (bb:=bb) l i c m[k];rw[hp] at q;simp (disch:=omega) only[go_sem,h92l0,aY9,ixA,aK.e,q]
theorem Tp(p:aK->Bool)(l:L aK):decide (0<=jG p l)=l.any p:=by
 unfold jG;obtain⟨e,hp,c⟩:=bI (fun k=>p (l.getD k aK.nil)=true) l.length
 generalize ix (fun k=>p (l.getD k aK.nil)=true) l.length=k at *
 rcases hp with rfl|⟨a,hp⟩;rw[if_pos rfl]
 symm
 rw[show decide ((0:Int)<=-1)=false from rfl,bAm]
 intro x d;obtain⟨j,b,rfl⟩:=bAJ d;have:=c j b;rw[gB l j b] at this;exact this;rw[if_neg (by omega),decide_eq_true (by omega)]
 symm
 rw[List.any_eq_true];rw[gB l k a] at hp;exact⟨l[k],aZk a,hp⟩
theorem aLE(l:L aK)(i:Nat)(b:i<l.length)(m:L aK)(c:m.length<=1000000):EV G (Tb (bs bb)) 196 [vl (m.map aK.e),.one (.fn 205 [.ptr 0 0,.ptr 1 0])] [.box [.dc (.slc (l.map aK.e))],.box [.dc (ci i)]]=some (vb (m.any fun a=>decide (a.id=l[i].id)),[.box [.dc (.slc (l.map aK.e))],.box [.dc (ci i)]]):=by
 refine aA rfl ?_;have q:=aQj (G:=G) (bb:=bb) l i b m c;rw[<- Tp];simp (disch:=omega) only[go_sem,h196c,q]
theorem aUR{α c:Type}(f:α->Option c)(x y:α):[x,y].mapM f=(f x).bind fun a=>(f y).map fun b=>[a,b]:=by
 simp only[aZ8,List.mapM_nil];cases f x with
 |none=>rfl
 |some a=>cases f y<;>rfl
def Tq(l:L aK)(i:Nat):Bool:=(l.take i).any fun a=>decide (a.id=(l.getD i aK.nil).id)
def rH(l:L aK)(i:Nat):Int:=aT [iL (l.getD i aK.nil),un (!Tq l i) 23]
theorem Jw(l:L aK)(c:∀a∈l,a.W)(f:l.length<=1000)(i:Nat)(b:i<l.length):EV G (Tb (bs bb)) 149 [vl (l.map aK.e),vi i] []=some (vi (rH l i),[]):=by
 refine aA rfl ?_;have q:=aLE (G:=G) (bb:=bb) l i b (l.take i) (by rw[aZd];omega);have d:=Du (G:=G) (bb:=bb) l[i] (c _ (aZk b));rw[aZZ] at q;unfold rH Tq;rw[gB l i b];simp (disch:=omega) only[go_sem,h149c,aY9,ixA,aK.e,q,d,Pf,aZ,nR,aUR,aZf,aZs]
end
section
variable {G:aE}{bb:Bool}
def mQ(l:L aK)(k:Nat):Int:=if k=0 then rH l 0 else
 aT [rH l k,un (decide (D0 (l.getD (k-1) aK.nil) (l.getD k aK.nil)<=0)) 9,un (!Ce (l.getD (k-1) aK.nil) (l.getD k aK.nil)||decide ((l.getD k aK.nil).ty=48)) 5]
noncomputable def oD(l:L aK):Int×Int:=if l.length > 32 then (0,8) else
 if ix (fun k=>mQ l k≠0) l.length<l.length then ((ix (fun k=>mQ l k≠0) l.length:Nat),mQ l (ix (fun k=>mQ l k≠0) l.length)) else (0,0)
abbrev iiv(p:Int×Int):AV:=.tup [.one (.dc (ci p.1)),.one (.dc (ci p.2))]
theorem ixP(l:L aK)(k:Nat)(b:k<l.length)(a:0<k):(l.map aK.e)[((k:Int)-1).toNat]?=some l[k-1].e:=by
 rw[show ((k:Int)-1).toNat=k-1 by omega];exact ixA l (k-1) (by omega)
theorem aLF(l:L aK)(f:∀a∈l,a.W)(t:l.length<=1000):EV G (Tb (bs bb)) 103 [vl (l.map aK.e)] []=some (iiv (oD l),[]):=by
 refine aA rfl ?_;unfold oD;by_cases s:l.length > 32;rw[if_pos s];have o:32<(l.length:Int):=by omega
 simp (disch:=omega) only[go_sem,h103c,aY9,eq_true o];rw[if_neg s];have o:¬ 32<(l.length:Int):=by omega
 simp (disch:=omega) only[go_sem,h103c,aY9,o];rw[dP (fun k=>⟨(vl (l.map aK.e)::jk 10 (vl (l.map aK.e)::vi l.length::vi k::jk 37 [])),[]⟩) (fun k=>mQ l k≠0) l.length ?_ ?_]
 rotate_left
 rfl;intro k j u;have b:=Classical.not_not.1 (u k (aZe _));have q:=Jw (G:=G) (bb:=bb) l f t k j;by_cases h:k=0;subst h;simp only[mQ,if_true] at b;rw[b] at q;have r:EV G (Tb (bs bb)) 149 [vl (l.map aK.e),vi 0] []=some (vi 0,[]):=q;have p:(l.map aK.e)[(0:Nat)]?=some l[0].e:=ixA l 0 j;simp (disch:=omega) only[go_sem,h103l0,aY9,ixA,p,aK.e,aG,r,bAD,Int.lt_irrefl,decide_false,Int.toNat_zero];rfl;have g:0<(k:Int):=by omega
 unfold mQ at b;rw[if_neg h,gB l (k-1) (by omega),gB l k j] at b;have m:=ixP l k j (by omega);have n:=Fa (G:=G) (bb:=bb) l[k-1] l[k];have d:=Mw (G:=G) (bb:=bb) l[k-1] l[k] (f _ (aZk _)).nm (f _ (aZk _)).nm;cases i:Ce l[k-1] l[k] with
 |false=>
  rw[i] at b d;simp only[aZF,bAd] at b;simp (disch:=omega) only[go_sem,h103l0,aY9,ixA,m,aK.e,aG,q,eq_true g,n,d,aZ,cD,b]
 |true=>
  rw[i] at b d;simp only[aZz,aZX] at b;simp (disch:=omega) only[go_sem,h103l0,aY9,ixA,m,aK.e,aG,q,eq_true g,n,d,aZ,cD,b]
 obtain⟨j,hp,u⟩:=bI (fun k=>mQ l k≠0) l.length
 generalize ix (fun k=>mQ l k≠0) l.length=k at *
 rcases hp with rfl|⟨c,b⟩;rw[if_neg (Nat.lt_irrefl _)];simp (disch:=omega) only[go_sem,h103l0,aY9];rw[if_pos c];have q:=Jw (G:=G) (bb:=bb) l f t k c;by_cases h:k=0;subst h;simp only[mQ,if_true] at b ⊢;have r:EV G (Tb (bs bb)) 149 [vl (l.map aK.e),vi 0] []=some (vi (rH l 0),[]):=q;have p:(l.map aK.e)[(0:Nat)]?=some l[0].e:=ixA l 0 c;simp (disch:=omega) only[go_sem,h103l0,aY9,ixA,p,aK.e,aG,r,bAD,Int.lt_irrefl,decide_false,Int.toNat_zero,b];have g:0<(k:Int):=by omega
 unfold mQ at b ⊢;rw[if_neg h,gB l (k-1) (by omega),gB l k c] at b ⊢;have m:=ixP l k c (by omega);have n:=Fa (G:=G) (bb:=bb) l[k-1] l[k];have d:=Mw (G:=G) (bb:=bb) l[k-1] l[k] (f _ (aZk _)).nm (f _ (aZk _)).nm;cases i:Ce l[k-1] l[k] with
 |false=>
  rw[i] at b d;simp only[aZF,bAd] at b ⊢;simp (disch:=omega) only[go_sem,h103l0,aY9,ixA,m,aK.e,aG,q,eq_true g,n,d,aZ,cD,b]
 |true=>
  rw[i] at b d;simp only[aZz,aZX] at b ⊢;simp (disch:=omega) only[go_sem,h103l0,aY9,ixA,m,aK.e,aG,q,eq_true g,n,d,aZ,cD,b]
end
section
variable {G:aE}{bb:Bool}
theorem aGw(l:L aK)(g:∀a∈l,a.W)(p:l.length<=1000)(i:Nat)(f:i<l.length):EV G (Tb (bs bb)) 171 [vl (l.map aK.e),vi i] []=some (vi (rH l i),[]):=by
 refine aA rfl ?_;have q:=W5 (G:=G) (bb:=bb) l[i] (g _ (aZk f));unfold rH Tq;rw[gB l i f];by_cases c:iL l[i]=0
 ·rw[c] at q;rw[c,bD];simp (disch:=omega) only[go_sem,h171c,aY9,ixA,aK.e,q];rw[dP (fun k=>⟨(vl (l.map aK.e)::vi i::jk 4 (vi k::jk 24 [])),[]⟩) (fun k=>(l.getD k aK.nil).id=l[i].id) i ?_ ?_]
  rotate_left
  rfl;intro k m b;have d:=b k (aZe _);rw[gB l k (by omega)] at d;simp (disch:=omega) only[go_sem,h171l0,aY9,ixA,aK.e,d];obtain⟨m,hp,b⟩:=bI (fun k=>(l.getD k aK.nil).id=l[i].id) i
  generalize ix (fun k=>(l.getD k aK.nil).id=l[i].id) i=k at *
  rcases hp with rfl|⟨n,hp⟩
  have e:((l.take k).any fun a=>decide (a.id=l[k].id))=false:=by
   rw[bAm];intro x o;obtain⟨j,h,rfl⟩:=bAJ o;rw[aZd] at h;have:=b j (by omega);rw[gB l j (by omega)] at this;simpa using this
  rw[e];simp (disch:=omega) only[go_sem,h171l0,aY9];rfl
  rw[gB l k (by omega)] at hp;have e:((l.take i).any fun a=>decide (a.id=l[i].id))=true:=by
   rw[List.any_eq_true];refine⟨l[k], ?_,decide_eq_true hp⟩;rw[List.mem_take_iff_getElem];exact⟨k,by omega,rfl⟩
  rw[e];simp (disch:=omega) only[go_sem,h171l0,aY9,ixA,aK.e,eq_true hp];rfl
 rw[bA _ _ c];simp (disch:=omega) only[go_sem,h171c,aY9,ixA,aK.e,q,c]
theorem aGx{l:L aK}{k:Nat}(d:k≠0)(f:k<l.length)(h:mQ l k=0):rH l k=0/\D0 l[k-1] l[k]<=0/\(Ce l[k-1] l[k]=true->l[k].ty=48):=by
 unfold mQ at h;rw[if_neg d,gB l (k-1) (by omega),gB l k f] at h;by_cases a:rH l k=0;rw[a,bD] at h;by_cases b:D0 l[k-1] l[k]<=0;rw[decide_eq_true b,gA,bD] at h;refine⟨a,b,fun e=>?_⟩
 rw[e] at h;by_cases c:l[k].ty=48;exact c;rw[decide_eq_false c] at h;exact absurd h (by simp[un,aT]);rw[decide_eq_false b] at h;exact absurd h (by simp[un,aT]);rw[bA _ _ a] at h;exact absurd h a
theorem aGy{a b:aK}:Ce a b=true↔a.ty=b.ty/\a.nm=b.nm/\a.fi=b.fi:=by simp[Ce]
theorem aGz(l:L aK)(j:∀a∈l,a.W)(C:l.length<=1000):EV G (Tb (bs bb)) 117 [vl (l.map aK.e)] []=some (iiv (oD l),[]):=by
 refine aA rfl ?_;unfold oD;by_cases z:l.length > 32;rw[if_pos z];have w:32<(l.length:Int):=by omega
 simp (disch:=omega) only[go_sem,h117c,aY9,eq_true w];rw[if_neg z];have w:¬ 32<(l.length:Int):=by omega
 simp (disch:=omega) only[go_sem,h117c,aY9,w];rw[dP (fun k=>⟨(vl (l.map aK.e)::jk 3 (vi k::jk 58 [])),[]⟩) (fun k=>mQ l k≠0) l.length ?_ ?_]
 rotate_left
 rfl;intro k p D;have b:=Classical.not_not.1 (D k (aZe _));have q:=aGw (G:=G) (bb:=bb) l j C k p;by_cases o:k=0;subst o;simp only[mQ,if_true] at b;rw[b] at q;have u:EV G (Tb (bs bb)) 171 [vl (l.map aK.e),vi 0] []=some (vi 0,[]):=q;simp (disch:=omega) only[go_sem,h117l0,aY9,aK.e,aG,u,bAD,Int.lt_irrefl,decide_false,Int.toNat_zero];rfl;have f:0<(k:Int):=by omega
 obtain⟨E,I,F⟩:=aGx o p b;rw[E] at q;have g:=ixP l k p (by omega);have d:¬ 0<D0 l[k-1] l[k]:=by omega
 have i:=Jv (G:=G) (bb:=bb) l[k-1] l[k];have m:=Mv (G:=G) (bb:=bb) l[k-1];have n:=Mv (G:=G) (bb:=bb) l[k];have e:=dA (j _ (aZk (show k-1<l.length by omega))).nm (j _ (aZk p)).nm;by_cases h:l[k-1].ty=l[k].ty;by_cases r:l[k-1].nm=l[k].nm;rw[eq_true r] at e;by_cases s:l[k-1].fi=l[k].fi;have H:=F (aGy.2 ⟨h,r,s⟩);simp (disch:=omega) only[go_sem,h117l0,I8,aY9,ixA,g,aK.e,aG,q,eq_true f,i,m,n,d,eq_true h,e,eq_true s,eq_true H];simp (disch:=omega) only[go_sem,h117l0,I8,aY9,ixA,g,aK.e,aG,q,eq_true f,i,m,n,d,eq_true h,e,s];rw[eq_false r] at e;simp (disch:=omega) only[go_sem,h117l0,I8,aY9,ixA,g,aK.e,aG,q,eq_true f,i,m,n,d,eq_true h,e];simp (disch:=omega) only[go_sem,h117l0,I8,aY9,ixA,g,aK.e,aG,q,eq_true f,i,m,n,d,h];obtain⟨p,hp,D⟩:=bI (fun k=>mQ l k≠0) l.length
 generalize ix (fun k=>mQ l k≠0) l.length=k at *
 rcases hp with rfl|⟨c,b⟩;rw[if_neg (Nat.lt_irrefl _)];simp (disch:=omega) only[go_sem,h117l0,aY9];rw[if_pos c];have q:=aGw (G:=G) (bb:=bb) l j C k c;by_cases o:k=0;subst o;simp only[mQ,if_true] at b ⊢;have u:EV G (Tb (bs bb)) 171 [vl (l.map aK.e),vi 0] []=some (vi (rH l 0),[]):=q;generalize rH l 0=e at b u;simp (disch:=omega) only[go_sem,h117l0,aY9,aK.e,aG,u,bAD,Int.lt_irrefl,decide_false,Int.toNat_zero,b];have f:0<(k:Int):=by omega
 unfold mQ at b ⊢;rw[if_neg o,gB l (k-1) (by omega),gB l k c] at b ⊢;have g:=ixP l k c (by omega);have i:=Jv (G:=G) (bb:=bb) l[k-1] l[k];have m:=Mv (G:=G) (bb:=bb) l[k-1];have n:=Mv (G:=G) (bb:=bb) l[k];have e:=dA (j _ (aZk (show k-1<l.length by omega))).nm (j _ (aZk c)).nm;by_cases t:rH l k=0;rw[t] at q b ⊢;rw[bD] at b ⊢;by_cases A:D0 l[k-1] l[k]<=0;have d:¬ 0<D0 l[k-1] l[k]:=by omega
 rw[decide_eq_true A,gA,bD] at b ⊢;cases y:Ce l[k-1] l[k] with
 |false=>
  rw[y] at b;exact absurd (by simp[un,aT]) b
 |true=>
  rw[y] at b;obtain⟨h,r,s⟩:=aGy.1 y;rw[eq_true r] at e;by_cases v:l[k].ty=48;rw[decide_eq_true v] at b;exact absurd (by simp[un,aT]) b;rw[decide_eq_false v];simp (disch:=omega) only[go_sem,h117l0,I8,aY9,ixA,g,aK.e,aG,q,eq_true f,i,m,n,d,eq_true h,e,eq_true s,v];rfl
 have d:0<D0 l[k-1] l[k]:=by omega
 rw[decide_eq_false A];simp (disch:=omega) only[go_sem,h117l0,I8,aY9,ixA,g,aK.e,aG,q,eq_true f,i,eq_true d];rfl;rw[bA _ _ t];generalize rH l k=x at t q;simp (disch:=omega) only[go_sem,h117l0,aY9,ixA,aK.e,aG,q,t]
end
section
variable {G:aE}{bb:Bool}
end
section
variable {G:aE}{B:aN}
