/- Part. Conditions: none. -/
import Derived.Test.YtgdjbbnicgfohacGreatDoorVi
import Derived.Test.YtgdjbbnicgfohacGreatDoorUj
import Derived.Test.YtgdjbbnicgfohacGreatDoorMb
import Derived.KernelRfl
namespace Go.Proofs.YtgdjbbnicgfohacGreatDoor
set_option maxHeartbeats 4000000
set_option linter.unusedSimpArgs false
set_option linter.unusedVariables false
set_option maxRecDepth 4000
section
variable {G:aF}{B:aO}
theorem aAM(c:L Int)(x:Int):c.map tD++[[.raw (.int .i64 x)]]=(c++[x]).map tD:=by simp[tD]
theorem aDb(r:aV)(C:L Int)(j:Nat)(l:L aV)(k:Nat)(g:k<l.length)(b:l[k]=r)(f:j<r.n.toNat)(h:-1<=r.s/\r.s<=1000)(d:C.length+r.n.toNat<=200000000)(i:l.length<=1000000):Lf [0,2,0,0] 1 (EC (EV G (Tb B)) G h36l0 ⟨(cP l::jk 2 (.one (.bld 0 (C++As r j).length)::vi k::vi j::jk 35 [])),[.arr 0 1 (el (C++As r j))]⟩)=some ⟨(cP l::jk 2 (.one (.bld 0 (C++As r (j+1)).length)::vi k::vi (j+1:Nat)::jk 35 [])),[.arr 0 1 (el (C++As r (j+1)))]⟩:=by
 have a:(C++As r j).length=C.length+j:=by simp[As]
 rw[S4,<- aZr];generalize C++As r j=D at a ⊢;subst b;by_cases c:l[k].s=-1;all_goals simp (disch:=omega) only[go_sem,h36l0,aZa,aV.e,c,aAM,aZb]
theorem Cg(l:L aV)(a:rH l):EV G (Tb B) 36 [cP l] []=some (vl (el (rW l)),[]):=by
 refine aB rfl ?_;have f:=a.len;simp (disch:=omega) only[go_sem,h36c,aZa];rw[aR (fun k=>⟨(cP l::jk 2 (.one (.bld 0 (rW (l.take k)).length)::vi k::jk 36 [])),[.arr 0 1 (el (rW (l.take k)))]⟩) l.length ?_ ?_]
 simp (disch:=omega) only[go_sem,h36l1,aZa,aZT];rfl;intro k b;have h:=a.el _ (aZk b);have i:=a.n_le (aZk b);have h3:=At (l.take k) (fun r c=>(a.el r (aZA c)).2.2)
 have h4:=iC l k (fun r c=>(a.el r c).2.2)
 have h5:=a.sum;rw[S5 l k b];generalize rW (l.take k)=C at h3 ⊢;simp (disch:=omega) only[go_sem,h36l1,aZa];rw[aR (fun j=>⟨(cP l::jk 2 (.one (.bld 0 (C++As l[k] j).length)::vi k::vi j::jk 35 [])),[.arr 0 1 (el (C++As l[k] j))]⟩) l[k].n.toNat ?_ ?_]
 have g:((l[k].n.toNat:Nat):Int)=l[k].n:=by omega
 simp (disch:=omega) only[go_sem,h36l0,aZa,aV.e,g];simp[As,jk];intro j d;exact aDb l[k] C j l k b rfl d (by omega) (by omega) (by omega)
end
section
variable {G:aF}{B:aO}
end
section
variable {G:aF}{bb:Bool}
theorem mZ{a:aJ}(d:a.W)(h:gE a=0):a.Ok:=by
 unfold gE at h;split at h;exact absurd h (by decide);rename_i b;split at h;exact absurd h (by decide);rename_i c;split at h;exact absurd h (by decide);rename_i h3;split at h;rename_i h4;exact absurd h h4;rename_i h4;exact⟨d,Classical.not_not.1 b,by simpa using c,Classical.not_not.1 h3,Classical.not_not.1 h4⟩
theorem aJ.Ok.bd{a:aJ}(h:a.Ok):a.Bd:=aJ.bd h.w h.ty h.nm h.rg h.e
def gV(a:aJ):L Int:=if gE a=0 then tL a else []
theorem Nh(a:aJ)(b:a.W):EV G (Tb (bs bb)) 159 [a.v] []=some (.tup [.one (.dc (.raw (.string (dB (gV a))))),.one (.dc (ci (gE a)))],[]):=by
 refine aB rfl ?_;have q:=Ds (G:=G) (bb:=bb) a b;unfold gV;by_cases c:gE a=0;have d:=E5 (G:=G) (bb:=bb) a (mZ b c).bd;rw[if_pos c];simp (disch:=omega) only[go_sem,h159c,q,c,d];rw[if_neg c];simp (disch:=omega) only[go_sem,h159c,q,c,aG]
theorem rO{a:aJ}(b:a.W):(gV a).length<=440:=by
 unfold gV;by_cases c:gE a=0;rw[if_pos c,nJ a (mZ b c).bd];unfold gE at c;split at c;exact absurd c (by decide);split at c;exact absurd c (by decide);split at c;exact absurd c (by decide);split at c;rename_i h4;exact absurd c h4;split at c;exact absurd c (by decide);omega;rw[if_neg c];simp
theorem aDc(a:aJ)(b:a.W):EV G (Tb (bs bb)) 179 [a.v] []=some (.tup [.one (.dc (ci (gV a).length)),.one (.dc (ci (gE a)))],[]):=by
 refine aB rfl ?_;have q:=Nh (G:=G) (bb:=bb) a b;have:=rO b;simp (disch:=omega) only[go_sem,h179c,q]
end
section
variable {G:aF}{bb:Bool}
theorem Ni(a:aJ):EV G (Tb (bs bb)) 200 [a.v] []=some (.agg [.dc (ci a.ty),.dc (.raw (.string (dB a.nm))),.dc (ci a.fi)],[]):=by
 refine aB rfl ?_;simp (disch:=omega) only[go_sem,h200c,aG]
end
section
variable {G:aF}{bb:Bool}
def kF(a b:Int):Int:=if a<b then -1 else if a > b then 1 else 0
theorem Xv(a:Int):EV G (Tb (bs bb)) 267 [vi a] []=some (vb false,[]):=by
 refine aB rfl ?_;simp (disch:=omega) only[go_sem,h267c]
theorem aQl(a b:Int):EV G (Tb (bs bb)) 222 [vi a,vi b] []=some (vi (kF a b),[]):=by
 refine aB rfl ?_;unfold kF;by_cases c:a<b;rw[if_pos c];simp (disch:=omega) only[go_sem,h222c,Xv,eq_true c];rw[if_neg c];by_cases d:b<a;rw[if_pos d];simp (disch:=omega) only[go_sem,h222c,Xv,c,eq_true d];rw[if_neg d];simp (disch:=omega) only[go_sem,h222c,Xv,c,d]
theorem Fc(a b:Int):EV G (Tb (bs bb)) 241 [vi a,vi b] []=some (vi (kF a b),[]):=by
 refine aB rfl ?_;unfold kF;by_cases c:a<b;rw[if_pos c];simp (disch:=omega) only[go_sem,h241c,eq_true c];rw[if_neg c];by_cases d:b<a;rw[if_pos d];simp (disch:=omega) only[go_sem,h241c,c,eq_true d];rw[if_neg d];simp (disch:=omega) only[go_sem,h241c,c,d]
theorem Xw(s:ByteArray):EV G (Tb (bs bb)) 268 [.one (.dc (.raw (.string s)))] []=some (vb false,[]):=by
 refine aB rfl ?_;simp (disch:=omega) only[go_sem,h268c]
def ltS(a b:L Int):Bool:=Op.bytesLess (dB a).toList (dB b).toList
def gtS(a b:L Int):Bool:=!(Op.bytesLess (dB a).toList (dB b).toList||(dB a).toList==(dB b).toList)
theorem rP(a b:L Int):fM .lss (sv a) (sv b)=some (vb (ltS a b)):=rfl
theorem Dz(a b:L Int):fM .gtr (sv a) (sv b)=some (vb (gtS a b)):=rfl
def Bi(a b:L Int):Int:=if ltS a b=true then -1 else if gtS a b=true then 1 else 0
theorem aQm(a b:L Int):EV G (Tb (bs bb)) 223 [sv a,sv b] []=some (vi (Bi a b),[]):=by
 refine aB rfl ?_;unfold Bi;cases c:ltS a b with
 |true=>
  rw[if_pos rfl];simp (disch:=omega) only[go_sem,h223c,Xw,rP,c]
 |false=>
  rw[if_neg (by decide)];cases d:gtS a b with
  |true=>
   rw[if_pos rfl];simp (disch:=omega) only[go_sem,h223c,Xw,rP,Dz,c,d]
  |false=>
   rw[if_neg (by decide)];simp (disch:=omega) only[go_sem,h223c,Xw,rP,Dz,c,d]
theorem aXG(l:L Int)(g:l.length<=1000):EV G (Tb (bs bb)) 221 [vl (el l)] []=some (vi (aT l),[]):=by
 refine aB rfl ?_;simp (disch:=omega) only[go_sem,h221c,aZa];have a:∀ k (b:k < l.length),¬ l.getD k 0≠0->Lf [3,2,0,0] 0 (EC (EV G (Tb (bs bb))) G h221l0 ⟨(jk 3 (vi 0::jk 2 (vl (el l)::vi l.length::vi k::jk 9 []))),[]⟩)=some ⟨(jk 3 (vi 0::jk 2 (vl (el l)::vi l.length::vi (k+1:Nat)::jk 9 []))),[]⟩:=fun k b f=>by
  rw[cD l k b] at f;simp (disch:=omega) only[go_sem,h221l0,aZa,tD]
 rcases Ph (fun k=>l.getD k 0≠0) l.length with h|⟨j,e,c,d⟩
 rw[aR (fun k=>⟨(jk 3 (vi 0::jk 2 (vl (el l)::vi l.length::vi k::jk 9 []))),[]⟩) l.length ?_ ?_]
 rw[iD l h];simp (disch:=omega) only[go_sem,h221l0];rfl;exact fun k b=>a k b (h k b)
 rw[aR (fun k=>⟨(jk 3 (vi 0::jk 2 (vl (el l)::vi l.length::vi k::jk 9 []))),[]⟩) j ?_ ?_]
 rw[kE l j e d c];rw[cD l j e] at c;simp (disch:=omega) only[go_sem,h221l0,aZa,tD];rfl;exact fun k b=>a k (by omega) (d k b)
def pZ(a b:aJ):Int:=aT [kF a.ty b.ty,Bi a.nm b.nm,kF a.fi b.fi,kF a.id b.id]
theorem Nj(a b:aJ):EV G (Tb (bs bb)) 178 [a.v,b.v] []=some (vi (pZ a b),[]):=by
 refine aB rfl ?_;have q:=aXG (G:=G) (bb:=bb) [kF a.ty b.ty,Bi a.nm b.nm,kF a.fi b.fi,kF a.id b.id] (by simp);simp only[el,aZl,aZm,tD] at q;simp (disch:=omega) only[go_sem,h178c,aQl,aQm,q];rfl
def nR(a b:aJ):Bool:=decide (a.ty=b.ty)&&(decide (a.nm=b.nm)&&decide (a.fi=b.fi))
theorem Nk(a b:aJ)(f:aK a.nm)(g:aK b.nm):EV G (Tb (bs bb)) 244 [a.v,b.v] []=some (vb (nR a b),[]):=by
 refine aB rfl ?_;have e:=cQ f g;unfold nR;by_cases c:a.ty=b.ty;by_cases d:a.nm=b.nm;simp (disch:=omega) only[go_sem,h244c,e,eq_true c,eq_true d];simp (disch:=omega) only[go_sem,h244c,e,eq_true c,d];simp (disch:=omega) only[go_sem,h244c,e,c]
abbrev aU8(ty:Int)(b:L Int)(a:Int):L aU:=[.dc (ci ty),.dc (.raw (.string (dB b))),.dc (ci a)]
theorem aQn(a b:aJ):EV G (Tb (bs bb)) 240 [.agg (aU8 a.ty a.nm a.fi),.agg (aU8 b.ty b.nm b.fi)] []=some (vi (aT [kF a.ty b.ty,Bi a.nm b.nm,kF a.fi b.fi]),[]):=by
 refine aB rfl ?_;have c:=Fc (G:=G) (bb:=bb) a.ty b.ty;have i:=Fc (G:=G) (bb:=bb) a.fi b.fi;by_cases d:kF a.ty b.ty=0;rw[d] at c;rw[d,aX];unfold Bi;cases f:ltS a.nm b.nm with
 |true=>
  rw[if_pos rfl];simp (disch:=omega) only[go_sem,h240c,c,rP,f];rfl
 |false=>
  rw[if_neg (by decide)];cases g:gtS a.nm b.nm with
  |true=>
   rw[if_pos rfl];simp (disch:=omega) only[go_sem,h240c,c,rP,Dz,f,g];rfl
  |false=>
   rw[if_neg (by decide)];have e:aT [0,kF a.fi b.fi]=kF a.fi b.fi:=by
    rw[aX];by_cases h:kF a.fi b.fi=0;rw[h];rfl;rw[aZ _ _ h]
   rw[e];simp (disch:=omega) only[go_sem,h240c,c,i,rP,Dz,f,g]
 rw[aZ _ _ d];generalize kF a.ty b.ty=e at d c;simp (disch:=omega) only[go_sem,h240c,c,d]
theorem Xx(l:L Int)(e:Int):aT (l++[e])=if aT l≠0 then aT l else e:=by
 induction l with
 |nil=>
  show aT [e]=if (0:Int)≠0 then 0 else e
  rw[if_neg (by decide)];by_cases h:e=0;rw[h];rfl;rw[aZ _ _ h]
 |cons x l a=>
  by_cases h:x=0;rw[h,aZx,aX,aX,a];rw[aZx,aZ _ _ h,aZ _ _ h,if_pos h]
theorem Kc(a b:aJ):EV G (Tb (bs bb)) 199 [a.v,b.v] []=some (vi (pZ a b),[]):=by
 refine aB rfl ?_;have f:=Ni (G:=G) (bb:=bb) a;have g:=Ni (G:=G) (bb:=bb) b;have d:=aQn (G:=G) (bb:=bb) a b;have i:=Fc (G:=G) (bb:=bb) a.id b.id;have e:=Xx [kF a.ty b.ty,Bi a.nm b.nm,kF a.fi b.fi] (kF a.id b.id);unfold pZ;rw[show [kF a.ty b.ty,Bi a.nm b.nm,kF a.fi b.fi,kF a.id b.id]=[kF a.ty b.ty,Bi a.nm b.nm,kF a.fi b.fi]++[kF a.id b.id] from rfl,e]
 generalize aT [kF a.ty b.ty,Bi a.nm b.nm,kF a.fi b.fi]=x at d ⊢;by_cases c:x=0;rw[if_neg (fun h=>h c)]
 simp (disch:=omega) only[go_sem,h199c,f,g,d,i,eq_true c];rw[if_pos c];simp (disch:=omega) only[go_sem,h199c,f,g,d,c]
end
section
variable {G:aF}{bb:Bool}
theorem eY(l:L aJ)(k:Nat)(a:k<l.length):l.getD k aJ.nil=l[k]:=by simp[List.getD,a]
theorem aAN(l:L aJ):((l.map aJ.e).all fun e=>decide (e.length=11))=true:=by simp[aJ.e]
abbrev P2:L aU:=[cI (Zi 0),cI (.string (dB [])),cI (Zi 0),cI (Zi 0),cI (.bool false),cI (.string (dB [])),cI (Zi 0),cI (.slice none 0 0),cI (Zi 0),cI (Zi 0),cI (Zi 0)]
end
section
variable {G:aF}{bb:Bool}
theorem ixA(l:L aJ)(k:Nat)(a:k<l.length):(l.map aJ.e)[k]?=some l[k].e:=by
 rw[aZi,aZj a];rfl
noncomputable def iX(p:aJ->Bool)(l:L aJ):Int:=if ix (fun k=>p (l.getD k aJ.nil)=true) l.length=l.length then -1 else (ix (fun k=>p (l.getD k aJ.nil)=true) l.length:Nat)
theorem aG7(l:L aJ)(i:Nat)(b:i<l.length)(a:aJ):EV G (Tb (bs bb)) 218 [a.v,.one (.ptr 0 0),.one (.ptr 1 0)] [.box [.dc (.slc (l.map aJ.e))],.box [.dc (ci i)]]=some (vb (decide (a.id=l[i].id)),[.box [.dc (.slc (l.map aJ.e))],.box [.dc (ci i)]]):=by
 refine aB rfl ?_;simp (disch:=omega) only[go_sem,h218c,aZa,ixA,aJ.e]
theorem aQo(l:L aJ)(i:Nat)(c:i<l.length)(m:L aJ)(g:m.length<=1000000):EV G (Tb (bs bb)) 57 [vl (m.map aJ.e),.one (.fn 218 [.ptr 0 0,.ptr 1 0])] [.box [.dc (.slc (l.map aJ.e))],.box [.dc (ci i)]]=some (vi (iX (fun a=>decide (a.id=l[i].id)) m),[.box [.dc (.slc (l.map aJ.e))],.box [.dc (ci i)]]):=by
 refine aB rfl ?_;simp (disch:=omega) only[go_sem,h57c,aZa];unfold iX;rw[dN (fun k=>⟨(vl (m.map aJ.e)::.one (.fn 218 [.ptr 0 0,.ptr 1 0])::jk 5 (vi m.length::vi k::jk 10 [])),[.box [.dc (.slc (l.map aJ.e))],.box [.dc (ci i)]]⟩) (fun k=>decide ((m.getD k aJ.nil).id=l[i].id)=true) m.length ?_ ?_]
 rotate_left
 rfl;intro k d f;have h3:=f k (aZe _);rw[eY m k d] at h3;have h4:decide (m[k].id=l[i].id)=false:=by simpa using h3
 have q:=aG7 (G:=G) (bb:=bb) l i c m[k];rw[h4] at q;simp (disch:=omega) only[go_sem,h57l0,aZa,ixA,aJ.e,q];obtain⟨d,hp,f⟩:=bE (fun k=>decide ((m.getD k aJ.nil).id=l[i].id)=true) m.length
 generalize ix (fun k=>decide ((m.getD k aJ.nil).id=l[i].id)=true) m.length=k at *
 rcases hp with rfl|⟨b,hp⟩;rw[if_pos rfl];simp (disch:=omega) only[go_sem,h57l0,aZa];rw[if_neg (by omega)];rw[eY m k b] at hp;have q:=aG7 (G:=G) (bb:=bb) l i c m[k];rw[hp] at q;simp (disch:=omega) only[go_sem,h57l0,aZa,ixA,aJ.e,q]
theorem T4(p:aJ->Bool)(l:L aJ):decide (0<=iX p l)=l.any p:=by
 unfold iX;obtain⟨e,hp,c⟩:=bE (fun k=>p (l.getD k aJ.nil)=true) l.length
 generalize ix (fun k=>p (l.getD k aJ.nil)=true) l.length=k at *
 rcases hp with rfl|⟨a,hp⟩;rw[if_pos rfl]
 symm
 rw[show decide ((0:Int)<=-1)=false from rfl,bAm]
 intro x d;obtain⟨j,b,rfl⟩:=List.getElem_of_mem d;have:=c j b;rw[eY l j b] at this;exact this;rw[if_neg (by omega),decide_eq_true (by omega)]
 symm
 rw[List.any_eq_true];rw[eY l k a] at hp;exact⟨l[k],aZk a,hp⟩
theorem aLO(l:L aJ)(i:Nat)(b:i<l.length)(m:L aJ)(c:m.length<=1000000):EV G (Tb (bs bb)) 171 [vl (m.map aJ.e),.one (.fn 218 [.ptr 0 0,.ptr 1 0])] [.box [.dc (.slc (l.map aJ.e))],.box [.dc (ci i)]]=some (vb (m.any fun a=>decide (a.id=l[i].id)),[.box [.dc (.slc (l.map aJ.e))],.box [.dc (ci i)]]):=by
 refine aB rfl ?_;have q:=aQo (G:=G) (bb:=bb) l i b m c;rw[<- T4];simp (disch:=omega) only[go_sem,h171c,q]
theorem aU9{α c:Type}(f:α->Option c)(x y:α):[x,y].mapM f=(f x).bind fun a=>(f y).map fun b=>[a,b]:=by
 simp only[aZ9,List.mapM_nil];cases f x with
 |none=>rfl
 |some a=>cases f y<;>rfl
def Xy(l:L aJ)(i:Nat):Bool:=(l.take i).any fun a=>decide (a.id=(l.getD i aJ.nil).id)
def kR(l:L aJ)(i:Nat):Int:=aT [gE (l.getD i aJ.nil),un (!Xy l i) 23]
theorem D0(l:L aJ)(c:∀a∈l,a.W)(f:l.length<=1000)(i:Nat)(b:i<l.length):EV G (Tb (bs bb)) 175 [vl (l.map aJ.e),vi i] []=some (vi (kR l i),[]):=by
 refine aB rfl ?_;have q:=aLO (G:=G) (bb:=bb) l i b (l.take i) (by rw[aZf];omega);have d:=Ds (G:=G) (bb:=bb) l[i] (c _ (aZk b));rw[aZZ] at q;unfold kR Xy;rw[eY l i b];simp (disch:=omega) only[go_sem,h175c,aZa,ixA,aJ.e,q,d,aAN,bB,nH,aU9,aZg,aZq]
end
section
variable {G:aF}{bb:Bool}
def lL(l:L aJ)(k:Nat):Int:=if k=0 then kR l 0 else
 aT [kR l k,un (decide (pZ (l.getD (k-1) aJ.nil) (l.getD k aJ.nil)<=0)) 9,un (!nR (l.getD (k-1) aJ.nil) (l.getD k aJ.nil)||decide ((l.getD k aJ.nil).ty=48)) 5]
noncomputable def nN(l:L aJ):Int×Int:=if l.length > 32 then (0,8) else
 if ix (fun k=>lL l k≠0) l.length<l.length then ((ix (fun k=>lL l k≠0) l.length:Nat),lL l (ix (fun k=>lL l k≠0) l.length)) else (0,0)
abbrev iiv(p:Int×Int):AV:=.tup [.one (.dc (ci p.1)),.one (.dc (ci p.2))]
theorem ixP(l:L aJ)(k:Nat)(a:k<l.length)(h0:0<k):(l.map aJ.e)[((k:Int)-1).toNat]?=some l[k-1].e:=by
 rw[show ((k:Int)-1).toNat=k-1 by omega];exact ixA l (k-1) (by omega)
theorem aLP(l:L aJ)(f:∀a∈l,a.W)(s:l.length<=1000):EV G (Tb (bs bb)) 208 [vl (l.map aJ.e)] []=some (iiv (nN l),[]):=by
 refine aB rfl ?_;unfold nN;by_cases r:l.length > 32;rw[if_pos r];have n:32<(l.length:Int):=by omega
 simp (disch:=omega) only[go_sem,h208c,aZa,eq_true n];rw[if_neg r];have n:¬ 32<(l.length:Int):=by omega
 simp (disch:=omega) only[go_sem,h208c,aZa,n];rw[dN (fun k=>⟨(vl (l.map aJ.e)::jk 10 (vl (l.map aJ.e)::vi l.length::vi k::jk 37 [])),[]⟩) (fun k=>lL l k≠0) l.length ?_ ?_]
 rotate_left
 rfl;intro k i t;have b:=Classical.not_not.1 (t k (aZe _));have q:=D0 (G:=G) (bb:=bb) l f s k i;by_cases h0:k=0;subst h0;simp only[lL,if_true] at b;rw[b] at q;have p:EV G (Tb (bs bb)) 175 [vl (l.map aJ.e),vi 0] []=some (vi 0,[]):=q;have o:(l.map aJ.e)[(0:Nat)]?=some l[0].e:=ixA l 0 i;simp (disch:=omega) only[go_sem,h208l0,aZa,ixA,o,aJ.e,aG,p,bAF,Int.lt_irrefl,decide_false,Int.toNat_zero];rfl;have g:0<(k:Int):=by omega
 unfold lL at b;rw[if_neg h0,eY l (k-1) (by omega),eY l k i] at b;have j:=ixP l k i (by omega);have m:=Nj (G:=G) (bb:=bb) l[k-1] l[k];have d:=Nk (G:=G) (bb:=bb) l[k-1] l[k] (f _ (aZk _)).nm (f _ (aZk _)).nm;cases h:nR l[k-1] l[k] with
 |false=>
  rw[h] at b d;simp only[aZG,bAd] at b;simp (disch:=omega) only[go_sem,h208l0,aZa,ixA,j,aJ.e,aG,q,eq_true g,m,d,bB,cB,b]
 |true=>
  rw[h] at b d;simp only[aZF,aZ0] at b;simp (disch:=omega) only[go_sem,h208l0,aZa,ixA,j,aJ.e,aG,q,eq_true g,m,d,bB,cB,b]
 obtain⟨i,hp,t⟩:=bE (fun k=>lL l k≠0) l.length
 generalize ix (fun k=>lL l k≠0) l.length=k at *
 rcases hp with rfl|⟨c,b⟩;rw[if_neg (Nat.lt_irrefl _)];simp (disch:=omega) only[go_sem,h208l0,aZa];rw[if_pos c];have q:=D0 (G:=G) (bb:=bb) l f s k c;by_cases h0:k=0;subst h0;simp only[lL,if_true] at b ⊢;have p:EV G (Tb (bs bb)) 175 [vl (l.map aJ.e),vi 0] []=some (vi (kR l 0),[]):=q;have o:(l.map aJ.e)[(0:Nat)]?=some l[0].e:=ixA l 0 c;simp (disch:=omega) only[go_sem,h208l0,aZa,ixA,o,aJ.e,aG,p,bAF,Int.lt_irrefl,decide_false,Int.toNat_zero,b];have g:0<(k:Int):=by omega
 unfold lL at b ⊢;rw[if_neg h0,eY l (k-1) (by omega),eY l k c] at b ⊢;have j:=ixP l k c (by omega);have m:=Nj (G:=G) (bb:=bb) l[k-1] l[k];have d:=Nk (G:=G) (bb:=bb) l[k-1] l[k] (f _ (aZk _)).nm (f _ (aZk _)).nm;cases h:nR l[k-1] l[k] with
 |false=>
  rw[h] at b d;simp only[aZG,bAd] at b ⊢;simp (disch:=omega) only[go_sem,h208l0,aZa,ixA,j,aJ.e,aG,q,eq_true g,m,d,bB,cB,b]
 |true=>
  rw[h] at b d;simp only[aZF,aZ0] at b ⊢;simp (disch:=omega) only[go_sem,h208l0,aZa,ixA,j,aJ.e,aG,q,eq_true g,m,d,bB,cB,b]
end
section
variable {G:aF}{bb:Bool}
theorem aG8(l:L aJ)(g:∀a∈l,a.W)(p:l.length<=1000)(i:Nat)(f:i<l.length):EV G (Tb (bs bb)) 198 [vl (l.map aJ.e),vi i] []=some (vi (kR l i),[]):=by
 refine aB rfl ?_;have q:=Xj (G:=G) (bb:=bb) l[i] (g _ (aZk f));unfold kR Xy;rw[eY l i f];by_cases c:gE l[i]=0
 ·rw[c] at q;rw[c,aX];simp (disch:=omega) only[go_sem,h198c,aZa,ixA,aJ.e,q];rw[dN (fun k=>⟨(vl (l.map aJ.e)::vi i::jk 4 (vi k::jk 24 [])),[]⟩) (fun k=>(l.getD k aJ.nil).id=l[i].id) i ?_ ?_]
  rotate_left
  rfl;intro k m b;have d:=b k (aZe _);rw[eY l k (by omega)] at d;simp (disch:=omega) only[go_sem,h198l0,aZa,ixA,aJ.e,d];obtain⟨m,hp,b⟩:=bE (fun k=>(l.getD k aJ.nil).id=l[i].id) i
  generalize ix (fun k=>(l.getD k aJ.nil).id=l[i].id) i=k at *
  rcases hp with rfl|⟨n,hp⟩
  have e:((l.take k).any fun a=>decide (a.id=l[k].id))=false:=by
   rw[bAm];intro x o;obtain⟨j,h,rfl⟩:=List.getElem_of_mem o;rw[aZf] at h;have:=b j (by omega);rw[eY l j (by omega)] at this;simpa using this
  rw[e];simp (disch:=omega) only[go_sem,h198l0,aZa];rfl
  rw[eY l k (by omega)] at hp;have e:((l.take i).any fun a=>decide (a.id=l[i].id))=true:=by
   rw[List.any_eq_true];refine⟨l[k], ?_,decide_eq_true hp⟩;rw[List.mem_take_iff_getElem];exact⟨k,by omega,rfl⟩
  rw[e];simp (disch:=omega) only[go_sem,h198l0,aZa,ixA,aJ.e,eq_true hp];rfl
 rw[aZ _ _ c];simp (disch:=omega) only[go_sem,h198c,aZa,ixA,aJ.e,q,c]
theorem Kd{l:L aJ}{k:Nat}(h0:k≠0)(e:k<l.length)(h:lL l k=0):kR l k=0/\pZ l[k-1] l[k]<=0/\(nR l[k-1] l[k]=true->l[k].ty=48):=by
 unfold lL at h;rw[if_neg h0,eY l (k-1) (by omega),eY l k e] at h;by_cases a:kR l k=0;rw[a,aX] at h;by_cases b:pZ l[k-1] l[k]<=0;rw[decide_eq_true b,gA,aX] at h;refine⟨a,b,fun d=>?_⟩
 rw[d] at h;by_cases c:l[k].ty=48;exact c;rw[decide_eq_false c] at h;exact absurd h (by simp[un,aT]);rw[decide_eq_false b] at h;exact absurd h (by simp[un,aT]);rw[aZ _ _ a] at h;exact absurd h a
theorem Fd{a b:aJ}:nR a b=true↔a.ty=b.ty/\a.nm=b.nm/\a.fi=b.fi:=by simp[nR]
theorem aG9(l:L aJ)(j:∀a∈l,a.W)(A:l.length<=1000):EV G (Tb (bs bb)) 147 [vl (l.map aJ.e)] []=some (iiv (nN l),[]):=by
 refine aB rfl ?_;unfold nN;by_cases y:l.length > 32;rw[if_pos y];have v:32<(l.length:Int):=by omega
 simp (disch:=omega) only[go_sem,h147c,aZa,eq_true v];rw[if_neg y];have v:¬ 32<(l.length:Int):=by omega
 simp (disch:=omega) only[go_sem,h147c,aZa,v];rw[dN (fun k=>⟨(vl (l.map aJ.e)::jk 3 (vi k::jk 58 [])),[]⟩) (fun k=>lL l k≠0) l.length ?_ ?_]
 rotate_left
 rfl;intro k o C;have b:=Classical.not_not.1 (C k (aZe _));have q:=aG8 (G:=G) (bb:=bb) l j A k o;by_cases h0:k=0;subst h0;simp only[lL,if_true] at b;rw[b] at q;have t:EV G (Tb (bs bb)) 198 [vl (l.map aJ.e),vi 0] []=some (vi 0,[]):=q;simp (disch:=omega) only[go_sem,h147l0,aZa,aJ.e,aG,t,bAF,Int.lt_irrefl,decide_false,Int.toNat_zero];rfl;have f:0<(k:Int):=by omega
 obtain⟨D,H,E⟩:=Kd h0 o b;rw[D] at q;have g:=ixP l k o (by omega);have d:¬ 0<pZ l[k-1] l[k]:=by omega
 have i:=Kc (G:=G) (bb:=bb) l[k-1] l[k];have m:=Ni (G:=G) (bb:=bb) l[k-1];have n:=Ni (G:=G) (bb:=bb) l[k];have e:=cQ (j _ (aZk (show k-1<l.length by omega))).nm (j _ (aZk o)).nm;by_cases h:l[k-1].ty=l[k].ty;by_cases p:l[k-1].nm=l[k].nm;rw[eq_true p] at e;by_cases r:l[k-1].fi=l[k].fi;have F:=E (Fd.2 ⟨h,p,r⟩);simp (disch:=omega) only[go_sem,h147l0,Jk,aZa,ixA,g,aJ.e,aG,q,eq_true f,i,m,n,d,eq_true h,e,eq_true r,eq_true F];simp (disch:=omega) only[go_sem,h147l0,Jk,aZa,ixA,g,aJ.e,aG,q,eq_true f,i,m,n,d,eq_true h,e,r];rw[eq_false p] at e;simp (disch:=omega) only[go_sem,h147l0,Jk,aZa,ixA,g,aJ.e,aG,q,eq_true f,i,m,n,d,eq_true h,e];simp (disch:=omega) only[go_sem,h147l0,Jk,aZa,ixA,g,aJ.e,aG,q,eq_true f,i,m,n,d,h];obtain⟨o,hp,C⟩:=bE (fun k=>lL l k≠0) l.length
 generalize ix (fun k=>lL l k≠0) l.length=k at *
 rcases hp with rfl|⟨c,b⟩;rw[if_neg (Nat.lt_irrefl _)];simp (disch:=omega) only[go_sem,h147l0,aZa];rw[if_pos c];have q:=aG8 (G:=G) (bb:=bb) l j A k c;by_cases h0:k=0;subst h0;simp only[lL,if_true] at b ⊢;have t:EV G (Tb (bs bb)) 198 [vl (l.map aJ.e),vi 0] []=some (vi (kR l 0),[]):=q;generalize kR l 0=e at b t;simp (disch:=omega) only[go_sem,h147l0,aZa,aJ.e,aG,t,bAF,Int.lt_irrefl,decide_false,Int.toNat_zero,b];have f:0<(k:Int):=by omega
 unfold lL at b ⊢;rw[if_neg h0,eY l (k-1) (by omega),eY l k c] at b ⊢;have g:=ixP l k c (by omega);have i:=Kc (G:=G) (bb:=bb) l[k-1] l[k];have m:=Ni (G:=G) (bb:=bb) l[k-1];have n:=Ni (G:=G) (bb:=bb) l[k];have e:=cQ (j _ (aZk (show k-1<l.length by omega))).nm (j _ (aZk c)).nm;by_cases s:kR l k=0;rw[s] at q b ⊢;rw[aX] at b ⊢;by_cases z:pZ l[k-1] l[k]<=0;have d:¬ 0<pZ l[k-1] l[k]:=by omega
 rw[decide_eq_true z,gA,aX] at b ⊢;cases w:nR l[k-1] l[k] with
 |false=>
  rw[w] at b;exact absurd (by simp[un,aT]) b
 |true=>
  rw[w] at b;obtain⟨h,p,r⟩:=Fd.1 w;rw[eq_true p] at e;by_cases u:l[k].ty=48;rw[decide_eq_true u] at b;exact absurd (by simp[un,aT]) b;rw[decide_eq_false u];simp (disch:=omega) only[go_sem,h147l0,Jk,aZa,ixA,g,aJ.e,aG,q,eq_true f,i,m,n,d,eq_true h,e,eq_true r,u];rfl
 have d:0<pZ l[k-1] l[k]:=by omega
 rw[decide_eq_false z];simp (disch:=omega) only[go_sem,h147l0,Jk,aZa,ixA,g,aJ.e,aG,q,eq_true f,i,eq_true d];rfl;rw[aZ _ _ s];generalize kR l k=x at s q;simp (disch:=omega) only[go_sem,h147l0,aZa,ixA,aJ.e,aG,q,s]
end
section
variable {G:aF}{bb:Bool}
end
section
variable {G:aF}{B:aO}
end
section
variable {G:aF}{bb:Bool}
theorem Xz{l:L aV}(h:(mS l).2=0):gI l=cC l:=by
 have a:=Dm h;exact Dl l (fun r b=>(a.el r b).2.2) (by have:=a.sum;omega)
end
section
variable {G:aF}{bb:Bool}
end
section
variable {G:aF}{bb:Bool}
theorem aVb(l:L aJ)(k:Nat)(a:k<l.length):(l.take (k+1)).map aJ.e=(l.take k).map aJ.e++[l[k].e]:=by
 rw[bAa a,aZR];rfl
