/- Part. Conditions: none. -/
import Derived.Test.YtgdjbbnicgfohabGreatDoorVq
import Derived.Test.YtgdjbbnicgfohabGreatDoorVi
import Derived.Test.YtgdjbbnicgfohabGreatDoorMb
import Derived.KernelRfl
namespace Go.Proofs.YtgdjbbnicgfohabGreatDoor
set_option maxHeartbeats 4000000
set_option linter.unusedSimpArgs false
set_option linter.unusedVariables false
set_option maxRecDepth 4000
section
variable {G:aF}{bb:Bool}
section
variable {B:aO}
theorem Ue(p:aW->Bool)(f:Nat)(hf:∀r:aW,EV G (Tb B) f [r.v] []=some (vb (p r),[]))(l:L aW)(h:l.length<=1000000):EV G (Tb B) 113 [cQ l,.one (.fn f [])] []=some (vi (if ix (fun k=>p (l.getD k ⟨0,0⟩)=true) l.length=l.length then -1 else (ix (fun k=>p (l.getD k ⟨0,0⟩)=true) l.length:Nat)),[]):=by
 refine aB rfl ?_;simp (disch:=omega) only[go_sem,h113c,aZA];rw[dE (fun k=>⟨(cQ l::.one (.fn f [])::jk 5 (vi l.length::vi k::jk 10 [])),[]⟩) (fun k=>p (l.getD k ⟨0,0⟩)=true) l.length ?_ ?_]
 rotate_left
 rfl;intro k d g;have c:=g k (aZE _);have a:=hf l[k];rw[jT l k d] at c;simp (disch:=omega) only[go_sem,h113l0,aZA,aW.e,a,c];obtain⟨d,hp,g⟩:=bD (fun k=>p (l.getD k ⟨0,0⟩)=true) l.length
 generalize ix (fun k=>p (l.getD k ⟨0,0⟩)=true) l.length=k at *
 rcases hp with rfl|⟨b,hp⟩;simp (disch:=omega) only[go_sem,h113l0,aZA];have a:=hf l[k];rw[jT l k b] at hp;rw[if_neg (by omega)];simp (disch:=omega) only[go_sem,h113l0,aZA,aW.e,a,hp]
end
theorem aAV(l:L aW)(a:l.length<=1000000):EV G (Tb (bs bb)) 158 [cQ l] []=some (.one (.bld 0 l.length),[.arr 0 2 (l.map aW.e)]):=by
 refine jF rfl ?_;show (if gG 2 (l.map aW.e)=true/\(l.map aW.e).length*16<=140737488355328 then some (AV.one (.bld 0 (l.map aW.e).length),[aD.arr 0 2 (l.map aW.e)]) else none)=_
 rw[if_pos ⟨aAP l,by rw[aZA];omega⟩,aZA]
def pM(a b:aJ):Bool:=decide (a.ty=b.ty)&&(decide (a.nm=b.nm)&&(decide (a.id=b.id)&&(decide (a.fl=b.fl)&&(decide (a.res=b.res)&&(decide (a.va=b.va)&&(decide (a.fi=b.fi)&&(decide (a.rs=b.rs)&&(decide (a.al=b.al)&&(decide (a.sz=b.sz)&&(decide (a.vd=b.vd)))))))))))
theorem aDm(a b:aJ):pM a b=true↔a=b:=by
 cases a;cases b;simp[pM]
theorem aL1(a b:aJ)(r:a.W)(s:b.W):EV G (Tb (bs bb)) 59 [a.v,b.v] []=some (vb (pM a b),[]):=by
 refine aB rfl ?_;have i:=cR r.nm s.nm;have j:=cR r.va s.va;have q:=X0 (G:=G) (B:=bs bb) a.rs b.rs (by have:=r.rl;omega);by_cases c:a.ty=b.ty
 rotate_left
 simp (disch:=omega) only[go_sem,h59c,i,j,q,c];simp[pM,c];by_cases d:a.nm=b.nm
 rotate_left
 simp (disch:=omega) only[go_sem,h59c,i,j,q,eq_true c,d];simp[pM,c,d];by_cases e:a.id=b.id
 rotate_left
 simp (disch:=omega) only[go_sem,h59c,i,j,q,eq_true c,eq_true d,e];simp[pM,c,d,e];by_cases f:a.fl=b.fl
 rotate_left
 simp (disch:=omega) only[go_sem,h59c,i,j,q,eq_true c,eq_true d,eq_true e,f];simp[pM,c,d,e,f];by_cases k:a.res=b.res
 rotate_left
 have n:(a.res==b.res)=false:=by simpa using k
 simp (disch:=omega) only[go_sem,h59c,i,j,q,eq_true c,eq_true d,eq_true e,eq_true f,n];simp[pM,c,d,e,f,k];have n:(a.res==b.res)=true:=by simpa using k
 by_cases g:a.va=b.va
 rotate_left
 simp (disch:=omega) only[go_sem,h59c,i,j,q,eq_true c,eq_true d,eq_true e,eq_true f,n,g];simp[pM,c,d,e,f,k,g];by_cases h:a.fi=b.fi
 rotate_left
 simp (disch:=omega) only[go_sem,h59c,i,j,q,eq_true c,eq_true d,eq_true e,eq_true f,n,eq_true g,h];simp[pM,c,d,e,f,k,g,h];by_cases l:a.rs=b.rs
 rotate_left
 simp (disch:=omega) only[go_sem,h59c,i,j,q,eq_true c,eq_true d,eq_true e,eq_true f,n,eq_true g,eq_true h,l];simp[pM,c,d,e,f,k,g,h,l];by_cases o:a.al=b.al
 rotate_left
 simp (disch:=omega) only[go_sem,h59c,i,j,q,eq_true c,eq_true d,eq_true e,eq_true f,n,eq_true g,eq_true h,eq_true l,o];simp[pM,c,d,e,f,k,g,h,l,o];by_cases p:a.sz=b.sz
 rotate_left
 simp (disch:=omega) only[go_sem,h59c,i,j,q,eq_true c,eq_true d,eq_true e,eq_true f,n,eq_true g,eq_true h,eq_true l,eq_true o,p];simp[pM,c,d,e,f,k,g,h,l,o,p];by_cases m:a.vd=b.vd
 rotate_left
 simp (disch:=omega) only[go_sem,h59c,i,j,q,eq_true c,eq_true d,eq_true e,eq_true f,n,eq_true g,eq_true h,eq_true l,eq_true o,eq_true p,m];simp[pM,c,d,e,f,k,g,h,l,o,p,m];simp (disch:=omega) only[go_sem,h59c,i,j,q,eq_true c,eq_true d,eq_true e,eq_true f,n,eq_true g,eq_true h,eq_true l,eq_true o,eq_true p,eq_true m];simp[pM,c,d,e,f,k,g,h,l,o,p,m]
theorem aJ.nil_W:aJ.nil.W:=⟨jL,jL,aZX _,aZX _,aZX _⟩
end
section
variable {G:aF}{bb:Bool}
end
section
variable {G:aF}{bb:Bool}
abbrev rtv(p:aJ×Int):AV:=.tup [p.1.t,.one (.dc (ci p.2))]
end
section
variable {G:aF}{B:aO}
theorem aAW(c:L Int)(x:Int):c.map tL++[[.raw (.int .i64 x)]]=(c++[x]).map tL:=by simp[tL]
theorem aDn(r:aW)(C:L Int)(j:Nat)(l:L aW)(k:Nat)(g:k<l.length)(b:l[k]=r)(f:j<r.n.toNat)(h:-1<=r.s/\r.s<=1000)(d:C.length+r.n.toNat<=200000000)(i:l.length<=1000000):Ls [0,2,0,0] 1 (EC (EV G (Tb B)) G h89l0 ⟨(cQ l::jk 2 (.one (.bld 0 (C++At r j).length)::vi k::vi j::jk 35 [])),[.arr 0 1 (el (C++At r j))]⟩)=some ⟨(cQ l::jk 2 (.one (.bld 0 (C++At r (j+1)).length)::vi k::vi (j+1:Nat)::jk 35 [])),[.arr 0 1 (el (C++At r (j+1)))]⟩:=by
 have a:(C++At r j).length=C.length+j:=by simp[At]
 rw[Tm,<- aZS];generalize C++At r j=D at a ⊢;subst b;by_cases c:l[k].s=-1;all_goals simp (disch:=omega) only[go_sem,h89l0,aZA,aW.e,c,aAW,aZB]
theorem Ke(l:L aW)(a:sO l):EV G (Tb B) 89 [cQ l] []=some (vl (el (tO l)),[]):=by
 refine aB rfl ?_;have f:=a.len;simp (disch:=omega) only[go_sem,h89c,aZA];rw[aR (fun k=>⟨(cQ l::jk 2 (.one (.bld 0 (tO (l.take k)).length)::vi k::jk 36 [])),[.arr 0 1 (el (tO (l.take k)))]⟩) l.length ?_ ?_]
 simp (disch:=omega) only[go_sem,h89l1,aZA,bAj];rfl;intro k b;have h:=a.el _ (aZK b);have i:=a.n_le (aZK b);have h3:=Au (l.take k) (fun r c=>(a.el r (aZ0 c)).2.2)
 have h4:=iG l k (fun r c=>(a.el r c).2.2)
 have h5:=a.sum;rw[Tn l k b];generalize tO (l.take k)=C at h3 ⊢;simp (disch:=omega) only[go_sem,h89l1,aZA];rw[aR (fun j=>⟨(cQ l::jk 2 (.one (.bld 0 (C++At l[k] j).length)::vi k::vi j::jk 35 [])),[.arr 0 1 (el (C++At l[k] j))]⟩) l[k].n.toNat ?_ ?_]
 have g:((l[k].n.toNat:Nat):Int)=l[k].n:=by omega
 simp (disch:=omega) only[go_sem,h89l0,aZA,aW.e,g];simp[At,jk];intro j d;exact aDn l[k] C j l k b rfl d (by omega) (by omega) (by omega)
end
section
variable {G:aF}{B:aO}
end
section
variable {G:aF}{bb:Bool}
theorem nA{a:aJ}(d:a.W)(h:gI a=0):a.Ok:=by
 unfold gI at h;split at h;exact absurd h (by decide);rename_i b;split at h;exact absurd h (by decide);rename_i c;split at h;exact absurd h (by decide);rename_i h3;split at h;rename_i h4;exact absurd h h4;rename_i h4;exact⟨d,Classical.not_not.1 b,by simpa using c,Classical.not_not.1 h3,Classical.not_not.1 h4⟩
theorem aJ.Ok.bd{a:aJ}(h:a.Ok):a.Bd:=aJ.bd h.w h.ty h.nm h.rg h.e
def gY(a:aJ):L Int:=if gI a=0 then tP a else []
theorem Nl(a:aJ)(b:a.W):EV G (Tb (bs bb)) 143 [a.v] []=some (.tup [.one (.dc (.raw (.string (dO (gY a))))),.one (.dc (ci (gI a)))],[]):=by
 refine aB rfl ?_;have q:=Dx (G:=G) (bb:=bb) a b;unfold gY;by_cases c:gI a=0;have d:=E9 (G:=G) (bb:=bb) a (nA b c).bd;rw[if_pos c];simp (disch:=omega) only[go_sem,h143c,q,c,d];rw[if_neg c];simp (disch:=omega) only[go_sem,h143c,q,c,aG]
theorem rR{a:aJ}(b:a.W):(gY a).length<=440:=by
 unfold gY;by_cases c:gI a=0;rw[if_pos c,nL a (nA b c).bd];unfold gI at c;split at c;exact absurd c (by decide);split at c;exact absurd c (by decide);split at c;exact absurd c (by decide);split at c;rename_i h4;exact absurd c h4;split at c;exact absurd c (by decide);omega;rw[if_neg c];simp
theorem aDo(a:aJ)(b:a.W):EV G (Tb (bs bb)) 163 [a.v] []=some (.tup [.one (.dc (ci (gY a).length)),.one (.dc (ci (gI a)))],[]):=by
 refine aB rfl ?_;have q:=Nl (G:=G) (bb:=bb) a b;have:=rR b;simp (disch:=omega) only[go_sem,h163c,q]
end
section
variable {G:aF}{bb:Bool}
theorem Nn(a:aJ):EV G (Tb (bs bb)) 230 [a.v] []=some (.agg [.dc (ci a.ty),.dc (.raw (.string (dO a.nm))),.dc (ci a.fi)],[]):=by
 refine aB rfl ?_;simp (disch:=omega) only[go_sem,h230c,aG]
end
section
variable {G:aF}{bb:Bool}
def kI(a b:Int):Int:=if a<b then -1 else if a > b then 1 else 0
theorem X8(a:Int):EV G (Tb (bs bb)) 263 [vi a] []=some (vb false,[]):=by
 refine aB rfl ?_;simp (disch:=omega) only[go_sem,h263c]
theorem aQJ(a b:Int):EV G (Tb (bs bb)) 216 [vi a,vi b] []=some (vi (kI a b),[]):=by
 refine aB rfl ?_;unfold kI;by_cases c:a<b;rw[if_pos c];simp (disch:=omega) only[go_sem,h216c,X8,eq_true c];rw[if_neg c];by_cases d:b<a;rw[if_pos d];simp (disch:=omega) only[go_sem,h216c,X8,c,eq_true d];rw[if_neg d];simp (disch:=omega) only[go_sem,h216c,X8,c,d]
theorem Fc(a b:Int):EV G (Tb (bs bb)) 273 [vi a,vi b] []=some (vi (kI a b),[]):=by
 refine aB rfl ?_;unfold kI;by_cases c:a<b;rw[if_pos c];simp (disch:=omega) only[go_sem,h273c,eq_true c];rw[if_neg c];by_cases d:b<a;rw[if_pos d];simp (disch:=omega) only[go_sem,h273c,c,eq_true d];rw[if_neg d];simp (disch:=omega) only[go_sem,h273c,c,d]
theorem X9(s:ByteArray):EV G (Tb (bs bb)) 264 [.one (.dc (.raw (.string s)))] []=some (vb false,[]):=by
 refine aB rfl ?_;simp (disch:=omega) only[go_sem,h264c]
def ltS(a b:L Int):Bool:=Op.bytesLess (dO a).toList (dO b).toList
def gtS(a b:L Int):Bool:=!(Op.bytesLess (dO a).toList (dO b).toList||(dO a).toList==(dO b).toList)
theorem rS(a b:L Int):fX .lss (sv a) (sv b)=some (vb (ltS a b)):=rfl
theorem D4(a b:L Int):fX .gtr (sv a) (sv b)=some (vb (gtS a b)):=rfl
def Bn(a b:L Int):Int:=if ltS a b=true then -1 else if gtS a b=true then 1 else 0
theorem aQK(a b:L Int):EV G (Tb (bs bb)) 217 [sv a,sv b] []=some (vi (Bn a b),[]):=by
 refine aB rfl ?_;unfold Bn;cases c:ltS a b with
 |true=>
  rw[if_pos rfl];simp (disch:=omega) only[go_sem,h217c,X9,rS,c]
 |false=>
  rw[if_neg (by decide)];cases d:gtS a b with
  |true=>
   rw[if_pos rfl];simp (disch:=omega) only[go_sem,h217c,X9,rS,D4,c,d]
  |false=>
   rw[if_neg (by decide)];simp (disch:=omega) only[go_sem,h217c,X9,rS,D4,c,d]
theorem aX5(l:L Int)(g:l.length<=1000):EV G (Tb (bs bb)) 215 [vl (el l)] []=some (vi (aT l),[]):=by
 refine aB rfl ?_;simp (disch:=omega) only[go_sem,h215c,aZA];have a:∀ k (b:k < l.length),¬ l.getD k 0≠0->Ls [3,2,0,0] 0 (EC (EV G (Tb (bs bb))) G h215l0 ⟨(jk 3 (vi 0::jk 2 (vl (el l)::vi l.length::vi k::jk 9 []))),[]⟩)=some ⟨(jk 3 (vi 0::jk 2 (vl (el l)::vi l.length::vi (k+1:Nat)::jk 9 []))),[]⟩:=fun k b f=>by
  rw[cE l k b] at f;simp (disch:=omega) only[go_sem,h215l0,aZA,tL]
 rcases Pv (fun k=>l.getD k 0≠0) l.length with h|⟨j,e,c,d⟩
 rw[aR (fun k=>⟨(jk 3 (vi 0::jk 2 (vl (el l)::vi l.length::vi k::jk 9 []))),[]⟩) l.length ?_ ?_]
 rw[iH l h];simp (disch:=omega) only[go_sem,h215l0];rfl;exact fun k b=>a k b (h k b)
 rw[aR (fun k=>⟨(jk 3 (vi 0::jk 2 (vl (el l)::vi l.length::vi k::jk 9 []))),[]⟩) j ?_ ?_]
 rw[kH l j e d c];rw[cE l j e] at c;simp (disch:=omega) only[go_sem,h215l0,aZA,tL];rfl;exact fun k b=>a k (by omega) (d k b)
def qE(a b:aJ):Int:=aT [kI a.ty b.ty,Bn a.nm b.nm,kI a.fi b.fi,kI a.id b.id]
theorem Np(a b:aJ):EV G (Tb (bs bb)) 162 [a.v,b.v] []=some (vi (qE a b),[]):=by
 refine aB rfl ?_;have q:=aX5 (G:=G) (bb:=bb) [kI a.ty b.ty,Bn a.nm b.nm,kI a.fi b.fi,kI a.id b.id] (by simp);simp only[el,aZM,aZN,tL] at q;simp (disch:=omega) only[go_sem,h162c,aQJ,aQK,q];rfl
def nU(a b:aJ):Bool:=decide (a.ty=b.ty)&&(decide (a.nm=b.nm)&&decide (a.fi=b.fi))
theorem Nq(a b:aJ)(f:aI a.nm)(g:aI b.nm):EV G (Tb (bs bb)) 240 [a.v,b.v] []=some (vb (nU a b),[]):=by
 refine aB rfl ?_;have e:=cR f g;unfold nU;by_cases c:a.ty=b.ty;by_cases d:a.nm=b.nm;simp (disch:=omega) only[go_sem,h240c,e,eq_true c,eq_true d];simp (disch:=omega) only[go_sem,h240c,e,eq_true c,d];simp (disch:=omega) only[go_sem,h240c,e,c]
abbrev aVp(ty:Int)(b:L Int)(a:Int):L aU:=[.dc (ci ty),.dc (.raw (.string (dO b))),.dc (ci a)]
theorem aQL(a b:aJ):EV G (Tb (bs bb)) 272 [.agg (aVp a.ty a.nm a.fi),.agg (aVp b.ty b.nm b.fi)] []=some (vi (aT [kI a.ty b.ty,Bn a.nm b.nm,kI a.fi b.fi]),[]):=by
 refine aB rfl ?_;have c:=Fc (G:=G) (bb:=bb) a.ty b.ty;have i:=Fc (G:=G) (bb:=bb) a.fi b.fi;by_cases d:kI a.ty b.ty=0;rw[d] at c;rw[d,aV];unfold Bn;cases f:ltS a.nm b.nm with
 |true=>
  rw[if_pos rfl];simp (disch:=omega) only[go_sem,h272c,c,rS,f];rfl
 |false=>
  rw[if_neg (by decide)];cases g:gtS a.nm b.nm with
  |true=>
   rw[if_pos rfl];simp (disch:=omega) only[go_sem,h272c,c,rS,D4,f,g];rfl
  |false=>
   rw[if_neg (by decide)];have e:aT [0,kI a.fi b.fi]=kI a.fi b.fi:=by
    rw[aV];by_cases h:kI a.fi b.fi=0;rw[h];rfl;rw[aY _ _ h]
   rw[e];simp (disch:=omega) only[go_sem,h272c,c,i,rS,D4,f,g]
 rw[aY _ _ d];generalize kI a.ty b.ty=e at d c;simp (disch:=omega) only[go_sem,h272c,c,d]
theorem Ya(l:L Int)(e:Int):aT (l++[e])=if aT l≠0 then aT l else e:=by
 induction l with
 |nil=>
  show aT [e]=if (0:Int)≠0 then 0 else e
  rw[if_neg (by decide)];by_cases h:e=0;rw[h];rfl;rw[aY _ _ h]
 |cons x l a=>
  by_cases h:x=0;rw[h,aZT,aV,aV,a];rw[aZT,aY _ _ h,aY _ _ h,if_pos h]
theorem Kf(a b:aJ):EV G (Tb (bs bb)) 229 [a.v,b.v] []=some (vi (qE a b),[]):=by
 refine aB rfl ?_;have f:=Nn (G:=G) (bb:=bb) a;have g:=Nn (G:=G) (bb:=bb) b;have d:=aQL (G:=G) (bb:=bb) a b;have i:=Fc (G:=G) (bb:=bb) a.id b.id;have e:=Ya [kI a.ty b.ty,Bn a.nm b.nm,kI a.fi b.fi] (kI a.id b.id);unfold qE;rw[show [kI a.ty b.ty,Bn a.nm b.nm,kI a.fi b.fi,kI a.id b.id]=[kI a.ty b.ty,Bn a.nm b.nm,kI a.fi b.fi]++[kI a.id b.id] from rfl,e]
 generalize aT [kI a.ty b.ty,Bn a.nm b.nm,kI a.fi b.fi]=x at d ⊢;by_cases c:x=0;rw[if_neg (fun h=>h c)]
 simp (disch:=omega) only[go_sem,h229c,f,g,d,i,eq_true c];rw[if_pos c];simp (disch:=omega) only[go_sem,h229c,f,g,d,c]
end
section
variable {G:aF}{bb:Bool}
theorem fJ(l:L aJ)(k:Nat)(a:k<l.length):l.getD k aJ.nil=l[k]:=by simp[List.getD,a]
theorem aAX(l:L aJ):((l.map aJ.e).all fun e=>decide (e.length=11))=true:=by simp[aJ.e]
abbrev P6:L aU:=[cI (Zi 0),cI (.string (dO [])),cI (Zi 0),cI (Zi 0),cI (.bool false),cI (.string (dO [])),cI (Zi 0),cI (.slice none 0 0),cI (Zi 0),cI (Zi 0),cI (Zi 0)]
end
section
variable {G:aF}{bb:Bool}
theorem ixA(l:L aJ)(k:Nat)(a:k<l.length):(l.map aJ.e)[k]?=some l[k].e:=by
 rw[aZH,aZJ a];rfl
noncomputable def jA(p:aJ->Bool)(l:L aJ):Int:=if ix (fun k=>p (l.getD k aJ.nil)=true) l.length=l.length then -1 else (ix (fun k=>p (l.getD k aJ.nil)=true) l.length:Nat)
theorem aG4(l:L aJ)(i:Nat)(b:i<l.length)(a:aJ):EV G (Tb (bs bb)) 212 [a.v,.one (.ptr 0 0),.one (.ptr 1 0)] [.box [.dc (.slc (l.map aJ.e))],.box [.dc (ci i)]]=some (vb (decide (a.id=l[i].id)),[.box [.dc (.slc (l.map aJ.e))],.box [.dc (ci i)]]):=by
 refine aB rfl ?_;simp (disch:=omega) only[go_sem,h212c,aZA,ixA,aJ.e]
theorem aQM(l:L aJ)(i:Nat)(c:i<l.length)(m:L aJ)(g:m.length<=1000000):EV G (Tb (bs bb)) 73 [vl (m.map aJ.e),.one (.fn 212 [.ptr 0 0,.ptr 1 0])] [.box [.dc (.slc (l.map aJ.e))],.box [.dc (ci i)]]=some (vi (jA (fun a=>decide (a.id=l[i].id)) m),[.box [.dc (.slc (l.map aJ.e))],.box [.dc (ci i)]]):=by
 refine aB rfl ?_;simp (disch:=omega) only[go_sem,h73c,aZA];unfold jA;rw[dE (fun k=>⟨(vl (m.map aJ.e)::.one (.fn 212 [.ptr 0 0,.ptr 1 0])::jk 5 (vi m.length::vi k::jk 10 [])),[.box [.dc (.slc (l.map aJ.e))],.box [.dc (ci i)]]⟩) (fun k=>decide ((m.getD k aJ.nil).id=l[i].id)=true) m.length ?_ ?_]
 rotate_left
 rfl;intro k d f;have h3:=f k (aZE _);rw[fJ m k d] at h3;have h4:decide (m[k].id=l[i].id)=false:=by simpa using h3
 have q:=aG4 (G:=G) (bb:=bb) l i c m[k];rw[h4] at q;simp (disch:=omega) only[go_sem,h73l0,aZA,ixA,aJ.e,q];obtain⟨d,hp,f⟩:=bD (fun k=>decide ((m.getD k aJ.nil).id=l[i].id)=true) m.length
 generalize ix (fun k=>decide ((m.getD k aJ.nil).id=l[i].id)=true) m.length=k at *
 rcases hp with rfl|⟨b,hp⟩;rw[if_pos rfl];simp (disch:=omega) only[go_sem,h73l0,aZA];rw[if_neg (by omega)];rw[fJ m k b] at hp;have q:=aG4 (G:=G) (bb:=bb) l i c m[k];rw[hp] at q;simp (disch:=omega) only[go_sem,h73l0,aZA,ixA,aJ.e,q]
theorem Uf(p:aJ->Bool)(l:L aJ):decide (0<=jA p l)=l.any p:=by
 unfold jA;obtain⟨e,hp,c⟩:=bD (fun k=>p (l.getD k aJ.nil)=true) l.length
 generalize ix (fun k=>p (l.getD k aJ.nil)=true) l.length=k at *
 rcases hp with rfl|⟨a,hp⟩;rw[if_pos rfl]
 symm
 rw[show decide ((0:Int)<=-1)=false from rfl,bAM]
 intro x d;obtain⟨j,b,rfl⟩:=List.getElem_of_mem d;have:=c j b;rw[fJ l j b] at this;exact this;rw[if_neg (by omega),decide_eq_true (by omega)]
 symm
 rw[List.any_eq_true];rw[fJ l k a] at hp;exact⟨l[k],aZK a,hp⟩
theorem aL2(l:L aJ)(i:Nat)(b:i<l.length)(m:L aJ)(c:m.length<=1000000):EV G (Tb (bs bb)) 155 [vl (m.map aJ.e),.one (.fn 212 [.ptr 0 0,.ptr 1 0])] [.box [.dc (.slc (l.map aJ.e))],.box [.dc (ci i)]]=some (vb (m.any fun a=>decide (a.id=l[i].id)),[.box [.dc (.slc (l.map aJ.e))],.box [.dc (ci i)]]):=by
 refine aB rfl ?_;have q:=aQM (G:=G) (bb:=bb) l i b m c;rw[<- Uf];simp (disch:=omega) only[go_sem,h155c,q]
theorem aVq{α c:Type}(f:α->Option c)(x y:α):[x,y].mapM f=(f x).bind fun a=>(f y).map fun b=>[a,b]:=by
 simp only[bAz,List.mapM_nil];cases f x with
 |none=>rfl
 |some a=>cases f y<;>rfl
def Yb(l:L aJ)(i:Nat):Bool:=(l.take i).any fun a=>decide (a.id=(l.getD i aJ.nil).id)
def kU(l:L aJ)(i:Nat):Int:=aT [gI (l.getD i aJ.nil),un (!Yb l i) 23]
theorem D5(l:L aJ)(c:∀a∈l,a.W)(f:l.length<=1000)(i:Nat)(b:i<l.length):EV G (Tb (bs bb)) 159 [vl (l.map aJ.e),vi i] []=some (vi (kU l i),[]):=by
 refine aB rfl ?_;have q:=aL2 (G:=G) (bb:=bb) l i b (l.take i) (by rw[aZF];omega);have d:=Dx (G:=G) (bb:=bb) l[i] (c _ (aZK b));rw[bAp] at q;unfold kU Yb;rw[fJ l i b];simp (disch:=omega) only[go_sem,h159c,aZA,ixA,aJ.e,q,d,aAX,bA,nJ,aVq,aZG,aZR]
end
section
variable {G:aF}{bb:Bool}
def lO(l:L aJ)(k:Nat):Int:=if k=0 then kU l 0 else
 aT [kU l k,un (decide (qE (l.getD (k-1) aJ.nil) (l.getD k aJ.nil)<=0)) 9,un (!nU (l.getD (k-1) aJ.nil) (l.getD k aJ.nil)||decide ((l.getD k aJ.nil).ty=48)) 5]
noncomputable def nO(l:L aJ):Int×Int:=if l.length > 32 then (0,8) else
 if ix (fun k=>lO l k≠0) l.length<l.length then ((ix (fun k=>lO l k≠0) l.length:Nat),lO l (ix (fun k=>lO l k≠0) l.length)) else (0,0)
abbrev iiv(p:Int×Int):AV:=.tup [.one (.dc (ci p.1)),.one (.dc (ci p.2))]
theorem ixP(l:L aJ)(k:Nat)(b:k<l.length)(a:0<k):(l.map aJ.e)[((k:Int)-1).toNat]?=some l[k-1].e:=by
 rw[show ((k:Int)-1).toNat=k-1 by omega];exact ixA l (k-1) (by omega)
theorem aL3(l:L aJ)(f:∀a∈l,a.W)(t:l.length<=1000):EV G (Tb (bs bb)) 202 [vl (l.map aJ.e)] []=some (iiv (nO l),[]):=by
 refine aB rfl ?_;unfold nO;by_cases s:l.length > 32;rw[if_pos s];have o:32<(l.length:Int):=by omega
 simp (disch:=omega) only[go_sem,h202c,aZA,eq_true o];rw[if_neg s];have o:¬ 32<(l.length:Int):=by omega
 simp (disch:=omega) only[go_sem,h202c,aZA,o];rw[dE (fun k=>⟨(vl (l.map aJ.e)::jk 10 (vl (l.map aJ.e)::vi l.length::vi k::jk 37 [])),[]⟩) (fun k=>lO l k≠0) l.length ?_ ?_]
 rotate_left
 rfl;intro k j u;have b:=Classical.not_not.1 (u k (aZE _));have q:=D5 (G:=G) (bb:=bb) l f t k j;by_cases h:k=0;subst h;simp only[lO,if_true] at b;rw[b] at q;have r:EV G (Tb (bs bb)) 159 [vl (l.map aJ.e),vi 0] []=some (vi 0,[]):=q;have p:(l.map aJ.e)[(0:Nat)]?=some l[0].e:=ixA l 0 j;simp (disch:=omega) only[go_sem,h202l0,aZA,ixA,p,aJ.e,aG,r,bA5,Int.lt_irrefl,decide_false,Int.toNat_zero];rfl;have g:0<(k:Int):=by omega
 unfold lO at b;rw[if_neg h,fJ l (k-1) (by omega),fJ l k j] at b;have m:=ixP l k j (by omega);have n:=Np (G:=G) (bb:=bb) l[k-1] l[k];have d:=Nq (G:=G) (bb:=bb) l[k-1] l[k] (f _ (aZK _)).nm (f _ (aZK _)).nm;cases i:nU l[k-1] l[k] with
 |false=>
  rw[i] at b d;simp only[aZ6,bAD] at b;simp (disch:=omega) only[go_sem,h202l0,aZA,ixA,m,aJ.e,aG,q,eq_true g,n,d,bA,cB,b]
 |true=>
  rw[i] at b d;simp only[aZ5,bAq] at b;simp (disch:=omega) only[go_sem,h202l0,aZA,ixA,m,aJ.e,aG,q,eq_true g,n,d,bA,cB,b]
 obtain⟨j,hp,u⟩:=bD (fun k=>lO l k≠0) l.length
 generalize ix (fun k=>lO l k≠0) l.length=k at *
 rcases hp with rfl|⟨c,b⟩;rw[if_neg (Nat.lt_irrefl _)];simp (disch:=omega) only[go_sem,h202l0,aZA];rw[if_pos c];have q:=D5 (G:=G) (bb:=bb) l f t k c;by_cases h:k=0;subst h;simp only[lO,if_true] at b ⊢;have r:EV G (Tb (bs bb)) 159 [vl (l.map aJ.e),vi 0] []=some (vi (kU l 0),[]):=q;have p:(l.map aJ.e)[(0:Nat)]?=some l[0].e:=ixA l 0 c;simp (disch:=omega) only[go_sem,h202l0,aZA,ixA,p,aJ.e,aG,r,bA5,Int.lt_irrefl,decide_false,Int.toNat_zero,b];have g:0<(k:Int):=by omega
 unfold lO at b ⊢;rw[if_neg h,fJ l (k-1) (by omega),fJ l k c] at b ⊢;have m:=ixP l k c (by omega);have n:=Np (G:=G) (bb:=bb) l[k-1] l[k];have d:=Nq (G:=G) (bb:=bb) l[k-1] l[k] (f _ (aZK _)).nm (f _ (aZK _)).nm;cases i:nU l[k-1] l[k] with
 |false=>
  rw[i] at b d;simp only[aZ6,bAD] at b ⊢;simp (disch:=omega) only[go_sem,h202l0,aZA,ixA,m,aJ.e,aG,q,eq_true g,n,d,bA,cB,b]
 |true=>
  rw[i] at b d;simp only[aZ5,bAq] at b ⊢;simp (disch:=omega) only[go_sem,h202l0,aZA,ixA,m,aJ.e,aG,q,eq_true g,n,d,bA,cB,b]
end
section
variable {G:aF}{bb:Bool}
theorem aG5(l:L aJ)(g:∀a∈l,a.W)(p:l.length<=1000)(i:Nat)(f:i<l.length):EV G (Tb (bs bb)) 228 [vl (l.map aJ.e),vi i] []=some (vi (kU l i),[]):=by
 refine aB rfl ?_;have q:=X7 (G:=G) (bb:=bb) l[i] (g _ (aZK f));unfold kU Yb;rw[fJ l i f];by_cases c:gI l[i]=0
 ·rw[c] at q;rw[c,aV];simp (disch:=omega) only[go_sem,h228c,aZA,ixA,aJ.e,q];rw[dE (fun k=>⟨(vl (l.map aJ.e)::vi i::jk 4 (vi k::jk 24 [])),[]⟩) (fun k=>(l.getD k aJ.nil).id=l[i].id) i ?_ ?_]
  rotate_left
  rfl;intro k m b;have d:=b k (aZE _);rw[fJ l k (by omega)] at d;simp (disch:=omega) only[go_sem,h228l0,aZA,ixA,aJ.e,d];obtain⟨m,hp,b⟩:=bD (fun k=>(l.getD k aJ.nil).id=l[i].id) i
  generalize ix (fun k=>(l.getD k aJ.nil).id=l[i].id) i=k at *
  rcases hp with rfl|⟨n,hp⟩
  have e:((l.take k).any fun a=>decide (a.id=l[k].id))=false:=by
   rw[bAM];intro x o;obtain⟨j,h,rfl⟩:=List.getElem_of_mem o;rw[aZF] at h;have:=b j (by omega);rw[fJ l j (by omega)] at this;simpa using this
  rw[e];simp (disch:=omega) only[go_sem,h228l0,aZA];rfl
  rw[fJ l k (by omega)] at hp;have e:((l.take i).any fun a=>decide (a.id=l[i].id))=true:=by
   rw[List.any_eq_true];refine⟨l[k], ?_,decide_eq_true hp⟩;rw[List.mem_take_iff_getElem];exact⟨k,by omega,rfl⟩
  rw[e];simp (disch:=omega) only[go_sem,h228l0,aZA,ixA,aJ.e,eq_true hp];rfl
 rw[aY _ _ c];simp (disch:=omega) only[go_sem,h228c,aZA,ixA,aJ.e,q,c]
theorem Kg{l:L aJ}{k:Nat}(d:k≠0)(f:k<l.length)(h:lO l k=0):kU l k=0/\qE l[k-1] l[k]<=0/\(nU l[k-1] l[k]=true->l[k].ty=48):=by
 unfold lO at h;rw[if_neg d,fJ l (k-1) (by omega),fJ l k f] at h;by_cases a:kU l k=0;rw[a,aV] at h;by_cases b:qE l[k-1] l[k]<=0;rw[decide_eq_true b,gE,aV] at h;refine⟨a,b,fun e=>?_⟩
 rw[e] at h;by_cases c:l[k].ty=48;exact c;rw[decide_eq_false c] at h;exact absurd h (by simp[un,aT]);rw[decide_eq_false b] at h;exact absurd h (by simp[un,aT]);rw[aY _ _ a] at h;exact absurd h a
theorem Fd{a b:aJ}:nU a b=true↔a.ty=b.ty/\a.nm=b.nm/\a.fi=b.fi:=by simp[nU]
theorem aG6(l:L aJ)(j:∀a∈l,a.W)(C:l.length<=1000):EV G (Tb (bs bb)) 190 [vl (l.map aJ.e)] []=some (iiv (nO l),[]):=by
 refine aB rfl ?_;unfold nO;by_cases z:l.length > 32;rw[if_pos z];have w:32<(l.length:Int):=by omega
 simp (disch:=omega) only[go_sem,h190c,aZA,eq_true w];rw[if_neg z];have w:¬ 32<(l.length:Int):=by omega
 simp (disch:=omega) only[go_sem,h190c,aZA,w];rw[dE (fun k=>⟨(vl (l.map aJ.e)::jk 3 (vi k::jk 58 [])),[]⟩) (fun k=>lO l k≠0) l.length ?_ ?_]
 rotate_left
 rfl;intro k p D;have b:=Classical.not_not.1 (D k (aZE _));have q:=aG5 (G:=G) (bb:=bb) l j C k p;by_cases o:k=0;subst o;simp only[lO,if_true] at b;rw[b] at q;have u:EV G (Tb (bs bb)) 228 [vl (l.map aJ.e),vi 0] []=some (vi 0,[]):=q;simp (disch:=omega) only[go_sem,h190l0,aZA,aJ.e,aG,u,bA5,Int.lt_irrefl,decide_false,Int.toNat_zero];rfl;have f:0<(k:Int):=by omega
 obtain⟨E,I,F⟩:=Kg o p b;rw[E] at q;have g:=ixP l k p (by omega);have d:¬ 0<qE l[k-1] l[k]:=by omega
 have i:=Kf (G:=G) (bb:=bb) l[k-1] l[k];have m:=Nn (G:=G) (bb:=bb) l[k-1];have n:=Nn (G:=G) (bb:=bb) l[k];have e:=cR (j _ (aZK (show k-1<l.length by omega))).nm (j _ (aZK p)).nm;by_cases h:l[k-1].ty=l[k].ty;by_cases r:l[k-1].nm=l[k].nm;rw[eq_true r] at e;by_cases s:l[k-1].fi=l[k].fi;have H:=F (Fd.2 ⟨h,r,s⟩);simp (disch:=omega) only[go_sem,h190l0,Js,aZA,ixA,g,aJ.e,aG,q,eq_true f,i,m,n,d,eq_true h,e,eq_true s,eq_true H];simp (disch:=omega) only[go_sem,h190l0,Js,aZA,ixA,g,aJ.e,aG,q,eq_true f,i,m,n,d,eq_true h,e,s];rw[eq_false r] at e;simp (disch:=omega) only[go_sem,h190l0,Js,aZA,ixA,g,aJ.e,aG,q,eq_true f,i,m,n,d,eq_true h,e];simp (disch:=omega) only[go_sem,h190l0,Js,aZA,ixA,g,aJ.e,aG,q,eq_true f,i,m,n,d,h];obtain⟨p,hp,D⟩:=bD (fun k=>lO l k≠0) l.length
 generalize ix (fun k=>lO l k≠0) l.length=k at *
 rcases hp with rfl|⟨c,b⟩;rw[if_neg (Nat.lt_irrefl _)];simp (disch:=omega) only[go_sem,h190l0,aZA];rw[if_pos c];have q:=aG5 (G:=G) (bb:=bb) l j C k c;by_cases o:k=0;subst o;simp only[lO,if_true] at b ⊢;have u:EV G (Tb (bs bb)) 228 [vl (l.map aJ.e),vi 0] []=some (vi (kU l 0),[]):=q;generalize kU l 0=e at b u;simp (disch:=omega) only[go_sem,h190l0,aZA,aJ.e,aG,u,bA5,Int.lt_irrefl,decide_false,Int.toNat_zero,b];have f:0<(k:Int):=by omega
 unfold lO at b ⊢;rw[if_neg o,fJ l (k-1) (by omega),fJ l k c] at b ⊢;have g:=ixP l k c (by omega);have i:=Kf (G:=G) (bb:=bb) l[k-1] l[k];have m:=Nn (G:=G) (bb:=bb) l[k-1];have n:=Nn (G:=G) (bb:=bb) l[k];have e:=cR (j _ (aZK (show k-1<l.length by omega))).nm (j _ (aZK c)).nm;by_cases t:kU l k=0;rw[t] at q b ⊢;rw[aV] at b ⊢;by_cases A:qE l[k-1] l[k]<=0;have d:¬ 0<qE l[k-1] l[k]:=by omega
 rw[decide_eq_true A,gE,aV] at b ⊢;cases y:nU l[k-1] l[k] with
 |false=>
  rw[y] at b;exact absurd (by simp[un,aT]) b
 |true=>
  rw[y] at b;obtain⟨h,r,s⟩:=Fd.1 y;rw[eq_true r] at e;by_cases v:l[k].ty=48;rw[decide_eq_true v] at b;exact absurd (by simp[un,aT]) b;rw[decide_eq_false v];simp (disch:=omega) only[go_sem,h190l0,Js,aZA,ixA,g,aJ.e,aG,q,eq_true f,i,m,n,d,eq_true h,e,eq_true s,v];rfl
 have d:0<qE l[k-1] l[k]:=by omega
 rw[decide_eq_false A];simp (disch:=omega) only[go_sem,h190l0,Js,aZA,ixA,g,aJ.e,aG,q,eq_true f,i,eq_true d];rfl;rw[aY _ _ t];generalize kU l k=x at t q;simp (disch:=omega) only[go_sem,h190l0,aZA,ixA,aJ.e,aG,q,t]
end
section
variable {G:aF}{bb:Bool}
end
section
variable {G:aF}{B:aO}
