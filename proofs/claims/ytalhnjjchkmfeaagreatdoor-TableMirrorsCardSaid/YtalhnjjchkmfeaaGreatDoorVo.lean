/- Part. Conditions: none. -/
import Derived.Test.YtalhnjjchkmfeaaGreatDoorVq
import Derived.Test.YtalhnjjchkmfeaaGreatDoorVi
import Derived.Test.YtalhnjjchkmfeaaGreatDoorMb
import Derived.KernelRfl
namespace Go.Proofs.YtalhnjjchkmfeaaGreatDoor
set_option maxHeartbeats 4000000
set_option linter.unusedSimpArgs false
set_option linter.unusedVariables false
set_option maxRecDepth 4000
section
variable {G:aF}{bb:Bool}
section
variable {B:aO}
theorem Uc(p:aX->Bool)(f:Nat)(hf:∀r:aX,EV G (Tb B) f [r.v] []=some (vb (p r),[]))(l:L aX)(h:l.length<=1000000):EV G (Tb B) 129 [cW l,.one (.fn f [])] []=some (vi (if ix (fun k=>p (l.getD k ⟨0,0⟩)=true) l.length=l.length then -1 else (ix (fun k=>p (l.getD k ⟨0,0⟩)=true) l.length:Nat)),[]):=by
 refine aB rfl ?_;simp (disch:=omega) only[go_sem,h129c,aZz];rw[dQ (fun k=>⟨(cW l::.one (.fn f [])::jk 5 (vi l.length::vi k::jk 10 [])),[]⟩) (fun k=>p (l.getD k ⟨0,0⟩)=true) l.length ?_ ?_]
 rotate_left
 rfl;intro k d g;have c:=g k (aZE _);have a:=hf l[k];rw[jT l k d] at c;simp (disch:=omega) only[go_sem,h129l0,aZz,aX.e,a,c];obtain⟨d,hp,g⟩:=bF (fun k=>p (l.getD k ⟨0,0⟩)=true) l.length
 generalize ix (fun k=>p (l.getD k ⟨0,0⟩)=true) l.length=k at *
 rcases hp with rfl|⟨b,hp⟩;simp (disch:=omega) only[go_sem,h129l0,aZz];have a:=hf l[k];rw[jT l k b] at hp;rw[if_neg (by omega)];simp (disch:=omega) only[go_sem,h129l0,aZz,aX.e,a,hp]
end
theorem aAU(l:L aX)(a:l.length<=1000000):EV G (Tb (bs bb)) 171 [cW l] []=some (.one (.bld 0 l.length),[.arr 0 2 (l.map aX.e)]):=by
 refine jG rfl ?_;show (if gG 2 (l.map aX.e)=true/\(l.map aX.e).length*16<=140737488355328 then some (AV.one (.bld 0 (l.map aX.e).length),[aD.arr 0 2 (l.map aX.e)]) else none)=_
 rw[if_pos ⟨aAN l,by rw[aZz];omega⟩,aZz]
def pL(a b:aI):Bool:=decide (a.ty=b.ty)&&(decide (a.nm=b.nm)&&(decide (a.id=b.id)&&(decide (a.fl=b.fl)&&(decide (a.res=b.res)&&(decide (a.va=b.va)&&(decide (a.fi=b.fi)&&(decide (a.rs=b.rs)&&(decide (a.al=b.al)&&(decide (a.sz=b.sz)&&(decide (a.vd=b.vd)))))))))))
theorem aDm(a b:aI):pL a b=true↔a=b:=by
 cases a;cases b;simp[pL]
theorem aL5(a b:aI)(r:a.W)(s:b.W):EV G (Tb (bs bb)) 67 [a.v,b.v] []=some (vb (pL a b),[]):=by
 refine aB rfl ?_;have i:=cR r.nm s.nm;have j:=cR r.va s.va;have q:=Xz (G:=G) (B:=bs bb) a.rs b.rs (by have:=r.rl;omega);by_cases c:a.ty=b.ty
 rotate_left
 simp (disch:=omega) only[go_sem,h67c,i,j,q,c];simp[pL,c];by_cases d:a.nm=b.nm
 rotate_left
 simp (disch:=omega) only[go_sem,h67c,i,j,q,eq_true c,d];simp[pL,c,d];by_cases e:a.id=b.id
 rotate_left
 simp (disch:=omega) only[go_sem,h67c,i,j,q,eq_true c,eq_true d,e];simp[pL,c,d,e];by_cases f:a.fl=b.fl
 rotate_left
 simp (disch:=omega) only[go_sem,h67c,i,j,q,eq_true c,eq_true d,eq_true e,f];simp[pL,c,d,e,f];by_cases k:a.res=b.res
 rotate_left
 have n:(a.res==b.res)=false:=by simpa using k
 simp (disch:=omega) only[go_sem,h67c,i,j,q,eq_true c,eq_true d,eq_true e,eq_true f,n];simp[pL,c,d,e,f,k];have n:(a.res==b.res)=true:=by simpa using k
 by_cases g:a.va=b.va
 rotate_left
 simp (disch:=omega) only[go_sem,h67c,i,j,q,eq_true c,eq_true d,eq_true e,eq_true f,n,g];simp[pL,c,d,e,f,k,g];by_cases h:a.fi=b.fi
 rotate_left
 simp (disch:=omega) only[go_sem,h67c,i,j,q,eq_true c,eq_true d,eq_true e,eq_true f,n,eq_true g,h];simp[pL,c,d,e,f,k,g,h];by_cases l:a.rs=b.rs
 rotate_left
 simp (disch:=omega) only[go_sem,h67c,i,j,q,eq_true c,eq_true d,eq_true e,eq_true f,n,eq_true g,eq_true h,l];simp[pL,c,d,e,f,k,g,h,l];by_cases o:a.al=b.al
 rotate_left
 simp (disch:=omega) only[go_sem,h67c,i,j,q,eq_true c,eq_true d,eq_true e,eq_true f,n,eq_true g,eq_true h,eq_true l,o];simp[pL,c,d,e,f,k,g,h,l,o];by_cases p:a.sz=b.sz
 rotate_left
 simp (disch:=omega) only[go_sem,h67c,i,j,q,eq_true c,eq_true d,eq_true e,eq_true f,n,eq_true g,eq_true h,eq_true l,eq_true o,p];simp[pL,c,d,e,f,k,g,h,l,o,p];by_cases m:a.vd=b.vd
 rotate_left
 simp (disch:=omega) only[go_sem,h67c,i,j,q,eq_true c,eq_true d,eq_true e,eq_true f,n,eq_true g,eq_true h,eq_true l,eq_true o,eq_true p,m];simp[pL,c,d,e,f,k,g,h,l,o,p,m];simp (disch:=omega) only[go_sem,h67c,i,j,q,eq_true c,eq_true d,eq_true e,eq_true f,n,eq_true g,eq_true h,eq_true l,eq_true o,eq_true p,eq_true m];simp[pL,c,d,e,f,k,g,h,l,o,p,m]
theorem aI.nil_W:aI.nil.W:=⟨jM,jM,aZV _,aZV _,aZV _⟩
end
section
variable {G:aF}{bb:Bool}
end
section
variable {G:aF}{bb:Bool}
abbrev rtv(p:aI×Int):AV:=.tup [p.1.t,.one (.dc (ci p.2))]
end
section
variable {G:aF}{B:aO}
theorem aG9(c:L Int)(x:Int):c.map uC++[[.raw (.int .i64 x)]]=(c++[x]).map uC:=by simp[uC]
theorem aDn(r:aX)(C:L Int)(j:Nat)(l:L aX)(k:Nat)(g:k<l.length)(b:l[k]=r)(f:j<r.n.toNat)(h:-1<=r.s/\r.s<=1000)(d:C.length+r.n.toNat<=200000000)(i:l.length<=1000000):Lt [0,2,0,0] 1 (EC (EV G (Tb B)) G h62l0 ⟨(cW l::jk 2 (.one (.bld 0 (C++A1 r j).length)::vi k::vi j::jk 35 [])),[.arr 0 1 (el (C++A1 r j))]⟩)=some ⟨(cW l::jk 2 (.one (.bld 0 (C++A1 r (j+1)).length)::vi k::vi (j+1:Nat)::jk 35 [])),[.arr 0 1 (el (C++A1 r (j+1)))]⟩:=by
 have a:(C++A1 r j).length=C.length+j:=by simp[A1]
 rw[Tl,<- aZP];generalize C++A1 r j=D at a ⊢;subst b;by_cases c:l[k].s=-1;all_goals simp (disch:=omega) only[go_sem,h62l0,aZz,aX.e,c,aG9,aZA]
theorem Kd(l:L aX)(a:sP l):EV G (Tb B) 62 [cW l] []=some (vl (el (tU l)),[]):=by
 refine aB rfl ?_;have f:=a.len;simp (disch:=omega) only[go_sem,h62c,aZz];rw[aT (fun k=>⟨(cW l::jk 2 (.one (.bld 0 (tU (l.take k)).length)::vi k::jk 36 [])),[.arr 0 1 (el (tU (l.take k)))]⟩) l.length ?_ ?_]
 simp (disch:=omega) only[go_sem,h62l1,aZz,bAi];rfl;intro k b;have h:=a.el _ (aZG b);have i:=a.n_le (aZG b);have h3:=A2 (l.take k) (fun r c=>(a.el r (aZZ c)).2.2)
 have h4:=iH l k (fun r c=>(a.el r c).2.2)
 have h5:=a.sum;rw[Tm l k b];generalize tU (l.take k)=C at h3 ⊢;simp (disch:=omega) only[go_sem,h62l1,aZz];rw[aT (fun j=>⟨(cW l::jk 2 (.one (.bld 0 (C++A1 l[k] j).length)::vi k::vi j::jk 35 [])),[.arr 0 1 (el (C++A1 l[k] j))]⟩) l[k].n.toNat ?_ ?_]
 have g:((l[k].n.toNat:Nat):Int)=l[k].n:=by omega
 simp (disch:=omega) only[go_sem,h62l0,aZz,aX.e,g];simp[A1,jk];intro j d;exact aDn l[k] C j l k b rfl d (by omega) (by omega) (by omega)
end
section
variable {G:aF}{B:aO}
end
section
variable {G:aF}{bb:Bool}
theorem nC{a:aI}(d:a.W)(h:gI a=0):a.Ok:=by
 unfold gI at h;split at h;exact absurd h (by decide);rename_i b;split at h;exact absurd h (by decide);rename_i c;split at h;exact absurd h (by decide);rename_i h3;split at h;rename_i h4;exact absurd h h4;rename_i h4;exact⟨d,Classical.not_not.1 b,by simpa using c,Classical.not_not.1 h3,Classical.not_not.1 h4⟩
theorem aI.Ok.bd{a:aI}(h:a.Ok):a.Bd:=aI.bd h.w h.ty h.nm h.rg h.e
def gY(a:aI):L Int:=if gI a=0 then tV a else []
theorem Nn(a:aI)(b:a.W):EV G (Tb (bs bb)) 156 [a.v] []=some (.tup [.one (.dc (.raw (.string (dI (gY a))))),.one (.dc (ci (gI a)))],[]):=by
 refine aB rfl ?_;have q:=D3 (G:=G) (bb:=bb) a b;unfold gY;by_cases c:gI a=0;have d:=Fg (G:=G) (bb:=bb) a (nC b c).bd;rw[if_pos c];simp (disch:=omega) only[go_sem,h156c,q,c,d];rw[if_neg c];simp (disch:=omega) only[go_sem,h156c,q,c,aG]
theorem rR{a:aI}(b:a.W):(gY a).length<=440:=by
 unfold gY;by_cases c:gI a=0;rw[if_pos c,nN a (nC b c).bd];unfold gI at c;split at c;exact absurd c (by decide);split at c;exact absurd c (by decide);split at c;exact absurd c (by decide);split at c;rename_i h4;exact absurd c h4;split at c;exact absurd c (by decide);omega;rw[if_neg c];simp
theorem aDo(a:aI)(b:a.W):EV G (Tb (bs bb)) 176 [a.v] []=some (.tup [.one (.dc (ci (gY a).length)),.one (.dc (ci (gI a)))],[]):=by
 refine aB rfl ?_;have q:=Nn (G:=G) (bb:=bb) a b;have:=rR b;simp (disch:=omega) only[go_sem,h176c,q]
end
section
variable {G:aF}{bb:Bool}
theorem Np(a:aI):EV G (Tb (bs bb)) 233 [a.v] []=some (.agg [.dc (ci a.ty),.dc (.raw (.string (dI a.nm))),.dc (ci a.fi)],[]):=by
 refine aB rfl ?_;simp (disch:=omega) only[go_sem,h233c,aG]
end
section
variable {G:aF}{bb:Bool}
def kI(a b:Int):Int:=if a<b then -1 else if a > b then 1 else 0
theorem X7(a:Int):EV G (Tb (bs bb)) 265 [vi a] []=some (vb false,[]):=by
 refine aB rfl ?_;simp (disch:=omega) only[go_sem,h265c]
theorem aQI(a b:Int):EV G (Tb (bs bb)) 223 [vi a,vi b] []=some (vi (kI a b),[]):=by
 refine aB rfl ?_;unfold kI;by_cases c:a<b;rw[if_pos c];simp (disch:=omega) only[go_sem,h223c,X7,eq_true c];rw[if_neg c];by_cases d:b<a;rw[if_pos d];simp (disch:=omega) only[go_sem,h223c,X7,c,eq_true d];rw[if_neg d];simp (disch:=omega) only[go_sem,h223c,X7,c,d]
theorem Fj(a b:Int):EV G (Tb (bs bb)) 272 [vi a,vi b] []=some (vi (kI a b),[]):=by
 refine aB rfl ?_;unfold kI;by_cases c:a<b;rw[if_pos c];simp (disch:=omega) only[go_sem,h272c,eq_true c];rw[if_neg c];by_cases d:b<a;rw[if_pos d];simp (disch:=omega) only[go_sem,h272c,c,eq_true d];rw[if_neg d];simp (disch:=omega) only[go_sem,h272c,c,d]
theorem X8(s:ByteArray):EV G (Tb (bs bb)) 266 [.one (.dc (.raw (.string s)))] []=some (vb false,[]):=by
 refine aB rfl ?_;simp (disch:=omega) only[go_sem,h266c]
def ltS(a b:L Int):Bool:=Op.bytesLess (dI a).toList (dI b).toList
def gtS(a b:L Int):Bool:=!(Op.bytesLess (dI a).toList (dI b).toList||(dI a).toList==(dI b).toList)
theorem rS(a b:L Int):fX .lss (sv a) (sv b)=some (vb (ltS a b)):=rfl
theorem D8(a b:L Int):fX .gtr (sv a) (sv b)=some (vb (gtS a b)):=rfl
def Bq(a b:L Int):Int:=if ltS a b=true then -1 else if gtS a b=true then 1 else 0
theorem aQJ(a b:L Int):EV G (Tb (bs bb)) 224 [sv a,sv b] []=some (vi (Bq a b),[]):=by
 refine aB rfl ?_;unfold Bq;cases c:ltS a b with
 |true=>
  rw[if_pos rfl];simp (disch:=omega) only[go_sem,h224c,X8,rS,c]
 |false=>
  rw[if_neg (by decide)];cases d:gtS a b with
  |true=>
   rw[if_pos rfl];simp (disch:=omega) only[go_sem,h224c,X8,rS,D8,c,d]
  |false=>
   rw[if_neg (by decide)];simp (disch:=omega) only[go_sem,h224c,X8,rS,D8,c,d]
theorem aX5(l:L Int)(g:l.length<=1000):EV G (Tb (bs bb)) 222 [vl (el l)] []=some (vi (aU l),[]):=by
 refine aB rfl ?_;simp (disch:=omega) only[go_sem,h222c,aZz];have a:∀ k (b:k < l.length),¬ l.getD k 0≠0->Lt [3,2,0,0] 0 (EC (EV G (Tb (bs bb))) G h222l0 ⟨(jk 3 (vi 0::jk 2 (vl (el l)::vi l.length::vi k::jk 9 []))),[]⟩)=some ⟨(jk 3 (vi 0::jk 2 (vl (el l)::vi l.length::vi (k+1:Nat)::jk 9 []))),[]⟩:=fun k b f=>by
  rw[bU l k b] at f;simp (disch:=omega) only[go_sem,h222l0,aZz,uC]
 rcases Py (fun k=>l.getD k 0≠0) l.length with h|⟨j,e,c,d⟩
 rw[aT (fun k=>⟨(jk 3 (vi 0::jk 2 (vl (el l)::vi l.length::vi k::jk 9 []))),[]⟩) l.length ?_ ?_]
 rw[iI l h];simp (disch:=omega) only[go_sem,h222l0];rfl;exact fun k b=>a k b (h k b)
 rw[aT (fun k=>⟨(jk 3 (vi 0::jk 2 (vl (el l)::vi l.length::vi k::jk 9 []))),[]⟩) j ?_ ?_]
 rw[kH l j e d c];rw[bU l j e] at c;simp (disch:=omega) only[go_sem,h222l0,aZz,uC];rfl;exact fun k b=>a k (by omega) (d k b)
def qE(a b:aI):Int:=aU [kI a.ty b.ty,Bq a.nm b.nm,kI a.fi b.fi,kI a.id b.id]
theorem Nq(a b:aI):EV G (Tb (bs bb)) 175 [a.v,b.v] []=some (vi (qE a b),[]):=by
 refine aB rfl ?_;have q:=aX5 (G:=G) (bb:=bb) [kI a.ty b.ty,Bq a.nm b.nm,kI a.fi b.fi,kI a.id b.id] (by simp);simp only[el,aZL,aZM,uC] at q;simp (disch:=omega) only[go_sem,h175c,aQI,aQJ,q];rfl
def nV(a b:aI):Bool:=decide (a.ty=b.ty)&&(decide (a.nm=b.nm)&&decide (a.fi=b.fi))
theorem Nr(a b:aI)(f:aJ a.nm)(g:aJ b.nm):EV G (Tb (bs bb)) 242 [a.v,b.v] []=some (vb (nV a b),[]):=by
 refine aB rfl ?_;have e:=cR f g;unfold nV;by_cases c:a.ty=b.ty;by_cases d:a.nm=b.nm;simp (disch:=omega) only[go_sem,h242c,e,eq_true c,eq_true d];simp (disch:=omega) only[go_sem,h242c,e,eq_true c,d];simp (disch:=omega) only[go_sem,h242c,e,c]
abbrev aVl(ty:Int)(b:L Int)(a:Int):L aV:=[.dc (ci ty),.dc (.raw (.string (dI b))),.dc (ci a)]
theorem aQK(a b:aI):EV G (Tb (bs bb)) 271 [.agg (aVl a.ty a.nm a.fi),.agg (aVl b.ty b.nm b.fi)] []=some (vi (aU [kI a.ty b.ty,Bq a.nm b.nm,kI a.fi b.fi]),[]):=by
 refine aB rfl ?_;have c:=Fj (G:=G) (bb:=bb) a.ty b.ty;have i:=Fj (G:=G) (bb:=bb) a.fi b.fi;by_cases d:kI a.ty b.ty=0;rw[d] at c;rw[d,aW];unfold Bq;cases f:ltS a.nm b.nm with
 |true=>
  rw[if_pos rfl];simp (disch:=omega) only[go_sem,h271c,c,rS,f];rfl
 |false=>
  rw[if_neg (by decide)];cases g:gtS a.nm b.nm with
  |true=>
   rw[if_pos rfl];simp (disch:=omega) only[go_sem,h271c,c,rS,D8,f,g];rfl
  |false=>
   rw[if_neg (by decide)];have e:aU [0,kI a.fi b.fi]=kI a.fi b.fi:=by
    rw[aW];by_cases h:kI a.fi b.fi=0;rw[h];rfl;rw[aZ _ _ h]
   rw[e];simp (disch:=omega) only[go_sem,h271c,c,i,rS,D8,f,g]
 rw[aZ _ _ d];generalize kI a.ty b.ty=e at d c;simp (disch:=omega) only[go_sem,h271c,c,d]
theorem X9(l:L Int)(e:Int):aU (l++[e])=if aU l≠0 then aU l else e:=by
 induction l with
 |nil=>
  show aU [e]=if (0:Int)≠0 then 0 else e
  rw[if_neg (by decide)];by_cases h:e=0;rw[h];rfl;rw[aZ _ _ h]
 |cons x l a=>
  by_cases h:x=0;rw[h,aZW,aW,aW,a];rw[aZW,aZ _ _ h,aZ _ _ h,if_pos h]
theorem Ke(a b:aI):EV G (Tb (bs bb)) 232 [a.v,b.v] []=some (vi (qE a b),[]):=by
 refine aB rfl ?_;have f:=Np (G:=G) (bb:=bb) a;have g:=Np (G:=G) (bb:=bb) b;have d:=aQK (G:=G) (bb:=bb) a b;have i:=Fj (G:=G) (bb:=bb) a.id b.id;have e:=X9 [kI a.ty b.ty,Bq a.nm b.nm,kI a.fi b.fi] (kI a.id b.id);unfold qE;rw[show [kI a.ty b.ty,Bq a.nm b.nm,kI a.fi b.fi,kI a.id b.id]=[kI a.ty b.ty,Bq a.nm b.nm,kI a.fi b.fi]++[kI a.id b.id] from rfl,e]
 generalize aU [kI a.ty b.ty,Bq a.nm b.nm,kI a.fi b.fi]=x at d ⊢;by_cases c:x=0;rw[if_neg (fun h=>h c)]
 simp (disch:=omega) only[go_sem,h232c,f,g,d,i,eq_true c];rw[if_pos c];simp (disch:=omega) only[go_sem,h232c,f,g,d,c]
end
section
variable {G:aF}{bb:Bool}
theorem fH(l:L aI)(k:Nat)(a:k<l.length):l.getD k aI.nil=l[k]:=by simp[List.getD,a]
theorem aAV(l:L aI):((l.map aI.e).all fun e=>decide (e.length=11))=true:=by simp[aI.e]
abbrev P9:L aV:=[cK (Zi 0),cK (.string (dI [])),cK (Zi 0),cK (Zi 0),cK (.bool false),cK (.string (dI [])),cK (Zi 0),cK (.slice none 0 0),cK (Zi 0),cK (Zi 0),cK (Zi 0)]
end
section
variable {G:aF}{bb:Bool}
theorem ixA(l:L aI)(k:Nat)(a:k<l.length):(l.map aI.e)[k]?=some l[k].e:=by
 rw[aZI,aZJ a];rfl
noncomputable def jA(p:aI->Bool)(l:L aI):Int:=if ix (fun k=>p (l.getD k aI.nil)=true) l.length=l.length then -1 else (ix (fun k=>p (l.getD k aI.nil)=true) l.length:Nat)
theorem aHa(l:L aI)(i:Nat)(b:i<l.length)(a:aI):EV G (Tb (bs bb)) 219 [a.v,.one (.ptr 0 0),.one (.ptr 1 0)] [.box [.dc (.slc (l.map aI.e))],.box [.dc (ci i)]]=some (vb (decide (a.id=l[i].id)),[.box [.dc (.slc (l.map aI.e))],.box [.dc (ci i)]]):=by
 refine aB rfl ?_;simp (disch:=omega) only[go_sem,h219c,aZz,ixA,aI.e]
theorem aQL(l:L aI)(i:Nat)(c:i<l.length)(m:L aI)(g:m.length<=1000000):EV G (Tb (bs bb)) 90 [vl (m.map aI.e),.one (.fn 219 [.ptr 0 0,.ptr 1 0])] [.box [.dc (.slc (l.map aI.e))],.box [.dc (ci i)]]=some (vi (jA (fun a=>decide (a.id=l[i].id)) m),[.box [.dc (.slc (l.map aI.e))],.box [.dc (ci i)]]):=by
 refine aB rfl ?_;simp (disch:=omega) only[go_sem,h90c,aZz];unfold jA;rw[dQ (fun k=>⟨(vl (m.map aI.e)::.one (.fn 219 [.ptr 0 0,.ptr 1 0])::jk 5 (vi m.length::vi k::jk 10 [])),[.box [.dc (.slc (l.map aI.e))],.box [.dc (ci i)]]⟩) (fun k=>decide ((m.getD k aI.nil).id=l[i].id)=true) m.length ?_ ?_]
 rotate_left
 rfl;intro k d f;have h3:=f k (aZE _);rw[fH m k d] at h3;have h4:decide (m[k].id=l[i].id)=false:=by simpa using h3
 have q:=aHa (G:=G) (bb:=bb) l i c m[k];rw[h4] at q;simp (disch:=omega) only[go_sem,h90l0,aZz,ixA,aI.e,q];obtain⟨d,hp,f⟩:=bF (fun k=>decide ((m.getD k aI.nil).id=l[i].id)=true) m.length
 generalize ix (fun k=>decide ((m.getD k aI.nil).id=l[i].id)=true) m.length=k at *
 rcases hp with rfl|⟨b,hp⟩;rw[if_pos rfl];simp (disch:=omega) only[go_sem,h90l0,aZz];rw[if_neg (by omega)];rw[fH m k b] at hp;have q:=aHa (G:=G) (bb:=bb) l i c m[k];rw[hp] at q;simp (disch:=omega) only[go_sem,h90l0,aZz,ixA,aI.e,q]
theorem Ud(p:aI->Bool)(l:L aI):decide (0<=jA p l)=l.any p:=by
 unfold jA;obtain⟨e,hp,c⟩:=bF (fun k=>p (l.getD k aI.nil)=true) l.length
 generalize ix (fun k=>p (l.getD k aI.nil)=true) l.length=k at *
 rcases hp with rfl|⟨a,hp⟩;rw[if_pos rfl]
 symm
 rw[show decide ((0:Int)<=-1)=false from rfl,bAR]
 intro x d;obtain⟨j,b,rfl⟩:=List.getElem_of_mem d;have:=c j b;rw[fH l j b] at this;exact this;rw[if_neg (by omega),decide_eq_true (by omega)]
 symm
 rw[List.any_eq_true];rw[fH l k a] at hp;exact⟨l[k],aZG a,hp⟩
theorem aL6(l:L aI)(i:Nat)(b:i<l.length)(m:L aI)(c:m.length<=1000000):EV G (Tb (bs bb)) 168 [vl (m.map aI.e),.one (.fn 219 [.ptr 0 0,.ptr 1 0])] [.box [.dc (.slc (l.map aI.e))],.box [.dc (ci i)]]=some (vb (m.any fun a=>decide (a.id=l[i].id)),[.box [.dc (.slc (l.map aI.e))],.box [.dc (ci i)]]):=by
 refine aB rfl ?_;have q:=aQL (G:=G) (bb:=bb) l i b m c;rw[<- Ud];simp (disch:=omega) only[go_sem,h168c,q]
theorem aVm{α c:Type}(f:α->Option c)(x y:α):[x,y].mapM f=(f x).bind fun a=>(f y).map fun b=>[a,b]:=by
 simp only[bAA,List.mapM_nil];cases f x with
 |none=>rfl
 |some a=>cases f y<;>rfl
def Ya(l:L aI)(i:Nat):Bool:=(l.take i).any fun a=>decide (a.id=(l.getD i aI.nil).id)
def kT(l:L aI)(i:Nat):Int:=aU [gI (l.getD i aI.nil),un (!Ya l i) 23]
theorem D9(l:L aI)(c:∀a∈l,a.W)(f:l.length<=1000)(i:Nat)(b:i<l.length):EV G (Tb (bs bb)) 172 [vl (l.map aI.e),vi i] []=some (vi (kT l i),[]):=by
 refine aB rfl ?_;have q:=aL6 (G:=G) (bb:=bb) l i b (l.take i) (by rw[aZD];omega);have d:=D3 (G:=G) (bb:=bb) l[i] (c _ (aZG b));rw[bAo] at q;unfold kT Ya;rw[fH l i b];simp (disch:=omega) only[go_sem,h172c,aZz,ixA,aI.e,q,d,aAV,bD,nK,aVm,aZF,aZQ]
end
section
variable {G:aF}{bb:Bool}
def lN(l:L aI)(k:Nat):Int:=if k=0 then kT l 0 else
 aU [kT l k,un (decide (qE (l.getD (k-1) aI.nil) (l.getD k aI.nil)<=0)) 9,un (!nV (l.getD (k-1) aI.nil) (l.getD k aI.nil)||decide ((l.getD k aI.nil).ty=48)) 5]
noncomputable def nP(l:L aI):Int×Int:=if l.length > 32 then (0,8) else
 if ix (fun k=>lN l k≠0) l.length<l.length then ((ix (fun k=>lN l k≠0) l.length:Nat),lN l (ix (fun k=>lN l k≠0) l.length)) else (0,0)
abbrev iiv(p:Int×Int):AV:=.tup [.one (.dc (ci p.1)),.one (.dc (ci p.2))]
theorem ixP(l:L aI)(k:Nat)(b:k<l.length)(a:0<k):(l.map aI.e)[((k:Int)-1).toNat]?=some l[k-1].e:=by
 rw[show ((k:Int)-1).toNat=k-1 by omega];exact ixA l (k-1) (by omega)
theorem aL7(l:L aI)(f:∀a∈l,a.W)(t:l.length<=1000):EV G (Tb (bs bb)) 209 [vl (l.map aI.e)] []=some (iiv (nP l),[]):=by
 refine aB rfl ?_;unfold nP;by_cases s:l.length > 32;rw[if_pos s];have o:32<(l.length:Int):=by omega
 simp (disch:=omega) only[go_sem,h209c,aZz,eq_true o];rw[if_neg s];have o:¬ 32<(l.length:Int):=by omega
 simp (disch:=omega) only[go_sem,h209c,aZz,o];rw[dQ (fun k=>⟨(vl (l.map aI.e)::jk 10 (vl (l.map aI.e)::vi l.length::vi k::jk 37 [])),[]⟩) (fun k=>lN l k≠0) l.length ?_ ?_]
 rotate_left
 rfl;intro k j u;have b:=Classical.not_not.1 (u k (aZE _));have q:=D9 (G:=G) (bb:=bb) l f t k j;by_cases h:k=0;subst h;simp only[lN,if_true] at b;rw[b] at q;have r:EV G (Tb (bs bb)) 172 [vl (l.map aI.e),vi 0] []=some (vi 0,[]):=q;have p:(l.map aI.e)[(0:Nat)]?=some l[0].e:=ixA l 0 j;simp (disch:=omega) only[go_sem,h209l0,aZz,ixA,p,aI.e,aG,r,bA7,Int.lt_irrefl,decide_false,Int.toNat_zero];rfl;have g:0<(k:Int):=by omega
 unfold lN at b;rw[if_neg h,fH l (k-1) (by omega),fH l k j] at b;have m:=ixP l k j (by omega);have n:=Nq (G:=G) (bb:=bb) l[k-1] l[k];have d:=Nr (G:=G) (bb:=bb) l[k-1] l[k] (f _ (aZG _)).nm (f _ (aZG _)).nm;cases i:nV l[k-1] l[k] with
 |false=>
  rw[i] at b d;simp only[aZ2,bAE] at b;simp (disch:=omega) only[go_sem,h209l0,aZz,ixA,m,aI.e,aG,q,eq_true g,n,d,bD,cD,b]
 |true=>
  rw[i] at b d;simp only[aZX,bAp] at b;simp (disch:=omega) only[go_sem,h209l0,aZz,ixA,m,aI.e,aG,q,eq_true g,n,d,bD,cD,b]
 obtain⟨j,hp,u⟩:=bF (fun k=>lN l k≠0) l.length
 generalize ix (fun k=>lN l k≠0) l.length=k at *
 rcases hp with rfl|⟨c,b⟩;rw[if_neg (Nat.lt_irrefl _)];simp (disch:=omega) only[go_sem,h209l0,aZz];rw[if_pos c];have q:=D9 (G:=G) (bb:=bb) l f t k c;by_cases h:k=0;subst h;simp only[lN,if_true] at b ⊢;have r:EV G (Tb (bs bb)) 172 [vl (l.map aI.e),vi 0] []=some (vi (kT l 0),[]):=q;have p:(l.map aI.e)[(0:Nat)]?=some l[0].e:=ixA l 0 c;simp (disch:=omega) only[go_sem,h209l0,aZz,ixA,p,aI.e,aG,r,bA7,Int.lt_irrefl,decide_false,Int.toNat_zero,b];have g:0<(k:Int):=by omega
 unfold lN at b ⊢;rw[if_neg h,fH l (k-1) (by omega),fH l k c] at b ⊢;have m:=ixP l k c (by omega);have n:=Nq (G:=G) (bb:=bb) l[k-1] l[k];have d:=Nr (G:=G) (bb:=bb) l[k-1] l[k] (f _ (aZG _)).nm (f _ (aZG _)).nm;cases i:nV l[k-1] l[k] with
 |false=>
  rw[i] at b d;simp only[aZ2,bAE] at b ⊢;simp (disch:=omega) only[go_sem,h209l0,aZz,ixA,m,aI.e,aG,q,eq_true g,n,d,bD,cD,b]
 |true=>
  rw[i] at b d;simp only[aZX,bAp] at b ⊢;simp (disch:=omega) only[go_sem,h209l0,aZz,ixA,m,aI.e,aG,q,eq_true g,n,d,bD,cD,b]
end
section
variable {G:aF}{bb:Bool}
theorem aHb(l:L aI)(g:∀a∈l,a.W)(p:l.length<=1000)(i:Nat)(f:i<l.length):EV G (Tb (bs bb)) 231 [vl (l.map aI.e),vi i] []=some (vi (kT l i),[]):=by
 refine aB rfl ?_;have q:=X6 (G:=G) (bb:=bb) l[i] (g _ (aZG f));unfold kT Ya;rw[fH l i f];by_cases c:gI l[i]=0
 ·rw[c] at q;rw[c,aW];simp (disch:=omega) only[go_sem,h231c,aZz,ixA,aI.e,q];rw[dQ (fun k=>⟨(vl (l.map aI.e)::vi i::jk 4 (vi k::jk 24 [])),[]⟩) (fun k=>(l.getD k aI.nil).id=l[i].id) i ?_ ?_]
  rotate_left
  rfl;intro k m b;have d:=b k (aZE _);rw[fH l k (by omega)] at d;simp (disch:=omega) only[go_sem,h231l0,aZz,ixA,aI.e,d];obtain⟨m,hp,b⟩:=bF (fun k=>(l.getD k aI.nil).id=l[i].id) i
  generalize ix (fun k=>(l.getD k aI.nil).id=l[i].id) i=k at *
  rcases hp with rfl|⟨n,hp⟩
  have e:((l.take k).any fun a=>decide (a.id=l[k].id))=false:=by
   rw[bAR];intro x o;obtain⟨j,h,rfl⟩:=List.getElem_of_mem o;rw[aZD] at h;have:=b j (by omega);rw[fH l j (by omega)] at this;simpa using this
  rw[e];simp (disch:=omega) only[go_sem,h231l0,aZz];rfl
  rw[fH l k (by omega)] at hp;have e:((l.take i).any fun a=>decide (a.id=l[i].id))=true:=by
   rw[List.any_eq_true];refine⟨l[k], ?_,decide_eq_true hp⟩;rw[List.mem_take_iff_getElem];exact⟨k,by omega,rfl⟩
  rw[e];simp (disch:=omega) only[go_sem,h231l0,aZz,ixA,aI.e,eq_true hp];rfl
 rw[aZ _ _ c];simp (disch:=omega) only[go_sem,h231c,aZz,ixA,aI.e,q,c]
theorem Kf{l:L aI}{k:Nat}(d:k≠0)(f:k<l.length)(h:lN l k=0):kT l k=0/\qE l[k-1] l[k]<=0/\(nV l[k-1] l[k]=true->l[k].ty=48):=by
 unfold lN at h;rw[if_neg d,fH l (k-1) (by omega),fH l k f] at h;by_cases a:kT l k=0;rw[a,aW] at h;by_cases b:qE l[k-1] l[k]<=0;rw[decide_eq_true b,gE,aW] at h;refine⟨a,b,fun e=>?_⟩
 rw[e] at h;by_cases c:l[k].ty=48;exact c;rw[decide_eq_false c] at h;exact absurd h (by simp[un,aU]);rw[decide_eq_false b] at h;exact absurd h (by simp[un,aU]);rw[aZ _ _ a] at h;exact absurd h a
theorem Fk{a b:aI}:nV a b=true↔a.ty=b.ty/\a.nm=b.nm/\a.fi=b.fi:=by simp[nV]
theorem aHc(l:L aI)(j:∀a∈l,a.W)(C:l.length<=1000):EV G (Tb (bs bb)) 189 [vl (l.map aI.e)] []=some (iiv (nP l),[]):=by
 refine aB rfl ?_;unfold nP;by_cases z:l.length > 32;rw[if_pos z];have w:32<(l.length:Int):=by omega
 simp (disch:=omega) only[go_sem,h189c,aZz,eq_true w];rw[if_neg z];have w:¬ 32<(l.length:Int):=by omega
 simp (disch:=omega) only[go_sem,h189c,aZz,w];rw[dQ (fun k=>⟨(vl (l.map aI.e)::jk 3 (vi k::jk 58 [])),[]⟩) (fun k=>lN l k≠0) l.length ?_ ?_]
 rotate_left
 rfl;intro k p D;have b:=Classical.not_not.1 (D k (aZE _));have q:=aHb (G:=G) (bb:=bb) l j C k p;by_cases o:k=0;subst o;simp only[lN,if_true] at b;rw[b] at q;have u:EV G (Tb (bs bb)) 231 [vl (l.map aI.e),vi 0] []=some (vi 0,[]):=q;simp (disch:=omega) only[go_sem,h189l0,aZz,aI.e,aG,u,bA7,Int.lt_irrefl,decide_false,Int.toNat_zero];rfl;have f:0<(k:Int):=by omega
 obtain⟨E,I,F⟩:=Kf o p b;rw[E] at q;have g:=ixP l k p (by omega);have d:¬ 0<qE l[k-1] l[k]:=by omega
 have i:=Ke (G:=G) (bb:=bb) l[k-1] l[k];have m:=Np (G:=G) (bb:=bb) l[k-1];have n:=Np (G:=G) (bb:=bb) l[k];have e:=cR (j _ (aZG (show k-1<l.length by omega))).nm (j _ (aZG p)).nm;by_cases h:l[k-1].ty=l[k].ty;by_cases r:l[k-1].nm=l[k].nm;rw[eq_true r] at e;by_cases s:l[k-1].fi=l[k].fi;have H:=F (Fk.2 ⟨h,r,s⟩);simp (disch:=omega) only[go_sem,h189l0,Jr,aZz,ixA,g,aI.e,aG,q,eq_true f,i,m,n,d,eq_true h,e,eq_true s,eq_true H];simp (disch:=omega) only[go_sem,h189l0,Jr,aZz,ixA,g,aI.e,aG,q,eq_true f,i,m,n,d,eq_true h,e,s];rw[eq_false r] at e;simp (disch:=omega) only[go_sem,h189l0,Jr,aZz,ixA,g,aI.e,aG,q,eq_true f,i,m,n,d,eq_true h,e];simp (disch:=omega) only[go_sem,h189l0,Jr,aZz,ixA,g,aI.e,aG,q,eq_true f,i,m,n,d,h];obtain⟨p,hp,D⟩:=bF (fun k=>lN l k≠0) l.length
 generalize ix (fun k=>lN l k≠0) l.length=k at *
 rcases hp with rfl|⟨c,b⟩;rw[if_neg (Nat.lt_irrefl _)];simp (disch:=omega) only[go_sem,h189l0,aZz];rw[if_pos c];have q:=aHb (G:=G) (bb:=bb) l j C k c;by_cases o:k=0;subst o;simp only[lN,if_true] at b ⊢;have u:EV G (Tb (bs bb)) 231 [vl (l.map aI.e),vi 0] []=some (vi (kT l 0),[]):=q;generalize kT l 0=e at b u;simp (disch:=omega) only[go_sem,h189l0,aZz,aI.e,aG,u,bA7,Int.lt_irrefl,decide_false,Int.toNat_zero,b];have f:0<(k:Int):=by omega
 unfold lN at b ⊢;rw[if_neg o,fH l (k-1) (by omega),fH l k c] at b ⊢;have g:=ixP l k c (by omega);have i:=Ke (G:=G) (bb:=bb) l[k-1] l[k];have m:=Np (G:=G) (bb:=bb) l[k-1];have n:=Np (G:=G) (bb:=bb) l[k];have e:=cR (j _ (aZG (show k-1<l.length by omega))).nm (j _ (aZG c)).nm;by_cases t:kT l k=0;rw[t] at q b ⊢;rw[aW] at b ⊢;by_cases A:qE l[k-1] l[k]<=0;have d:¬ 0<qE l[k-1] l[k]:=by omega
 rw[decide_eq_true A,gE,aW] at b ⊢;cases y:nV l[k-1] l[k] with
 |false=>
  rw[y] at b;exact absurd (by simp[un,aU]) b
 |true=>
  rw[y] at b;obtain⟨h,r,s⟩:=Fk.1 y;rw[eq_true r] at e;by_cases v:l[k].ty=48;rw[decide_eq_true v] at b;exact absurd (by simp[un,aU]) b;rw[decide_eq_false v];simp (disch:=omega) only[go_sem,h189l0,Jr,aZz,ixA,g,aI.e,aG,q,eq_true f,i,m,n,d,eq_true h,e,eq_true s,v];rfl
 have d:0<qE l[k-1] l[k]:=by omega
 rw[decide_eq_false A];simp (disch:=omega) only[go_sem,h189l0,Jr,aZz,ixA,g,aI.e,aG,q,eq_true f,i,eq_true d];rfl;rw[aZ _ _ t];generalize kT l k=x at t q;simp (disch:=omega) only[go_sem,h189l0,aZz,ixA,aI.e,aG,q,t]
end
section
variable {G:aF}{bb:Bool}
end
section
variable {G:aF}{B:aO}
