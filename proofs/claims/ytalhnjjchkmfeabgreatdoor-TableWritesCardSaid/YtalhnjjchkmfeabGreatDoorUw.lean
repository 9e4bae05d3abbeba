/- Part. Conditions: none. -/
import Derived.Test.YtalhnjjchkmfeabGreatDoorVo
namespace Go.Proofs.YtalhnjjchkmfeabGreatDoor
set_option linter.unusedSimpArgs false
set_option linter.unusedVariables false
set_option maxRecDepth 4000
section
variable {G:aE}{bb:Bool}
theorem W9{l:L aV}(h:(nC l).2=0):gP l=cF l:=by
 have a:=Do h;exact Dn l (fun r b=>(a.el r b).2.2) (by have:=a.sum;omega)
end
section
variable {G:aE}{bb:Bool}
end
section
variable {G:aE}{bb:Bool}
theorem aAh{α:Type}(l:L α)(d:α)(k:Nat)(h:k<l.length):l.getD k d=l[k]:=by
 rw[aZo,aZi h];rfl
theorem aQk{α:Type}(l:L α)(d:α)(p:α->Bool):(ix (fun k=>p (l.getD k d)=false) l.length=l.length)↔l.all p=true:=by
 obtain⟨g,a,h3⟩:=bI (fun k=>p (l.getD k d)=false) l.length
 constructor;intro e;rw[bAr];intro x f;obtain⟨k,c,rfl⟩:=bAJ f;have:=h3 k (by omega);have b:=aAh l d k c;rw[b] at this;simpa using this;intro h;rcases a with a|⟨a,h4⟩
 exact a;have b:=aAh l d _ a;rw[b] at h4;rw[bAr.1 h _ (aZk a)] at h4;cases h4
theorem aNI(l:L aK)(k:Nat)(a:k<l.length):(l.take (k+1)).map aK.e=(l.take k).map aK.e++[l[k].e]:=by
 rw[aZ5 a,aZQ];rfl
theorem aGA(l:L aK)(g:l.length<=1000)(f:∀a∈l,a.rs.length<=1000000):EV G (Tb (bs bb)) 21 [vl (l.map aK.e)] []=some (vl (l.map aK.e),[]):=by
 refine aA rfl ?_;simp (disch:=omega) only[go_sem,h21c];rw[aQ (fun k=>⟨(vl (l.map aK.e)::jk 2 (.one (.bld 0 ((l.take k).map aK.e).length)::vi k::jk 15 [])),[.arr 0 11 ((l.take k).map aK.e)]⟩) l.length ?_ ?_]
 simp (disch:=omega) only[go_sem,h21l0,aY9,aZO];rfl;intro k c;have q:=aLC (G:=G) (bb:=bb) l[k] (f _ (aZk c));have d:((l.take k).map aK.e).length<=1000:=by rw[aY9,aZd];omega
 have b:=Pf (l.take k);rw[aNI l k c];generalize (l.take k).map aK.e=C at d b ⊢;simp (disch:=omega) only[go_sem,h21l0,aY9,ixA,aK.e,q,b];rw[aZa];rfl
