/- A bigger base: what a table answers it answers over a bigger base too. Conditions: none. -/
import Derived.Test.YthepfneloomngaaGreatDoorNd
namespace Go.Proofs.YthepfneloomngaaGreatDoor
set_option linter.unusedSimpArgs false
set_option linter.unusedVariables false
theorem R3{G:aE}{T T':HT}(ht:∀f,T.tab f=T'.tab f)(hb:∀f a hp r,T.tab f=none->T.base f a hp=some r->T'.base f a hp=some r):∀(n:Nat) (f:FuncId) (a:List AV) (hp:List aC) (r:AV×List aC),callN G T n f a hp=some r->EV G T' f a hp=some r
 |0,f,a,hp,r,h=>by simp[callN] at h
 | n+1,f,a,hp,r,h=>by
  rw[callN] at h;cases hT:T.tab f with
  | none=>
   rw[hT] at h;exact gP (by rw[<- ht];exact hT) (hb f a hp r hT h)
  | some x=>
   rw[hT] at h;obtain⟨m,hm⟩:=Ho (calls:=fun _=>EV G T') (call:=callN G T n) (fun f a hp r h=>⟨0,fun _ _=>R3 ht hb n f a hp r h⟩) h
   exact aLO (by rw[<- ht];exact hT) (hm m (aXF _))
theorem Yo{G:aE}{T T':HT}(ht:∀f,T.tab f=T'.tab f)(hb:∀f a hp r,T.tab f=none->T.base f a hp=some r->T'.base f a hp=some r){f:FuncId}{a:List AV}{hp:List aC}{r:AV×List aC}(h:EV G T f a hp=some r):EV G T' f a hp=some r:=by
 obtain⟨n,hn⟩:=iN h;exact R3 ht hb n _ _ _ _ hn
end Go.Proofs.YthepfneloomngaaGreatDoor
