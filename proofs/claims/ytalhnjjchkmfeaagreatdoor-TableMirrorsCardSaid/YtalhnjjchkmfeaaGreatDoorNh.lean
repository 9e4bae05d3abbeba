/- Part. Conditions: none. -/
import Derived.Test.YtalhnjjchkmfeaaGreatDoorNd
namespace Go.Proofs.YtalhnjjchkmfeaaGreatDoor
set_option linter.unusedSimpArgs false
set_option linter.unusedVariables false
theorem Uj{G:aF}{T T':HT}(c:∀f,T.tab f=T'.tab f)(d:∀f a hp r,T.tab f=none->T.base f a hp=some r->T'.base f a hp=some r):∀(n:Nat)(f:FuncId)(a:L AV)(hp:L aD)(r:AV×L aD),callN G T n f a hp=some r->EV G T' f a hp=some r
 |0,f,a,hp,r,h=>by simp[callN] at h
 | n+1,f,a,hp,r,h=>by
  rw[callN] at h;cases b:T.tab f with
  | none=>
   rw[b] at h;exact jG (by rw[<- c];exact b) (d f a hp r b h)
  | some x=>
   rw[b] at h;obtain⟨m,e⟩:=Jk (calls:=fun _=>EV G T') (call:=callN G T n) (fun f a hp r h=>⟨0,fun _ _=>Uj c d n f a hp r h⟩) h
   exact aNX (by rw[<- c];exact b) (e m (aZE _))
theorem aHo{G:aF}{T T':HT}(d:∀f,T.tab f=T'.tab f)(b:∀f a hp r,T.tab f=none->T.base f a hp=some r->T'.base f a hp=some r){f:FuncId}{a:L AV}{hp:L aD}{r:AV×L aD}(h:EV G T f a hp=some r):EV G T' f a hp=some r:=by
 obtain⟨n,c⟩:=jW h;exact Uj d b n _ _ _ _ c
