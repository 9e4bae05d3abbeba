/- A bigger base: what a table answers it answers over a bigger base too. Conditions: none. -/
import Derived.Test.YtcplecjhmnblpaaGreatDoorNd
namespace Go.Proofs.YtcplecjhmnblpaaGreatDoor
set_option linter.unusedSimpArgs false
set_option linter.unusedVariables false
theorem callN_up {G:Glob} {T T':HT} (ht:∀ f,T.tab f=T'.tab f) (hb:∀ f a hp r,T.tab f=none→T.base f a hp=some r→T'.base f a hp=some r):∀ (n:Nat) (f:FuncId) (a:List AV) (hp:List AObj) (r:AV × List AObj),callN G T n f a hp=some r→EV G T' f a hp=some r
 | 0,f,a,hp,r,h=>by simp [callN] at h
 | n+1,f,a,hp,r,h=>by
  rw [callN] at h
  cases hT:T.tab f with
  | none=>
   rw [hT] at h
   exact EV_base (by rw [← ht];exact hT) (hb f a hp r hT h)
  | some x=>
   rw [hT] at h
   obtain ⟨m,hm⟩:=funE_sup (calls:=fun _=>EV G T') (call:=callN G T n) (fun f a hp r h=>⟨0,fun _ _=>callN_up ht hb n f a hp r h⟩) h
   exact EV_of (by rw [← ht];exact hT) (hm m (Nat.le_refl _))
theorem EV_up {G:Glob} {T T':HT} (ht:∀ f,T.tab f=T'.tab f) (hb:∀ f a hp r,T.tab f=none→T.base f a hp=some r→T'.base f a hp=some r) {f:FuncId} {a:List AV} {hp:List AObj} {r:AV × List AObj} (h:EV G T f a hp=some r):EV G T' f a hp=some r:=by
 obtain ⟨n,hn⟩:=lim_some h
 exact callN_up ht hb n _ _ _ _ hn
end Go.Proofs.YtcplecjhmnblpaaGreatDoor
