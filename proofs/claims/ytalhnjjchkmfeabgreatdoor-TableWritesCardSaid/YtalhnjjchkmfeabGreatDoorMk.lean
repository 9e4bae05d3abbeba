/- Part. Conditions: none. -/
import Derived.Sort.Statements
import GoSem.Op.String
namespace Go.Proofs.YtalhnjjchkmfeabGreatDoor
set_option linter.unusedSimpArgs false
set_option linter.unusedVariables false
open Go.Sort
section
variable {α:Type}
structure Cm (P:α->Prop) (c:α->α->Int):Prop where
 fl:∀a b,P a->P b->(c a b<0↔0<c b a)
 tr:∀a b d,P a->P b->P d->c a b<0->c b d<0->c a d<0
 eq:∀a b d,P a->P b->P d->c a b=0->c a d=c b d
variable {P:α->Prop}{c c1 c2:α->α->Int}
theorem Cm.zero(h:Cm P c){a b:α}(d:P a)(e:P b):c a b=0↔c b a=0:=by
 have f:=h.fl a b d e;have g:=h.fl b a e d;omega
theorem Cm.eq'(h:Cm P c){a b d:α}(g:P a)(i:P b)(f:P d)(e:c a b=0):(c d a<0↔c d b<0)/\(c d a=0↔c d b=0):=by
 have k:=h.eq a b d g i f e;have j:=h.fl d a f g;have h3:=h.fl d b f i;have h4:=h.zero f g;have h5:=h.zero f i;rw[k] at j h4;exact⟨j.trans h3.symm,h4.trans h5.symm⟩
theorem Cm.map{e:Type}{Q:e->Prop}{c:e->e->Int}(h:Cm Q c)(f:α->e)(hf:∀a,P a->Q (f a)):Cm P (fun a b=>c (f a) (f b)) where
 fl a b ha hb:=h.fl _ _ (hf a ha) (hf b hb)
 tr a b d ha hb hd:=h.tr _ _ _ (hf a ha) (hf b hb) (hf d hd)
 eq a b d ha hb hd:=h.eq _ _ _ (hf a ha) (hf b hb) (hf d hd)
/-! ### lists in order -/
