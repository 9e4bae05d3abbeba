/- Comparisons, and lists in order. Conditions: none. -/
import Derived.Sort.Statements
import GoSem.Op.String
namespace Go.Proofs.YthepfneloomngaaGreatDoor
set_option linter.unusedSimpArgs false
set_option linter.unusedVariables false
open Go.Sort
section
variable {α:Type}
structure Cm (P:α->Prop) (c:α->α->Int):Prop where
 fl:∀a b,P a->P b->(c a b<0↔0<c b a)
 tr:∀a b d,P a->P b->P d->c a b<0->c b d<0->c a d<0
 eq:∀a b d,P a->P b->P d->c a b=0->c a d=c b d
def J5(c1 c2:α->α->Int)(a b:α):Int:=if c1 a b=0 then c2 a b else c1 a b
variable {P:α->Prop}{c c1 c2:α->α->Int}
theorem Cm.zero(h:Cm P c){a b:α}(ha:P a)(hb:P b):c a b=0↔c b a=0:=by
 have h1:=h.fl a b ha hb;have h2:=h.fl b a hb ha;omega
theorem Cm.self(h:Cm P c){a:α}(ha:P a):c a a=0:=by
 have h1:=h.fl a a ha ha;omega
theorem Cm.eq'(h:Cm P c){a b d:α}(ha:P a)(hb:P b)(hd:P d)(e:c a b=0):(c d a<0↔c d b<0)/\(c d a=0↔c d b=0):=by
 have h1:=h.eq a b d ha hb hd e;have h2:=h.fl d a hd ha;have h3:=h.fl d b hd hb;have h4:=h.zero hd ha;have h5:=h.zero hd hb;rw[h1] at h2 h4;exact⟨h2.trans h3.symm,h4.trans h5.symm⟩
theorem Cm.lex(h1:Cm P c1)(h2:Cm P c2):Cm P (J5 c1 c2) where
 fl a b ha hb:=by
  have f1:=h1.fl a b ha hb;have z1:=h1.zero ha hb;have f2:=h2.fl a b ha hb;unfold J5;by_cases e:c1 a b=0;rw[if_pos e,if_pos (z1.1 e)];exact f2;rw[if_neg e,if_neg (fun q=>e (z1.2 q))];exact f1
 tr a b d ha hb hd x y:=by
  unfold J5 at *;by_cases e1:c1 a b=0;rw[if_pos e1] at x;have q:=h1.eq a b d ha hb hd e1;rw[q];by_cases e2:c1 b d=0;rw[if_pos e2] at y;rw[if_pos e2];exact h2.tr a b d ha hb hd x y;rw[if_neg e2] at y;rw[if_neg e2];exact y;rw[if_neg e1] at x;by_cases e2:c1 b d=0;obtain⟨q1,q2⟩:=h1.eq' hb hd ha e2;have:¬ c1 a d=0:=fun q=>e1 (q2.2 q)
  rw[if_neg this];exact q1.1 x;rw[if_neg e2] at y;have:=h1.tr a b d ha hb hd x y;rw[if_neg (by omega)];exact this
 eq a b d ha hb hd x:=by
  unfold J5 at *;by_cases e1:c1 a b=0;rw[if_pos e1] at x;rw[h1.eq a b d ha hb hd e1,h2.eq a b d ha hb hd x];rw[if_neg e1] at x;exact absurd x e1
theorem Cm.map{β:Type}{Q:β->Prop}{c:β->β->Int}(h:Cm Q c)(f:α->β)(hf:∀a,P a->Q (f a)):Cm P (fun a b=>c (f a) (f b)) where
 fl a b ha hb:=h.fl _ _ (hf a ha) (hf b hb)
 tr a b d ha hb hd:=h.tr _ _ _ (hf a ha) (hf b hb) (hf d hd)
 eq a b d ha hb hd:=h.eq _ _ _ (hf a ha) (hf b hb) (hf d hd)
theorem Cm.swo{β:Type}(h:Cm P c)(f:β->α)(hf:∀b,P (f b)):SWO (fun i j:β=>decide (c (f i) (f j)<0)) where
 irrefl x:=by
  have:=h.self (hf x);simp;omega
 trans x y z h1 h2:=by
  simp only[decide_eq_true_eq] at *;exact h.tr _ _ _ (hf x) (hf y) (hf z) h1 h2
 ntrans x y z h1 h2:=by
  simp only[decide_eq_false_iff_not] at *;have f1:=h.fl (f x) (f y) (hf x) (hf y);have f2:=h.fl (f y) (f z) (hf y) (hf z);have f3:=h.fl (f x) (f z) (hf x) (hf z);have g1:=h.fl (f y) (f x) (hf y) (hf x);have g2:=h.fl (f z) (f y) (hf z) (hf y);intro h3;by_cases e1:c (f x) (f y)=0;have:=h.eq _ _ (f z) (hf x) (hf y) (hf z) e1;omega;by_cases e2:c (f y) (f z)=0;have:=h.eq' (hf y) (hf z) (hf x) e2;omega;have:=h.tr _ _ _ (hf z) (hf y) (hf x) (by omega) (by omega);have:=h.fl (f z) (f x) (hf z) (hf x);omega
def Do(a b:Int):Int:=if a<b then -1 else if a > b then 1 else 0
theorem Dp:Cm (fun _=>True) Do where
 fl a b _ _:=by unfold Do;repeat' split<;>omega
 tr a b d _ _ _:=by unfold Do;repeat' split<;>omega
 eq a b d _ _ _:=by unfold Do;repeat' split<;>omega
theorem Nv:∀a:List UInt8,Op.bytesLess a a=false
 |[]=>rfl
 | x::a=>by
  rw[Op.bytesLess,Nv a];simp[UInt8.lt_irrefl]
theorem aFo:∀a b d:List UInt8,Op.bytesLess a b=true->Op.bytesLess b d=true->Op.bytesLess a d=true
 |_,[],_,h,_=>by cases ‹List UInt8›<;>simp[Op.bytesLess] at h
 |_,_::_,[],_,h=>by simp[Op.bytesLess] at h
 |[],y::b,z::d,_,_=>rfl
 | x::a,y::b,z::d,h1,h2=>by
  rw[Op.bytesLess] at *;simp only[Bool.or_eq_true,Bool.and_eq_true,decide_eq_true_eq,beq_iff_eq] at *;rcases h1 with h1 | ⟨rfl,h1⟩
  ·rcases h2 with h2 | ⟨rfl,h2⟩
   ·exact .inl (UInt8.lt_trans h1 h2)
   ·exact .inl h1
  ·rcases h2 with h2 | ⟨rfl,h2⟩
   ·exact .inl h2
   ·exact .inr ⟨rfl,aFo a b d h1 h2⟩
theorem Iu:∀a b:List UInt8,a≠b->Op.bytesLess a b=true\/Op.bytesLess b a=true
 |[],[],h=>absurd rfl h
 |[],_::_,_=>.inl rfl
 |_::_,[],_=>.inr rfl
 | x::a,y::b,h=>by
  rw[Op.bytesLess,Op.bytesLess];simp only[Bool.or_eq_true,Bool.and_eq_true,decide_eq_true_eq,beq_iff_eq];by_cases e:x=y
  ·subst e;rcases Iu a b (fun q=>h (by rw[q])) with q | q
   ·exact .inl (.inr ⟨rfl,q⟩)
   ·exact .inr (.inr ⟨rfl,q⟩)
  ·rcases UInt8.lt_or_lt_of_ne e with q | q
   ·exact .inl (.inl q)
   ·exact .inr (.inl q)
def F7(a b:List UInt8):Int:=if Op.bytesLess a b=true then -1 else if Op.bytesLess b a=true then 1 else 0
theorem U8:Cm (fun _=>True) F7 where
 fl a b _ _:=by
  unfold F7;by_cases h1:Op.bytesLess a b=true;have h2:¬ Op.bytesLess b a=true:=fun q=>by have:=aFo a b a h1 q;rw[Nv] at this;cases this
  rw[if_pos h1,if_neg h2,if_pos h1];simp;rw[if_neg h1];by_cases h2:Op.bytesLess b a=true;rw[if_pos h2,if_pos h2];omega;rw[if_neg h2,if_neg h2,if_neg h1]
 tr a b d _ _ _ h1 h2:=by
  unfold F7 at *;have q1:Op.bytesLess a b=true:=by
   refine Classical.byContradiction fun q=>?_
   rw[if_neg q] at h1;split at h1<;>omega
  have q2:Op.bytesLess b d=true:=by
   refine Classical.byContradiction fun q=>?_
   rw[if_neg q] at h2;split at h2<;>omega
  rw[if_pos (aFo a b d q1 q2)];omega
 eq a b d _ _ _ h:=by
  have:a=b:=by
   refine Classical.byContradiction fun q=>?_
   unfold F7 at h;rcases Iu a b q with q|q
   rw[if_pos q] at h;cases h;by_cases q2:Op.bytesLess a b=true;rw[if_pos q2] at h;cases h;rw[if_neg q2,if_pos q] at h;cases h
  rw[this]
theorem aTB{a b:List UInt8}(h:F7 a b=0):a=b:=by
 refine Classical.byContradiction fun q=>?_
 unfold F7 at h;rcases Iu a b q with q|q
 rw[if_pos q] at h;cases h;by_cases q2:Op.bytesLess a b=true;rw[if_pos q2] at h;cases h;rw[if_neg q2,if_pos q] at h;cases h
/-! ### lists in order -/
theorem Ru{r:α->α->Prop}:∀{l1 l2:List α},l1.Pairwise r->l2.Pairwise r->l1.Perm l2->(∀a∈l1,∀b∈l1,r a b->r b a->a=b)->l1=l2
 |[],l2,_,_,hp,_=>(List.nil_perm.1 hp).symm
 |a::l1,[],_,_,hp,_=>by simp at hp
 | a::l1,b::l2,h1,h2,hp,ha=>by
  obtain⟨a1,g1⟩:=List.pairwise_cons.1 h1;obtain⟨b1,g2⟩:=List.pairwise_cons.1 h2;have e:a=b:=by
   have m1:a∈b::l2:=hp.mem_iff.1 List.mem_cons_self;have m2:b∈a::l1:=hp.mem_iff.2 List.mem_cons_self;rcases List.mem_cons.1 m1 with m1 | m1
   ·exact m1
   ·rcases List.mem_cons.1 m2 with m2 | m2
    ·exact m2.symm
    ·exact ha a List.mem_cons_self b (List.mem_cons_of_mem _ m2) (a1 b m2) (b1 a m1)
  subst e;rw[Ru g1 g2 (List.Perm.cons_inv hp) (fun x hx y hy=>ha x (List.mem_cons_of_mem _ hx) y (List.mem_cons_of_mem _ hy))]
def rF(c:α->α->Int)(p:List α)(x:α):Nat->Nat
 |0=>0
 | k+1=>match p[k]? with
  | some y=>if c y x > 0 then rF c p x k else k+1
  | none=>k+1
def zJ(c:α->α->Int)(p:List α)(x:α):List α:=p.take (rF c p x p.length)++x::p.drop (rF c p x p.length)
def qJ(c:α->α->Int)(l:List α):List α:=l.foldl (zJ c) []
theorem Lj(c:α->α->Int)(p:List α)(x:α):(zJ c p x).Perm (p++[x]):=by
 unfold zJ;generalize rF c p x p.length=k;have e:p++[x]=p.take k++(p.drop k++[x]):=by rw[<- List.append_assoc,List.take_append_drop]
 rw[e];exact List.Perm.append_left _ (List.perm_append_singleton x (p.drop k)).symm
theorem Iv(c:α->α->Int):∀(l p:List α),(l.foldl (zJ c) p).Perm (p++l)
 |[],p=>by simp
 | x::l,p=>by
  rw[List.foldl_cons];have h1:=Iv c l (zJ c p x);have h2:=(Lj c p x).append_right l;rw[List.append_assoc] at h2;exact h1.trans h2
theorem Dq(c:α->α->Int)(l:List α):(qJ c l).Perm l:=by
 have:=Iv c l [];rw[List.nil_append] at this;exact this
theorem Nw(c:α->α->Int)(p:List α)(x:α):∀k,rF c p x k<=k
 |0=>Nat.le_refl _
 | k+1=>by
  rw[rF];have:=Nw c p x k;split
  ·split<;>omega
  ·omega
theorem Nx(c:α->α->Int)(p:List α)(x:α):∀k,k<=p.length->(∀i (h:i<p.length),rF c p x k<=i->i<k->c p[i] x > 0)/\(∀h:0<rF c p x k,∀h2:rF c p x k-1<p.length,c p[rF c p x k-1] x<=0)
 |0,_=>⟨(fun i _ _ h=>by omega),(fun h=>by simp[rF] at h)⟩
 | k+1,hk=>by
  have ih:=Nx c p x k (by omega);have hp:p[k]?=some p[k]:=List.getElem?_eq_getElem (by omega);rw[rF,hp];simp only;by_cases h:c p[k] x > 0
  ·simp only[if_pos h];refine⟨fun i hi h1 h2=>?_,ih.2⟩
   by_cases e:i=k
   ·subst e;exact h
   ·exact ih.1 i hi h1 (by omega)
  ·simp only[if_neg h];refine⟨fun i hi h1 h2=>by omega,fun _ h2=>?_⟩
   have:k+1 - 1=k:=rfl;simp only[Nat.add_sub_cancel];omega
theorem Rv(hc:Cm P c){p:List α}{x:α}(hp:∀a∈p,P a)(hx:P x)(hs:p.Pairwise fun a b=>c a b<=0):(zJ c p x).Pairwise fun a b=>c a b<=0:=by
 have le_tr:∀ a b d,P a->P b->P d->c a b<=0->c b d<=0->c a d<=0:=fun a b d ha hb hd h1 h2=>by
  by_cases e1:c a b=0
  ·rw[hc.eq a b d ha hb hd e1];exact h2
  ·by_cases e2:c b d=0
   ·have:=hc.eq' hb hd ha e2;omega
   ·have:=hc.tr a b d ha hb hd (by omega) (by omega);omega
 have flip:∀ a b,P a->P b->c a b > 0->c b a<=0:=fun a b ha hb h=>by
  have:=hc.fl b a hb ha;omega
 obtain⟨k1,k2⟩:=Nx c p x p.length (Nat.le_refl _);have kl:=Nw c p x p.length;unfold zJ;generalize rF c p x p.length=k at *;have hpw:=hs;rw[<- List.take_append_drop k p,List.pairwise_append] at hpw;obtain⟨s1,s2,s3⟩:=hpw;rw[List.pairwise_append];refine⟨s1,List.pairwise_cons.2 ⟨fun y hy=>?_,s2⟩,fun a ha b hb=>?_⟩
 obtain⟨i,hi,rfl⟩:=List.getElem_of_mem hy;rw[List.length_drop] at hi;rw[List.getElem_drop];exact flip _ _ (hp _ (List.getElem_mem _)) hx (k1 (k+i) (by omega) (by omega) (by omega));rcases List.mem_cons.1 hb with rfl|hb
 have hk:0<k:=by
  rcases Nat.eq_zero_or_pos k with h|h;subst h;simp at ha;exact h
 have hlast:=k2 hk (by omega);obtain⟨i,hi,rfl⟩:=List.getElem_of_mem ha;rw[List.length_take] at hi;rw[List.getElem_take];by_cases e:i=k-1;subst e;exact hlast;have:=(List.pairwise_iff_getElem.1 hs) i (k-1) (by omega) (by omega) (by omega);exact le_tr _ _ _ (hp _ (List.getElem_mem _)) (hp _ (List.getElem_mem _)) hx this hlast;exact s3 a ha b hb
theorem Ej(hc:Cm P c){l:List α}(hl:∀a∈l,P a):(qJ c l).Pairwise fun a b=>c a b<=0:=by
 have key:∀ (l p:List α),(∀ a∈l,P a)->(∀ a∈p,P a)->(p.Pairwise fun a b=>c a b<=0)->(l.foldl (zJ c) p).Pairwise fun a b=>c a b<=0:=by
  intro l
  induction l with
  | nil=>intro p _ _ h;exact h
  | cons x l ih=>
   intro p h1 h2 h3;rw[List.foldl_cons];refine ih _ (fun a ha=>h1 a (List.mem_cons_of_mem _ ha)) (fun a ha=>?_) (Rv hc h2 (h1 x List.mem_cons_self) h3)
   have:=(Lj c p x).mem_iff.1 ha;rcases List.mem_append.1 this with h | h
   ·exact h2 a h
   ·simp at h;subst h;exact h1 _ List.mem_cons_self
 exact key l [] hl (fun a ha=>by cases ha) List.Pairwise.nil
theorem aBC(hc:Cm P c){l m:List α}(hl:∀a∈l,P a)(hd:∀a∈l,∀b∈l,c a b=0->a=b)(hp:m.Perm l)(hm:∀(i j:Nat) a b,i<j->m[i]?=some a->m[j]?=some b->¬ c b a<0):m=qJ c l:=by
 have hpm:m.Perm (qJ c l):=hp.trans (Dq c l).symm;have mem:∀a∈m,a∈l:=fun a ha=>hp.mem_iff.1 ha
 refine Ru (r:=fun a b=>c a b<=0) (List.pairwise_iff_getElem.2 fun i j hi hj hij=>?_) (Ej hc hl) hpm (fun a ha b hb h1 h2=>?_)
 have h1:=hm i j _ _ hij (List.getElem?_eq_getElem hi) (List.getElem?_eq_getElem hj);have h2:=hc.fl m[j] m[i] (hl _ (mem _ (List.getElem_mem hj))) (hl _ (mem _ (List.getElem_mem hi)));omega;have f:=hc.fl b a (hl _ (mem _ hb)) (hl _ (mem _ ha));have f2:=hc.fl a b (hl _ (mem _ ha)) (hl _ (mem _ hb));exact hd a (mem _ ha) b (mem _ hb) (by omega)
end
end Go.Proofs.YthepfneloomngaaGreatDoor
