/- Part. Conditions: none. -/
import Derived.Sort.Statements
import GoSem.Op.String
namespace Go.Proofs.YtalhnjjchkmfeaaGreatDoor
set_option linter.unusedSimpArgs false
set_option linter.unusedVariables false
open Go.Sort
section
variable {α:Type}
structure Cm (P:α->Prop) (c:α->α->Int):Prop where
 fl:∀a b,P a->P b->(c a b<0↔0<c b a)
 tr:∀a b d,P a->P b->P d->c a b<0->c b d<0->c a d<0
 eq:∀a b d,P a->P b->P d->c a b=0->c a d=c b d
def L7(c1 c2:α->α->Int)(a b:α):Int:=if c1 a b=0 then c2 a b else c1 a b
variable {P:α->Prop}{c c1 c2:α->α->Int}
theorem Cm.zero(h:Cm P c){a b:α}(d:P a)(e:P b):c a b=0↔c b a=0:=by
 have f:=h.fl a b d e;have g:=h.fl b a e d;omega
theorem Cm.self(h:Cm P c){a:α}(b:P a):c a a=0:=by
 have d:=h.fl a a b b;omega
theorem Cm.eq'(h:Cm P c){a b d:α}(g:P a)(i:P b)(f:P d)(e:c a b=0):(c d a<0↔c d b<0)/\(c d a=0↔c d b=0):=by
 have k:=h.eq a b d g i f e;have j:=h.fl d a f g;have h3:=h.fl d b f i;have h4:=h.zero f g;have h5:=h.zero f i;rw[k] at j h4;exact⟨j.trans h3.symm,h4.trans h5.symm⟩
theorem Cm.lex(h:Cm P c1)(i:Cm P c2):Cm P (L7 c1 c2) where
 fl a b ha hb:=by
  have k:=h.fl a b ha hb;have j:=h.zero ha hb;have l:=i.fl a b ha hb;unfold L7;by_cases e:c1 a b=0;rw[if_pos e,if_pos (j.1 e)];exact l;rw[if_neg e,if_neg (fun q=>e (j.2 q))];exact k
 tr a b d ha hb hd x y:=by
  unfold L7 at *;by_cases f:c1 a b=0;rw[if_pos f] at x;have q:=h.eq a b d ha hb hd f;rw[q];by_cases g:c1 b d=0;rw[if_pos g] at y;rw[if_pos g];exact i.tr a b d ha hb hd x y;rw[if_neg g] at y;rw[if_neg g];exact y;rw[if_neg f] at x;by_cases g:c1 b d=0;obtain⟨m,n⟩:=h.eq' hb hd ha g;have:¬ c1 a d=0:=fun q=>f (n.2 q)
  rw[if_neg this];exact m.1 x;rw[if_neg g] at y;have:=h.tr a b d ha hb hd x y;rw[if_neg (by omega)];exact this
 eq a b d ha hb hd x:=by
  unfold L7 at *;by_cases f:c1 a b=0;rw[if_pos f] at x;rw[h.eq a b d ha hb hd f,i.eq a b d ha hb hd x];rw[if_neg f] at x;exact absurd x f
theorem Cm.map{e:Type}{Q:e->Prop}{c:e->e->Int}(h:Cm Q c)(f:α->e)(hf:∀a,P a->Q (f a)):Cm P (fun a b=>c (f a) (f b)) where
 fl a b ha hb:=h.fl _ _ (hf a ha) (hf b hb)
 tr a b d ha hb hd:=h.tr _ _ _ (hf a ha) (hf b hb) (hf d hd)
 eq a b d ha hb hd:=h.eq _ _ _ (hf a ha) (hf b hb) (hf d hd)
theorem Cm.swo{a:Type}(h:Cm P c)(f:a->α)(hf:∀b,P (f b)):SWO (fun i j:a=>decide (c (f i) (f j)<0)) where
 irrefl x:=by
  have:=h.self (hf x);simp;omega
 trans x y z h1 h2:=by
  simp only[decide_eq_true_eq] at *;exact h.tr _ _ _ (hf x) (hf y) (hf z) h1 h2
 ntrans x y z h1 h2:=by
  simp only[decide_eq_false_iff_not] at *;have g:=h.fl (f x) (f y) (hf x) (hf y);have k:=h.fl (f y) (f z) (hf y) (hf z);have l:=h.fl (f x) (f z) (hf x) (hf z);have m:=h.fl (f y) (f x) (hf y) (hf x);have n:=h.fl (f z) (f y) (hf z) (hf y);intro h3;by_cases d:c (f x) (f y)=0;have:=h.eq _ _ (f z) (hf x) (hf y) (hf z) d;omega;by_cases e:c (f y) (f z)=0;have:=h.eq' (hf y) (hf z) (hf x) e;omega;have:=h.tr _ _ _ (hf z) (hf y) (hf x) (by omega) (by omega);have:=h.fl (f z) (f x) (hf z) (hf x);omega
def Fl(a b:Int):Int:=if a<b then -1 else if a > b then 1 else 0
theorem Fm:Cm (fun _=>True) Fl where
 fl a b _ _:=by unfold Fl;repeat' split<;>omega
 tr a b d _ _ _:=by unfold Fl;repeat' split<;>omega
 eq a b d _ _ _:=by unfold Fl;repeat' split<;>omega
theorem Qa:∀a:List UInt8,Op.bytesLess a a=false
 |[]=>rfl
 | x::a=>by
  rw[Op.bytesLess,Qa a];simp[UInt8.lt_irrefl]
theorem aHd:∀a b d:List UInt8,Op.bytesLess a b=true->Op.bytesLess b d=true->Op.bytesLess a d=true
 |_,[],_,h,_=>by cases ‹List UInt8›<;>simp[Op.bytesLess] at h
 |_,_::_,[],_,h=>by simp[Op.bytesLess] at h
 |[],y::b,z::d,_,_=>rfl
 | x::a,y::b,z::d,f,e=>by
  rw[Op.bytesLess] at *;simp only[Bool.or_eq_true,Bool.and_eq_true,decide_eq_true_eq,beq_iff_eq] at *;rcases f with f | ⟨rfl,f⟩
  ·rcases e with e | ⟨rfl,e⟩
   ·exact .inl (UInt8.lt_trans f e)
   ·exact .inl f
  ·rcases e with e | ⟨rfl,e⟩
   ·exact .inl e
   ·exact .inr ⟨rfl,aHd a b d f e⟩
theorem Kg:∀a b:List UInt8,a≠b->Op.bytesLess a b=true\/Op.bytesLess b a=true
 |[],[],h=>absurd rfl h
 |[],_::_,_=>.inl rfl
 |_::_,[],_=>.inr rfl
 | x::a,y::b,h=>by
  rw[Op.bytesLess,Op.bytesLess];simp only[Bool.or_eq_true,Bool.and_eq_true,decide_eq_true_eq,beq_iff_eq];by_cases e:x=y
  ·subst e;rcases Kg a b (fun q=>h (by rw[q])) with q | q
   ·exact .inl (.inr ⟨rfl,q⟩)
   ·exact .inr (.inr ⟨rfl,q⟩)
  ·rcases UInt8.lt_or_lt_of_ne e with q | q
   ·exact .inl (.inl q)
   ·exact .inr (.inl q)
def H5(a b:List UInt8):Int:=if Op.bytesLess a b=true then -1 else if Op.bytesLess b a=true then 1 else 0
theorem Yd:Cm (fun _=>True) H5 where
 fl a b _ _:=by
  unfold H5;by_cases e:Op.bytesLess a b=true;have h2:¬ Op.bytesLess b a=true:=fun q=>by have:=aHd a b a e q;rw[Qa] at this;cases this
  rw[if_pos e,if_neg h2,if_pos e];simp;rw[if_neg e];by_cases h2:Op.bytesLess b a=true;rw[if_pos h2,if_pos h2];omega;rw[if_neg h2,if_neg h2,if_neg e]
 tr a b d _ _ _ e h2:=by
  unfold H5 at *;have g:Op.bytesLess a b=true:=by
   refine Classical.byContradiction fun q=>?_
   rw[if_neg q] at e;split at e<;>omega
  have f:Op.bytesLess b d=true:=by
   refine Classical.byContradiction fun q=>?_
   rw[if_neg q] at h2;split at h2<;>omega
  rw[if_pos (aHd a b d g f)];omega
 eq a b d _ _ _ h:=by
  have:a=b:=by
   refine Classical.byContradiction fun q=>?_
   unfold H5 at h;rcases Kg a b q with q|q
   rw[if_pos q] at h;cases h;by_cases f:Op.bytesLess a b=true;rw[if_pos f] at h;cases h;rw[if_neg f,if_pos q] at h;cases h
  rw[this]
theorem aVp{a b:List UInt8}(h:H5 a b=0):a=b:=by
 refine Classical.byContradiction fun q=>?_
 unfold H5 at h;rcases Kg a b q with q|q
 rw[if_pos q] at h;cases h;by_cases d:Op.bytesLess a b=true;rw[if_pos d] at h;cases h;rw[if_neg d,if_pos q] at h;cases h
/-! ### lists in order -/
theorem Uf{r:α->α->Prop}:∀{l1 l2:List α},l1.Pairwise r->l2.Pairwise r->l1.Perm l2->(∀a∈l1,∀b∈l1,r a b->r b a->a=b)->l1=l2
 |[],l2,_,_,hp,_=>(List.nil_perm.1 hp).symm
 |a::l1,[],_,_,hp,_=>by simp at hp
 | a::l1,b::l2,l,m,hp,g=>by
  obtain⟨h,j⟩:=List.pairwise_cons.1 l;obtain⟨i,k⟩:=List.pairwise_cons.1 m;have e:a=b:=by
   have f:a∈b::l2:=hp.mem_iff.1 List.mem_cons_self;have d:b∈a::l1:=hp.mem_iff.2 List.mem_cons_self;rcases List.mem_cons.1 f with f | f
   ·exact f
   ·rcases List.mem_cons.1 d with d | d
    ·exact d.symm
    ·exact g a List.mem_cons_self b (List.mem_cons_of_mem _ d) (h b d) (i a f)
  subst e;rw[Uf j k (List.Perm.cons_inv hp) (fun x n y o=>g x (List.mem_cons_of_mem _ n) y (List.mem_cons_of_mem _ o))]
def Ac(c:α->α->Int)(p:List α)(x:α):Nat->Nat
 |0=>0
 | k+1=>match p[k]? with
  | some y=>if c y x > 0 then Ac c p x k else k+1
  | none=>k+1
def Fn(c:α->α->Int)(p:List α)(x:α):List α:=p.take (Ac c p x p.length)++x::p.drop (Ac c p x p.length)
def Hf(c:α->α->Int)(l:List α):List α:=l.foldl (Fn c) []
theorem Ns(c:α->α->Int)(p:List α)(x:α):(Fn c p x).Perm (p++[x]):=by
 unfold Fn;generalize Ac c p x p.length=k;have e:p++[x]=p.take k++(p.drop k++[x]):=by rw[<- List.append_assoc,List.take_append_drop]
 rw[e];exact List.Perm.append_left _ (List.perm_append_singleton x (p.drop k)).symm
theorem Kh(c:α->α->Int):∀(l p:List α),(l.foldl (Fn c) p).Perm (p++l)
 |[],p=>by simp
 | x::l,p=>by
  rw[List.foldl_cons];have b:=Kh c l (Fn c p x);have a:=(Ns c p x).append_right l;rw[List.append_assoc] at a;exact b.trans a
theorem Nt(c:α->α->Int)(l:List α):(Hf c l).Perm l:=by
 have:=Kh c l [];rw[List.nil_append] at this;exact this
theorem aAY(c:α->α->Int)(p:List α)(x:α):∀k,Ac c p x k<=k
 |0=>Nat.le_refl _
 | k+1=>by
  rw[Ac];have:=aAY c p x k;split
  ·split<;>omega
  ·omega
theorem aAZ(c:α->α->Int)(p:List α)(x:α):∀k,k<=p.length->(∀i (h:i<p.length),Ac c p x k<=i->i<k->c p[i] x > 0)/\(∀h:0<Ac c p x k,∀a:Ac c p x k-1<p.length,c p[Ac c p x k-1] x<=0)
 |0,_=>⟨(fun i _ _ h=>by omega),(fun h=>by simp[Ac] at h)⟩
 | k+1,g=>by
  have f:=aAZ c p x k (by omega);have hp:p[k]?=some p[k]:=List.getElem?_eq_getElem (by omega);rw[Ac,hp];simp only;by_cases h:c p[k] x > 0
  ·simp only[if_pos h];refine⟨fun i d b a=>?_,f.2⟩
   by_cases e:i=k
   ·subst e;exact h
   ·exact f.1 i d b (by omega)
  ·simp only[if_neg h];refine⟨fun i d b a=>by omega,fun _ a=>?_⟩
   have:k+1 - 1=k:=rfl;simp only[Nat.add_sub_cancel];omega
theorem Ug(o:Cm P c){p:List α}{x:α}(hp:∀a∈p,P a)(t:P x)(s:p.Pairwise fun a b=>c a b<=0):(Fn c p x).Pairwise fun a b=>c a b<=0:=by
 have l:∀ a b d,P a->P b->P d->c a b<=0->c b d<=0->c a d<=0:=fun a b d g j q G w=>by
  by_cases u:c a b=0
  ·rw[o.eq a b d g j q u];exact w
  ·by_cases v:c b d=0
   ·have:=o.eq' j q g v;omega
   ·have:=o.tr a b d g j q (by omega) (by omega);omega
 have m:∀ a b,P a->P b->c a b > 0->c b a<=0:=fun a b g j h=>by
  have:=o.fl b a j g;omega
 obtain⟨B,C⟩:=aAZ c p x p.length (Nat.le_refl _);have H:=aAY c p x p.length;unfold Fn;generalize Ac c p x p.length=k at *;have n:=s;rw[<- List.take_append_drop k p,List.pairwise_append] at n;obtain⟨D,E,F⟩:=n;rw[List.pairwise_append];refine⟨D,List.pairwise_cons.2 ⟨fun y A=>?_,E⟩,fun a g b j=>?_⟩
 obtain⟨i,r,rfl⟩:=List.getElem_of_mem A;rw[List.length_drop] at r;rw[List.getElem_drop];exact m _ _ (hp _ (List.getElem_mem _)) t (B (k+i) (by omega) (by omega) (by omega));rcases List.mem_cons.1 j with rfl|j
 have z:0<k:=by
  rcases Nat.eq_zero_or_pos k with h|h;subst h;simp at g;exact h
 have f:=C z (by omega);obtain⟨i,r,rfl⟩:=List.getElem_of_mem g;rw[List.length_take] at r;rw[List.getElem_take];by_cases e:i=k-1;subst e;exact f;have:=(List.pairwise_iff_getElem.1 s) i (k-1) (by omega) (by omega) (by omega);exact l _ _ _ (hp _ (List.getElem_mem _)) (hp _ (List.getElem_mem _)) t this f;exact F a g b j
theorem Gp(i:Cm P c){l:List α}(j:∀a∈l,P a):(Hf c l).Pairwise fun a b=>c a b<=0:=by
 have f:∀ (l p:List α),(∀ a∈l,P a)->(∀ a∈p,P a)->(p.Pairwise fun a b=>c a b<=0)->(l.foldl (Fn c) p).Pairwise fun a b=>c a b<=0:=by
  intro l
  induction l with
  | nil=>intro p _ _ h;exact h
  | cons x l k=>
   intro p e g h3;rw[List.foldl_cons];refine k _ (fun a d=>e a (List.mem_cons_of_mem _ d)) (fun a d=>?_) (Ug i g (e x List.mem_cons_self) h3)
   have:=(Ns c p x).mem_iff.1 d;rcases List.mem_append.1 this with h | h
   ·exact g a h
   ·simp at h;subst h;exact e _ List.mem_cons_self
 exact f l [] j (fun a d=>by cases d) List.Pairwise.nil
theorem aDq(h:Cm P c){l m:List α}(e:∀a∈l,P a)(u:∀a∈l,∀b∈l,c a b=0->a=b)(hp:m.Perm l)(v:∀(i j:Nat) a b,i<j->m[i]?=some a->m[j]?=some b->¬ c b a<0):m=Hf c l:=by
 have o:m.Perm (Hf c l):=hp.trans (Nt c l).symm;have d:∀a∈m,a∈l:=fun a g=>hp.mem_iff.1 g
 refine Uf (r:=fun a b=>c a b<=0) (List.pairwise_iff_getElem.2 fun i j p q n=>?_) (Gp h e) o (fun a g b k s t=>?_)
 have s:=v i j _ _ n (List.getElem?_eq_getElem p) (List.getElem?_eq_getElem q);have t:=h.fl m[j] m[i] (e _ (d _ (List.getElem_mem q))) (e _ (d _ (List.getElem_mem p)));omega;have f:=h.fl b a (e _ (d _ k)) (e _ (d _ g));have w:=h.fl a b (e _ (d _ g)) (e _ (d _ k));exact u a (d _ g) b (d _ k) (by omega)
