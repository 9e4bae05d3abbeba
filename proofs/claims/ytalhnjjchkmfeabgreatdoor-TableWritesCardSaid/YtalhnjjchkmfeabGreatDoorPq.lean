/- Part. Conditions: none. -/
import Derived.Test.YtalhnjjchkmfeabGreatDoorPm
import Derived.Test.YtalhnjjchkmfeabGreatDoorUc
namespace Go.Proofs.YtalhnjjchkmfeabGreatDoor
set_option linter.unusedSimpArgs false
set_option linter.unusedVariables false
open Go.RowKit
abbrev tvC(x:Bt)(a b:DC)(N:Nat)(c:DC):L aU:=[.dc (ci x.cl),.dc (ci x.tb),.dc (ci x.mi),.dc (ci x.lg),.dc (ci x.lc),.dc (ci x.se),.dc a,.dc b,.bls 1 0 N 1,.dc c]
abbrev Bm(x:Bt)(a b:DC)(N:Nat)(c:DC):aD:=.box (tvC x a b N c)
theorem aHU{F:Fz}{γ:L OI}{objs:L aD}{w w':World}{av:AV}{v:Value}(j:eG F γ objs w)(f:Below w.heap.size w w')(p:RV F γ av v):∃r g a F' γ',Ending.returned v=.returned r/\(g=av/\a=objs)/\objs.length<=a.length/\iU objs.length F γ w F' γ' w'/\eG F' γ' a w'/\RV F' γ' g r:=by
 have d:∀b o,w.heap[b]?=some o->w'.heap[b]?=some o:=fun b o h=>by rw[f.block b (Array.getElem?_eq_some_iff.1 h).1];exact h
 have e:∀b vs T,Qq w b vs T->Qq w' b vs T:=fun b vs T ⟨k,h,l⟩=>⟨k,d _ _ h,l⟩
 refine⟨v,av,objs,F,γ,rfl,⟨rfl,rfl⟩,aZe _,⟨fun _ _ h=>h,f.os,f.tape,f.output,f.size,fun b h _=>f.block b h,fun _ _ h=>.inl h,fun i b h=>.inl ⟨i,h⟩,fun _ _ _ h=>h⟩,
  ⟨fun b o h=>d b o (j.fz b o h),j.len,j.nd,j.disj,fun i o x m n=>?_⟩,p⟩
 have h3:=j.ok i o x m n;cases o with
 | box cs=>cases x with
  | box b=>obtain⟨vs,T,h4,h5⟩:=h3;exact⟨vs,T,e _ _ _ h4,h5⟩
  | arr b c=>cases b<;>exact h3
  | dead=>exact h3
 | arr cap size es=>cases x with
  | box b=>exact h3
  | arr b c=>cases b with
   | none=>exact h3
   | some b=>obtain⟨h5,h6,h7,vs,T,h8,h9⟩:=h3;exact⟨h5,h6,h7,vs,T,e _ _ _ h8,h9⟩
  | dead=>exact h3
 | dead=>cases x with
  | box b=>exact h3
  | arr b c=>cases b<;>exact h3
  | dead=>exact h3
theorem aDb(a:L Int)(b off size:Nat)(g:Nat->Nat->Value)(F:Fz)(w:World)(hf:∀b o,F b=some o->w.heap[b]?=some o)
  (f:∀e∈a.map (fun n=>[ci n]),e.length=size)
  (q:∀(i j:Nat) e d,(a.map fun n=>[ci n])[i]?=some e->e[j]?=some d->RD F d (g i j))
  (p:∀(i j:Nat) e d,(a.map fun n=>[ci n])[i]?=some e->e[j]?=some d->F.cell? ⟨b,off+(i*size+j),none⟩=some (g i j)) (k:Nat) (c:k<a.length):
  w.cell? ⟨b,off+k,none⟩=some (.int .i64 (a.getD k 0)):=by
 have h:(a.map fun n=>[ci n])[k]?=some [ci a[k]]:=by rw[aZj,aZi c];rfl
 have m:size=1:=(f [ci a[k]] (by simp[aZk c])).symm;subst m;have l:=q k 0 _ (ci a[k]) h rfl;have h3:=p k 0 _ (ci a[k]) h rfl;rw[aZ2,aZY] at h3;have h4:=Fz.cell_world hf h3;generalize g k 0=v at l h4;cases l;rw[h4];simp[c]
theorem aHV{G:aE}(x:Bt)(u y:DC)(N:Nat)(k:L Int)(cs:L aU)(U:(-1000000<=x.mi/\x.mi<=1000000)/\2<=x.cl/\x.cl<=1000000)(Q:k.length<=1000000):AC Tryz.prog G 97 [.one (.ptr 0 0)] [Bm x u y N (.slc (k.map fun n=>[ci n])),.box cs] fun a o=>a=vb (uH x k)/\o=[Bm x u y N (.slc (k.map fun n=>[ci n])),.box cs]:=by
 intro F γ vs w C X r;obtain⟨V,r⟩:=r;obtain⟨p,rfl⟩:∃p,vs=#[p]:=by
  obtain⟨l⟩:=vs
  match l,V with
  |[p],_=>exact⟨p,rfl⟩
 have s:=r 0 _ _ rfl rfl;cases s with|one _ _ s=>cases s with|ptr _ _ b s=>
 have O:=C.ok 0 _ _ rfl s;obtain⟨I,T,⟨W,h3,h4⟩,h5,h6⟩:=O;have f:∀ (i:Nat) v,I[i]?=some v->w.cell? ⟨b,i,none⟩=some v:=fun i v h=>by
  unfold World.cell?;rw[h3];exact h
 have h5:10<=I.size:=h5;have m:∀i,i<10->∃v,I[i]?=some v:=fun i h=>⟨_,aZR (by omega)⟩
 have d:∀ (i:Nat) n,(tvC x u y N (.slc (k.map fun n=>[ci n])))[i]?=some (.dc (ci n))->i < 10->w.cell? ⟨b,i,none⟩=some (.int .i64 n):=fun i n h M=>by
  obtain⟨v,r⟩:=m i M;have h7:=h6 i _ v h r;cases h7 with | dc _ _ h7=>cases h7 with | raw _ _=>exact f i _ r
 obtain⟨v,q⟩:=m 9 (by decide);have h7:=h6 9 _ v rfl q;have H:∃A cap,w.cell? ⟨b,9,none⟩=some (.slice A k.length cap)/\∀j,j<k.length->∃B off,A=some ⟨B,off,none⟩/\w.cell? ⟨B,off+j,none⟩=some (.int .i64 (k.getD j 0)):=by
  cases h7 with|dc _ _ h7=>
  generalize K:(k.map fun n=>[ci n])=es at h7
  cases h7 with
  |nil A c=>
   have R:k=[]:=by simpa using K
   subst R;exact⟨A,c,f 9 _ q,fun j D=>absurd D (Nat.not_lt_zero j)⟩
  |slc t off c size es g E S z J=>
   subst K;refine⟨some ⟨t,off,none⟩,c,?_,fun j D=>⟨t,off,rfl,aDb k t off size g F w C.fz E S z j D⟩⟩
   have:=f 9 _ q;rw[aY9] at this;exact this
 obtain⟨A,cap,h9,z⟩:=H;refine (aMt x k b A cap w U Q (d 0 _ rfl (by decide)) (d 1 _ rfl (by decide)) (d 2 _ rfl (by decide)) (d 3 _ rfl (by decide)) (d 4 _ rfl (by decide)) (d 5 _ rfl (by decide)) h9 z).mono ?_;rintro e w' ⟨rfl,P⟩;exact aHU C P (.one _ _ (.dc _ _ (.raw _ rfl)))
def Gc:L (L DC)->Option (L Int)
 |[]=>some []
 |[.raw (.int .i64 n)]::es=>(Gc es).map (n::·)
 |_::_=>none
theorem aHW(cl:L Int):Gc (cl.map fun n=>[ci n])=some cl:=by
 induction cl with
 |nil=>rfl
 |cons n cl a=>rw[aZl,Gc,a];rfl
theorem Uz:∀{es:L (L DC)}{a:L Int},Gc es=some a->es=a.map fun n=>[ci n]
 |[],a,h=>by simp[Gc] at h;subst h;rfl
 | e::es,a,h=>by
  unfold Gc at h;split at h
  ·rename_i b;cases b
  ·rename_i n c b;injection b with d f
   subst d;subst f;obtain⟨g,h3,h4⟩:=Option.map_eq_some_iff.1 h;subst h4;rw[Uz h3];rfl
  ·cases h
def aQY(x:Bt)(b c:DC)(N:Nat)(es:L (L DC))(cs:L aU):Option (L Int)->Option (AV×L aD)
 |some a=>if ((-1000000<=x.mi/\x.mi<=1000000)/\2<=x.cl/\x.cl<=1000000)/\a.length<=1000000 then some (vb (uH x a),[Bm x b c N (.slc es),.box cs]) else none
 |none=>none
def aMu:L AV->L aD->Option (AV×L aD)
 |[.one (.ptr 0 0)],[.box [.dc (.raw (.int .i64 a0)),.dc (.raw (.int .i64 a1)),.dc (.raw (.int .i64 a2)),.dc (.raw (.int .i64 a3)),.dc (.raw (.int .i64 a4)),.dc (.raw (.int .i64 a5)),.dc d6,.dc d7,.bls 1 0 N 1,.dc (.slc es)],.box cs]=>aQY ⟨a0,a1,a2,a3,a4,a5⟩ d6 d7 N es cs (Gc es)
 |_,_=>none
theorem aMv{G:aE}{d:L AV}{hp c:L aD}{av:AV}{o':L aD}(h:aMu d hp=some (av,o'))(b:c.map aR=hp):AC Tryz.prog G 97 d c fun a o=>a=av/\o.map aR=o':=by
 unfold aMu at h;split at h;rename_i k l m r s t v w N es cs;unfold aQY at h;split at h;rename_i u j;split at h;rename_i x;injection h with h;injection h with g f;subst g;subst f
 have e:=Uz j;subst e;have i:c=[.box [.dc (.raw (.int .i64 k)),.dc (.raw (.int .i64 l)),.dc (.raw (.int .i64 m)),.dc (.raw (.int .i64 r)),.dc (.raw (.int .i64 s)),.dc (.raw (.int .i64 t)),.dc v,.dc w,.bls 1 0 N 1,.dc (.slc (u.map fun n=>[ci n]))],.box cs]:=by
  match c,b with
  | [p,q],b=>
   simp only[aZl,aZm,List.cons.injEq,and_true] at b;obtain⟨g,f⟩:=b;cases p with
   | box y=>cases q with
    | box z=>simp only[aR] at g f;rw[g,f]
    | _=>simp[aR] at f
   | _=>simp[aR] at g
  | [],b=>simp at b
  | [_],b=>simp at b
  | _::_::_::_,b=>simp at b
 subst i;exact (aHV (G:=G) ⟨k,l,m,r,s,t⟩ v w N u cs x.1 x.2).gh (fun a o ⟨g,f⟩ _=>⟨a,o,Gh.refl,by rw[f];exact aZe _,g,by rw[f];rfl⟩)
 cases h;cases h;cases h
theorem aQZ(x:Bt)(b c:DC)(N:Nat)(a:L Int)(cs:L aU)(e:(-1000000<=x.mi/\x.mi<=1000000)/\2<=x.cl/\x.cl<=1000000)(d:a.length<=1000000):aMu [.one (.ptr 0 0)] [Bm x b c N (.slc (a.map fun n=>[ci n])),.box cs]=some (vb (uH x a),[Bm x b c N (.slc (a.map fun n=>[ci n])),.box cs]):=by
 show aQY x b c N _ cs (Gc _)=_;rw[aHW];show (if _ then _ else _)=_
 rw[if_pos ⟨e,d⟩]
