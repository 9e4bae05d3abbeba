/- Whether the clusters of a table clash, as a contract over a view. Conditions: as each theorem says. -/
import Derived.Test.YthepfneloomngaaGreatDoorPm
import Derived.Test.YthepfneloomngaaGreatDoorUd
namespace Go.Proofs.YthepfneloomngaaGreatDoor
set_option linter.unusedSimpArgs false
set_option linter.unusedVariables false
open Go.RowKit
abbrev tvC(x:Bt)(d6 d7:DC)(N:Nat)(d9:DC):List aT:=[.dc (ci x.cl),.dc (ci x.tb),.dc (ci x.mi),.dc (ci x.lg),.dc (ci x.lc),.dc (ci x.se),.dc d6,.dc d7,.bls 1 0 N 1,.dc d9]
abbrev rM(x:Bt)(d6 d7:DC)(N:Nat)(d9:DC):aC:=.box (tvC x d6 d7 N d9)
theorem aF7{F:Fz}{γ:List OI}{objs:List aC}{w w':World}{av:AV}{v:Value}(hi:dE F γ objs w)(hb:Below w.heap.size w w')(hv:RV F γ av v):
  ∃r av' objs' F' γ',Ending.returned v=.returned r/\(av'=av/\objs'=objs)/\objs.length<=objs'.length/\gU objs.length F γ w F' γ' w'/\dE F' γ' objs' w'/\RV F' γ' av' r:=by
 have hold:∀b o,w.heap[b]?=some o->w'.heap[b]?=some o:=fun b o h=>by rw[hb.block b (Array.getElem?_eq_some_iff.1 h).1];exact h
 have hown:∀b vs T,L5 w b vs T->L5 w' b vs T:=fun b vs T ⟨fz,h,h'⟩=>⟨fz,hold _ _ h,h'⟩
 refine⟨v,av,objs,F,γ,rfl,⟨rfl,rfl⟩,aXF _,⟨fun _ _ h=>h,hb.os,hb.tape,hb.output,hb.size,fun b h _=>hb.block b h,fun _ _ h=>.inl h,fun i b h=>.inl ⟨i,h⟩,fun _ _ _ h=>h⟩,
  ⟨fun b o h=>hold b o (hi.fz b o h),hi.len,hi.nd,hi.disj,fun i o x h1 h2=>?_⟩,hv⟩
 have h3:=hi.ok i o x h1 h2;cases o with
 | box cs=>cases x with
  | box b=>obtain⟨vs,T,h4,h5⟩:=h3;exact⟨vs,T,hown _ _ _ h4,h5⟩
  | arr b c=>cases b<;>exact h3
  | dead=>exact h3
 | arr cap size es=>cases x with
  | box b=>exact h3
  | arr b c=>cases b with
   | none=>exact h3
   | some b=>obtain⟨h5,h6,h7,vs,T,h8,h9⟩:=h3;exact⟨h5,h6,h7,vs,T,hown _ _ _ h8,h9⟩
  | dead=>exact h3
 | dead=>cases x with
  | box b=>exact h3
  | arr b c=>cases b<;>exact h3
  | dead=>exact h3
theorem aBM(cl:List Int)(b off size:Nat)(g:Nat->Nat->Value)(F:Fz)(w:World)(hf:∀b o,F b=some o->w.heap[b]?=some o)
  (hsz:∀e∈cl.map (fun n=>[ci n]),e.length=size)
  (hr:∀(i j:Nat) e d,(cl.map fun n=>[ci n])[i]?=some e->e[j]?=some d->RD F d (g i j))
  (hc:∀(i j:Nat) e d,(cl.map fun n=>[ci n])[i]?=some e->e[j]?=some d->F.cell? ⟨b,off+(i*size+j),none⟩=some (g i j)) (k:Nat) (hk:k<cl.length):
  w.cell? ⟨b,off+k,none⟩=some (.int .i64 (cl.getD k 0)):=by
 have e1:(cl.map fun n=>[ci n])[k]?=some [ci cl[k]]:=by rw[aXI,aXJ hk];rfl
 have h1:size=1:=(hsz [ci cl[k]] (by simp[aXM hk])).symm;subst h1;have h2:=hr k 0 _ (ci cl[k]) e1 rfl;have h3:=hc k 0 _ (ci cl[k]) e1 rfl;rw[aYv,aYp] at h3;have h4:=Fz.cell_world hf h3;generalize g k 0=v at h2 h4;cases h2;rw[h4];simp[hk]
theorem aF8{G:aE}(x:Bt)(d6 d7:DC)(N:Nat)(cl:List Int)(cs:List aT)(hx:(-1000000<=x.mi/\x.mi<=1000000)/\2<=x.cl/\x.cl<=1000000)(hl:cl.length<=1000000):
  AC Tryz.prog G 154 [.one (.ptr 0 0)] [rM x d6 d7 N (.slc (cl.map fun n=>[ci n])),.box cs] fun a o=>a=vb (Ck x cl)/\o=[rM x d6 d7 N (.slc (cl.map fun n=>[ci n])),.box cs]:=by
 intro F γ vs w hi hg hv;obtain⟨hz,hv⟩:=hv;obtain⟨p,rfl⟩:∃p,vs=#[p]:=by
  obtain⟨l⟩:=vs
  match l,hz with
  |[p],_=>exact⟨p,rfl⟩
 have h1:=hv 0 _ _ rfl rfl;cases h1 with|one _ _ h1=>cases h1 with|ptr _ _ b h1=>
 have h2:=hi.ok 0 _ _ rfl h1;obtain⟨us,T,⟨fz,h3,h4⟩,h5,h6⟩:=h2;have hcell:∀ (i:Nat) v,us[i]?=some v->w.cell? ⟨b,i,none⟩=some v:=fun i v h=>by
  unfold World.cell?;rw[h3];exact h
 have h5:10<=us.size:=h5;have hget:∀i,i<10->∃v,us[i]?=some v:=fun i h=>⟨_,aX8 (by omega)⟩
 have hint:∀ (i:Nat) n,(tvC x d6 d7 N (.slc (cl.map fun n=>[ci n])))[i]?=some (.dc (ci n))->i < 10->w.cell? ⟨b,i,none⟩=some (.int .i64 n):=fun i n h h'=>by
  obtain⟨v,hv⟩:=hget i h';have h7:=h6 i _ v h hv;cases h7 with | dc _ _ h7=>cases h7 with | raw _ _=>exact hcell i _ hv
 obtain⟨v,hv9⟩:=hget 9 (by decide);have h7:=h6 9 _ v rfl hv9;have key:∃A cap,w.cell? ⟨b,9,none⟩=some (.slice A cl.length cap)/\∀j,j<cl.length->∃B off,A=some ⟨B,off,none⟩/\w.cell? ⟨B,off+j,none⟩=some (.int .i64 (cl.getD j 0)):=by
  cases h7 with|dc _ _ h7=>
  generalize he:(cl.map fun n=>[ci n])=es at h7
  cases h7 with
  |nil A c=>
   have hn:cl=[]:=by simpa using he
   subst hn;exact⟨A,c,hcell 9 _ hv9,fun j hj=>absurd hj (Nat.not_lt_zero j)⟩
  |slc b2 off c size es g hsz hr hc hcap=>
   subst he;refine⟨some ⟨b2,off,none⟩,c,?_,fun j hj=>⟨b2,off,rfl,aBM cl b2 off size g F w hi.fz hsz hr hc j hj⟩⟩
   have:=hcell 9 _ hv9;rw[aXC] at this;exact this
 obtain⟨A,cap,h9,hc⟩:=key;refine (aKF x cl b A cap w hx hl (hint 0 _ rfl (by decide)) (hint 1 _ rfl (by decide)) (hint 2 _ rfl (by decide)) (hint 3 _ rfl (by decide)) (hint 4 _ rfl (by decide)) (hint 5 _ rfl (by decide)) h9 hc).mono ?_;rintro e w' ⟨rfl,hb⟩;exact aF7 hi hb (.one _ _ (.dc _ _ (.raw _ rfl)))
def El:List (List DC)->Option (List Int)
 |[]=>some []
 |[.raw (.int .i64 n)]::es=>(El es).map (n::·)
 |_::_=>none
theorem aF9(cl:List Int):El (cl.map fun n=>[ci n])=some cl:=by
 induction cl with
 |nil=>rfl
 |cons n cl ih=>rw[aXL,El,ih];rfl
theorem Sr:∀{es:List (List DC)}{cl:List Int},El es=some cl->es=cl.map fun n=>[ci n]
 |[],cl,h=>by simp[El] at h;subst h;rfl
 | e::es,cl,h=>by
  unfold El at h;split at h
  ·rename_i h0;cases h0
  ·rename_i n es' h0;injection h0 with h1 h2
   subst h1;subst h2;obtain⟨ys,h3,h4⟩:=Option.map_eq_some_iff.1 h;subst h4;rw[Sr h3];rfl
  ·cases h
def aPw(x:Bt)(d6 d7:DC)(N:Nat)(es:List (List DC))(cs:List aT):Option (List Int)->Option (AV×List aC)
 |some cl=>if ((-1000000<=x.mi/\x.mi<=1000000)/\2<=x.cl/\x.cl<=1000000)/\cl.length<=1000000 then some (vb (Ck x cl),[rM x d6 d7 N (.slc es),.box cs]) else none
 |none=>none
def aKG:List AV->List aC->Option (AV×List aC)
 |[.one (.ptr 0 0)],[.box [.dc (.raw (.int .i64 a0)),.dc (.raw (.int .i64 a1)),.dc (.raw (.int .i64 a2)),.dc (.raw (.int .i64 a3)),.dc (.raw (.int .i64 a4)),.dc (.raw (.int .i64 a5)),.dc d6,.dc d7,.bls 1 0 N 1,.dc (.slc es)],.box cs]=>aPw ⟨a0,a1,a2,a3,a4,a5⟩ d6 d7 N es cs (El es)
 |_,_=>none
theorem aKH{G:aE}{args:List AV}{hp hp0:List aC}{av:AV}{o':List aC}(h:aKG args hp=some (av,o'))(hh:hp0.map aP=hp):AC Tryz.prog G 154 args hp0 fun a o=>a=av/\o.map aP=o':=by
 unfold aKG at h;split at h;rename_i a0 a1 a2 a3 a4 a5 d6 d7 N es cs;unfold aPw at h;split at h;rename_i cl hcl;split at h;rename_i hc;injection h with h;injection h with h1 h2;subst h1;subst h2
 have e:=Sr hcl;subst e;have hp0e:hp0=[.box [.dc (.raw (.int .i64 a0)),.dc (.raw (.int .i64 a1)),.dc (.raw (.int .i64 a2)),.dc (.raw (.int .i64 a3)),.dc (.raw (.int .i64 a4)),.dc (.raw (.int .i64 a5)),.dc d6,.dc d7,.bls 1 0 N 1,.dc (.slc (cl.map fun n=>[ci n]))],.box cs]:=by
  match hp0,hh with
  | [p,q],hh=>
   simp only[aXL,aXT,List.cons.injEq,and_true] at hh;obtain⟨h1,h2⟩:=hh;cases p with
   | box ps=>cases q with
    | box qs=>simp only[aP] at h1 h2;rw[h1,h2]
    | _=>simp[aP] at h2
   | _=>simp[aP] at h1
  | [],hh=>simp at hh
  | [_],hh=>simp at hh
  | _::_::_::_,hh=>simp at hh
 subst hp0e;exact (aF8 (G:=G) ⟨a0,a1,a2,a3,a4,a5⟩ d6 d7 N cl cs hc.1 hc.2).gh (fun a o ⟨h1,h2⟩ _=>⟨a,o,Gh.refl,by rw[h2];exact aXF _,h1,by rw[h2];rfl⟩)
 cases h;cases h;cases h
theorem aPx(x:Bt)(d6 d7:DC)(N:Nat)(cl:List Int)(cs:List aT)(hx:(-1000000<=x.mi/\x.mi<=1000000)/\2<=x.cl/\x.cl<=1000000)(hl:cl.length<=1000000):
  aKG [.one (.ptr 0 0)] [rM x d6 d7 N (.slc (cl.map fun n=>[ci n])),.box cs]=some (vb (Ck x cl),[rM x d6 d7 N (.slc (cl.map fun n=>[ci n])),.box cs]):=by
 show aPw x d6 d7 N _ cs (El _)=_;rw[aF9];show (if _ then _ else _)=_
 rw[if_pos ⟨hx,hl⟩]
end Go.Proofs.YthepfneloomngaaGreatDoor
