/- What the frame of RecordRefs needs: the variables that its row lists. Conditions: none. -/
import Derived.Test.YtcplecjhmnblpaaGreatDoorUb
import Derived.Lib.SplitLaws
import Derived.Test.YtcplecjhmnblpaaGreatDoorQm
import Derived.Test.YtcplecjhmnblpaaGreatDoorTf
import Derived.Lib.Itoa
import Derived.Lib.ItoaMem
import Derived.Lib.AtoiTie
import Derived.Test.YtcplecjhmnblpaaGreatDoorSl
import Derived.Test.YtcplecjhmnblpaaGreatDoorSz
import Derived.Test.YtcplecjhmnblpaaGreatDoorSq
import Derived.Test.YtcplecjhmnblpaaGreatDoorSd
namespace Go.Proofs.YtcplecjhmnblpaaGreatDoor
set_option linter.unusedSimpArgs false
set_option linter.unusedVariables false
set_option maxRecDepth 4000
section
section
variable {α:Type}
def cnsH (x:α):List (List α)→List (List α)
 | []=>[[x]]
 | p::ps=>(x::p)::ps
end
section
variable {α:Type} [DecidableEq α]
def spl (c:α):List α→List (List α)
 | []=>[[]]
 | x::l=>if x=c then []::spl c l else cnsH x (spl c l)
def ctI (c:α):List α→List α × List α × Bool
 | []=>([],[],false)
 | x::l=>if x=c then ([],l,true) else (x::(ctI c l).1,(ctI c l).2.1,(ctI c l).2.2)
theorem spl_ne (c:α):∀ l,spl c l≠[]
 | []=>by simp [spl]
 | x::l=>by
  rw [spl]
  split
  ·simp
  ·cases spl c l<;>simp [cnsH]
theorem ctI_map {β:Type} [DecidableEq β] (f:α→β) (c:α):∀ l:List α,(∀ x∈l,f x=f c→x=c)→ctI (f c) (l.map f)=((ctI c l).1.map f,(ctI c l).2.1.map f,(ctI c l).2.2)
 | [],_=>rfl
 | x::l,h=>by
  have ih:=ctI_map f c l (fun y hy=>h y (List.mem_cons_of_mem _ hy))
  rw [List.map_cons,ctI,ctI]
  by_cases e:x=c
  ·rw [if_pos e,if_pos (by rw [e])];rfl
  ·rw [if_neg e,if_neg (fun q=>e (h x List.mem_cons_self q)),ih];rfl
theorem spl_free (c:α):∀ l:List α,c∉l→spl c l=[l]
 | [],_=>rfl
 | x::l,h=>by
  rw [spl,if_neg (fun e=>h (by rw [e];exact List.mem_cons_self)),spl_free c l (fun q=>h (List.mem_cons_of_mem _ q))];rfl
theorem ctI_free (c:α):∀ l:List α,c∉l→ctI c l=(l,[],false)
 | [],_=>rfl
 | x::l,h=>by
  rw [ctI,if_neg (fun e=>h (by rw [e];exact List.mem_cons_self)),ctI_free c l (fun q=>h (List.mem_cons_of_mem _ q))]
theorem spl_app (c:α):∀ a b:List α,c∉a→spl c (a++c::b)=a::spl c b
 | [],b,_=>by rw [List.nil_append,spl,if_pos rfl]
 | x::a,b,h=>by
  rw [List.cons_append,spl,if_neg (fun e=>h (by rw [e];exact List.mem_cons_self)),spl_app c a b (fun q=>h (List.mem_cons_of_mem _ q))];rfl
theorem ctI_app (c:α):∀ a b:List α,c∉a→ctI c (a++c::b)=(a,b,true)
 | [],b,_=>by rw [List.nil_append,ctI,if_pos rfl]
 | x::a,b,h=>by
  rw [List.cons_append,ctI,if_neg (fun e=>h (by rw [e];exact List.mem_cons_self)),ctI_app c a b (fun q=>h (List.mem_cons_of_mem _ q))]
theorem ctI_cases (c:α):∀ l:List α,(c∉l∧ctI c l=(l,[],false))∨∃ a b,l=a++c::b∧c∉a∧ctI c l=(a,b,true):=by
 intro l
 by_cases h:c∈l
 ·obtain ⟨a,b,rfl,h2⟩:∃ a b,l=a++c::b∧c∉a:=List.eq_append_cons_of_mem h
  exact .inr ⟨a,b,rfl,h2,ctI_app c a b h2⟩
 ·exact .inl ⟨h,ctI_free c l h⟩
theorem spl_snoc (c x:α):∀ l:List α,spl c (l++[x])=if x=c then spl c l++[[]] else (spl c l).dropLast++[(spl c l).getLastD []++[x]]
 | []=>by
  by_cases e:x=c
  ·subst e;simp [spl]
  ·simp [spl,e,cnsH]
 | y::l=>by
  have ih:=spl_snoc c x l
  have hn:=spl_ne c l
  rw [List.cons_append,spl,ih]
  simp only [spl]
  generalize spl c l=S at *
  cases S with
  | nil=>exact absurd rfl hn
  | cons p ps=>
   by_cases e:x=c
   ·rw [if_pos e,if_pos e]
    by_cases d:y=c
    ·rw [if_pos d,if_pos d];rfl
    ·rw [if_neg d,if_neg d];rfl
   ·rw [if_neg e,if_neg e]
    by_cases d:y=c
    ·rw [if_pos d,if_pos d];rfl
    ·rw [if_neg d,if_neg d]
     cases ps with
     | nil=>rfl
     | cons q qs=>rfl
end
theorem index_one (b c:UInt8) (l:List UInt8):Lib.index (b::l) [c]=if b=c then 0 else if Lib.index l [c]=-1 then -1 else Lib.index l [c]+1:=by
 rw [Lib.index]
 have:[c].isPrefixOf (b::l)=(c==b):=by simp [List.isPrefixOf]
 rw [this]
 by_cases h:b=c
 ·subst h;simp
 ·have h2:¬ (c==b)=true:=by simpa using fun e:c=b=>h e.symm
  rw [if_neg h2,if_neg h];simp only [beq_iff_eq]
theorem cut_one (c:UInt8):∀ l:List UInt8,Lib.cut l [c]=ctI c l
 | []=>by simp [Lib.cut,Lib.index,ctI]
 | b::l=>by
  have ih:=cut_one c l
  have hg:=Lib.index_ge l [c]
  unfold Lib.cut at ih ⊢
  rw [index_one,ctI,← ih]
  by_cases h:b=c
  ·simp [h]
  ·rw [if_neg h,if_neg h]
   by_cases h2:Lib.index l [c]=-1
   ·rw [if_pos h2,h2];rfl
   ·rw [if_neg h2]
    have h3:0≤Lib.index l [c]:=by omega
    have h4:0≤Lib.index l [c]+1:=by omega
    have h5:(Lib.index l [c]+1).toNat=(Lib.index l [c]).toNat+1:=by omega
    rw [if_pos h3,if_pos h4,h5]
    simp [Nat.add_right_comm]
theorem u8_inj {c:Int} (hc:0≤c∧c≤255) {l:List Int} (hl:Byts l):∀ x∈l,u8 x=u8 c→x=c:=fun x hx e=>by
 rw [← u8_nat x (hl x hx),← u8_nat c hc,e]
theorem cut_s {c:Int} (hc:0≤c∧c≤255) {l:List Int} (hl:Byts l):Lib.cut (str l).data.toList (str [c]).data.toList=((ctI c l).1.map u8,(ctI c l).2.1.map u8,(ctI c l).2.2):=by
 have h3:(str [c]).data.toList=[u8 c]:=by rw [str_data];rfl
 rw [h3,str_data l,cut_one,ctI_map u8 c l (u8_inj hc hl)]
end
section
variable {G:Glob} {bb:Bool}
open Go.RowKit
def pwD:List DC:=Lib.pow10Tab.map fun n=>.raw (.int .u64 n)
structure GR (G:Glob):Prop where
 pw:G 12=some pwD
 ml:∃ m,G 11=some [ci m]
 sy:∃ t p,G 13=some [.raw (.iface t p)]
 rg:∃ t p,G 14=some [.raw (.iface t p)]
theorem Tryz.g_pw:Tryz.prog.globalNamed "internal/strconv.uint64pow10"=some 12:=by kernel_rfl
theorem tab_of {F:Fz} {G:Glob} {w:World} (hg:GlobOK F G) (hf:∀ b o,F b=some o→w.heap[b]?=some o) (h:G 12=some pwD):Lib.TabIs Tryz.prog w "internal/strconv.uint64pow10" .u64 Lib.pow10Tab:=by
 obtain ⟨o,h1,arr,t,z,rfl,h2⟩:=hg.sz 12 _ h
 have h3:=hg.rc 12 _ h []
 have h4:=hf _ _ h1
 unfold Lib.TabIs World.var?
 rw [Tryz.g_pw,Option.bind_some]
 simp only [h4]
 congr 1
 apply Array.ext_getElem?
 intro j
 simp only [List.getElem?_toArray,List.getElem?_map]
 cases h3 with
 | ref _ _ _ g hr hc=>
  cases hj:Lib.pow10Tab[j]? with
  | none=>
   have:Lib.pow10Tab.length≤j:=List.getElem?_eq_none_iff.1 hj
   rw [Array.getElem?_eq_none (by rw [h2];simpa [pwD] using this)];rfl
  | some n=>
   have hd:pwD[j]?=some (.raw (.int .u64 n)):=by unfold pwD;rw [List.getElem?_map,hj];rfl
   have c:=hc j _ hd
   have r:=hr j _ hd
   generalize g j=v at c r
   cases r
   unfold Fz.cell? at c
   simp only [h1] at c
   simpa using c
theorem raw_of {F:Fz} {G:Glob} {w:World} (hg:GlobOK F G) (hf:∀ b o,F b=some o→w.heap[b]?=some o) {g:Nat} {v:Value} (h:G g=some [.raw v]):w.cell? ⟨g,0,none⟩=some v:=by
 have h3:=hg.rc g _ h []
 cases h3 with
 | ref _ _ _ k hr hc=>
  have c:=hc 0 _ rfl
  have r:=hr 0 _ rfl
  generalize k 0=u at c r
  cases r
  exact Fz.cell_world hf c
theorem bel_post {F:Fz} {γ:List OI} {w w':World} {av:AV} {v:Value} (hi:Inv F γ [] w) (hb:Below w.heap.size w w') (hv:RV F γ av v):
  ∃ r av' objs' F' γ',Ending.returned v=.returned r∧(av'=av∧objs'=[])∧0≤objs'.length∧Ext 0 F γ w F' γ' w'∧Inv F' γ' objs' w'∧RV F' γ' av' r:=by
 have hg:γ=[]:=List.eq_nil_of_length_eq_zero hi.len
 subst hg
 refine ⟨v,av,[],F,[],rfl,⟨rfl,rfl⟩,Nat.zero_le _,⟨fun _ _ h=>h,hb.os,hb.tape,hb.output,hb.size,fun b h _=>hb.block b h,fun _ _ h=>.inl h,(fun _ _ h=>by cases h),(fun _ h=>by omega)⟩,
  ⟨fun b o h=>?_,rfl,(fun _ _ _ h=>by cases h),(fun _ _ h=>by cases h),(fun _ _ _ h=>by cases h)⟩,hv⟩
 have h1:=hi.fz b o h
 rw [hb.block b ((Array.getElem?_eq_some_iff.1 h1).1)]
 exact h1
theorem ar1 {F:Fz} {γ:List OI} {a:AV} {vs:Array Value} (hv:argsOK F γ [a] vs):∃ x,vs=#[x]∧RV F γ a x:=by
 obtain ⟨hz,hv⟩:=hv
 obtain ⟨l⟩:=vs
 match l,hz with
 | [x],_=>exact ⟨x,rfl,hv 0 _ _ rfl rfl⟩
theorem ar2 {F:Fz} {γ:List OI} {a b:AV} {vs:Array Value} (hv:argsOK F γ [a,b] vs):∃ x y,vs=#[x,y]∧RV F γ a x∧RV F γ b y:=by
 obtain ⟨hz,hv⟩:=hv
 obtain ⟨l⟩:=vs
 match l,hz with
 | [x,y],_=>exact ⟨x,y,rfl,hv 0 _ _ rfl rfl,hv 1 _ _ rfl rfl⟩
theorem itoa_qcG {G:Glob} (h2:G 12=some pwD) {n:Int} (h0:-9223372036854775808≤n) (h1:n≤9223372036854775807):QC Tryz.prog G 109 [.one (.dc (.raw (.int .i64 n)))] (.one (.dc (.raw (.string ⟨(Lib.itoa n).toArray⟩)))):=by
 intro F γ vs w hi hg hv
 obtain ⟨x,rfl,hx⟩:=ar1 hv
 have hx:=rv_raw hx
 subst hx
 refine (Tryz.strconv_Itoa n h0 h1 w (tab_of hg hi.fz h2)).mono ?_
 rintro e w' ⟨rfl,k,os,rfl⟩
 exact bel_post hi (Lib.below_grow _ w (Nat.le_refl _) k os) (.one _ _ (.dc _ _ (.raw _ rfl)))
theorem cut_qc {G:Glob} {m:Int} (hm:G 11=some [ci m]) {s sep:ByteArray} (hs:s.size < 4294967281):
  QC Tryz.prog G 110 [.one (.dc (.raw (.string s))),.one (.dc (.raw (.string sep)))] (.tup [.one (.dc (.raw (.string ⟨(Lib.cut s.data.toList sep.data.toList).1.toArray⟩))),.one (.dc (.raw (.string ⟨(Lib.cut s.data.toList sep.data.toList).2.1.toArray⟩))),.one (.dc (.raw (.bool (Lib.cut s.data.toList sep.data.toList).2.2)))]):=by
 intro F γ vs w hi hg hv
 obtain ⟨x,y,rfl,hx,hy⟩:=ar2 hv
 have hx:=rv_raw hx
 have hy:=rv_raw hy
 subst hx;subst hy
 refine (Tryz.strings_Cut s sep m w hs (raw_of hg hi.fz hm)).mono ?_
 rintro e w' ⟨rfl,n,rfl⟩
 have hb:Below w.heap.size w (w.drewN n):=by
  have:=Lib.below_grow w.heap.size w (Nat.le_refl _) n #[]
  exact ⟨this.os,this.tape,this.output,Nat.le_refl _,fun _ _=>rfl⟩
 refine bel_post hi hb (.tup _ _ rfl (fun i t v h1 h2=>?_))
 match i with
 | 0=>injection h1 with h1;injection h2 with h2;subst h1;subst h2;exact .one _ _ (.dc _ _ (.raw _ rfl))
 | 1=>injection h1 with h1;injection h2 with h2;subst h1;subst h2;exact .one _ _ (.dc _ _ (.raw _ rfl))
 | 2=>injection h1 with h1;injection h2 with h2;subst h1;subst h2;exact .one _ _ (.dc _ _ (.raw _ rfl))
 | n+3=>simp at h1
abbrev natA (p:Int × Bool):AV:=.tup [.one (.dc (.raw (.int .i64 p.1))),.one (.dc (.raw (.bool p.2)))]
theorem nat_qc {G:Glob} (hG:GR G) {s:ByteArray} (hs:s.size≤1000000):QC Tryz.prog G 111 [.one (.dc (.raw (.string s)))] (natA (natP s)):=by
 intro F γ vs w hi hg hv
 obtain ⟨x,rfl,hx⟩:=ar1 hv
 have hx:=rv_raw hx
 subst hx
 obtain ⟨t1,p1,h1⟩:=hG.sy
 obtain ⟨t2,p2,h2⟩:=hG.rg
 refine (nat_calls s hs w (tab_of hg hi.fz hG.pw) (raw_of hg hi.fz h1) (raw_of hg hi.fz h2)).mono ?_
 rintro e w' ⟨rfl,hb⟩
 refine bel_post hi hb (.tup _ _ rfl (fun i t v h1 h2=>?_))
 match i with
 | 0=>injection h1 with h1;injection h2 with h2;subst h1;subst h2;exact .one _ _ (.dc _ _ (.raw _ rfl))
 | 1=>injection h1 with h1;injection h2 with h2;subst h1;subst h2;exact .one _ _ (.dc _ _ (.raw _ rfl))
 | n+2=>simp at h1
def itoaG:List AV→List AObj→Option (AV × List AObj)
 | [.one (.dc (.raw (.int .i64 n)))],[]=>if -9223372036854775808≤n∧n≤9223372036854775807 then some (.one (.dc (.raw (.string ⟨(Lib.itoa n).toArray⟩))),[]) else none
 | _,_=>none
def cutK:List AV→List AObj→Option (AV × List AObj)
 | [.one (.dc (.raw (.string s))),.one (.dc (.raw (.string sep)))],[]=>if s.size < 4294967281 then some (.tup [.one (.dc (.raw (.string ⟨(Lib.cut s.data.toList sep.data.toList).1.toArray⟩))),.one (.dc (.raw (.string ⟨(Lib.cut s.data.toList sep.data.toList).2.1.toArray⟩))),.one (.dc (.raw (.bool (Lib.cut s.data.toList sep.data.toList).2.2)))],[]) else none
 | _,_=>none
def natK:List AV→List AObj→Option (AV × List AObj)
 | [.one (.dc (.raw (.string s)))],[]=>if s.size≤1000000 then some (natA (natP s),[]) else none
 | _,_=>none
noncomputable def bsR (b:Bool):CallT:=fun f args hp=>if f=109 then itoaG args hp else if f=110 then cutK args hp else if f=111 then natK args hp else bsS b f args hp
theorem bsR_ok {G:Glob} {b:Bool} (hG:GR G) (hA:b=true→QC Tryz.prog G 11 [] (.one (.dc (.raw (.bool true))))):CallOK Tryz.prog G (bsR b):=by
 intro f args hp av o' h hp0 hh
 unfold bsR at h
 split at h
 ·rename_i hf
  subst hf
  refine ⟨by kernel_rfl, ?_⟩
  unfold itoaG at h
  split at h
  ·split at h
   ·rename_i hn
    injection h with h;injection h with h1 h2;subst h1;subst h2
    have:hp0=[]:=by simpa using hh
    subst this
    exact qc_post (itoa_qcG hG.pw hn.1 hn.2)
   ·cases h
  ·cases h
 ·split at h
  ·rename_i hf
   subst hf
   refine ⟨by kernel_rfl, ?_⟩
   obtain ⟨m,hm⟩:=hG.ml
   unfold cutK at h
   split at h
   ·split at h
    ·rename_i hn
     injection h with h;injection h with h1 h2;subst h1;subst h2
     have:hp0=[]:=by simpa using hh
     subst this
     exact qc_post (cut_qc hm hn)
    ·cases h
   ·cases h
  ·split at h
   ·rename_i hf
    subst hf
    refine ⟨by kernel_rfl, ?_⟩
    unfold natK at h
    split at h
    ·split at h
     ·rename_i hn
      injection h with h;injection h with h1 h2;subst h1;subst h2
      have:hp0=[]:=by simpa using hh
      subst this
      exact qc_post (nat_qc hG hn)
     ·cases h
    ·cases h
   ·exact bsO_ok hA f args hp av o' h hp0 hh
theorem bsS_subR {b:Bool} (f:FuncId) (args:List AV) (hp:List AObj) (r:AV × List AObj) (h:bsS b f args hp=some r):bsR b f args hp=some r:=by
 unfold bsR
 split
 ·rename_i hf
  subst hf
  have h:(none:Option (AV × List AObj))=some r:=h
  cases h
 ·split
  ·rename_i hf
   subst hf
   have h:(none:Option (AV × List AObj))=some r:=h
   cases h
  ·split
   ·rename_i hf
    subst hf
    have h:(none:Option (AV × List AObj))=some r:=h
    cases h
   ·exact h
theorem upR {G:Glob} {b:Bool} {f:FuncId} {a:List AV} {hp:List AObj} {r:AV × List AObj} (h:EV G (Tb (bsS b)) f a hp=some r):EV G (Tb (bsR b)) f a hp=some r:=
 EV_up (T:=Tb (bsS b)) (T':=Tb (bsR b)) (fun _=>rfl) (fun f a hp r _ h=>bsS_subR f a hp r h) h
end
section
def dgL (n:Nat):List Int:=if h:n < 10 then [48+(n:Int)] else dgL (n / 10)++[48+((n % 10:Nat):Int)]
termination_by n
decreasing_by omega
def dcI (n:Int):List Int:=if n < 0 then 45::dgL n.natAbs else dgL n.toNat
theorem u8_add (n:Nat) (h:n < 10):u8 (48+(n:Int))=UInt8.ofNat (48+n):=by
 unfold u8
 congr 1
theorem dgL_u8 (n:Nat):(dgL n).map u8=Lib.decDigits n:=by
 induction n using Nat.strongRecOn with
 | _ n ih=>
  rw [dgL,Lib.decDigits]
  by_cases h:n < 10
  ·rw [dif_pos h,dif_pos h,List.map_cons,List.map_nil,u8_add n h]
  ·rw [dif_neg h,dif_neg h,List.map_append,ih (n / 10) (by omega),List.map_cons,List.map_nil,u8_add (n % 10) (by omega)]
theorem itoa_u8 (n:Int):Lib.itoa n=(dcI n).map u8:=by
 unfold Lib.itoa dcI
 split
 ·rw [List.map_cons,dgL_u8];rfl
 ·rw [dgL_u8]
theorem itoa_s (n:Int):(⟨(Lib.itoa n).toArray⟩:ByteArray)=str (dcI n):=by
 apply ByteArray.ext
 apply Array.ext'
 rw [itoa_u8]
 simp [str]
theorem dgL_len:∀ (k n:Nat),n < 10 ^ (k+1)→(dgL n).length≤k+1
 | 0,n,h=>by rw [dgL,dif_pos (by simpa using h)];simp
 | k+1,n,h=>by
  rw [dgL]
  split
  ·simp
  ·have:=dgL_len k (n / 10) (by rw [Nat.pow_succ] at h;omega)
   simp only [List.length_append,List.length_cons,List.length_nil]
   omega
def Dgs (l:List Int):Prop:=∀ b∈l,48≤b∧b≤57
theorem dgL_dgs (n:Nat):Dgs (dgL n):=by
 induction n using Nat.strongRecOn with
 | _ n ih=>
  rw [dgL]
  intro b hb
  by_cases h:n < 10
  ·rw [dif_pos h] at hb
   simp at hb
   omega
  ·rw [dif_neg h] at hb
   rcases List.mem_append.1 hb with hb | hb
   ·exact ih (n / 10) (by omega) b hb
   ·simp at hb
    omega
theorem Dgs.byts {l:List Int} (h:Dgs l):Byts l:=fun b hb=>by have:=h b hb;omega
theorem dgL_byts (n:Nat):Byts (dgL n):=(dgL_dgs n).byts
theorem dgL_ne (n:Nat):dgL n≠[]:=by
 rw [dgL]
 split<;>simp
theorem dcI_byts (n:Int):Byts (dcI n):=by
 unfold dcI
 split
 ·intro b hb
  rcases List.mem_cons.1 hb with rfl | hb
  ·omega
  ·exact dgL_byts _ b hb
 ·exact dgL_byts _
def dgZ (n:Nat):List Int:=if n=0 then [] else dgL n
theorem dgZ_s (n:Nat) (h:n≠0):dgZ n=dgZ (n / 10)++[48+((n % 10:Nat):Int)]:=by
 unfold dgZ
 rw [if_neg h]
 by_cases h1:n < 10
 ·rw [dgL,dif_pos h1,if_pos (by omega),Nat.mod_eq_of_lt h1];rfl
 ·rw [dgL,dif_neg h1,if_neg (by omega)]
def inR (n:Int):Prop:=-9223372036854775808≤n∧n≤9223372036854775807
theorem dcI_len {n:Int} (h:inR n):(dcI n).length≤20:=by
 unfold inR at h
 unfold dcI
 split
 ·have:=dgL_len 18 n.natAbs (by omega)
  simp;omega
 ·have:=dgL_len 18 n.toNat (by omega)
  omega
def valL (a:Int):List Int→Int
 | []=>a
 | x::l=>valL (a * 10+(x - 48)) l
theorem valL_app:∀ (l:List Int) (a x:Int),valL a (l++[x])=valL a l * 10+(x - 48)
 | [],a,x=>rfl
 | y::l,a,x=>by rw [List.cons_append,valL,valL,valL_app l]
theorem valL_dgL (n:Nat):valL 0 (dgL n)=n:=by
 induction n using Nat.strongRecOn with
 | _ n ih=>
  rw [dgL]
  by_cases h:n < 10
  ·rw [dif_pos h];simp [valL];omega
  ·rw [dif_neg h,valL_app,ih (n / 10) (by omega)];omega
theorem valL_le:∀ (l:List Int) (a:Int),0≤a→Dgs l→0≤valL a l∧valL a l < (a+1) * ((10 ^ l.length:Nat):Int)
 | [],a,h,_=>by simp [valL];omega
 | x::l,a,h,hd=>by
  have hx:=hd x List.mem_cons_self
  have ih:=valL_le l (a * 10+(x - 48)) (by omega) (fun b hb=>hd b (List.mem_cons_of_mem _ hb))
  rw [valL]
  refine ⟨ih.1,Int.lt_of_lt_of_le ih.2 ?_⟩
  have e:((10 ^ (x::l).length:Nat):Int)=10 * ((10 ^ l.length:Nat):Int):=by rw [List.length_cons,Nat.pow_succ];omega
  rw [e,← Int.mul_assoc]
  exact Int.mul_le_mul_of_nonneg_right (by omega) (Int.natCast_nonneg _)
structure Cano (l:List Int):Prop where
 ne:l≠[]
 d:Dgs l
 z:l.head?=some 48→l.length=1
theorem head_app {l m:List Int} (h:l≠[]):(l++m).head?=l.head?:=by
 cases l with
 | nil=>exact absurd rfl h
 | cons x l=>rfl
theorem dgL_cano (n:Nat):Cano (dgL n):=by
 refine ⟨dgL_ne n,dgL_dgs n, ?_⟩
 induction n using Nat.strongRecOn with
 | _ n ih=>
  rw [dgL]
  by_cases h:n < 10
  ·rw [dif_pos h];intro _;rfl
  ·rw [dif_neg h]
   intro h2
   rw [head_app (dgL_ne _)] at h2
   have h3:=ih (n / 10) (by omega) h2
   have h4:dgL (n / 10)=[48]:=by
    match hd:dgL (n / 10),h2,h3 with
    | [x],h2,_=>simpa using h2
   have:=valL_dgL (n / 10)
   rw [h4] at this
   simp [valL] at this
   omega
theorem Cano.val:∀ {k:Nat} {l:List Int},l.length=k→Cano l→dgL (valL 0 l).toNat=l:=by
 intro k
 induction k with
 | zero=>intro l h c;exact absurd (List.length_eq_zero_iff.1 h) c.ne
 | succ k ih=>
  intro l h c
  obtain ⟨l',x,rfl⟩:∃ l' x,l=l'++[x]:=⟨l.dropLast,l.getLast c.ne,(List.dropLast_concat_getLast c.ne).symm⟩
  have hx:=c.d x (by simp)
  have hl:l'.length=k:=by simpa using h
  rw [valL_app]
  by_cases hk:l'=[]
  ·subst hk
   simp only [valL]
   rw [dgL,dif_pos (by omega)]
   simp;omega
  ·have d':Dgs l':=fun b hb=>c.d b (List.mem_append_left _ hb)
   have c':Cano l':=⟨hk,d',fun h2=>by
    have:=c.z (by rw [head_app hk];exact h2)
    have h0:l'.length≠0:=fun e=>hk (List.length_eq_zero_iff.1 e)
    rw [List.length_append] at this
    exact absurd this (by simp only [List.length_cons,List.length_nil];omega)⟩
   have e:=ih hl c'
   have hv:=valL_le l' 0 (by omega) d'
   have h1:1≤valL 0 l':=by
    by_cases h0:valL 0 l'=0
    ·rw [h0] at e
     have e2:l'=[48]:=by rw [← e];rw [dgL];rfl
     have:=c.z (by rw [e2];rfl)
     rw [e2] at this
     simp at this
    ·omega
   have e3:(valL 0 l' * 10+(x - 48)).toNat / 10=(valL 0 l').toNat:=by omega
   have e4:(((valL 0 l' * 10+(x - 48)).toNat % 10:Nat):Int)=x - 48:=by omega
   rw [dgL,dif_neg (by omega),e3,e,e4]
   congr 2
   omega
def natB (d:Nat) (l:List Int):Bool:=(!l.isEmpty)&&decide (l.length≤d)&&l.all (fun x=>decide (48≤x)&&decide (x≤57))&&(decide (l.length=1)||!(l.head?==some 48))
theorem natB_iff {d:Nat} {l:List Int}:natB d l=true↔Cano l∧l.length≤d:=by
 unfold natB
 simp only [Bool.and_eq_true,Bool.not_eq_true',decide_eq_true_eq,List.all_eq_true,Bool.or_eq_true,beq_eq_false_iff_ne,ne_eq,List.isEmpty_eq_false_iff]
 constructor
 ·rintro ⟨⟨⟨h1,h2⟩,h3⟩,h4⟩
  exact ⟨⟨h1,h3,fun h=>by rcases h4 with h4 | h4;exact h4;exact absurd h h4⟩,h2⟩
 ·rintro ⟨⟨h1,h3,h4⟩,h2⟩
  refine ⟨⟨⟨h1,h2⟩,h3⟩, ?_⟩
  by_cases h:l.head?=some 48
  ·exact .inl (h4 h)
  ·exact .inr h
theorem natB_val {d:Nat} {l:List Int} (h:natB d l=true) (hd:d≤9):0≤valL 0 l∧valL 0 l < 1000000000∧dcI (valL 0 l)=l:=by
 obtain ⟨c,hl⟩:=natB_iff.1 h
 have hv:=valL_le l 0 (by omega) c.d
 have hp:10 ^ l.length≤10 ^ 9:=Nat.pow_le_pow_right (by omega) (by omega)
 have e9:10 ^ 9=1000000000:=by decide
 refine ⟨hv.1,by omega, ?_⟩
 unfold dcI
 rw [if_neg (by omega),Cano.val rfl c]
theorem dcI_nat {n:Int} (h:0≤n) (d:Nat) (hl:(dcI n).length≤d):natB d (dcI n)=true∧valL 0 (dcI n)=n:=by
 unfold dcI at hl ⊢
 rw [if_neg (by omega)] at hl ⊢
 exact ⟨natB_iff.2 ⟨dgL_cano _,hl⟩,by rw [valL_dgL];omega⟩
theorem dec_u8:∀ (l:List Int) (a:Nat),Dgs l→Lib.decFrom a (l.map u8)=some (valL a l).toNat
 | [],a,_=>by simp [Lib.decFrom,valL]
 | x::l,a,h=>by
  have hx:=h x List.mem_cons_self
  have hn:(u8 x).toNat=x.toNat:=by have:=u8_nat x (by omega);omega
  have ih:=dec_u8 l (a * 10+(x.toNat - 48)) (fun b hb=>h b (List.mem_cons_of_mem _ hb))
  rw [List.map_cons,Lib.decFrom,Lib.digitVal,hn,if_pos (by omega)]
  simp only
  rw [ih,valL]
  have e:((a * 10+(x.toNat - 48):Nat):Int)=(a:Int) * 10+(x - 48):=by omega
  rw [e]
theorem atoi_u8 {l:List Int} (hn:l≠[]) (h:Dgs l) (hl:l.length≤18):Lib.atoiAll (l.map u8)=.ok (valL 0 l):=by
 rw [Lib.atoiAll_short _ (by simpa using hl)]
 match l,hn with
 | x::l,_=>
  have hx:=h x List.mem_cons_self
  have hn:(u8 x).toNat=x.toNat:=by have:=u8_nat x (by omega);omega
  have h45:(u8 x==45)=false:=by
   rw [beq_eq_false_iff_ne];intro e;rw [e] at hn
   have:(45:UInt8).toNat=45:=rfl
   omega
  have h43:(u8 x==43)=false:=by
   rw [beq_eq_false_iff_ne];intro e;rw [e] at hn
   have:(43:UInt8).toNat=43:=rfl
   omega
  have hd:=dec_u8 (x::l) 0 h
  rw [show ((0:Nat):Int)=0 from rfl] at hd
  rw [List.map_cons] at hd ⊢
  rw [Lib.atoi,h45,h43]
  simp only [Bool.false_eq_true,if_false,Lib.decNat,List.isEmpty_cons,hd,Option.map_some,Lib.NumEnd.ofOption]
  have:=(valL_le (x::l) 0 (by omega) h).1
  congr 1
  omega
end
section
variable {G:Glob} {bb:Bool}
theorem size_v (n:Int) (h:-1000≤n∧n≤1000):EV G (Tb (bsS bb)) 115 [vi n] []=some (vi n.natAbs,[]):=by
 refine EV_run rfl ?_
 have e:(if 0 - n > n then 0 - n else n)=(n.natAbs:Int):=by split<;>omega
 simp (disch:=omega) only [go_sem,h115c]
 rw [e]
theorem wrap8 {x:Int} (h:0≤x∧x≤255):IntKind.u8.wrap x=x:=by
 rw [IntKind.wrap_u8];omega
theorem byO (x:Int):bytesOf [[DC.raw (Value.int IntKind.u8 x)]]=some [UInt8.ofNat x.toNat]:=rfl
theorem strB (x:Int):(⟨[UInt8.ofNat x.toNat].toArray⟩:ByteArray)=str [x]:=rfl
theorem c48:(⟨#[48]⟩:ByteArray)=str [48]:=rfl
theorem c45:(⟨#[45]⟩:ByteArray)=str [45]:=rfl
def de0 (sg:List Int) (z:Int × List Int):AS:=⟨(vi z.1::jk 2 (sv z.2::sv sg::jk 22 [])),[]⟩
theorem tm10 (n:Int):n.tmod 10=if 0≤n then ((n.natAbs % 10:Nat):Int) else -((n.natAbs % 10:Nat):Int):=by
 by_cases h:0≤n
 ·rw [if_pos h,Int.tmod_eq_emod_of_nonneg h];omega
 ·rw [if_neg h]
  have:n=-((n.natAbs:Nat):Int):=by omega
  rw [this,Int.neg_tmod,Int.tmod_eq_emod_of_nonneg (by omega)]
  omega
theorem td10 (n:Int):(n.tdiv 10).natAbs=n.natAbs / 10:=by
 rw [Int.natAbs_tdiv];rfl
theorem de0_round (sg:List Int) (n:Int) (t:List Int) (hn:n≠0) (hr:inR n) (hl:t.length≤1000):
  rnK [0,2,0] 0 (EC (EV G (Tb (bsS bb))) G h54l0 (de0 sg (n,t)))=some (de0 sg (n.tdiv 10,(48+((n.natAbs % 10:Nat):Int))::t)):=by
 have hd:-9≤n.tmod 10∧n.tmod 10≤9∧((n.tmod 10).natAbs:Int)=((n.natAbs % 10:Nat):Int):=by
  rw [tm10]
  split<;>omega
 have hx:(0:Int)≤((n.natAbs % 10:Nat):Int)∧((n.natAbs % 10:Nat):Int)≤9:=by omega
 have h2:-9223372036854775808≤n.tdiv 10∧n.tdiv 10≤9223372036854775807:=by
  have:=td10 n
  unfold inR at hr
  omega
 have q:=size_v (G:=G) (bb:=bb) (n.tmod 10) (by omega)
 rw [hd.2.2] at q
 generalize ((n.natAbs % 10:Nat):Int)=x at *
 generalize e1:n.tmod 10=d at *
 generalize e2:n.tdiv 10=n' at *
 have w1:IntKind.u8.wrap (48+x)=48+x:=wrap8 (by omega)
 have s1:binV .add (sv [48+x]) (sv t)=some (sv ((48+x)::t)):=sadd_s (by simp;omega)
 unfold de0
 simp (disch:=omega) only [go_sem,h54l0,hn,e1,e2,q,w1,byO,strB,s1,List.take_succ_cons]
theorem de0_all (sg:List Int) {st:AS} (n:Int) (hr:inR n) (h0:st=de0 sg (n,[])):
  EL (EV G (Tb (bsS bb))) G h54l0 [0,2,0] 0 st=fnK (EV G (Tb (bsS bb))) G h54l0 [0,2,0] 0 (EC (EV G (Tb (bsS bb))) G h54l0 (de0 sg (0,dgZ n.natAbs))):=by
 have:=EL_ind (st:=st) (call:=EV G (Tb (bsS bb))) (G:=G) (a:=h54l0) (L:=[0,2,0]) (m:=0) (fun z=>de0 sg z) (fun z=>fnK (EV G (Tb (bsS bb))) G h54l0 [0,2,0] 0 (EC (EV G (Tb (bsS bb))) G h54l0 (de0 sg (0,dgZ z.1.natAbs++z.2)))) (fun z=>z.1.natAbs) (n,[]) (fun z=>inR z.1∧z.2.length+(dgZ z.1.natAbs).length≤1000) h0 ⟨hr, ?_⟩ ?_
 ·rw [this,List.append_nil]
 ·have:=dgL_len 18 n.natAbs (by unfold inR at hr;omega)
  unfold dgZ
  split
  ·simp
  ·simp;omega
 ·rintro ⟨n,t⟩ ⟨h1,h2⟩
  simp only at h1 h2
  by_cases hn:n=0
  ·refine .inr ?_
   subst hn
   rfl
  ·refine .inl ⟨(n.tdiv 10,(48+((n.natAbs % 10:Nat):Int))::t),⟨?_, ?_⟩, ?_,de0_round sg n t hn h1 (by omega), ?_⟩
   ·have:=td10 n
    unfold inR at *
    simp only
    omega
   ·have e:=dgZ_s n.natAbs (by omega)
    simp only [td10,List.length_cons]
    rw [e,List.length_append] at h2
    simp only [List.length_cons,List.length_nil] at h2
    omega
   ·simp only [td10]
    omega
   ·simp only [td10]
    rw [dgZ_s n.natAbs (by omega),List.append_assoc]
    rfl
theorem dcI_0:dcI 0=[48]:=by
 unfold dcI
 rw [if_neg (by omega),dgL];rfl
theorem decimal_v (n:Int) (h:inR n):EV G (Tb (bsS bb)) 54 [vi n] []=some (sv (dcI n),[]):=by
 refine EV_run rfl ?_
 by_cases h0:n=0
 ·rw [h0,dcI_0]
  simp (disch:=omega) only [go_sem,h54c,c48]
  try rfl
 ·have hl:(dgZ n.natAbs).length≤100:=by
   have:=dgL_len 18 n.natAbs (by unfold inR at h;omega)
   unfold dgZ
   split
   ·simp
   ·omega
  by_cases hn:n < 0
  ·have e:dcI n=[45]++dgZ n.natAbs:=by
    unfold dcI dgZ
    rw [if_pos hn,if_neg (by unfold inR at h;omega)];rfl
   have s1:binV .add (sv [45]) (sv (dgZ n.natAbs))=some (sv ([45]++dgZ n.natAbs)):=sadd_s (by simp;omega)
   rw [e]
   simp (disch:=omega) only [go_sem,h54c,h0,eq_true hn,c45,str_nil]
   rw [de0_all [45] n h (by rfl)]
   unfold de0
   generalize dgZ n.natAbs=z at *
   simp (disch:=omega) only [go_sem,h54l0,s1]
  ·have e:dcI n=[]++dgZ n.natAbs:=by
    unfold dcI dgZ
    unfold inR at h
    rw [if_neg hn,if_neg (by omega)]
    have:n.toNat=n.natAbs:=by omega
    rw [this];rfl
   have s1:binV .add (sv []) (sv (dgZ n.natAbs))=some (sv ([]++dgZ n.natAbs)):=sadd_s (by simp;omega)
   rw [e]
   simp (disch:=omega) only [go_sem,h54c,h0,hn,c45,str_nil]
   rw [de0_all [] n h (by rfl)]
   unfold de0
   generalize dgZ n.natAbs=z at *
   simp (disch:=omega) only [go_sem,h54l0,s1]
end
section
variable {G:Glob} {bb:Bool}
def digB (x:Int):Bool:=decide (48≤x)&&decide (x≤57)
def atM (s:List Int):Nat:=if s.head?=some 45 then 1 else 0
def numV (d:Nat) (s:List Int):Int × Bool:=
 if s.length=atM s∨d+atM s < s.length∨s[atM s]?=some 48∧1 < s.length then (0,false)
 else if (s.drop (atM s)).all digB=true then (if atM s=1 then 0 - valL 0 (s.drop 1) else valL 0 s,true) else (0,false)
abbrev nuS (s:List Int) (a:Nat) (n:Int) (i:Nat):AS:=⟨(sv s::jk 5 (vi a::vi n::vi i::jk 61 [])),[]⟩
theorem digB_iff {x:Int}:digB x=true↔48≤x∧x≤57:=by
 unfold digB;rw [Bool.and_eq_true,decide_eq_true_eq,decide_eq_true_eq]
theorem take_sD {l:List Int} {k:Nat} (h:k < l.length):l.take (k+1)=l.take k++[l.getD k 0]:=by
 rw [List.take_add_one,List.getElem?_eq_getElem h,List.getD_eq_getElem?_getD,List.getElem?_eq_getElem h];rfl
theorem num_round (s:List Int) (a:Nat) (hs:Byts s) (hl:s.length≤a+9) (ha:a≤1) (k:Nat) (hk:k < s.length - a) (hd:∀ j,j≤k→¬ digB (s.getD (a+j) 0)=false):
  rnK [0,5,0,0] 0 (EC (EV G (Tb (bsS bb))) G h114l0 (nuS s a (valL 0 ((s.drop a).take k)) (a+k)))=some (nuS s a (valL 0 ((s.drop a).take (k+1))) (a+(k+1))):=by
 have hx:=digB_iff.1 (eq_true_of_ne_false (hd k (Nat.le_refl _)))
 have dgs:Dgs ((s.drop a).take k):=by
  intro b hb
  obtain ⟨j,hj,e⟩:=List.getElem_of_mem hb
  have hj2:j < k:=by rw [List.length_take] at hj;omega
  have h4:=digB_iff.1 (eq_true_of_ne_false (hd j (by omega)))
  have e2:s.getD (a+j) 0=b:=by
   rw [← e,List.getElem_take,List.getElem_drop,List.getD_eq_getElem?_getD,List.getElem?_eq_getElem (by omega)];rfl
  rw [e2] at h4;exact h4
 have hv:=valL_le _ 0 (by omega) dgs
 have hp:10 ^ ((s.drop a).take k).length≤10 ^ 8:=Nat.pow_le_pow_right (by omega) (by rw [List.length_take];omega)
 have e8:10 ^ 8=100000000:=by decide
 obtain ⟨p,hpe⟩:∃ p,p=a+k:=⟨_,rfl⟩
 have hpl:p < s.length:=by omega
 have hx0:s.getD (a+k) 0=s[p]:=by
  subst hpe
  rw [List.getD_eq_getElem?_getD,List.getElem?_eq_getElem hpl];rfl
 have et:(s.drop a).take (k+1)=(s.drop a).take k++[s[p]]:=by
  rw [take_sD (by rw [List.length_drop];exact hk),← hx0]
  congr 2
  rw [List.getD_eq_getElem?_getD,List.getD_eq_getElem?_getD,List.getElem?_drop]
 rw [hx0] at hx
 rw [et,valL_app]
 generalize valL 0 ((s.drop a).take k)=v at *
 have hu:=u8_nat _ (hs _ (List.getElem_mem hpl))
 have w1:IntKind.u8.wrap (s[p] - 48)=s[p] - 48:=by rw [IntKind.wrap_u8];omega
 have c1:¬ s[p] < 48:=by omega
 have c2:¬ 57 < s[p]:=by omega
 have e3:v * 10+(s[p] - 48)=10 * v+(s[p] - 48):=by omega
 have e4:a+(k+1)=p+1:=by omega
 have hlt:(p:Int) < s.length:=by omega
 rw [e3,e4,← hpe]
 simp (disch:=omega) only [go_sem,h114l0,hu,c1,c2,w1,eq_true hlt,List.getElem_map,Int.toNat_natCast]
 rfl
theorem all_dig (s:List Int) (a:Nat):(s.drop a).all digB=true↔∀ k,k < s.length - a→digB (s.getD (a+k) 0)=true:=by
 rw [List.all_eq_true]
 constructor
 ·intro h k hk
  have h2:=h _ (List.getElem_mem (show k < (s.drop a).length by rw [List.length_drop];exact hk))
  rw [List.getElem_drop] at h2
  rw [List.getD_eq_getElem?_getD,List.getElem?_eq_getElem (by omega)]
  exact h2
 ·intro h x hx
  obtain ⟨k,hk,e⟩:=List.getElem_of_mem hx
  rw [List.length_drop] at hk
  have h2:=h k hk
  rw [List.getElem_drop] at e
  rw [List.getD_eq_getElem?_getD,List.getElem?_eq_getElem (by omega)] at h2
  rw [← e]
  exact h2
theorem numb_v (s:List Int) (hs:Byts s) (hl:s.length≤1000):EV G (Tb (bsS bb)) 114 [sv s,vi 5] []=some (.tup [.one (.dc (ci (numV 5 s).1)),.one (.dc (.raw (.bool (numV 5 s).2)))],[]):=by
 refine EV_run rfl ?_
 match s,hs,hl with
 | [],_,_=>
  have sz:((str []).size:Int)=0:=rfl
  rw [show numV 5 []=(0,false) from rfl]
  simp (disch:=omega) only [go_sem,h114c,sz]
 | x::l,hs,hl=>
  have sz:((str (x::l)).size:Int)=((x::l).length:Nat):=by rw [str_size]
  have i0:=u8_nat x (hs x List.mem_cons_self)
  have ln:(x::l).length=l.length+1:=rfl
  by_cases hx:x=45
  ·have ea:atM (x::l)=1:=by unfold atM;rw [hx];rfl
   match l,hs,hl,sz,i0,ln,ea with
   | [],_,_,sz,i0,_,ea=>
    have e:numV 5 [x]=(0,false):=by unfold numV;rw [if_pos (.inl (by rw [ea];rfl))]
    rw [e]
    have sz:((str [x]).size:Int)=1:=sz
    simp (disch:=omega) only [go_sem,h114c,sz,i0,eq_true hx]
   | y::l,hs,hl,sz,i0,ln,ea=>
    have i1:=u8_nat y (hs y (List.mem_cons_of_mem _ List.mem_cons_self))
    have hd:=all_dig (x::y::l) 1
    have ln2:(x::y::l).length=l.length+2:=rfl
    have ey:(x::y::l)[1]?=some y:=rfl
    have ev:numV 5 (x::y::l)=if 5 < l.length+1∨y=48 then (0,false) else if ((x::y::l).drop 1).all digB=true then (0 - valL 0 ((x::y::l).drop 1),true) else (0,false):=by
     unfold numV
     rw [ea,ey,ln2]
     by_cases c1:5 < l.length+1∨y=48
     ·rw [if_pos c1,if_pos (by rcases c1 with c | c;exact .inr (.inl (by omega));exact .inr (.inr ⟨by rw [c],by omega⟩))]
     ·rw [if_neg c1,if_neg (by rintro (c | c | ⟨c,_⟩);omega;exact c1 (.inl (by omega));injection c with c;exact c1 (.inr c)),if_pos rfl]
    generalize numV 5 (x::y::l)=A at *
    rw [ln2] at sz hd
    by_cases c2:5 < l.length+1
    ·rw [ev,if_pos (.inl c2)]
     have h1:¬ ((l.length+2:Nat):Int)=1:=by omega
     have h2:(5:Int) < ((l.length+2:Nat):Int) - 1:=by omega
     have h3:(0:Int) < ((l.length+2:Nat):Int):=by omega
     generalize ((l.length+2:Nat):Int)=n at *
     simp (disch:=omega) only [go_sem,h114c,sz,i0,eq_true hx,h1,eq_true h2,eq_true h3]
    ·have h1:¬ ((l.length+2:Nat):Int)=1:=by omega
     have h2:¬ (5:Int) < ((l.length+2:Nat):Int) - 1:=by omega
     have h3:(0:Int) < ((l.length+2:Nat):Int):=by omega
     have h4:(1:Int) < ((l.length+2:Nat):Int):=by omega
     by_cases c3:y=48
     ·rw [ev,if_pos (.inr c3)]
      generalize ((l.length+2:Nat):Int)=n at *
      simp (disch:=omega) only [go_sem,h114c,sz,i0,i1,eq_true hx,h1,h2,eq_true h3,eq_true h4,eq_true c3]
     ·rw [if_neg (by rintro (c | c);exact c2 c;exact c3 c)] at ev
      have rd:=fun k (hk:k < l.length+1)=>num_round (G:=G) (bb:=bb) (x::y::l) 1 hs (by rw [ln2];omega) (by omega) k (by rw [ln2];omega)
      simp (disch:=omega) only [go_sem,h114c,sz,i0,i1,eq_true hx,h1,h2,eq_true h3,eq_true h4,c3]
      rw [EL_fst (fun k=>nuS (x::y::l) 1 (valL 0 (((x::y::l).drop 1).take k)) (1+k)) (fun k=>digB ((x::y::l).getD (1+k) 0)=false) (l.length+1) ?_ rd]
      rotate_left
      ·rfl
      obtain ⟨hk,hp,hn⟩:=ix_spec (fun k=>digB ((x::y::l).getD (1+k) 0)=false) (l.length+1)
      generalize ix (fun k=>digB ((x::y::l).getD (1+k) 0)=false) (l.length+1)=k at *
      rcases hp with rfl | ⟨hk',hp⟩
      ·rw [if_pos (hd.2 fun k hk=>eq_true_of_ne_false (hn k (by omega)))] at ev
       rw [ev]
       rw [List.take_of_length_le (by rw [List.length_drop,ln2];omega)]
       have dg:Dgs ((x::y::l).drop 1):=fun b hb=>digB_iff.1 (List.all_eq_true.1 (hd.2 fun k hk=>eq_true_of_ne_false (hn k (by omega))) b hb)
       have hv:=valL_le _ 0 (by omega) dg
       have hp8:10 ^ ((x::y::l).drop 1).length≤10 ^ 8:=Nat.pow_le_pow_right (by omega) (by rw [List.length_drop,ln2];omega)
       have e8:10 ^ 8=100000000:=by decide
       generalize valL 0 ((x::y::l).drop 1)=v at *
       have e1:1+(l.length+1)=l.length+2:=by omega
       rw [e1]
       have nl:¬ ((l.length+2:Nat):Int) < (l.length:Int)+1+1:=by omega
       unfold nuS
       generalize ((l.length+2:Nat):Int)=n at *
       simp (disch:=omega) only [go_sem,h114l0,sz,nl]
      ·rw [if_neg (fun h=>by rw [hd.1 h k (by omega)] at hp;cases hp)] at ev
       rw [ev]
       obtain ⟨p,hpe⟩:∃ p,p=1+k:=⟨_,rfl⟩
       have hpl:p < (x::y::l).length:=by rw [ln2];omega
       have hx0:(x::y::l).getD (1+k) 0=(x::y::l)[p]:=by
        subst hpe
        rw [List.getD_eq_getElem?_getD,List.getElem?_eq_getElem hpl];rfl
       have hi:=u8_nat _ (hs _ (List.getElem_mem hpl))
       have hlt:(p:Int) < ((l.length+2:Nat):Int):=by omega
       rw [hx0] at hp
       generalize valL 0 (((x::y::l).drop 1).take k)=v at *
       rw [← hpe]
       generalize ((l.length+2:Nat):Int)=n at *
       generalize x::y::l=s at *
       generalize hc:s[p]=c at *
       by_cases q1:c < 48
       ·simp (disch:=omega) only [go_sem,h114l0,sz,hi,eq_true hlt,eq_true q1,hc,List.getElem_map,Int.toNat_natCast]
       ·have q2:57 < c:=by
         rcases Int.lt_or_le 57 c with h | h
         ·exact h
         ·rw [digB_iff.2 ⟨by omega,h⟩] at hp;cases hp
        simp (disch:=omega) only [go_sem,h114l0,sz,hi,eq_true hlt,q1,eq_true q2,hc,List.getElem_map,Int.toNat_natCast]
  ·have ea:atM (x::l)=0:=by unfold atM;rw [if_neg (by simpa using hx)]
   have hd:=all_dig (x::l) 0
   have ev:numV 5 (x::l)=if 5 < l.length+1∨x=48∧1 < l.length+1 then (0,false) else if ((x::l).drop 0).all digB=true then (valL 0 (x::l),true) else (0,false):=by
    have ex:(x::l)[0]?=some x:=rfl
    unfold numV
    rw [ea,ex,ln]
    by_cases c1:5 < l.length+1∨x=48∧1 < l.length+1
    ·rw [if_pos c1,if_pos (by rcases c1 with c | c;exact .inr (.inl (by omega));exact .inr (.inr ⟨by rw [c.1],c.2⟩))]
    ·rw [if_neg c1,if_neg (by rintro (c | c | ⟨c,d⟩);omega;exact c1 (.inl (by omega));injection c with c;exact c1 (.inr ⟨c,d⟩)),if_neg (show ¬ (0:Nat)=1 by omega)]
   generalize numV 5 (x::l)=A at *
   rw [ln] at sz hd
   have h1:¬ ((l.length+1:Nat):Int)=0:=by omega
   have h3:(0:Int) < ((l.length+1:Nat):Int):=by omega
   by_cases c2:5 < l.length+1
   ·rw [ev,if_pos (.inl c2)]
    have h2:(5:Int) < ((l.length+1:Nat):Int):=by omega
    generalize ((l.length+1:Nat):Int)=n at *
    simp (disch:=omega) only [go_sem,h114c,sz,i0,hx,h1,eq_true h2,eq_true h3,Int.sub_zero]
   ·have h2:¬ (5:Int) < ((l.length+1:Nat):Int):=by omega
    by_cases c3:x=48∧1 < l.length+1
    ·rw [ev,if_pos (.inr c3)]
     have h4:(1:Int) < ((l.length+1:Nat):Int):=by omega
     generalize ((l.length+1:Nat):Int)=n at *
     simp (disch:=omega) only [go_sem,h114c,sz,i0,hx,h1,h2,eq_true h3,eq_true h4,eq_true c3.1,Int.sub_zero]
    ·rw [if_neg (by rintro (c | c);exact c2 c;exact c3 c)] at ev
     have rd:=fun k (hk:k < l.length+1)=>num_round (G:=G) (bb:=bb) (x::l) 0 hs (by rw [ln];omega) (by omega) k (by rw [ln];omega)
     have c3':x=48→¬ (1:Int) < ((l.length+1:Nat):Int):=fun h q=>c3 ⟨h,by omega⟩
     have key:∀ st,st=nuS (x::l) 0 0 0→EL (EV G (Tb (bsS bb))) G h114l0 [0,5,0,0] 0 st=EL (EV G (Tb (bsS bb))) G h114l0 [0,5,0,0] 0 (nuS (x::l) 0 0 0):=fun st h=>by rw [h]
     have lp:EL (EV G (Tb (bsS bb))) G h114l0 [0,5,0,0] 0 (nuS (x::l) 0 0 0)=_:=EL_fst (fun k=>nuS (x::l) 0 (valL 0 (((x::l).drop 0).take k)) (0+k)) (fun k=>digB ((x::l).getD (0+k) 0)=false) (l.length+1) rfl rd
     obtain ⟨hk,hp,hn⟩:=ix_spec (fun k=>digB ((x::l).getD (0+k) 0)=false) (l.length+1)
     generalize ix (fun k=>digB ((x::l).getD (0+k) 0)=false) (l.length+1)=k at *
     have fin:∀ st,st=nuS (x::l) 0 0 0→True:=fun _ _=>trivial
     by_cases c4:x=48
     ·have h4:=c3' c4
      simp (disch:=omega) only [go_sem,h114c,sz,i0,hx,h1,h2,eq_true h3,h4,eq_true c4,Int.sub_zero]
      rw [key _ (by rfl),lp]
      rcases hp with rfl | ⟨hk',hp⟩
      ·rw [if_pos (hd.2 fun k hk=>eq_true_of_ne_false (hn k (by omega)))] at ev
       rw [ev]
       rw [List.take_of_length_le (by rw [List.length_drop,ln];omega),List.drop_zero]
       generalize valL 0 (x::l)=v at *
       have e1:0+(l.length+1)=l.length+1:=by omega
       rw [e1]
       have nl:¬ ((l.length+1:Nat):Int) < (l.length:Int)+1:=by omega
       unfold nuS
       generalize ((l.length+1:Nat):Int)=n at *
       simp (disch:=omega) only [go_sem,h114l0,sz,nl]
      ·rw [if_neg (fun h=>by rw [hd.1 h k (by omega)] at hp;cases hp)] at ev
       rw [ev]
       obtain ⟨p,hpe⟩:∃ p,p=0+k:=⟨_,rfl⟩
       have hpl:p < (x::l).length:=by rw [ln];omega
       have hx0:(x::l).getD (0+k) 0=(x::l)[p]:=by
        subst hpe
        rw [List.getD_eq_getElem?_getD,List.getElem?_eq_getElem hpl];rfl
       have hi:=u8_nat _ (hs _ (List.getElem_mem hpl))
       have hlt:(p:Int) < ((l.length+1:Nat):Int):=by omega
       rw [hx0] at hp
       generalize valL 0 (((x::l).drop 0).take k)=v at *
       rw [← hpe]
       generalize ((l.length+1:Nat):Int)=n at *
       generalize x::l=s at *
       generalize hc:s[p]=c at *
       by_cases q1:c < 48
       ·simp (disch:=omega) only [go_sem,h114l0,sz,hi,eq_true hlt,eq_true q1,hc,List.getElem_map,Int.toNat_natCast]
       ·have q2:57 < c:=by
         rcases Int.lt_or_le 57 c with h | h
         ·exact h
         ·rw [digB_iff.2 ⟨by omega,h⟩] at hp;cases hp
        simp (disch:=omega) only [go_sem,h114l0,sz,hi,eq_true hlt,q1,eq_true q2,hc,List.getElem_map,Int.toNat_natCast]
     ·simp (disch:=omega) only [go_sem,h114c,sz,i0,hx,h1,h2,eq_true h3,c4,Int.sub_zero]
      rw [key _ (by rfl),lp]
      rcases hp with rfl | ⟨hk',hp⟩
      ·rw [if_pos (hd.2 fun k hk=>eq_true_of_ne_false (hn k (by omega)))] at ev
       rw [ev]
       rw [List.take_of_length_le (by rw [List.length_drop,ln];omega),List.drop_zero]
       generalize valL 0 (x::l)=v at *
       have e1:0+(l.length+1)=l.length+1:=by omega
       rw [e1]
       have nl:¬ ((l.length+1:Nat):Int) < (l.length:Int)+1:=by omega
       unfold nuS
       generalize ((l.length+1:Nat):Int)=n at *
       simp (disch:=omega) only [go_sem,h114l0,sz,nl]
      ·rw [if_neg (fun h=>by rw [hd.1 h k (by omega)] at hp;cases hp)] at ev
       rw [ev]
       obtain ⟨p,hpe⟩:∃ p,p=0+k:=⟨_,rfl⟩
       have hpl:p < (x::l).length:=by rw [ln];omega
       have hx0:(x::l).getD (0+k) 0=(x::l)[p]:=by
        subst hpe
        rw [List.getD_eq_getElem?_getD,List.getElem?_eq_getElem hpl];rfl
       have hi:=u8_nat _ (hs _ (List.getElem_mem hpl))
       have hlt:(p:Int) < ((l.length+1:Nat):Int):=by omega
       rw [hx0] at hp
       generalize valL 0 (((x::l).drop 0).take k)=v at *
       rw [← hpe]
       generalize ((l.length+1:Nat):Int)=n at *
       generalize x::l=s at *
       generalize hc:s[p]=c at *
       by_cases q1:c < 48
       ·simp (disch:=omega) only [go_sem,h114l0,sz,hi,eq_true hlt,eq_true q1,hc,List.getElem_map,Int.toNat_natCast]
       ·have q2:57 < c:=by
         rcases Int.lt_or_le 57 c with h | h
         ·exact h
         ·rw [digB_iff.2 ⟨by omega,h⟩] at hp;cases hp
        simp (disch:=omega) only [go_sem,h114l0,sz,hi,eq_true hlt,q1,eq_true q2,hc,List.getElem_map,Int.toNat_natCast]
end
section
variable {G:Glob} {bb:Bool}
def cutS (c:Int) (s:List Int):Nat→List (List Int) × Nat
 | 0=>([],0)
 | i+1=>if s[i]?=some c then ((cutS c s i).1++[(s.take i).drop (cutS c s i).2],i+1) else cutS c s i
theorem cutS_ok (c:Int) (s:List Int):∀ i,i≤s.length→(cutS c s i).2≤i∧(cutS c s i).1.length≤i∧spl c (s.take i)=(cutS c s i).1++[(s.take i).drop (cutS c s i).2]
 | 0,_=>⟨Nat.le_refl _,Nat.le_refl _,by simp [cutS,spl]⟩
 | i+1,h=>by
  obtain ⟨h1,h2,h3⟩:=cutS_ok c s i (by omega)
  have hi:i < s.length:=by omega
  have hl:(s.take i).length=i:=by rw [List.length_take];omega
  rw [cutS,List.take_add_one,List.getElem?_eq_getElem hi,Option.toList_some,spl_snoc,h3]
  by_cases e:s[i]=c
  ·rw [if_pos e,if_pos (by rw [e])]
   have e2:(s.take i++[s[i]]).drop (i+1)=[]:=List.drop_of_length_le (by rw [List.length_append,hl];simp)
   refine ⟨Nat.le_refl _,by simp;omega, ?_⟩
   simp only
   rw [e2]
  ·rw [if_neg e,if_neg (fun q=>e (by injection q))]
   refine ⟨by omega,by omega, ?_⟩
   rw [List.dropLast_concat,List.getLastD_concat,List.drop_append_of_le_length (by omega)]
def rc0 (s:List Int) (c:Int) (i:Nat):AS:=⟨(sv s::vu c::jk 3 (.one (.bld 0 (cutS c s i).1.length)::vi (cutS c s i).2::vi i::jk 26 [])),[.arr 0 1 ((cutS c s i).1.map rowS)]⟩
theorem rc0_round (s:List Int) (c:Int) (hs:Byts s) (hl:s.length≤1000) (i:Nat) (hi:i < s.length):
  rnK [0,0,3,0,0] 1 (EC (EV G (Tb (bsS bb))) G h113l0 (rc0 s c i))=some (rc0 s c (i+1)):=by
 obtain ⟨h1,h2,_⟩:=cutS_ok c s i (by omega)
 have hu:=u8_nat _ (hs _ (List.getElem_mem hi))
 have sz:((str s).size:Int)=s.length:=by rw [str_size]
 have sz2:(str s).size=s.length:=str_size s
 have x1:=str_ext s (cutS c s i).2 i
 have al:allLen 1 ((cutS c s i).1.map rowS)=true:=allLen_map (f:=rowS) (fun _=>rfl) _
 unfold rc0
 by_cases e:s[i]=c
 ·have es:cutS c s (i+1)=((cutS c s i).1++[(s.take i).drop (cutS c s i).2],i+1):=by
   rw [cutS,if_pos (by rw [List.getElem?_eq_getElem hi,e])]
  rw [es]
  have e':(s[i]=c)=True:=eq_true e
  generalize cutS c s i=r at *
  obtain ⟨d,f⟩:=r
  simp only at h1 h2 x1 al ⊢
  generalize hy:(s.take i).drop f=y at *
  have ln:(d++[y]).length=d.length+1:=by simp
  have ms:(d++[y]).map rowS=d.map rowS++[[.raw (.string (str y))]]:=by rw [List.map_append];rfl
  have tk:List.take d.length (d.map rowS)=d.map rowS:=List.take_of_length_le (by simp)
  rw [ln,ms]
  simp (disch:=omega) only [go_sem,h113l0,sz,sz2,hu,List.getElem_map,e',hy,al,tk,Int.toNat_natCast]
 ·have es:cutS c s (i+1)=cutS c s i:=by
   rw [cutS,if_neg (fun q=>e (by rw [List.getElem?_eq_getElem hi] at q;injection q))]
  rw [es]
  generalize cutS c s i=r at *
  obtain ⟨d,f⟩:=r
  simp only at h1 h2 x1 al ⊢
  simp (disch:=omega) only [go_sem,h113l0,sz,sz2,hu,List.getElem_map,e,Int.toNat_natCast]
  done
theorem rcut_v (s:List Int) (c:Int) (hs:Byts s) (hl:s.length≤1000):EV G (Tb (bsS bb)) 113 [sv s,vu c] []=some (vl ((spl c s).map rowS),[]):=by
 refine EV_run rfl ?_
 simp (disch:=omega) only [go_sem,h113c]
 rw [EL_loop (fun k=>rc0 s c k) s.length ?_ (fun k hk=>rc0_round s c hs hl k hk)]
 rotate_left
 ·rfl
 obtain ⟨h1,h2,h3⟩:=cutS_ok c s s.length (Nat.le_refl _)
 rw [List.take_length] at h3
 rw [h3]
 have sz:((str s).size:Int)=s.length:=by rw [str_size]
 have sz2:(str s).size=s.length:=str_size s
 have x1:=str_ext s (cutS c s s.length).2 s.length
 rw [List.take_length] at x1
 unfold rc0
 have al:allLen 1 ((cutS c s s.length).1.map rowS)=true:=allLen_map (f:=rowS) (fun _=>rfl) _
 generalize cutS c s s.length=r at *
 obtain ⟨d,f⟩:=r
 simp only at h1 h2 x1 al ⊢
 generalize hy:s.drop f=y at *
 have tk:List.take d.length (d.map rowS)=d.map rowS:=List.take_of_length_le (by simp)
 have ms:(d++[y]).map rowS=d.map rowS++[[.raw (.string (str y))]]:=by rw [List.map_append];rfl
 rw [ms]
 have ln:(d.map rowS++[[DC.raw (.string (str y))]]).length=d.length+1:=by simp
 simp (disch:=omega) only [go_sem,h113l0,sz,sz2,hy,al,tk,Int.toNat_natCast]
 rw [List.take_of_length_le (by rw [ln];exact Nat.le_refl _)]
end
section
variable {G:Glob} {bb:Bool}
theorem natP_t {l:List Int} (h:natB 5 l=true):natP (str l)=(valL 0 l,true):=by
 obtain ⟨c,hl⟩:=natB_iff.1 h
 obtain ⟨h1,h2,h3⟩:=natB_val h (by omega)
 unfold natP
 rw [str_data,atoi_u8 c.ne c.d (by omega)]
 simp only
 rw [decide_eq_true h1,str_size,decide_eq_true (by omega:((l.length:Nat):Int)≤5),Lib.toList_data,str_data,itoa_u8,h3]
 simp
theorem natP_f {l:List Int} (hB:Byts l) (h:natB 5 l=false):(natP (str l)).2=false:=by
 unfold natP
 rcases Lib.atoiAll (str l).data.toList with v | _ | _
 ·simp only
  cases hb:(decide (0≤v)&&decide (((str l).size:Int)≤5)&&(Lib.itoa v==(str l).toList)) with
  | false=>rfl
  | true=>
   rw [Bool.and_eq_true,Bool.and_eq_true,decide_eq_true_eq,decide_eq_true_eq,beq_iff_eq,Lib.toList_data,str_data,itoa_u8,str_size] at hb
   obtain ⟨⟨h1,h2⟩,h3⟩:=hb
   have e:str (dcI v)=str l:=by unfold str;rw [h3]
   rw [str_inj (dcI_byts v) hB] at e
   have:=(dcI_nat h1 5 (by rw [e];omega)).1
   rw [e,h] at this
   cases this
 ·rfl
 ·rfl
def prO (s:List Int):(Int × Int) × Int:=
 if (ctI 35 s).2.2=true∧natB 5 (ctI 35 s).1=true∧natB 5 (ctI 35 s).2.1=true then
  (if refE (valL 0 (ctI 35 s).1) (valL 0 (ctI 35 s).2.1)≠0 then ((0,0),refE (valL 0 (ctI 35 s).1) (valL 0 (ctI 35 s).2.1)) else ((valL 0 (ctI 35 s).1,valL 0 (ctI 35 s).2.1),0))
 else ((0,0),7)
abbrev rpv (p:(Int × Int) × Int):AV:=.tup [.agg [.dc (ci p.1.1),.dc (ci p.1.2)],.one (.dc (ci p.2))]
abbrev sTv (l:List Int):TV:=.one (.dc (.raw (.string (str l))))
theorem ctI_byts {s:List Int} (h:Byts s):Byts (ctI 35 s).1∧Byts (ctI 35 s).2.1:=by
 rcases ctI_cases 35 s with ⟨_,e⟩ | ⟨a,b,e,_,e2⟩
 ·rw [e];exact ⟨h,fun b hb=>by cases hb⟩
 ·rw [e2];subst e
  exact ⟨fun b hb=>h b (List.mem_append_left _ hb),fun b hb=>h b (List.mem_append_right _ (List.mem_cons_of_mem _ hb))⟩
theorem ctI_len (s:List Int):(ctI 35 s).1.length≤s.length∧(ctI 35 s).2.1.length≤s.length:=by
 rcases ctI_cases 35 s with ⟨_,e⟩ | ⟨a,b,e,_,e2⟩
 ·rw [e];simp
 ·rw [e2];subst e;simp;omega
noncomputable abbrev bR (b:Bool):HT:=Tb (bsR b)
theorem cutR_v (s:List Int) (hs:Byts s) (hl:s.length≤1000000):EV G (bR bb) 110 [sv s,sv [35]] []=some (.tup [sTv (ctI 35 s).1,sTv (ctI 35 s).2.1,.one (.dc (.raw (.bool (ctI 35 s).2.2)))],[]):=by
 refine EV_base rfl ?_
 show (if (str s).size < 4294967281 then some (AV.tup [.one (.dc (.raw (.string ⟨(Lib.cut (str s).data.toList (str [35]).data.toList).1.toArray⟩))),.one (.dc (.raw (.string ⟨(Lib.cut (str s).data.toList (str [35]).data.toList).2.1.toArray⟩))),.one (.dc (.raw (.bool (Lib.cut (str s).data.toList (str [35]).data.toList).2.2)))],([]:List AObj)) else none)=_
 rw [if_pos (by rw [str_size];omega),cut_s (by omega) hs]
 rfl
theorem natR_v (s:List Int) (hl:s.length≤1000000):EV G (bR bb) 111 [sv s] []=some (natA (natP (str s)),[]):=by
 refine EV_base rfl ?_
 show (if (str s).size≤1000000 then some (natA (natP (str s)),([]:List AObj)) else none)=_
 rw [if_pos (by rw [str_size];omega)]
theorem itoaR_v (n:Int) (h:inR n):EV G (bR bb) 109 [vi n] []=some (sv (dcI n),[]):=by
 refine EV_base rfl ?_
 unfold inR at h
 show (if -9223372036854775808≤n∧n≤9223372036854775807 then some (AV.one (Cel.dc (DC.raw (Value.string ⟨(Lib.itoa n).toArray⟩))),([]:List AObj)) else none)=_
 rw [if_pos h,itoa_s]
theorem s35:(⟨#[35]⟩:ByteArray)=str [35]:=rfl
theorem parse_v (s:List Int) (hs:Byts s) (hl:s.length≤1000000):EV G (bR bb) 52 [sv s] []=some (rpv (prO s),[]):=by
 refine EV_run rfl ?_
 have q1:=cutR_v (G:=G) (bb:=bb) s hs hl
 have hB:=ctI_byts hs
 have hL:=ctI_len s
 unfold prO
 obtain ⟨⟨a,b,f⟩,hc⟩:∃ c,ctI 35 s=c:=⟨_,rfl⟩
 rw [hc] at q1 hB hL ⊢
 simp only at q1 hB hL ⊢
 have q2:=natR_v (G:=G) (bb:=bb) a (by omega)
 have q3:=natR_v (G:=G) (bb:=bb) b (by omega)
 cases f with
 | false=>
  rw [if_neg (by simp)]
  generalize natP (str a)=x at *
  generalize natP (str b)=y at *
  simp (disch:=omega) only [go_sem,h52c,s35,q1,q2,q3]
 | true=>
  cases ha:natB 5 a with
  | false=>
   rw [if_neg (by simp)]
   have e:=natP_f hB.1 ha
   generalize natP (str a)=x at *
   generalize natP (str b)=y at *
   obtain ⟨x1,x2⟩:=x
   simp only at e
   subst e
   simp (disch:=omega) only [go_sem,h52c,s35,q1,q2,q3]
  | true=>
   rw [natP_t ha] at q2
   cases hb:natB 5 b with
   | false=>
    rw [if_neg (by simp)]
    have e:=natP_f hB.2 hb
    generalize natP (str b)=y at *
    obtain ⟨x1,x2⟩:=y
    simp only at e
    subst e
    simp (disch:=omega) only [go_sem,h52c,s35,q1,q2,q3]
   | true=>
    rw [natP_t hb] at q3
    rw [if_pos (by simp)]
    have q4:=upR (refErr_v (G:=G) (bb:=bb) (valL 0 a) (valL 0 b))
    generalize valL 0 a=x at *
    generalize valL 0 b=y at *
    generalize refE x y=e at *
    by_cases c:e=0
    ·rw [if_neg (not_not_intro c)]
     simp (disch:=omega) only [go_sem,h52c,s35,q1,q2,q3,q4,eq_true c]
    ·rw [if_pos c]
     simp (disch:=omega) only [go_sem,h52c,s35,q1,q2,q3,q4,c]
theorem format_v (x y:Int) (hx:inR x) (hy:inR y):EV G (bR bb) 51 [rfv x y] []=some (sv (dcI x++35::dcI y),[]):=by
 refine EV_run rfl ?_
 have q1:=itoaR_v (G:=G) (bb:=bb) x hx
 have q2:=itoaR_v (G:=G) (bb:=bb) y hy
 have l1:=dcI_len hx
 have l2:=dcI_len hy
 have e:dcI x++35::dcI y=(dcI x++[35])++dcI y:=by simp
 rw [e]
 have s1:binV .add (sv (dcI x)) (sv [35])=some (sv (dcI x++[35])):=sadd_s (by simp;omega)
 have s2:binV .add (sv (dcI x++[35])) (sv (dcI y))=some (sv ((dcI x++[35])++dcI y)):=sadd_s (by simp;omega)
 generalize dcI x=a at *
 generalize dcI y=b at *
 generalize a++[35]=d at *
 simp (disch:=omega) only [go_sem,h51c,s35,q1,q2,s1,s2]
theorem numV_nat {s:List Int} (h:natB 5 s=true):numV 5 s=(valL 0 s,true)∧s.head?≠some 45:=by
 obtain ⟨c,hl⟩:=natB_iff.1 h
 have h45:s.head?≠some 45:=by
  match s,c.ne with
  | x::l,_=>
   have:=c.d x List.mem_cons_self
   intro e
   injection e with e
   omega
 have ea:atM s=0:=by unfold atM;rw [if_neg h45]
 refine ⟨?_,h45⟩
 unfold numV
 rw [ea,if_neg,if_pos,if_neg (show ¬ (0:Nat)=1 by omega)]
 ·rw [List.drop_zero,List.all_eq_true]
  exact fun x hx=>digB_iff.2 (c.d x hx)
 ·rintro (e | e | ⟨e,e2⟩)
  ·exact c.ne (List.length_eq_zero_iff.1 e)
  ·omega
  ·have:=c.z (by
    match s,e with
    | x::l,e=>exact e)
   omega
theorem natB_num {s:List Int} (h:(numV 5 s).2=true) (h45:s.head?≠some 45):natB 5 s=true:=by
 have ea:atM s=0:=by unfold atM;rw [if_neg h45]
 unfold numV at h
 rw [ea] at h
 split at h
 ·cases h
 ·rename_i h1
  split at h
  ·rename_i h2
   rw [List.drop_zero,List.all_eq_true] at h2
   refine natB_iff.2 ⟨⟨fun e=>h1 (.inl (by rw [e];rfl)),fun x hx=>digB_iff.1 (h2 x hx),fun e=>?_⟩, ?_⟩
   ·rcases Nat.lt_or_ge 1 s.length with q | q
    ·exact absurd (.inr (.inr ⟨by
      match s,e with
      | x::l,e=>exact e,q⟩)) h1
    ·match s,e with
     | x::l,_=>simp at q ⊢;omega
   ·rcases Nat.lt_or_ge 5 s.length with q | q
    ·exact absurd (.inr (.inl (by omega))) h1
    ·exact q
  ·cases h
theorem parseR_v (s:List Int) (hs:Byts s) (hl:s.length≤1000):EV G (Tb (bsS bb)) 53 [sv s] []=some (rpv (prO s),[]):=by
 refine EV_run rfl ?_
 have q1:=rcut_v (G:=G) (bb:=bb) s 35 hs hl
 rcases ctI_cases 35 s with ⟨hf,e⟩ | ⟨a,b,e,ha,e2⟩
 ·have e3:prO s=((0,0),7):=by unfold prO;rw [e,if_neg (by simp)]
  rw [e3]
  rw [spl_free 35 s hf] at q1
  simp (disch:=omega) only [go_sem,h53c,q1,List.map_cons,List.map_nil]
 ·subst e
  have hB:=ctI_byts hs
  have hLn:=ctI_len (a++35::b)
  rw [e2] at hB hLn
  simp only at hB hLn
  rw [spl_app 35 a b ha] at q1
  have e3:prO (a++35::b)=if natB 5 a=true∧natB 5 b=true then (if refE (valL 0 a) (valL 0 b)≠0 then ((0,0),refE (valL 0 a) (valL 0 b)) else ((valL 0 a,valL 0 b),0)) else ((0,0),7):=by
   unfold prO;rw [e2];simp
  by_cases hb:35∈b
  ·have hn:natB 5 b=false:=by
    cases h:natB 5 b with
    | false=>rfl
    | true=>have:=(natB_iff.1 h).1.d 35 hb;omega
   rw [e3,if_neg (by rw [hn];simp)]
   obtain ⟨c,d,rfl,hc⟩:∃ c d,b=c++35::d∧35∉c:=List.eq_append_cons_of_mem hb
   rw [spl_app 35 c d hc] at q1
   have hne:=spl_ne 35 d
   generalize spl 35 d=L at *
   match L,hne with
   | x::L,_=>
    have hz:¬ (((L.length+1+1+1:Nat)):Int)=2:=by omega
    simp (disch:=omega) only [go_sem,h53c,q1,List.map_cons,List.length_map,List.length_cons,hz]
  ·rw [spl_free 35 b hb] at q1
   have q2:=numb_v (G:=G) (bb:=bb) a hB.1 (by omega)
   have q3:=numb_v (G:=G) (bb:=bb) b hB.2 (by omega)
   have q4:=refErrR_v (G:=G) (bb:=bb) (valL 0 a) (valL 0 b)
   have na0:numV 5 a=(valL 0 a,true)∧a.head?≠some 45∨natB 5 a=false:=by
    cases h:natB 5 a with
    | false=>exact .inr rfl
    | true=>exact .inl (numV_nat h)
   have nb0:numV 5 b=(valL 0 b,true)∧b.head?≠some 45∨natB 5 b=false:=by
    cases h:natB 5 b with
    | false=>exact .inr rfl
    | true=>exact .inl (numV_nat h)
   have na:=fun h h2=>natB_num (s:=a) h h2
   have nb:=fun h h2=>natB_num (s:=b) h h2
   have za:(numV 5 a).2=true→a≠[]:=by rintro h rfl;cases h
   have zb:(numV 5 b).2=true→b≠[]:=by rintro h rfl;cases h
   generalize prO (a++35::b)=P at *
   clear e2
   generalize a++35::b=S at *
   obtain ⟨⟨va,oa⟩,ea⟩:∃ x,numV 5 a=x:=⟨_,rfl⟩
   obtain ⟨⟨vb',ob⟩,eb⟩:∃ x,numV 5 b=x:=⟨_,rfl⟩
   rw [ea] at q2 na0 na za
   rw [eb] at q3 nb0 nb zb
   simp only at q2 q3 na nb za zb
   cases oa with
   | false=>
    rw [if_neg (by
     rintro ⟨h,_⟩
     rcases na0 with ⟨h2,_⟩ | h2
     ·injection h2 with _ h2;cases h2
     ·rw [h] at h2;cases h2)] at e3
    subst e3
    simp (disch:=omega) only [go_sem,h53c,q1,q2,q3,List.map_cons,List.map_nil]
   | true=>
    cases ob with
    | false=>
     rw [if_neg (by
      rintro ⟨_,h⟩
      rcases nb0 with ⟨h2,_⟩ | h2
      ·injection h2 with _ h2;cases h2
      ·rw [h] at h2;cases h2)] at e3
     subst e3
     simp (disch:=omega) only [go_sem,h53c,q1,q2,q3,List.map_cons,List.map_nil]
    | true=>
     match a,za rfl with
     | x::a',_=>
      have hx:=u8_nat x (hB.1 x List.mem_cons_self)
      by_cases cx:x=45
      ·rw [if_neg (by
        rintro ⟨h,_⟩
        rcases na0 with ⟨_,h2⟩ | h2
        ·exact h2 (by rw [cx];rfl)
        ·rw [h] at h2;cases h2)] at e3
       subst e3
       simp (disch:=omega) only [go_sem,h53c,q1,q2,q3,List.map_cons,List.map_nil,hx,eq_true cx]
      ·match b,zb rfl with
       | y::b',_=>
        have hy:=u8_nat y (hB.2 y List.mem_cons_self)
        by_cases cy:y=45
        ·rw [if_neg (by
          rintro ⟨_,h⟩
          rcases nb0 with ⟨_,h2⟩ | h2
          ·exact h2 (by rw [cy];rfl)
          ·rw [h] at h2;cases h2)] at e3
         subst e3
         simp (disch:=omega) only [go_sem,h53c,q1,q2,q3,List.map_cons,List.map_nil,hx,hy,cx,eq_true cy]
        ·have ha2:=na rfl (by simpa using cx)
         have hb2:=nb rfl (by simpa using cy)
         rw [if_pos ⟨ha2,hb2⟩] at e3
         have va2:=(numV_nat ha2).1
         have vb2:=(numV_nat hb2).1
         rw [ea] at va2
         rw [eb] at vb2
         injection va2 with va2 _
         injection vb2 with vb2 _
         subst va2;subst vb2
         generalize valL 0 (x::a')=v at *
         generalize valL 0 (y::b')=u at *
         generalize refE v u=e at *
         by_cases c:e=0
         ·rw [if_neg (not_not_intro c)] at e3
          subst e3
          simp (disch:=omega) only [go_sem,h53c,q1,q2,q3,q4,List.map_cons,List.map_nil,hx,hy,cx,cy,eq_true c]
         ·rw [if_pos c] at e3
          subst e3
          simp (disch:=omega) only [go_sem,h53c,q1,q2,q3,q4,List.map_cons,List.map_nil,hx,hy,cx,cy,c]
end
section
variable {G:Glob} {bb:Bool}
theorem aw9R_v:EV G (bR true) 11 [] []=some (vb true,[]):=upR (aw9_v (G:=G))
theorem dgL_35 (n:Nat):(35:Int)∉dgL n:=fun h=>by have:=dgL_dgs n 35 h;omega
theorem dcI_35 (n:Int):(35:Int)∉dcI n:=by
 unfold dcI
 split
 ·intro h
  rcases List.mem_cons.1 h with h | h
  ·omega
  ·exact dgL_35 _ h
 ·exact dgL_35 _
theorem prO_fmt {x y:Int} (h:refE x y=0):prO (dcI x++35::dcI y)=((x,y),0):=by
 have hr:(0≤x∧x≤95)∧(1≤y∧y≤65535):=by
  unfold refE at h
  split at h
  ·assumption
  ·cases h
 have lx:(dcI x).length≤5:=by
  unfold dcI;rw [if_neg (by omega)]
  exact dgL_len 4 x.toNat (by omega)
 have ly:(dcI y).length≤5:=by
  unfold dcI;rw [if_neg (by omega)]
  exact dgL_len 4 y.toNat (by omega)
 obtain ⟨n1,v1⟩:=dcI_nat hr.1.1 5 lx
 obtain ⟨n2,v2⟩:=dcI_nat (by omega:0≤y) 5 ly
 unfold prO
 rw [ctI_app 35 _ _ (dcI_35 x),if_pos ⟨rfl,n1,n2⟩]
 simp only
 rw [v1,v2,if_neg (not_not_intro h)]
theorem app_byts {a b:List Int} (ha:Byts a) (hb:Byts b):Byts (a++35::b):=fun x hx=>by
 rcases List.mem_append.1 hx with h | h
 ·exact ha x h
 ·rcases List.mem_cons.1 h with h | h
  ·omega
  ·exact hb x h
theorem recE_e {y:Int} (h:1≤y∧y≤65535):recE ⟨y,0,1,0,0,0,0,[]⟩=0:=by
 have h1:hdE ⟨y,0,1,0,0,0,0,[]⟩=0:=by
  unfold hdE numB
  rw [decide_eq_true h];rfl
 have h2:(ordV []).2=0:=by
  unfold ordV
  rw [if_neg (by decide),if_neg (by simp)]
 have h3:gtI ⟨y,0,1,0,0,0,0,[]⟩ < 0:=idxV_neg.2 (fun a h=>by cases h)
 unfold recE chkV
 rw [if_neg (not_not_intro h1),if_neg (not_not_intro h2),if_neg (by omega)]
 rfl
theorem frdV_e {y:Int} (h:1≤y∧y≤65535):frdV ⟨y,0,1,0,0,0,0,[]⟩=(⟨nxtN y,0,0,0,0,0,0,[]⟩,0):=by
 have e:firstE [recE ⟨y,0,1,0,0,0,0,[]⟩,un (usedB 1) 20]=0:=by rw [recE_e h];rfl
 unfold frdV
 rw [if_neg (not_not_intro e)]
 rfl
set_option maxHeartbeats 4000000 in
theorem refs_v (x y:Int) (hx:inR x) (hy:inR y) (s:List Int) (hs:Byts s) (hsl:s.length≤9223372036854775807):EV G (bR true) 10 [rfv x y,sv s] []=some (vb true,[]):=by
 have qw:=aw9R_v (G:=G)
 have sz:((str s).size:Int)=s.length:=by rw [str_size]
 refine EV_run rfl ?_
 by_cases cl:100 < s.length
 ·have cl':(100:Int) < s.length:=by omega
  simp (disch:=omega) only [go_sem,h10c,qw,sz,eq_true cl']
 ·have cl':¬ (100:Int) < s.length:=by omega
  have q1:=format_v (G:=G) (bb:=true) x y hx hy
  have q2:=parse_v (G:=G) (bb:=true) s hs (by omega)
  have q3:=upR (parseR_v (G:=G) (bb:=true) s hs (by omega))
  have q4:=upR (decimal_v (G:=G) (bb:=true) x hx)
  have q5:=upR (decimal_v (G:=G) (bb:=true) y hy)
  have q6:=upR (refErrR_v (G:=G) (bb:=true) x y)
  have l1:=dcI_len hx
  have l2:=dcI_len hy
  have q7:=parse_v (G:=G) (bb:=true) (dcI x++35::dcI y) (app_byts (dcI_byts x) (dcI_byts y)) (by simp;omega)
  have hp:=prO_fmt (x:=x) (y:=y)
  have e:dcI x++35::dcI y=(dcI x++[35])++dcI y:=by simp
  have s1:binV .add (sv (dcI x)) (sv [35])=some (sv (dcI x++[35])):=sadd_s (by simp;omega)
  have s2:binV .add (sv (dcI x++[35])) (sv (dcI y))=some (sv (dcI x++35::dcI y)):=by rw [e];exact sadd_s (by simp;omega)
  have hrf:refE x y=0→(0≤x∧x≤95)∧(1≤y∧y≤65535):=fun h=>by
   unfold refE at h
   split at h
   ·assumption
   ·cases h
  have r1:(⟨y,0,1,0,0,0,0,[]⟩:Rec).W:=⟨fun a ha=>(by cases ha),Nat.zero_le _⟩
  have q8:=upR (freed_v (G:=G) (bb:=true) ⟨y,0,1,0,0,0,0,[]⟩ r1)
  generalize dcI x++35::dcI y=F at *
  generalize dcI x++[35]=D at *
  generalize dcI x=A at *
  generalize dcI y=B at *
  generalize prO s=P at *
  generalize hE:refE x y=E at *
  by_cases c:E=0
  ·have hr:=hrf c
   rw [hp c] at q7
   rw [frdV_e hr.2] at q8
   have q9:=upR (usedR_v (G:=G) (bb:=true) ⟨nxtN y,0,0,0,0,0,0,[]⟩ (by simp only;omega))
   have hn:¬ nxtN y=y:=by unfold nxtN;omega
   rw [show usedB (⟨nxtN y,0,0,0,0,0,0,[]⟩:Rec).fl=false from rfl] at q9
   simp only [Rec.v,Rec.c,rcv,Rec.t,List.map_nil] at q8 q9
   generalize nxtN y=z at *
   simp (disch:=omega) only [go_sem,h10c,s35,qw,sz,cl',q1,q2,q3,q4,q5,q6,q7,q8,q9,s1,s2,eq_true c,hn]
  ·simp (disch:=omega) only [go_sem,h10c,s35,qw,sz,cl',q1,q2,q3,q4,q5,q6,s1,s2,c]
end
section
variable {G:Glob} {bb:Bool}
open Go.ChangeShapes Go.WideShapes Go.ChangeAt Go.RowKit
abbrev GE (W:World) (g:Nat) (cs:List DC):Prop:=(∀ γ,RC (allF W) γ (.ref cs) (.pointer (some ⟨g,0,none⟩)))∧∃ o,allF W g=some o∧∃ vs t z,o=.cells vs t z∧vs.size=cs.length
def gl (L:List (Nat × List DC)):Glob:=fun g=>L.lookup g
theorem gl_ok {W:World}:∀ {L:List (Nat × List DC)},(∀ p∈L,GE W p.1 p.2)→GlobOK (allF W) (gl L):=by
 intro L h
 have key:∀ (L:List (Nat × List DC)) g cs,L.lookup g=some cs→(g,cs)∈L:=by
  intro L
  induction L with
  | nil=>intro g cs h;simp at h
  | cons p L ih=>
   intro g cs h
   rw [List.lookup_cons] at h
   split at h
   ·rename_i e
    injection h with h
    have:=eq_of_beq e
    subst h;subst this
    exact List.mem_cons_self
   ·exact List.mem_cons_of_mem _ (ih g cs h)
 exact ⟨fun g cs hg γ=>(h _ (key L g cs hg)).1 γ,fun g cs hg=>(h _ (key L g cs hg)).2⟩
theorem one_rc {W:World} {name:String} {v:Value} {g:Nat} (hi:is1 v=true) (hv:W.var? Tryz.prog name=some #[v]) (hg:Tryz.prog.globalNamed name=some g):GE W g [.raw v]:=by
 refine ⟨fun γ=>.ref _ g 0 (fun _=>v) (fun j d hd=>?_) (fun j d hd=>?_), ?_⟩
 ·match j with
  | 0=>injection hd with hd;subst hd;exact .raw _ hi
  | j+1=>simp at hd
 ·match j with
  | 0=>have:=World.var?_cell hg hv 0;exact (show W.cell? ⟨g,0,none⟩=some v by simpa using this)
  | j+1=>simp at hd
 ·unfold World.var? at hv
  rw [hg,Option.bind_some] at hv
  unfold allF
  cases ho:W.heap[g]? with
  | none=>rw [ho] at hv;cases hv
  | some o=>
   rw [ho] at hv
   cases o with
   | cells vs t z=>
    simp only [Option.some.injEq] at hv
    exact ⟨_,rfl,_,_,_,rfl,by rw [hv];rfl⟩
   | _=>simp at hv
theorem tab_rc {W:World} {name:String} {k:IntKind} {zs:List Int} {g:Nat} (ht:Lib.TabIs Tryz.prog W name k zs) (hg:Tryz.prog.globalNamed name=some g):GE W g (zs.map fun n=>.raw (.int k n)):=by
 refine ⟨fun γ=>.ref _ g 0 (fun j=>.int k (zs.getD j 0)) (fun j d hd=>?_) (fun j d hd=>?_), ?_⟩
 ·obtain ⟨n,hn,rfl⟩:=by simpa only [List.getElem?_map,Option.map_eq_some_iff] using hd
  have:zs.getD j 0=n:=by rw [List.getD,hn];rfl
  rw [this]
  exact .raw _ rfl
 ·have hj:j < zs.length:=by
   have:=(List.getElem?_eq_some_iff.1 hd).1
   simpa using this
  rw [Nat.zero_add]
  exact ht.cell hg j hj
 ·unfold Lib.TabIs World.var? at ht
  rw [hg,Option.bind_some] at ht
  unfold allF
  cases ho:W.heap[g]? with
  | none=>rw [ho] at ht;cases ht
  | some o=>
   rw [ho] at ht
   cases o with
   | cells vs t z=>
    simp only [Option.some.injEq] at ht
    exact ⟨_,rfl,_,_,_,rfl,by rw [ht];simp⟩
   | _=>simp at ht
def LR (m:Int) (e1 e2:Value):List (Nat × List DC):=[(6,[ci 8,ci 4]),(0,[ci 16,ci 2]),(1,[ci 18,ci 2]),(8,[ci 20,ci 2]),(2,[ci 22,ci 2]),(9,[ci 24,ci 4]),
 (10,[ci 28,ci 4]),(3,[ci 32,ci 4]),(4,[ci 36,ci 2]),(5,[ci 38,ci 2]),(12,pwD),(11,[ci m]),(13,[.raw e1]),(14,[.raw e2])]
def GX (m:Int) (e1 e2:Value):Glob:=gl (LR m e1 e2)
theorem GX_9 (m:Int) (e1 e2:Value):G9 (GX m e1 e2):=⟨rfl,rfl,rfl,rfl,rfl,rfl,rfl,rfl,rfl,rfl⟩
theorem GX_R (m:Int) (t1 t2:TypeId) (p1 p2:Value):GR (GX m (.iface t1 p1) (.iface t2 p2)):=⟨rfl,⟨m,rfl⟩,⟨t1,p1,rfl⟩,⟨t2,p2,rfl⟩⟩
theorem Tryz.g_sy:Tryz.prog.globalNamed "strconv.ErrSyntax"=some 13:=by kernel_rfl
theorem Tryz.g_rg:Tryz.prog.globalNamed "strconv.ErrRange"=some 14:=by kernel_rfl
theorem Tryz.starE:"*"++"errors.errorString"="*errors.errorString":=by decide
theorem Tryz.rowE (u:TypeId) (h:Tryz.prog.typeName? 3 u=some "*errors.errorString"):u=274:=
 typeName_ptr_named (nm:="errors.errorString") (by rw [Tryz.starE];kernel_rfl) (by kernel_rfl) (by decide) u (by rw [Tryz.starE];exact h)
theorem globR {W:World} (h:laidMetH Tryz.prog Rows.recordRefsRow.laid W) (hsh:W.ShapedOpen Tryz.prog):∃ m t1 t2 p1 p2,GlobOK (allF W) (GX m (.iface t1 p1) (.iface t2 p2)):=by
 have hz:((begin Tryz.prog (fun _ _=>0) default).world.heap[11]?).bind Obj.row?=some (#[.int .i64 0],3):=by kernel_rfl
 have hlt:11 < Tryz.prog.globals.size:=of_decide_eq_true (by kernel_rfl)
 obtain ⟨m,hm⟩:=cell_of_shapedOpen_int (P:=Tryz.prog) (g:=11) (t:=3) (zero:=#[.int .i64 0]) hsh hlt hz rfl (by kernel_rfl) (by kernel_rfl) Tryz.underlying3
 obtain ⟨cs,hh,hs,_⟩:=hsh.1 11 _ _ hlt hz
 have v_ml:GE W 11 [ci m]:=by
  refine ⟨fun γ=>.ref _ 11 0 (fun _=>.int .i64 m) (fun j d hd=>?_) (fun j d hd=>?_),⟨_,hh,_,_,_,rfl,hs⟩⟩
  ·match j with
   | 0=>injection hd with hd;subst hd;exact .raw _ rfl
   | j+1=>simp at hd
  ·match j with
   | 0=>
    have hm':=hm
    unfold World.cell? at hm'
    unfold Fz.cell? allF
    rw [hh] at hm' ⊢
    exact hm'
   | j+1=>simp at hd
 rw [MakeChecks.laidMetH_plain _ _ _ (by kernel_rfl)] at h
 have h:=laidMet.tail (laidMet.tail h)
 have tp:Lib.TabIs Tryz.prog W "internal/strconv.uint64pow10" .u64 [1,10,100,1000,10000,100000,1000000,10000000,100000000,1000000000,10000000000,100000000000,1000000000000,10000000000000,100000000000000,1000000000000000,10000000000000000,100000000000000000,1000000000000000000,10000000000000000000]:=by
  obtain ⟨g,t,e,n,h1,h2,h3,h4,h5,h6⟩:∃ g t e n,Tryz.prog.globalNamed "internal/strconv.uint64pow10"=some g∧(Tryz.prog.globals[g]?).map (·.type)=some t∧Tryz.prog.underlying t=some (.array n e)∧Tryz.prog.underlying e=some (.int .u64)∧Tryz.prog.cellsOf e=1∧Tryz.prog.cellsOf t=n:=⟨12,256,223,20,by kernel_rfl,by kernel_rfl,by kernel_rfl,by kernel_rfl,by kernel_rfl,by kernel_rfl⟩
  exact Lib.tabIs_of_head h1 h2 h3 h4 h5 h6 h
 have epw:([1,10,100,1000,10000,100000,1000000,10000000,100000000,1000000000,10000000000,100000000000,1000000000000,10000000000000,100000000000000,1000000000000000,10000000000000000,100000000000000000,1000000000000000000,10000000000000000000]:List Int)=Lib.pow10Tab:=by decide
 rw [epw] at tp
 have v_pw:=tab_rc tp Tryz.g_pw
 have h:=laidMet.tail (laidMet.tail h)
 obtain ⟨a2,s2,w2,_,_,_⟩:=laid_sentinel h Tryz.g_rg (by kernel_rfl) Tryz.underlying168 Tryz.rowE Tryz.underlying274 Tryz.underlying276 rfl rfl Tryz.underlying9 (by kernel_rfl) cells9
 have v_rg:=one_rc (by rfl) w2 Tryz.g_rg
 have h:=laidMet.tail h
 obtain ⟨a1,s1,w1,_,_,_⟩:=laid_sentinel h Tryz.g_sy (by kernel_rfl) Tryz.underlying168 Tryz.rowE Tryz.underlying274 Tryz.underlying276 rfl rfl Tryz.underlying9 (by kernel_rfl) cells9
 have v_sy:=one_rc (by rfl) w1 Tryz.g_sy
 have h:=laidMet.tail h
 have v_ls:=pair_rc (pair_var (a:=8) (b:=4) Tryz.g_ls (by kernel_rfl) h) Tryz.g_ls
 have h:=laidMet.tail h
 have v_sq:=pair_rc (pair_var (a:=16) (b:=2) Tryz.g_sq (by kernel_rfl) h) Tryz.g_sq
 have h:=laidMet.tail h
 have v_li:=pair_rc (pair_var (a:=18) (b:=2) Tryz.g_li (by kernel_rfl) h) Tryz.g_li
 have h:=laidMet.tail h
 have v_fi:=pair_rc (pair_var (a:=20) (b:=2) Tryz.g_fi (by kernel_rfl) h) Tryz.g_fi
 have h:=laidMet.tail h
 have v_fl:=pair_rc (pair_var (a:=22) (b:=2) Tryz.g_fl (by kernel_rfl) h) Tryz.g_fl
 have h:=laidMet.tail h
 have v_en:=pair_rc (pair_var (a:=24) (b:=4) Tryz.g_en (by kernel_rfl) h) Tryz.g_en
 have h:=laidMet.tail h
 have v_si:=pair_rc (pair_var (a:=28) (b:=4) Tryz.g_si (by kernel_rfl) h) Tryz.g_si
 have h:=laidMet.tail h
 have v_ba:=pair_rc (pair_var (a:=32) (b:=4) Tryz.g_ba (by kernel_rfl) h) Tryz.g_ba
 have h:=laidMet.tail h
 have v_bo:=pair_rc (pair_var (a:=36) (b:=2) Tryz.g_bo (by kernel_rfl) h) Tryz.g_bo
 have h:=laidMet.tail h
 have v_nx:=pair_rc (pair_var (a:=38) (b:=2) Tryz.g_nx (by kernel_rfl) h) Tryz.g_nx
 refine ⟨m,274,274,.pointer (some a1),.pointer (some a2),gl_ok fun p hp=>?_⟩
 simp only [LR,List.mem_cons,List.not_mem_nil,or_false] at hp
 rcases hp with rfl | rfl | rfl | rfl | rfl | rfl | rfl | rfl | rfl | rfl | rfl | rfl | rfl | rfl
 ·exact v_ls
 ·exact v_sq
 ·exact v_li
 ·exact v_fi
 ·exact v_fl
 ·exact v_en
 ·exact v_si
 ·exact v_ba
 ·exact v_bo
 ·exact v_nx
 ·exact v_pw
 ·exact v_ml
 ·exact v_sy
 ·exact v_rg
theorem bsR_ok9 (m:Int) (t1 t2:TypeId) (p1 p2:Value):CallOK Tryz.prog (GX m (.iface t1 p1) (.iface t2 p2)) (bsR true):=bsR_ok (GX_R _ _ _ _ _) fun _=>awake_q9 (GX_9 _ _ _)
theorem qc9R {m:Int} {t1 t2:TypeId} {p1 p2:Value} {f:FuncId} {args:List AV} {r:AV} (h:EV (GX m (.iface t1 p1) (.iface t2 p2)) (Tb (bsR true)) f args []=some (r,[])):QC Tryz.prog (GX m (.iface t1 p1) (.iface t2 p2)) f args r:=EV_qc (Tb_ok (bsR true)) (bsR_ok9 _ _ _ _ _) h
theorem okA_ref {m:Nat} {av:AV} (h:okA Tryz.prog (m+2) 23 av):∃ x y:Int,av=rfv x y∧inR x∧inR y:=by
 obtain ⟨ds,rfl,h2⟩:=okA_many (by kernel_rfl) h
 obtain ⟨a,b,rfl,ha,hb⟩:=okT_two Tryz.underlying23 Tryz.underlying3 Tryz.underlying3 rfl rfl cells3 cells3 cellsF h2
 exact ⟨a,b,rfl,ha,hb⟩
end
end Go.Proofs.YtcplecjhmnblpaaGreatDoor
