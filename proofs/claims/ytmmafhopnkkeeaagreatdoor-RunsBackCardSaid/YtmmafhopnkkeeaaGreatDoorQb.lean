/- Decimal strings as lists of bytes: numbers as strings, strings as numbers. Conditions: none. -/
import Derived.Test.YtmmafhopnkkeeaaGreatDoorVn
import Derived.Lib.Itoa
import Derived.Lib.ItoaMem
import Derived.Lib.AtoiTie
namespace Go.Proofs.YtmmafhopnkkeeaaGreatDoor
set_option linter.unusedSimpArgs false
set_option linter.unusedVariables false
def dgL (n:Nat):List Int:=if h:n < 10 then [48+(n:Int)] else dgL (n / 10)++[48+((n % 10:Nat):Int)]
termination_by n
decreasing_by omega
def dcI (n:Int):List Int:=if n < 0 then 45::dgL n.natAbs else dgL n.toNat
theorem u8_add (n:Nat) (h:n < 10):u8 (48+(n:Int))=UInt8.ofNat (48+n):=by
 unfold u8
 congr 1
theorem dgL_u8 (n:Nat):(dgL n).map u8=Lib.decDigits n:=by
 induction n using Nat.strongRecOn with
 | _ n ih=>
  rw [dgL,Lib.decDigits]
  by_cases h:n < 10
  ·rw [dif_pos h,dif_pos h,List.map_cons,List.map_nil,u8_add n h]
  ·rw [dif_neg h,dif_neg h,List.map_append,ih (n / 10) (by omega),List.map_cons,List.map_nil,u8_add (n % 10) (by omega)]
theorem itoa_u8 (n:Int):Lib.itoa n=(dcI n).map u8:=by
 unfold Lib.itoa dcI
 split
 ·rw [List.map_cons,dgL_u8];rfl
 ·rw [dgL_u8]
theorem itoa_s (n:Int):(⟨(Lib.itoa n).toArray⟩:ByteArray)=str (dcI n):=by
 apply ByteArray.ext
 apply Array.ext'
 rw [itoa_u8]
 simp [str]
theorem dgL_len:∀ (k n:Nat),n < 10 ^ (k+1)→(dgL n).length≤k+1
 | 0,n,h=>by rw [dgL,dif_pos (by simpa using h)];simp
 | k+1,n,h=>by
  rw [dgL]
  split
  ·simp
  ·have:=dgL_len k (n / 10) (by rw [Nat.pow_succ] at h;omega)
   simp only [List.length_append,List.length_cons,List.length_nil]
   omega
def Dgs (l:List Int):Prop:=∀ b∈l,48≤b∧b≤57
theorem dgL_dgs (n:Nat):Dgs (dgL n):=by
 induction n using Nat.strongRecOn with
 | _ n ih=>
  rw [dgL]
  intro b hb
  by_cases h:n < 10
  ·rw [dif_pos h] at hb
   simp at hb
   omega
  ·rw [dif_neg h] at hb
   rcases List.mem_append.1 hb with hb | hb
   ·exact ih (n / 10) (by omega) b hb
   ·simp at hb
    omega
theorem Dgs.byts {l:List Int} (h:Dgs l):Byts l:=fun b hb=>by have:=h b hb;omega
theorem dgL_byts (n:Nat):Byts (dgL n):=(dgL_dgs n).byts
theorem dgL_ne (n:Nat):dgL n≠[]:=by
 rw [dgL]
 split<;>simp
theorem dcI_byts (n:Int):Byts (dcI n):=by
 unfold dcI
 split
 ·intro b hb
  rcases List.mem_cons.1 hb with rfl | hb
  ·omega
  ·exact dgL_byts _ b hb
 ·exact dgL_byts _
def dgZ (n:Nat):List Int:=if n=0 then [] else dgL n
theorem dgZ_s (n:Nat) (h:n≠0):dgZ n=dgZ (n / 10)++[48+((n % 10:Nat):Int)]:=by
 unfold dgZ
 rw [if_neg h]
 by_cases h1:n < 10
 ·rw [dgL,dif_pos h1,if_pos (by omega),Nat.mod_eq_of_lt h1];rfl
 ·rw [dgL,dif_neg h1,if_neg (by omega)]
def inR (n:Int):Prop:=-9223372036854775808≤n∧n≤9223372036854775807
theorem dcI_len {n:Int} (h:inR n):(dcI n).length≤20:=by
 unfold inR at h
 unfold dcI
 split
 ·have:=dgL_len 18 n.natAbs (by omega)
  simp;omega
 ·have:=dgL_len 18 n.toNat (by omega)
  omega
def valL (a:Int):List Int→Int
 | []=>a
 | x::l=>valL (a * 10+(x - 48)) l
theorem valL_app:∀ (l:List Int) (a x:Int),valL a (l++[x])=valL a l * 10+(x - 48)
 | [],a,x=>rfl
 | y::l,a,x=>by rw [List.cons_append,valL,valL,valL_app l]
theorem valL_dgL (n:Nat):valL 0 (dgL n)=n:=by
 induction n using Nat.strongRecOn with
 | _ n ih=>
  rw [dgL]
  by_cases h:n < 10
  ·rw [dif_pos h];simp [valL];omega
  ·rw [dif_neg h,valL_app,ih (n / 10) (by omega)];omega
theorem valL_le:∀ (l:List Int) (a:Int),0≤a→Dgs l→0≤valL a l∧valL a l < (a+1) * ((10 ^ l.length:Nat):Int)
 | [],a,h,_=>by simp [valL];omega
 | x::l,a,h,hd=>by
  have hx:=hd x List.mem_cons_self
  have ih:=valL_le l (a * 10+(x - 48)) (by omega) (fun b hb=>hd b (List.mem_cons_of_mem _ hb))
  rw [valL]
  refine ⟨ih.1,Int.lt_of_lt_of_le ih.2 ?_⟩
  have e:((10 ^ (x::l).length:Nat):Int)=10 * ((10 ^ l.length:Nat):Int):=by rw [List.length_cons,Nat.pow_succ];omega
  rw [e,← Int.mul_assoc]
  exact Int.mul_le_mul_of_nonneg_right (by omega) (Int.natCast_nonneg _)
structure Cano (l:List Int):Prop where
 ne:l≠[]
 d:Dgs l
 z:l.head?=some 48→l.length=1
theorem head_app {l m:List Int} (h:l≠[]):(l++m).head?=l.head?:=by
 cases l with
 | nil=>exact absurd rfl h
 | cons x l=>rfl
theorem dgL_cano (n:Nat):Cano (dgL n):=by
 refine ⟨dgL_ne n,dgL_dgs n, ?_⟩
 induction n using Nat.strongRecOn with
 | _ n ih=>
  rw [dgL]
  by_cases h:n < 10
  ·rw [dif_pos h];intro _;rfl
  ·rw [dif_neg h]
   intro h2
   rw [head_app (dgL_ne _)] at h2
   have h3:=ih (n / 10) (by omega) h2
   have h4:dgL (n / 10)=[48]:=by
    match hd:dgL (n / 10),h2,h3 with
    | [x],h2,_=>simpa using h2
   have:=valL_dgL (n / 10)
   rw [h4] at this
   simp [valL] at this
   omega
theorem Cano.val:∀ {k:Nat} {l:List Int},l.length=k→Cano l→dgL (valL 0 l).toNat=l:=by
 intro k
 induction k with
 | zero=>intro l h c;exact absurd (List.length_eq_zero_iff.1 h) c.ne
 | succ k ih=>
  intro l h c
  obtain ⟨l',x,rfl⟩:∃ l' x,l=l'++[x]:=⟨l.dropLast,l.getLast c.ne,(List.dropLast_concat_getLast c.ne).symm⟩
  have hx:=c.d x (by simp)
  have hl:l'.length=k:=by simpa using h
  rw [valL_app]
  by_cases hk:l'=[]
  ·subst hk
   simp only [valL]
   rw [dgL,dif_pos (by omega)]
   simp;omega
  ·have d':Dgs l':=fun b hb=>c.d b (List.mem_append_left _ hb)
   have c':Cano l':=⟨hk,d',fun h2=>by
    have:=c.z (by rw [head_app hk];exact h2)
    have h0:l'.length≠0:=fun e=>hk (List.length_eq_zero_iff.1 e)
    rw [List.length_append] at this
    exact absurd this (by simp only [List.length_cons,List.length_nil];omega)⟩
   have e:=ih hl c'
   have hv:=valL_le l' 0 (by omega) d'
   have h1:1≤valL 0 l':=by
    by_cases h0:valL 0 l'=0
    ·rw [h0] at e
     have e2:l'=[48]:=by rw [← e];rw [dgL];rfl
     have:=c.z (by rw [e2];rfl)
     rw [e2] at this
     simp at this
    ·omega
   have e3:(valL 0 l' * 10+(x - 48)).toNat / 10=(valL 0 l').toNat:=by omega
   have e4:(((valL 0 l' * 10+(x - 48)).toNat % 10:Nat):Int)=x - 48:=by omega
   rw [dgL,dif_neg (by omega),e3,e,e4]
   congr 2
   omega
def natB (d:Nat) (l:List Int):Bool:=(!l.isEmpty)&&decide (l.length≤d)&&l.all (fun x=>decide (48≤x)&&decide (x≤57))&&(decide (l.length=1)||!(l.head?==some 48))
theorem natB_iff {d:Nat} {l:List Int}:natB d l=true↔Cano l∧l.length≤d:=by
 unfold natB
 simp only [Bool.and_eq_true,Bool.not_eq_true',decide_eq_true_eq,List.all_eq_true,Bool.or_eq_true,beq_eq_false_iff_ne,ne_eq,List.isEmpty_eq_false_iff]
 constructor
 ·rintro ⟨⟨⟨h1,h2⟩,h3⟩,h4⟩
  exact ⟨⟨h1,h3,fun h=>by rcases h4 with h4 | h4;exact h4;exact absurd h h4⟩,h2⟩
 ·rintro ⟨⟨h1,h3,h4⟩,h2⟩
  refine ⟨⟨⟨h1,h2⟩,h3⟩, ?_⟩
  by_cases h:l.head?=some 48
  ·exact .inl (h4 h)
  ·exact .inr h
theorem natB_val {d:Nat} {l:List Int} (h:natB d l=true) (hd:d≤9):0≤valL 0 l∧valL 0 l < 1000000000∧dcI (valL 0 l)=l:=by
 obtain ⟨c,hl⟩:=natB_iff.1 h
 have hv:=valL_le l 0 (by omega) c.d
 have hp:10 ^ l.length≤10 ^ 9:=Nat.pow_le_pow_right (by omega) (by omega)
 have e9:10 ^ 9=1000000000:=by decide
 refine ⟨hv.1,by omega, ?_⟩
 unfold dcI
 rw [if_neg (by omega),Cano.val rfl c]
theorem dcI_nat {n:Int} (h:0≤n) (d:Nat) (hl:(dcI n).length≤d):natB d (dcI n)=true∧valL 0 (dcI n)=n:=by
 unfold dcI at hl ⊢
 rw [if_neg (by omega)] at hl ⊢
 exact ⟨natB_iff.2 ⟨dgL_cano _,hl⟩,by rw [valL_dgL];omega⟩
theorem dec_u8:∀ (l:List Int) (a:Nat),Dgs l→Lib.decFrom a (l.map u8)=some (valL a l).toNat
 | [],a,_=>by simp [Lib.decFrom,valL]
 | x::l,a,h=>by
  have hx:=h x List.mem_cons_self
  have hn:(u8 x).toNat=x.toNat:=by have:=u8_nat x (by omega);omega
  have ih:=dec_u8 l (a * 10+(x.toNat - 48)) (fun b hb=>h b (List.mem_cons_of_mem _ hb))
  rw [List.map_cons,Lib.decFrom,Lib.digitVal,hn,if_pos (by omega)]
  simp only
  rw [ih,valL]
  have e:((a * 10+(x.toNat - 48):Nat):Int)=(a:Int) * 10+(x - 48):=by omega
  rw [e]
theorem atoi_u8 {l:List Int} (hn:l≠[]) (h:Dgs l) (hl:l.length≤18):Lib.atoiAll (l.map u8)=.ok (valL 0 l):=by
 rw [Lib.atoiAll_short _ (by simpa using hl)]
 match l,hn with
 | x::l,_=>
  have hx:=h x List.mem_cons_self
  have hn:(u8 x).toNat=x.toNat:=by have:=u8_nat x (by omega);omega
  have h45:(u8 x==45)=false:=by
   rw [beq_eq_false_iff_ne];intro e;rw [e] at hn
   have:(45:UInt8).toNat=45:=rfl
   omega
  have h43:(u8 x==43)=false:=by
   rw [beq_eq_false_iff_ne];intro e;rw [e] at hn
   have:(43:UInt8).toNat=43:=rfl
   omega
  have hd:=dec_u8 (x::l) 0 h
  rw [show ((0:Nat):Int)=0 from rfl] at hd
  rw [List.map_cons] at hd ⊢
  rw [Lib.atoi,h45,h43]
  simp only [Bool.false_eq_true,if_false,Lib.decNat,List.isEmpty_cons,hd,Option.map_some,Lib.NumEnd.ofOption]
  have:=(valL_le (x::l) 0 (by omega) h).1
  congr 1
  omega
end Go.Proofs.YtmmafhopnkkeeaaGreatDoor
