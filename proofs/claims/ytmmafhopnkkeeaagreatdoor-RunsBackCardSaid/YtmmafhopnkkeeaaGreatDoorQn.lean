/- Strings cut at a byte. Conditions: none. -/
import Derived.Test.YtmmafhopnkkeeaaGreatDoorVn
import Derived.Lib.SplitLaws
namespace Go.Proofs.YtmmafhopnkkeeaaGreatDoor
set_option linter.unusedSimpArgs false
set_option linter.unusedVariables false
section
variable {α:Type}
def cnsH (x:α):List (List α)→List (List α)
 | []=>[[x]]
 | p::ps=>(x::p)::ps
theorem cnsH_map {β:Type} (f:α→β) (x:α) (ps:List (List α)):cnsH (f x) (ps.map (·.map f))=(cnsH x ps).map (·.map f):=by
 cases ps<;>rfl
end
section
variable {α:Type} [DecidableEq α]
def spl (c:α):List α→List (List α)
 | []=>[[]]
 | x::l=>if x=c then []::spl c l else cnsH x (spl c l)
def ctI (c:α):List α→List α × List α × Bool
 | []=>([],[],false)
 | x::l=>if x=c then ([],l,true) else (x::(ctI c l).1,(ctI c l).2.1,(ctI c l).2.2)
theorem spl_ne (c:α):∀ l,spl c l≠[]
 | []=>by simp [spl]
 | x::l=>by
  rw [spl]
  split
  ·simp
  ·cases spl c l<;>simp [cnsH]
theorem spl_map {β:Type} [DecidableEq β] (f:α→β) (c:α):∀ l:List α,(∀ x∈l,f x=f c→x=c)→spl (f c) (l.map f)=(spl c l).map (·.map f)
 | [],_=>rfl
 | x::l,h=>by
  have ih:=spl_map f c l (fun y hy=>h y (List.mem_cons_of_mem _ hy))
  rw [List.map_cons,spl,spl,ih]
  by_cases e:x=c
  ·rw [if_pos e,if_pos (by rw [e])];rfl
  ·rw [if_neg e,if_neg (fun q=>e (h x List.mem_cons_self q)),cnsH_map]
theorem ctI_map {β:Type} [DecidableEq β] (f:α→β) (c:α):∀ l:List α,(∀ x∈l,f x=f c→x=c)→ctI (f c) (l.map f)=((ctI c l).1.map f,(ctI c l).2.1.map f,(ctI c l).2.2)
 | [],_=>rfl
 | x::l,h=>by
  have ih:=ctI_map f c l (fun y hy=>h y (List.mem_cons_of_mem _ hy))
  rw [List.map_cons,ctI,ctI]
  by_cases e:x=c
  ·rw [if_pos e,if_pos (by rw [e])];rfl
  ·rw [if_neg e,if_neg (fun q=>e (h x List.mem_cons_self q)),ih];rfl
theorem spl_free (c:α):∀ l:List α,c∉l→spl c l=[l]
 | [],_=>rfl
 | x::l,h=>by
  rw [spl,if_neg (fun e=>h (by rw [e];exact List.mem_cons_self)),spl_free c l (fun q=>h (List.mem_cons_of_mem _ q))];rfl
theorem ctI_free (c:α):∀ l:List α,c∉l→ctI c l=(l,[],false)
 | [],_=>rfl
 | x::l,h=>by
  rw [ctI,if_neg (fun e=>h (by rw [e];exact List.mem_cons_self)),ctI_free c l (fun q=>h (List.mem_cons_of_mem _ q))]
theorem spl_app (c:α):∀ a b:List α,c∉a→spl c (a++c::b)=a::spl c b
 | [],b,_=>by rw [List.nil_append,spl,if_pos rfl]
 | x::a,b,h=>by
  rw [List.cons_append,spl,if_neg (fun e=>h (by rw [e];exact List.mem_cons_self)),spl_app c a b (fun q=>h (List.mem_cons_of_mem _ q))];rfl
theorem ctI_app (c:α):∀ a b:List α,c∉a→ctI c (a++c::b)=(a,b,true)
 | [],b,_=>by rw [List.nil_append,ctI,if_pos rfl]
 | x::a,b,h=>by
  rw [List.cons_append,ctI,if_neg (fun e=>h (by rw [e];exact List.mem_cons_self)),ctI_app c a b (fun q=>h (List.mem_cons_of_mem _ q))]
theorem ctI_cases (c:α):∀ l:List α,(c∉l∧ctI c l=(l,[],false))∨∃ a b,l=a++c::b∧c∉a∧ctI c l=(a,b,true):=by
 intro l
 by_cases h:c∈l
 ·obtain ⟨a,b,rfl,h2⟩:∃ a b,l=a++c::b∧c∉a:=List.eq_append_cons_of_mem h
  exact .inr ⟨a,b,rfl,h2,ctI_app c a b h2⟩
 ·exact .inl ⟨h,ctI_free c l h⟩
theorem spl_snoc (c x:α):∀ l:List α,spl c (l++[x])=if x=c then spl c l++[[]] else (spl c l).dropLast++[(spl c l).getLastD []++[x]]
 | []=>by
  by_cases e:x=c
  ·subst e;simp [spl]
  ·simp [spl,e,cnsH]
 | y::l=>by
  have ih:=spl_snoc c x l
  have hn:=spl_ne c l
  rw [List.cons_append,spl,ih]
  simp only [spl]
  generalize spl c l=S at *
  cases S with
  | nil=>exact absurd rfl hn
  | cons p ps=>
   by_cases e:x=c
   ·rw [if_pos e,if_pos e]
    by_cases d:y=c
    ·rw [if_pos d,if_pos d];rfl
    ·rw [if_neg d,if_neg d];rfl
   ·rw [if_neg e,if_neg e]
    by_cases d:y=c
    ·rw [if_pos d,if_pos d];rfl
    ·rw [if_neg d,if_neg d]
     cases ps with
     | nil=>rfl
     | cons q qs=>rfl
end
theorem index_one (b c:UInt8) (l:List UInt8):Lib.index (b::l) [c]=if b=c then 0 else if Lib.index l [c]=-1 then -1 else Lib.index l [c]+1:=by
 rw [Lib.index]
 have:[c].isPrefixOf (b::l)=(c==b):=by simp [List.isPrefixOf]
 rw [this]
 by_cases h:b=c
 ·subst h;simp
 ·have h2:¬ (c==b)=true:=by simpa using fun e:c=b=>h e.symm
  rw [if_neg h2,if_neg h];simp only [beq_iff_eq]
theorem cut_one (c:UInt8):∀ l:List UInt8,Lib.cut l [c]=ctI c l
 | []=>by simp [Lib.cut,Lib.index,ctI]
 | b::l=>by
  have ih:=cut_one c l
  have hg:=Lib.index_ge l [c]
  unfold Lib.cut at ih ⊢
  rw [index_one,ctI,← ih]
  by_cases h:b=c
  ·simp [h]
  ·rw [if_neg h,if_neg h]
   by_cases h2:Lib.index l [c]=-1
   ·rw [if_pos h2,h2];rfl
   ·rw [if_neg h2]
    have h3:0≤Lib.index l [c]:=by omega
    have h4:0≤Lib.index l [c]+1:=by omega
    have h5:(Lib.index l [c]+1).toNat=(Lib.index l [c]).toNat+1:=by omega
    rw [if_pos h3,if_pos h4,h5]
    simp [Nat.add_right_comm]
theorem u8_inj {c:Int} (hc:0≤c∧c≤255) {l:List Int} (hl:Byts l):∀ x∈l,u8 x=u8 c→x=c:=fun x hx e=>by
 rw [← u8_nat x (hl x hx),← u8_nat c hc,e]
theorem cut_s {c:Int} (hc:0≤c∧c≤255) {l:List Int} (hl:Byts l):Lib.cut (str l).data.toList (str [c]).data.toList=((ctI c l).1.map u8,(ctI c l).2.1.map u8,(ctI c l).2.2):=by
 have h3:(str [c]).data.toList=[u8 c]:=by rw [str_data];rfl
 rw [h3,str_data l,cut_one,ctI_map u8 c l (u8_inj hc hl)]
end Go.Proofs.YtmmafhopnkkeeaaGreatDoor
