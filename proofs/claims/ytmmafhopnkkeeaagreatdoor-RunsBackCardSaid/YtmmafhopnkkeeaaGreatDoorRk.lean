/- strings.Join as a base contract. Conditions: none. -/
import Derived.Test.YtmmafhopnkkeeaaGreatDoorNg
import Derived.Test.YtmmafhopnkkeeaaGreatDoorQa
namespace Go.Proofs.YtmmafhopnkkeeaaGreatDoor
set_option linter.unusedSimpArgs false
set_option linter.unusedVariables false
open Go.RowKit
def strD (s:ByteArray):List DC:=[.raw (.string s)]
abbrev joinS (xs:List ByteArray) (sep:ByteArray):ByteArray:=⟨(Lib.join (xs.map (·.data.toList)) sep.data.toList).toArray⟩
theorem below_post {F:Fz} {γ:List OI} {w w':World} {av:AV} {v:Value} (hi:Inv F γ [] w) (hb:Below w.heap.size w w') (hv:RV F γ av v):
  ∃ r av' objs' F' γ',Ending.returned v=.returned r∧(av'=av∧objs'=[])∧0≤objs'.length∧Ext 0 F γ w F' γ' w'∧Inv F' γ' objs' w'∧RV F' γ' av' r:=by
 have hg:γ=[]:=List.eq_nil_of_length_eq_zero hi.len
 subst hg
 refine ⟨v,av,[],F,[],rfl,⟨rfl,rfl⟩,Nat.zero_le _,⟨fun _ _ h=>h,hb.os,hb.tape,hb.output,hb.size,fun b h _=>hb.block b h,fun _ _ h=>.inl h,(fun _ _ h=>by cases h),(fun _ h=>by omega)⟩,
  ⟨fun b o h=>?_,rfl,(fun _ _ _ h=>by cases h),(fun _ _ h=>by cases h),(fun _ _ _ h=>by cases h)⟩,hv⟩
 have h1:=hi.fz b o h
 rw [hb.block b ((Array.getElem?_eq_some_iff.1 h1).1)]
 exact h1
theorem args2' {F:Fz} {γ:List OI} {a b:AV} {vs:Array Value} (hv:argsOK F γ [a,b] vs):∃ x y,vs=#[x,y]∧RV F γ a x∧RV F γ b y:=by
 obtain ⟨hz,hv⟩:=hv
 obtain ⟨l⟩:=vs
 match l,hz with
 | [x,y],_=>exact ⟨x,y,rfl,hv 0 _ _ rfl rfl,hv 1 _ _ rfl rfl⟩
theorem join_qc {G:Glob} {xs:List ByteArray} {sep:ByteArray} (h1:xs.length≤140737488355328) (h2:(Lib.join (xs.map (·.data.toList)) sep.data.toList).length≤140737488355328):
  QC Tryz.prog G 39 [.one (.dc (.slc (xs.map strD))),.one (.dc (.raw (.string sep)))] (.one (.dc (.raw (.string (joinS xs sep))))):=by
 intro F γ vs w hi hg hv
 obtain ⟨x,y,rfl,hx,hy⟩:=args2' hv
 have hy:=rv_raw hy
 subst hy
 have hrv:∀ s:ByteArray,RV F γ (.one (.dc (.raw (.string s)))) (.string s):=fun s=>.one _ _ (.dc _ _ (.raw _ rfl))
 generalize hes:xs.map strD=es at hx
 cases hx with | one _ _ hx=>cases hx with | dc _ _ hx=>cases hx with
 | nil A c=>
  have hn:xs=[]:=by simpa using hes
  subst hn
  refine (Tryz.strings_Join_none A c sep w).mono ?_
  rintro e w' ⟨rfl,rfl⟩
  exact below_post hi (Below.refl _ _) (hrv _)
 | slc b off c size es g hsz hr hc hcap=>
  subst hes
  cases xs with
  | nil=>
   refine (Tryz.strings_Join_none (some ⟨b,off,none⟩) c sep w).mono ?_
   rintro e w' ⟨rfl,rfl⟩
   exact below_post hi (Below.refl _ _) (hrv _)
  | cons x0 xs=>
   have hsize:size=1:=(hsz (strD x0) (by simp)).symm
   subst hsize
   have hcells:∀ (j:Nat) s,(x0::xs)[j]?=some s→w.cell? ⟨b,off+j,none⟩=some (.string s):=by
    intro j s hj
    have e1:((x0::xs).map strD)[j]?=some (strD s):=by rw [List.getElem?_map,hj];rfl
    have h3:=hc j 0 (strD s) (.raw (.string s)) e1 rfl
    have h4:=hr j 0 (strD s) (.raw (.string s)) e1 rfl
    rw [Nat.mul_one,Nat.add_zero] at h3
    have h5:=Fz.cell_world hi.fz h3
    generalize g j 0=u at h4 h5
    cases h4
    exact h5
   have hbk:b < w.heap.size:=by
    have h3:=hc 0 0 (strD x0) (.raw (.string x0)) rfl rfl
    unfold Fz.cell? at h3
    simp only at h3
    cases hb:F b with
    | none=>rw [hb] at h3;cases h3
    | some o=>exact (Array.getElem?_eq_some_iff.1 (hi.fz b o hb)).1
   have:=Tryz.strings_Join b off c (x0::xs) sep w hcells hbk h1 (by simpa using hcap) h2
   rw [List.length_map]
   refine this.mono ?_
   rintro e w' ⟨rfl,hb⟩
   exact below_post hi hb (hrv _)
end Go.Proofs.YtmmafhopnkkeeaaGreatDoor
