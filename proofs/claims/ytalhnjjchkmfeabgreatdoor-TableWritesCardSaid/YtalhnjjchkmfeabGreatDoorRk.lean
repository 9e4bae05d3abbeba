/- Part. Conditions: none. -/
import Derived.Test.YtalhnjjchkmfeabGreatDoorTa
import Derived.Test.YtalhnjjchkmfeabGreatDoorRj
namespace Go.Proofs.YtalhnjjchkmfeabGreatDoor
set_option linter.unusedSimpArgs false
set_option linter.unusedVariables false
open Go.RowKit
def Gx(s:ByteArray):L DC:=[.raw (.string s)]
abbrev Um(b:L ByteArray)(a:ByteArray):ByteArray:=⟨(Lib.join (b.map (·.data.toList)) a.data.toList).toArray⟩
theorem tO{F:Fz}{γ:L OI}{w w':World}{av:AV}{v:Value}(f:eG F γ [] w)(c:Below w.heap.size w w')(i:RV F γ av v):∃r d a F' γ',Ending.returned v=.returned r/\(d=av/\a=[])/\0<=a.length/\iU 0 F γ w F' γ' w'/\eG F' γ' a w'/\RV F' γ' d r:=by
 have g:γ=[]:=bAk f.len;subst g;refine⟨v,av,[],F,[],rfl,⟨rfl,rfl⟩,aZx _,⟨fun _ _ h=>h,c.os,c.tape,c.output,c.size,fun b h _=>c.block b h,fun _ _ h=>.inl h,(fun _ _ h=>by cases h),(fun _ h=>by omega)⟩,
  ⟨fun b o h=>?_,rfl,(fun _ _ _ h=>by cases h),(fun _ _ h=>by cases h),(fun _ _ _ h=>by cases h)⟩,i⟩
 have e:=f.fz b o h;rw[c.block b ((Array.getElem?_eq_some_iff.1 e).1)];exact e
theorem aHu{F:Fz}{γ:L OI}{a b:AV}{vs:Array Value}(c:mX F γ [a,b] vs):∃x y,vs=#[x,y]/\RV F γ a x/\RV F γ b y:=by
 obtain⟨d,c⟩:=c;obtain⟨l⟩:=vs
 match l,d with
 |[x,y],_=>exact⟨x,y,rfl,c 0 _ _ rfl rfl,c 1 _ _ rfl rfl⟩
theorem aL4{G:aE}{d:L ByteArray}{a:ByteArray}(C:d.length<=140737488355328)(D:(Lib.join (d.map (·.data.toList)) a.data.toList).length<=140737488355328):QC Tryz.prog G 113 [.one (.dc (.slc (d.map Gx))),.one (.dc (.raw (.string a)))] (.one (.dc (.raw (.string (Um d a))))):=by
 intro F γ vs w p K J;obtain⟨x,y,rfl,k,v⟩:=aHu J;have v:=cX v;subst v;have h:∀s:ByteArray,RV F γ (.one (.dc (.raw (.string s)))) (.string s):=fun s=>.one _ _ (.dc _ _ (.raw _ rfl))
 generalize n:d.map Gx=es at k;cases k with|one _ _ k=>cases k with|dc _ _ k=>cases k with
 |nil A c=>
  have H:d=[]:=by simpa using n
  subst H;refine (Tryz.strings_Join_none A c a w).mono ?_;rintro e w' ⟨rfl,rfl⟩;exact tO p (Below.refl _ _) (h _)
 |slc b off c size es g t I B m=>
  subst n;cases d with
  |nil=>
   refine (Tryz.strings_Join_none (some ⟨b,off,none⟩) c a w).mono ?_;rintro e w' ⟨rfl,rfl⟩;exact tO p (Below.refl _ _) (h _)
  |cons l d=>
   have i:size=1:=(t (Gx l) (by simp)).symm;subst i;have f:∀(j:Nat) s,(l::d)[j]?=some s->w.cell? ⟨b,off+j,none⟩=some (.string s):=by
    intro j s E;have z:((l::d).map Gx)[j]?=some (Gx s):=by rw[aZj,E];rfl
    have h3:=B j 0 (Gx s) (.raw (.string s)) z rfl;have h4:=I j 0 (Gx s) (.raw (.string s)) z rfl;rw[aZ2,aZY] at h3;have h5:=Fz.cell_world p.fz h3;generalize g j 0=u at h4 h5;cases h4;exact h5
   have r:b<w.heap.size:=by
    have h3:=B 0 0 (Gx l) (.raw (.string l)) rfl rfl;unfold Fz.cell? at h3;simp only at h3;cases q:F b with
    |none=>rw[q] at h3;cases h3
    |some o=>exact (Array.getElem?_eq_some_iff.1 (p.fz b o q)).1
   have:=Tryz.strings_Join b off c (l::d) a w f r C (by simpa using m) D;rw[aY9];refine this.mono ?_;rintro e w' ⟨rfl,q⟩;exact tO p q (h _)
