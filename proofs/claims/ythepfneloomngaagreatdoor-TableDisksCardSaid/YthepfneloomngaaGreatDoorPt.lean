/- The base of the table for tables: Repeat by the library, clashes by the kit's walk. Conditions: none. -/
import Derived.Test.YthepfneloomngaaGreatDoorPa
import Derived.Test.YthepfneloomngaaGreatDoorPq
namespace Go.Proofs.YthepfneloomngaaGreatDoor
set_option linter.unusedSimpArgs false
set_option linter.unusedVariables false
set_option maxRecDepth 4000
variable {G:aF} {bb:Bool}
open Go.RowKit
theorem aFf:∀ n:Nat,Lib.repeatL (⟨#[0]⟩:ByteArray).data.toList n=(zl n).map u8
 | 0=>rfl
 | n+1=>by
  rw[Lib.repeatL,aFf n];rfl
theorem aOd{n:Nat}(h:n<=100000):QC Tryz.prog G 170 [.one (.dc (.raw (.string ⟨#[0]⟩))),vi n] (sv (zl n)):=by
 intro F γ vs w hi hg hv;obtain⟨x,y,rfl,hx,hy⟩:=aET hv;have hx:=cM hx;have hy:=cM hy;subst hx;subst hy;refine (Tryz.strings_Repeat ⟨#[0]⟩ n w (by omega) (by show 1 * n<=_;omega)).mono ?_;rintro e w' ⟨rfl,hb⟩;rw[aFf];exact qL hi hb (.one _ _ (.dc _ _ (.raw _ rfl)))
def aJF:Int->Option (AV × List aD)
 | .ofNat n=>if n<=100000 then some (sv (zl n),[]) else none
 | _=>none
def aOe:List AV->List aD->Option (AV × List aD)
 | [.one (.dc (.raw (.string s))),.one (.dc (.raw (.int .i64 n)))],[]=>if s.data.toList=[0] then aJF n else none
 | _,_=>none
noncomputable def eI(G:aF)(b:Bool):aO:=fun f args hp=>if f=170 then aOe args hp else if f=154 then aJD args hp else Bf G b f args hp
theorem aFg{b:Bool}(hA:b=true->QC Tryz.prog G 11 [] (.one (.dc (.raw (.bool true))))):cB Tryz.prog G (eI G b):=by
 intro f args hp av o' h hp0 hh;unfold eI at h;split at h
 ·rename_i hf;subst hf;refine⟨by kernel_rfl, ?_⟩;unfold aOe at h;split at h
  ·rename_i s n;split at h
   ·rename_i hs;have es:s=⟨#[0]⟩:=by
     obtain⟨⟨l⟩⟩:=s;have hs:l=[0]:=hs;rw[hs]
    subst es;unfold aJF at h;split at h
    ·rename_i n;split at h
     ·rename_i hc;injection h with h;injection h with h1 h2;subst h1;subst h2
      have:hp0=[]:=by simpa using hh
      subst this;exact (aOd (G:=G) hc).gh (fun a o ⟨h1,h2⟩ _=>⟨a,o,Gh.refl,aWA _,h1,by rw[h2];rfl⟩)
     ·cases h
    ·cases h
   ·cases h
  ·cases h
 ·split at h
  ·rename_i hf;subst hf;exact⟨by kernel_rfl,aJE h hh⟩
  ·exact aNX hA f args hp av o' h hp0 hh
theorem aJG{b:Bool}(f:FuncId)(args:List AV)(hp:List aD)(r:AV × List aD)(h:Bf G b f args hp=some r):eI G b f args hp=some r:=by
 unfold eI;split
 ·rename_i hf;subst hf;have hn:Bf G b 170 args hp=none:=rfl;rw[hn] at h;cases h
 ·split
  ·rename_i hf;subst hf;have hn:Bf G b 154 args hp=none:=rfl;rw[hn] at h;cases h
  ·exact h
theorem upT{b:Bool}{f:FuncId}{a:List AV}{hp:List aD}{r:AV × List aD}(h:EV G (Tb (Bf G b)) f a hp=some r):EV G (Tb (eI G b)) f a hp=some r:=
 aEt (T:=Tb (Bf G b)) (T':=Tb (eI G b)) (fun _=>rfl) (fun f a hp r _ h=>aJG (G:=G) f a hp r h) h
theorem upS{b:Bool}{f:FuncId}{a:List AV}{hp:List aD}{r:AV × List aD}(h:EV G (Tb (mE b)) f a hp=some r):EV G (Tb (eI G b)) f a hp=some r:=upT (up2 h)
theorem aFh{n:Nat}(h:n<=100000):eI G bb 170 [.one (.dc (.raw (.string ⟨#[0]⟩))),vi n] []=some (sv (zl n),[]):=by
 unfold eI;rw[if_pos rfl];unfold aOe;simp only;rw[if_pos trivial];show aJF (.ofNat n)=_;rw[aJF,if_pos h]
theorem aSk(x:Bt)(d6 d7:DC)(N:Nat)(cl:List Int)(s:List Int)(hx:(-1000000<=x.mi/\x.mi<=1000000)/\2<=x.cl/\x.cl<=1000000)(hl:cl.length<=1000000):
  EV G (Tb (eI G bb)) 154 [.one (.ptr 0 0)] [uX x d6 d7 N (.slc (cl.map fun n=>[ci n])),yb s]=some (vb (A4 x cl),[uX x d6 d7 N (.slc (cl.map fun n=>[ci n])),yb s]):=by
 refine iI rfl ?_;show eI G bb 154 [.one (.ptr 0 0)] [uX x d6 d7 N (.slc (cl.map fun n=>[ci n])),yb s]=some (vb (A4 x cl),[uX x d6 d7 N (.slc (cl.map fun n=>[ci n])),yb s])
 unfold eI;rw[if_neg (by decide),if_pos rfl];exact aOc x d6 d7 N cl _ hx hl
end Go.Proofs.YthepfneloomngaaGreatDoor
