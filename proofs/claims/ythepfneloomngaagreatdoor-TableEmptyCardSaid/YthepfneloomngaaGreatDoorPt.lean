/- The base of the table for tables: Repeat by the library, clashes by the kit's walk. Conditions: none. -/
import Derived.Test.YthepfneloomngaaGreatDoorPa
import Derived.Test.YthepfneloomngaaGreatDoorPq
namespace Go.Proofs.YthepfneloomngaaGreatDoor
set_option linter.unusedSimpArgs false
set_option linter.unusedVariables false
set_option maxRecDepth 4000
variable {G:aE}{bb:Bool}
open Go.RowKit
theorem aGa:∀n:Nat,Lib.repeatL (⟨#[0]⟩:ByteArray).data.toList n=(zl n).map u8
 |0=>rfl
 | n+1=>by
  rw[Lib.repeatL,aGa n];rfl
theorem aPy{n:Nat}(h:n<=100000):QC Tryz.prog G 170 [.one (.dc (.raw (.string ⟨#[0]⟩))),vi n] (sv (zl n)):=by
 intro F γ vs w hi hg hv;obtain⟨x,y,rfl,hx,hy⟩:=aF0 hv;have hx:=cO hx;have hy:=cO hy;subst hx;subst hy;refine (Tryz.strings_Repeat ⟨#[0]⟩ n w (by omega) (by show 1*n<=_;omega)).mono ?_;rintro e w' ⟨rfl,hb⟩;rw[aGa];exact rI hi hb (.one _ _ (.dc _ _ (.raw _ rfl)))
def aKI:Int->Option (AV×List aC)
 |.ofNat n=>if n<=100000 then some (sv (zl n),[]) else none
 |_=>none
def aPz:List AV->List aC->Option (AV×List aC)
 |[.one (.dc (.raw (.string s))),.one (.dc (.raw (.int .i64 n)))],[]=>if s.data.toList=[0] then aKI n else none
 |_,_=>none
noncomputable def dN(G:aE)(b:Bool):aO:=fun f args hp=>if f=170 then aPz args hp else if f=154 then aKG args hp else Cw G b f args hp
theorem aGb{b:Bool}(hA:b=true->QC Tryz.prog G 11 [] (.one (.dc (.raw (.bool true))))):cE Tryz.prog G (dN G b):=by
 intro f args hp av o' h hp0 hh;unfold dN at h;split at h;rename_i hf;subst hf;refine⟨by kernel_rfl,?_⟩;unfold aPz at h;split at h;rename_i s n;split at h;rename_i hs;have es:s=⟨#[0]⟩:=by
  obtain⟨⟨l⟩⟩:=s;have hs:l=[0]:=hs;rw[hs]
 subst es;unfold aKI at h;split at h;rename_i n;split at h;rename_i hc;injection h with h;injection h with h1 h2;subst h1;subst h2
 have:hp0=[]:=by simpa using hh
 subst this;exact (aPy (G:=G) hc).gh (fun a o ⟨h1,h2⟩ _=>⟨a,o,Gh.refl,aXX _,h1,by rw[h2];rfl⟩)
 cases h;cases h;cases h;cases h;split at h;rename_i hf;subst hf;exact⟨by kernel_rfl,aKH h hh⟩;exact aPu hA f args hp av o' h hp0 hh
theorem aKJ{b:Bool}(f:FuncId)(args:List AV)(hp:List aC)(r:AV×List aC)(h:Cw G b f args hp=some r):dN G b f args hp=some r:=by
 unfold dN;split;rename_i hf;subst hf;have hn:Cw G b 170 args hp=none:=rfl;rw[hn] at h;cases h;split;rename_i hf;subst hf;have hn:Cw G b 154 args hp=none:=rfl;rw[hn] at h;cases h;exact h
theorem upT{b:Bool}{f:FuncId}{a:List AV}{hp:List aC}{r:AV×List aC}(h:EV G (Tb (Cw G b)) f a hp=some r):EV G (Tb (dN G b)) f a hp=some r:=
 Yo (T:=Tb (Cw G b)) (T':=Tb (dN G b)) (fun _=>rfl) (fun f a hp r _ h=>aKJ (G:=G) f a hp r h) h
theorem upS{b:Bool}{f:FuncId}{a:List AV}{hp:List aC}{r:AV×List aC}(h:EV G (Tb (kD b)) f a hp=some r):EV G (Tb (dN G b)) f a hp=some r:=upT (up2 h)
theorem aPA{n:Nat}(h:n<=100000):dN G bb 170 [.one (.dc (.raw (.string ⟨#[0]⟩))),vi n] []=some (sv (zl n),[]):=by
 unfold dN;rw[if_pos rfl];unfold aPz;simp only;rw[if_pos trivial];show aKI (.ofNat n)=_;rw[aKI,if_pos h]
theorem aTS(x:Bt)(d6 d7:DC)(N:Nat)(cl:List Int)(s:List Int)(hx:(-1000000<=x.mi/\x.mi<=1000000)/\2<=x.cl/\x.cl<=1000000)(hl:cl.length<=1000000):
  EV G (Tb (dN G bb)) 154 [.one (.ptr 0 0)] [rM x d6 d7 N (.slc (cl.map fun n=>[ci n])),yb s]=some (vb (Ck x cl),[rM x d6 d7 N (.slc (cl.map fun n=>[ci n])),yb s]):=by
 refine gP rfl ?_;show dN G bb 154 [.one (.ptr 0 0)] [rM x d6 d7 N (.slc (cl.map fun n=>[ci n])),yb s]=some (vb (Ck x cl),[rM x d6 d7 N (.slc (cl.map fun n=>[ci n])),yb s])
 unfold dN;rw[if_neg (by decide),if_pos rfl];exact aPx x d6 d7 N cl _ hx hl
end Go.Proofs.YthepfneloomngaaGreatDoor
