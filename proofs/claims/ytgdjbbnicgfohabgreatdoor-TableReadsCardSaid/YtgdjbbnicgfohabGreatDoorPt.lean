/- Part. Conditions: none. -/
import Derived.Test.YtgdjbbnicgfohabGreatDoorPa
import Derived.Test.YtgdjbbnicgfohabGreatDoorPq
namespace Go.Proofs.YtgdjbbnicgfohabGreatDoor
set_option linter.unusedSimpArgs false
set_option linter.unusedVariables false
set_option maxRecDepth 4000
variable {G:aF}{bb:Bool}
open Go.RowKit
theorem aIp:∀n:Nat,Lib.repeatL (⟨#[0]⟩:ByteArray).data.toList n=(zl n).map u8
 |0=>rfl
 | n+1=>by
  rw[Lib.repeatL,aIp n];rfl
theorem aRA{n:Nat}(h:n<=100000):QC Tryz.prog G 96 [.one (.dc (.raw (.string ⟨#[0]⟩))),vi n] (sv (zl n)):=by
 intro F γ vs w d g f;obtain⟨x,y,rfl,a,b⟩:=aHZ f;have a:=cV a;have b:=cV b;subst a;subst b;refine (Tryz.strings_Repeat ⟨#[0]⟩ n w (by omega) (by show 1*n<=_;omega)).mono ?_;rintro e w' ⟨rfl,c⟩;rw[aIp];exact sX d c (.one _ _ (.dc _ _ (.raw _ rfl)))
def aM3:Int->Option (AV×L aD)
 |.ofNat n=>if n<=100000 then some (sv (zl n),[]) else none
 |_=>none
def aRB:L AV->L aD->Option (AV×L aD)
 |[.one (.dc (.raw (.string s))),.one (.dc (.raw (.int .i64 n)))],[]=>if s.data.toList=[0] then aM3 n else none
 |_,_=>none
noncomputable def eL(G:aF)(b:Bool):aO:=fun f a hp=>if f=96 then aRB a hp else if f=78 then aM1 a hp else lP G b f a hp
theorem aIq{b:Bool}(m:b=true->QC Tryz.prog G 4 [] (.one (.dc (.raw (.bool true))))):cH Tryz.prog G (eL G b):=by
 intro f c hp k q h d i;unfold eL at h;split at h;rename_i hf;subst hf;refine⟨by kernel_rfl,?_⟩;unfold aRB at h;split at h;rename_i s n;split at h;rename_i j;have es:s=⟨#[0]⟩:=by
  obtain⟨⟨l⟩⟩:=s;have j:l=[0]:=j;rw[j]
 subst es;unfold aM3 at h;split at h;rename_i n;split at h;rename_i p;injection h with h;injection h with e g;subst e;subst g
 have:d=[]:=by simpa using i
 subst this;exact (aRA (G:=G) p).gh (fun a o ⟨e,g⟩ _=>⟨a,o,Gh.refl,aZX _,e,by rw[g];rfl⟩)
 cases h;cases h;cases h;cases h;split at h;rename_i hf;subst hf;exact⟨by kernel_rfl,aM2 h i⟩;exact aRj m f c hp k q h d i
theorem aM4{b:Bool}(f:FuncId)(a:L AV)(hp:L aD)(r:AV×L aD)(h:lP G b f a hp=some r):eL G b f a hp=some r:=by
 unfold eL;split;rename_i hf;subst hf;have c:lP G b 96 a hp=none:=rfl;rw[c] at h;cases h;split;rename_i hf;subst hf;have c:lP G b 78 a hp=none:=rfl;rw[c] at h;cases h;exact h
theorem upT{b:Bool}{f:FuncId}{a:L AV}{hp:L aD}{r:AV×L aD}(h:EV G (Tb (lP G b)) f a hp=some r):EV G (Tb (eL G b)) f a hp=some r:=
 aHi (T:=Tb (lP G b)) (T':=Tb (eL G b)) (fun _=>rfl) (fun f a hp r _ h=>aM4 (G:=G) f a hp r h) h
theorem upS{b:Bool}{f:FuncId}{a:L AV}{hp:L aD}{r:AV×L aD}(h:EV G (Tb (lA b)) f a hp=some r):EV G (Tb (eL G b)) f a hp=some r:=upT (Fn h)
theorem aRD{n:Nat}(h:n<=100000):eL G bb 96 [.one (.dc (.raw (.string ⟨#[0]⟩))),vi n] []=some (sv (zl n),[]):=by
 unfold eL;rw[if_pos rfl];unfold aRB;simp only;rw[if_pos trivial];show aM3 (.ofNat n)=_;rw[aM3,if_pos h]
theorem aV2(x:Bt)(b c:DC)(N:Nat)(a:L Int)(s:L Int)(e:(-1000000<=x.mi/\x.mi<=1000000)/\2<=x.cl/\x.cl<=1000000)(d:a.length<=1000000):EV G (Tb (eL G bb)) 78 [.one (.ptr 0 0)] [Cp x b c N (.slc (a.map fun n=>[ci n])),yb s]=some (vb (tV x a),[Cp x b c N (.slc (a.map fun n=>[ci n])),yb s]):=by
 refine jF rfl ?_;show eL G bb 78 [.one (.ptr 0 0)] [Cp x b c N (.slc (a.map fun n=>[ci n])),yb s]=some (vb (tV x a),[Cp x b c N (.slc (a.map fun n=>[ci n])),yb s])
 unfold eL;rw[if_neg (by decide),if_pos rfl];exact aRz x b c N a _ e d
