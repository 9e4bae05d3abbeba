/- Part. Conditions: none. -/
import Derived.Test.YtgdjbbnicgfohacGreatDoorPa
import Derived.Test.YtgdjbbnicgfohacGreatDoorPq
namespace Go.Proofs.YtgdjbbnicgfohacGreatDoor
set_option linter.unusedSimpArgs false
set_option linter.unusedVariables false
set_option maxRecDepth 4000
variable {G:aF}{bb:Bool}
open Go.RowKit
theorem aH9:∀n:Nat,Lib.repeatL (⟨#[0]⟩:ByteArray).data.toList n=(zl n).map u8
 |0=>rfl
 | n+1=>by
  rw[Lib.repeatL,aH9 n];rfl
theorem aQ7{n:Nat}(h:n<=100000):QC Tryz.prog G 107 [.one (.dc (.raw (.string ⟨#[0]⟩))),vi n] (sv (zl n)):=by
 intro F γ vs w d g f;obtain⟨x,y,rfl,a,b⟩:=aHK f;have a:=cU a;have b:=cU b;subst a;subst b;refine (Tryz.strings_Repeat ⟨#[0]⟩ n w (by omega) (by show 1*n<=_;omega)).mono ?_;rintro e w' ⟨rfl,c⟩;rw[aH9];exact sU d c (.one _ _ (.dc _ _ (.raw _ rfl)))
def aMG:Int->Option (AV×L aD)
 |.ofNat n=>if n<=100000 then some (sv (zl n),[]) else none
 |_=>none
def aQ8:L AV->L aD->Option (AV×L aD)
 |[.one (.dc (.raw (.string s))),.one (.dc (.raw (.int .i64 n)))],[]=>if s.data.toList=[0] then aMG n else none
 |_,_=>none
noncomputable def dU(G:aF)(b:Bool):aO:=fun f a hp=>if f=107 then aQ8 a hp else if f=62 then aME a hp else lM G b f a hp
theorem aIa{b:Bool}(m:b=true->QC Tryz.prog G 4 [] (.one (.dc (.raw (.bool true))))):cH Tryz.prog G (dU G b):=by
 intro f c hp k q h d i;unfold dU at h;split at h;rename_i hf;subst hf;refine⟨by kernel_rfl,?_⟩;unfold aQ8 at h;split at h;rename_i s n;split at h;rename_i j;have es:s=⟨#[0]⟩:=by
  obtain⟨⟨l⟩⟩:=s;have j:l=[0]:=j;rw[j]
 subst es;unfold aMG at h;split at h;rename_i n;split at h;rename_i p;injection h with h;injection h with e g;subst e;subst g
 have:d=[]:=by simpa using i
 subst this;exact (aQ7 (G:=G) p).gh (fun a o ⟨e,g⟩ _=>⟨a,o,Gh.refl,aZv _,e,by rw[g];rfl⟩)
 cases h;cases h;cases h;cases h;split at h;rename_i hf;subst hf;exact⟨by kernel_rfl,aMF h i⟩;exact aQQ m f c hp k q h d i
theorem aMH{b:Bool}(f:FuncId)(a:L AV)(hp:L aD)(r:AV×L aD)(h:lM G b f a hp=some r):dU G b f a hp=some r:=by
 unfold dU;split;rename_i hf;subst hf;have c:lM G b 107 a hp=none:=rfl;rw[c] at h;cases h;split;rename_i hf;subst hf;have c:lM G b 62 a hp=none:=rfl;rw[c] at h;cases h;exact h
theorem upT{b:Bool}{f:FuncId}{a:L AV}{hp:L aD}{r:AV×L aD}(h:EV G (Tb (lM G b)) f a hp=some r):EV G (Tb (dU G b)) f a hp=some r:=
 aHl (T:=Tb (lM G b)) (T':=Tb (dU G b)) (fun _=>rfl) (fun f a hp r _ h=>aMH (G:=G) f a hp r h) h
theorem upS{b:Bool}{f:FuncId}{a:L AV}{hp:L aD}{r:AV×L aD}(h:EV G (Tb (lJ b)) f a hp=some r):EV G (Tb (dU G b)) f a hp=some r:=upT (Fj h)
theorem aQ9{n:Nat}(h:n<=100000):dU G bb 107 [.one (.dc (.raw (.string ⟨#[0]⟩))),vi n] []=some (sv (zl n),[]):=by
 unfold dU;rw[if_pos rfl];unfold aQ8;simp only;rw[if_pos trivial];show aMG (.ofNat n)=_;rw[aMG,if_pos h]
theorem aVF(x:Bt)(b c:DC)(N:Nat)(a:L Int)(s:L Int)(e:(-1000000<=x.mi/\x.mi<=1000000)/\2<=x.cl/\x.cl<=1000000)(d:a.length<=1000000):EV G (Tb (dU G bb)) 62 [.one (.ptr 0 0)] [sX x b c N (.slc (a.map fun n=>[ci n])),yb s]=some (vb (tQ x a),[sX x b c N (.slc (a.map fun n=>[ci n])),yb s]):=by
 refine jC rfl ?_;show dU G bb 62 [.one (.ptr 0 0)] [sX x b c N (.slc (a.map fun n=>[ci n])),yb s]=some (vb (tQ x a),[sX x b c N (.slc (a.map fun n=>[ci n])),yb s])
 unfold dU;rw[if_neg (by decide),if_pos rfl];exact aQ6 x b c N a _ e d
