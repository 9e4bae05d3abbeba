/- Part. Conditions: none. -/
import Derived.Test.YtalhnjjchkmfeabGreatDoorPa
import Derived.Test.YtalhnjjchkmfeabGreatDoorPq
namespace Go.Proofs.YtalhnjjchkmfeabGreatDoor
set_option linter.unusedSimpArgs false
set_option linter.unusedVariables false
set_option maxRecDepth 4000
variable {G:aE}{bb:Bool}
open Go.RowKit
theorem aHX:∀n:Nat,Lib.repeatL (⟨#[0]⟩:ByteArray).data.toList n=(zl n).map u8
 |0=>rfl
 | n+1=>by
  rw[Lib.repeatL,aHX n];rfl
theorem aQ0{n:Nat}(h:n<=100000):QC Tryz.prog G 137 [.one (.dc (.raw (.string ⟨#[0]⟩))),vi n] (sv (zl n)):=by
 intro F γ vs w d g f;obtain⟨x,y,rfl,a,b⟩:=aHu f;have a:=cX a;have b:=cX b;subst a;subst b;refine (Tryz.strings_Repeat ⟨#[0]⟩ n w (by omega) (by show 1*n<=_;omega)).mono ?_;rintro e w' ⟨rfl,c⟩;rw[aHX];exact tO d c (.one _ _ (.dc _ _ (.raw _ rfl)))
def aMw:Int->Option (AV×L aD)
 |.ofNat n=>if n<=100000 then some (sv (zl n),[]) else none
 |_=>none
def aQ1:L AV->L aD->Option (AV×L aD)
 |[.one (.dc (.raw (.string s))),.one (.dc (.raw (.int .i64 n)))],[]=>if s.data.toList=[0] then aMw n else none
 |_,_=>none
noncomputable def dX(G:aE)(b:Bool):aN:=fun f a hp=>if f=137 then aQ1 a hp else if f=97 then aMu a hp else lP G b f a hp
theorem aHY{b:Bool}(k:b=true->QC Tryz.prog G 4 [] (.one (.dc (.raw (.bool true))))):cJ Tryz.prog G (dX G b):=by
 intro f c hp av p h d i;unfold dX at h;split at h;rename_i hf;subst hf;refine⟨by kernel_rfl,?_⟩;unfold aQ1 at h;split at h;rename_i s n;split at h;rename_i j;have es:s=⟨#[0]⟩:=by
  obtain⟨⟨l⟩⟩:=s;have j:l=[0]:=j;rw[j]
 subst es;unfold aMw at h;split at h;rename_i n;split at h;rename_i m;injection h with h;injection h with e g;subst e;subst g
 have:d=[]:=by simpa using i
 subst this;exact (aQ0 (G:=G) m).gh (fun a o ⟨e,g⟩ _=>⟨a,o,Gh.refl,aZx _,e,by rw[g];rfl⟩)
 cases h;cases h;cases h;cases h;split at h;rename_i hf;subst hf;exact⟨by kernel_rfl,aMv h i⟩;exact aQJ k f c hp av p h d i
theorem aMx{b:Bool}(f:FuncId)(a:L AV)(hp:L aD)(r:AV×L aD)(h:lP G b f a hp=some r):dX G b f a hp=some r:=by
 unfold dX;split;rename_i hf;subst hf;have c:lP G b 137 a hp=none:=rfl;rw[c] at h;cases h;split;rename_i hf;subst hf;have c:lP G b 97 a hp=none:=rfl;rw[c] at h;cases h;exact h
theorem upT{b:Bool}{f:FuncId}{a:L AV}{hp:L aD}{r:AV×L aD}(h:EV G (Tb (lP G b)) f a hp=some r):EV G (Tb (dX G b)) f a hp=some r:=
 aGB (T:=Tb (lP G b)) (T':=Tb (dX G b)) (fun _=>rfl) (fun f a hp r _ h=>aMx (G:=G) f a hp r h) h
theorem upS{b:Bool}{f:FuncId}{a:L AV}{hp:L aD}{r:AV×L aD}(h:EV G (Tb (kS b)) f a hp=some r):EV G (Tb (dX G b)) f a hp=some r:=upT (sO h)
theorem aQ2{n:Nat}(h:n<=100000):dX G bb 137 [.one (.dc (.raw (.string ⟨#[0]⟩))),vi n] []=some (sv (zl n),[]):=by
 unfold dX;rw[if_pos rfl];unfold aQ1;simp only;rw[if_pos trivial];show aMw (.ofNat n)=_;rw[aMw,if_pos h]
theorem aVw(x:Bt)(b c:DC)(N:Nat)(a:L Int)(s:L Int)(e:(-1000000<=x.mi/\x.mi<=1000000)/\2<=x.cl/\x.cl<=1000000)(d:a.length<=1000000):EV G (Tb (dX G bb)) 97 [.one (.ptr 0 0)] [Bm x b c N (.slc (a.map fun n=>[ci n])),yb s]=some (vb (uH x a),[Bm x b c N (.slc (a.map fun n=>[ci n])),yb s]):=by
 refine jO rfl ?_;show dX G bb 97 [.one (.ptr 0 0)] [Bm x b c N (.slc (a.map fun n=>[ci n])),yb s]=some (vb (uH x a),[Bm x b c N (.slc (a.map fun n=>[ci n])),yb s])
 unfold dX;rw[if_neg (by decide),if_pos rfl];exact aQZ x b c N a _ e d
