/- Part. Conditions: none. -/
import Derived.Test.YtalhnjjchkmfeaaGreatDoorPa
import Derived.Test.YtalhnjjchkmfeaaGreatDoorPq
namespace Go.Proofs.YtalhnjjchkmfeaaGreatDoor
set_option linter.unusedSimpArgs false
set_option linter.unusedVariables false
set_option maxRecDepth 4000
variable {G:aF}{bb:Bool}
open Go.RowKit
theorem aIx:∀n:Nat,Lib.repeatL (⟨#[0]⟩:ByteArray).data.toList n=(zl n).map u8
 |0=>rfl
 | n+1=>by
  rw[Lib.repeatL,aIx n];rfl
theorem aRv{n:Nat}(h:n<=100000):QC Tryz.prog G 108 [.one (.dc (.raw (.string ⟨#[0]⟩))),vi n] (sv (zl n)):=by
 intro F γ vs w d g f;obtain⟨x,y,rfl,a,b⟩:=aH4 f;have a:=cX a;have b:=cX b;subst a;subst b;refine (Tryz.strings_Repeat ⟨#[0]⟩ n w (by omega) (by show 1*n<=_;omega)).mono ?_;rintro e w' ⟨rfl,c⟩;rw[aIx];exact sY d c (.one _ _ (.dc _ _ (.raw _ rfl)))
def aM5:Int->Option (AV×L aD)
 |.ofNat n=>if n<=100000 then some (sv (zl n),[]) else none
 |_=>none
def aRw:L AV->L aD->Option (AV×L aD)
 |[.one (.dc (.raw (.string s))),.one (.dc (.raw (.int .i64 n)))],[]=>if s.data.toList=[0] then aM5 n else none
 |_,_=>none
noncomputable def dU(G:aF)(b:Bool):aO:=fun f a hp=>if f=108 then aRw a hp else if f=95 then aM3 a hp else lO G b f a hp
theorem aIy{b:Bool}(m:b=true->QC Tryz.prog G 4 [] (.one (.dc (.raw (.bool true))))):cI Tryz.prog G (dU G b):=by
 intro f c hp k q h d i;unfold dU at h;split at h;rename_i hf;subst hf;refine⟨by kernel_rfl,?_⟩;unfold aRw at h;split at h;rename_i s n;split at h;rename_i j;have es:s=⟨#[0]⟩:=by
  obtain⟨⟨l⟩⟩:=s;have j:l=[0]:=j;rw[j]
 subst es;unfold aM5 at h;split at h;rename_i n;split at h;rename_i p;injection h with h;injection h with e g;subst e;subst g
 have:d=[]:=by simpa using i
 subst this;exact (aRv (G:=G) p).gh (fun a o ⟨e,g⟩ _=>⟨a,o,Gh.refl,aZV _,e,by rw[g];rfl⟩)
 cases h;cases h;cases h;cases h;split at h;rename_i hf;subst hf;exact⟨by kernel_rfl,aM4 h i⟩;exact aRi m f c hp k q h d i
theorem aM6{b:Bool}(f:FuncId)(a:L AV)(hp:L aD)(r:AV×L aD)(h:lO G b f a hp=some r):dU G b f a hp=some r:=by
 unfold dU;split;rename_i hf;subst hf;have c:lO G b 108 a hp=none:=rfl;rw[c] at h;cases h;split;rename_i hf;subst hf;have c:lO G b 95 a hp=none:=rfl;rw[c] at h;cases h;exact h
theorem upT{b:Bool}{f:FuncId}{a:L AV}{hp:L aD}{r:AV×L aD}(h:EV G (Tb (lO G b)) f a hp=some r):EV G (Tb (dU G b)) f a hp=some r:=
 aHo (T:=Tb (lO G b)) (T':=Tb (dU G b)) (fun _=>rfl) (fun f a hp r _ h=>aM6 (G:=G) f a hp r h) h
theorem upS{b:Bool}{f:FuncId}{a:L AV}{hp:L aD}{r:AV×L aD}(h:EV G (Tb (lA b)) f a hp=some r):EV G (Tb (dU G b)) f a hp=some r:=upT (Fu h)
theorem aRy{n:Nat}(h:n<=100000):dU G bb 108 [.one (.dc (.raw (.string ⟨#[0]⟩))),vi n] []=some (sv (zl n),[]):=by
 unfold dU;rw[if_pos rfl];unfold aRw;simp only;rw[if_pos trivial];show aM5 (.ofNat n)=_;rw[aM5,if_pos h]
theorem aV1(x:Bt)(b c:DC)(N:Nat)(a:L Int)(s:L Int)(e:(-1000000<=x.mi/\x.mi<=1000000)/\2<=x.cl/\x.cl<=1000000)(d:a.length<=1000000):EV G (Tb (dU G bb)) 95 [.one (.ptr 0 0)] [Cq x b c N (.slc (a.map fun n=>[ci n])),yb s]=some (vb (uA x a),[Cq x b c N (.slc (a.map fun n=>[ci n])),yb s]):=by
 refine jG rfl ?_;show dU G bb 95 [.one (.ptr 0 0)] [Cq x b c N (.slc (a.map fun n=>[ci n])),yb s]=some (vb (uA x a),[Cq x b c N (.slc (a.map fun n=>[ci n])),yb s])
 unfold dU;rw[if_neg (by decide),if_pos rfl];exact aRu x b c N a _ e d
