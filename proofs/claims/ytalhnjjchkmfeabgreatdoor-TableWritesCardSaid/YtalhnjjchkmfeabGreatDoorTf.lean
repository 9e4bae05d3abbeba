/- Part. Conditions: none. -/
import Derived.Test.YtalhnjjchkmfeabGreatDoorTe
import Derived.Test.YtalhnjjchkmfeabGreatDoorTg
import Derived.Test.YtalhnjjchkmfeabGreatDoorYf
namespace Go.Proofs.YtalhnjjchkmfeabGreatDoor
set_option linter.unusedSimpArgs false
set_option linter.unusedVariables false
set_option maxRecDepth 4000
variable {G:aE}{bb:Bool}
open Go.Sort
theorem aGH:(Tryz.f201.body).bind (bN Tryz.prog)=some Ph.er:=by kernel_rfl
theorem aGI:Tryz.f201.results.toList.mapM (iG Tryz.prog)=some []:=by kernel_rfl
theorem aGJ:(Tryz.f236.body).bind (bN Tryz.prog)=some Pj.er:=by kernel_rfl
theorem aGK:Tryz.f236.results.toList.mapM (iG Tryz.prog)=some []:=by kernel_rfl
theorem aGL:(Tryz.f267.body).bind (bN Tryz.prog)=some Pk.er:=by kernel_rfl
theorem aGM:Tryz.f267.results.toList.mapM (iG Tryz.prog)=some []:=by kernel_rfl
theorem aGN:(Tryz.f237.body).bind (bN Tryz.prog)=some Pl.er:=by kernel_rfl
theorem aGO:Tryz.f237.results.toList.mapM (iG Tryz.prog)=some [.tmp 2]:=by kernel_rfl
theorem aGP:(Tryz.f276.body).bind (bN Tryz.prog)=some Pm.er:=by kernel_rfl
theorem aGQ:Tryz.f276.results.toList.mapM (iG Tryz.prog)=some [.tmp 2]:=by kernel_rfl
theorem aU2{C:aN}:Ow Tryz.prog (TS G C):=by
 intro f h hf;change tbS f=some h at hf;unfold tbS at hf;split at hf;rename_i e;subst e;injection hf with hf;subst hf;exact⟨by kernel_rfl,_,Tryz.func201,Tryz.ntmps201,aGH,aGI⟩
 split at hf;rename_i e;subst e;injection hf with hf;subst hf;exact⟨by kernel_rfl,_,Tryz.func236,Tryz.ntmps236,aGJ,aGK⟩
 split at hf;rename_i e;subst e;injection hf with hf;subst hf;exact⟨by kernel_rfl,_,Tryz.func267,Tryz.ntmps267,aGL,aGM⟩
 split at hf;rename_i e;subst e;injection hf with hf;subst hf;exact⟨by kernel_rfl,_,Tryz.func237,Tryz.ntmps237,aGN,aGO⟩
 split at hf;rename_i e;subst e;injection hf with hf;subst hf;exact⟨by kernel_rfl,_,Tryz.func276,Tryz.ntmps276,aGP,aGQ⟩
 cases hf
open Classical in
noncomputable def Mx:L AV->L aD->Option (AV×L aD)
 |[.one (.bls 0 0 n 11),.one (.fn 152 [])],[.box cs]=>if ∃l:L aK,aU1 l/\n=l.length/\cs=oR (l.map aK.e).flatten then some (.tup [],[.box cs]) else none
 |_,_=>none
theorem aGR{b:Bool}{c:L AV}{hp:L aD}{r:AV×L aD}(h:Mx c hp=some r):EV G (TS G (EV G (Tb (bs b)))) 201 c hp=some r:=by
 unfold Mx at h;split at h;rename_i n cs;split at h;rename_i d;obtain⟨l,e,rfl,rfl⟩:=d;injection h with h
 subst h;rcases e with⟨a,rfl⟩|⟨a,b',rfl,f⟩
 exact aUZ a;have d:EV G (TS G (EV G (Tb (bs b)))) 152 [b'.v,a.v] []=some (vi (D0 b' a),[]):=jO (by show tbS 152=none;decide) (Fa (G:=G) (bb:=b) b' a);exact aU0 a b' _ d f;cases h;cases h
theorem aGS{b:Bool}(i:b=true->QC Tryz.prog G 4 [] (.one (.dc (.raw (.bool true))))){c:L AV}{hp:L aD}{av:AV}{o':L aD}(h:Mx c hp=some (av,o')){d:L aD}(e:d.map aR=hp):Vq Tryz.prog 201=true/\AC Tryz.prog G 201 c d fun a o=>a=av/\o.map aR=o':=by
 obtain⟨n,g⟩:=iH (aGR (G:=G) (b:=b) h);exact nN aU2 (fun f c hp av o' h d e=>by
  obtain⟨n,g⟩:=iH h;exact nN (So (bs b)) (aNw i) n f c hp av o' g d e) n _ c hp av o' g d e
theorem Ts{s:Nat}:∀es:L (L DC),(∀e∈es,e.length=s)->gZ s es.length es.flatten=es
 |[],_=>rfl
 | e::es,h=>by
  have a:=h e (aZt ..);rw[aZb,gZ,aZ7,bAo a,List.drop_left' a,Ts es (fun x b=>h x (aZB _ b))]
theorem aLI{s n:Nat}{es:L (L DC)}(h:∀e∈es,e.length=s)(a:es.length=n):dcs (List.take (n*s) (oR es.flatten))=some es.flatten/\es.flatten.length=n*s/\gZ s n es.flatten=es:=by
 subst a;have hf:=(Iw es h).1;refine⟨?_,hf,Ts es h⟩;rw[aZI (by rw[oR,aY9,hf];exact aZe _),O1]
noncomputable def kS(b:Bool):aN:=fun f a hp=>if f=201 then Mx a hp else if f=198 then I9 [(198,11,120)] f a hp else bs b f a hp
theorem aQl{b:Bool}(g:b=true->QC Tryz.prog G 4 [] (.one (.dc (.raw (.bool true))))):cJ Tryz.prog G (kS b):=by
 intro f a hp av j h c d;unfold kS at h;split at h;rename_i hf;subst hf;exact aGS (b:=b) g h d;split at h
 exact E2 [(198,11,120)] (fun e i=>by
  simp only[List.mem_singleton] at i;subst i;exact⟨by kernel_rfl,_,[Zi 0,.string ⟨#[]⟩,Zi 0,Zi 0,.bool false,.string ⟨#[]⟩,Zi 0,.slice none 0 0,Zi 0,Zi 0,Zi 0],Tryz.func198,Tryz.ntmps198,h198_ok,aJ0,by decide⟩) f a hp av j h c d
 exact aNw g f a hp av j h c d
theorem aQm{b:Bool}(f:FuncId)(a:L AV)(hp:L aD)(r:AV×L aD)(h:bs b f a hp=some r):kS b f a hp=some r:=by
 unfold kS;split;rename_i hf;subst hf;have h:(none:Option (AV×L aD))=some r:=h;cases h;split;rename_i hf;subst hf;have h:(none:Option (AV×L aD))=some r:=h;cases h;exact h
theorem up{b:Bool}{f:FuncId}{a:L AV}{hp:L aD}{r:AV×L aD}(h:EV G (Tb (bs b)) f a hp=some r):EV G (Tb (kS b)) f a hp=some r:=
 aGB (T:=Tb (bs b)) (T':=Tb (kS b)) (fun _=>rfl) (fun f a hp r _ h=>aQm f a hp r h) h
theorem aLJ{b:Bool}{a:L AV}{hp:L aD}:kS b 201 a hp=Mx a hp:=by
 unfold kS;rw[if_pos rfl]
theorem aGT(l:L aK)(b:l.length<=1000000):EV G (Tb (kS bb)) 198 [vl (l.map aK.e)] []=some (.one (.bld 0 l.length),[.arr 0 11 (l.map aK.e)]):=by
 refine jO rfl ?_;show (if gG 11 (l.map aK.e)=true/\(l.map aK.e).length*120<=140737488355328 then some (AV.one (.bld 0 (l.map aK.e).length),[aD.arr 0 11 (l.map aK.e)]) else none)=_
 have a:gG 11 (l.map aK.e)=true:=jP (f:=aK.e) (fun _=>rfl) l
 rw[if_pos ⟨a,by rw[aY9];omega⟩,aY9]
