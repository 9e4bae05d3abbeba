/- The base of the table for lists that are sorted. Conditions: none. -/
import Derived.Test.YthepfneloomngaaGreatDoorTe
import Derived.Test.YthepfneloomngaaGreatDoorTg
import Derived.Test.YthepfneloomngaaGreatDoorNh
import Derived.Shelf.SlSortCmp.NoneTotal
namespace Go.Proofs.YthepfneloomngaaGreatDoor
set_option linter.unusedSimpArgs false
set_option linter.unusedVariables false
set_option maxRecDepth 4000
variable {G:aF} {bb:Bool}
open Go.Sort
theorem Tn(p:Option Addr)(cap:Nat)(fv:Value)(w:World):Calls Tryz.prog 244 #[.slice p 0 cap,fv] w fun e w'=>e=.returned (.tuple #[])/\w'=w:=
 AnyF.slices_SortFunc_none Tryz.laysSlsf6_f102 p cap fv w
theorem aEu:AC Tryz.prog G 244 [.one (.dc (.slc [])),.one (.fn 245 [])] [] fun av o=>av=.tup []/\o=[]:=by
 intro F γ vs w hi hg hv;obtain⟨hz2,hv⟩:=hv;obtain⟨l⟩:=vs
 match l,hz2 with
 | [x,y],_=>
  have hx:=hv 0 _ _ rfl rfl;have hp:∃ p cap,x=.slice p 0 cap:=by
   cases hx with | one _ _ hx=>cases hx with
   | dc d v h=>cases h with
    | nil A c=>exact⟨_,_,rfl⟩
    | slc b off c size es g h1 h2 h3 h4=>exact⟨_,_,rfl⟩
  obtain⟨p,cap,rfl⟩:=hp;refine (Tn p cap y w).mono ?_;rintro e w' ⟨rfl,rfl⟩;exact⟨_,.tup [],_,F,γ,rfl,⟨rfl,rfl⟩,aWj _,gA.refl _ _ _ _,hi,.tup _ _ rfl (fun i t v h=>by simp at h)⟩
def aEv(n:Nat):Option (List DC)->Option (AV × List aD)
 | some ds=>if 0 < n/\ds.length=n * 11/\(eO 11 n ds).all okD=true/\((eO 11 n ds).map fun e=>(lJ e).2.2.2).Nodup/\n < 4611686018427387904 then some (.tup [],[.box (lQ (pR Wu (eO 11 n ds)).flatten)]) else none
 | none=>none
def Px:List AV->List aD->Option (AV × List aD)
 | [.one (.bls 0 0 n 11),.one (.fn 245 [])],[.box cs]=>aEv n (dcs cs)
 | [.one (.dc (.slc [])),.one (.fn 245 [])],[]=>some (.tup [],[])
 | _,_=>none
theorem Hd{s:Nat}:∀ es:List (List DC),(∀ e∈es,e.length=s)->eO s es.length es.flatten=es
 | [],_=>rfl
 | e::es,h=>by
  have he:=h e (aWy ..);rw[aWh,eO,aXc,aXz he,List.drop_left' he,Hd es (fun x hx=>h x (aWG _ hx))]
theorem aIZ{s n:Nat}{es:List (List DC)}(h:∀ e∈es,e.length=s)(hn:es.length=n):dcs (List.take (n * s) (lQ es.flatten))=some es.flatten/\es.flatten.length=n * s/\eO s n es.flatten=es:=by
 subst hn;have hf:=(pK es h).1;refine⟨?_,hf,Hd es h⟩;rw[aWP (by rw[lQ,aWf,hf];exact aWj _),Eg]
def okL(l:List aK):Prop:=l.length<=1000/\∀ a∈l,a.rs.length<=1000000
open Classical in
noncomputable def rsK:List AV->List aD->Option (AV × List aD)
 | [.one (.dc (.slc es))],[]=>if ∃ l:List aK,okL l/\es=l.map aK.e then some (.one (.dc (.slc (pR Wu es))),[]) else none
 | _,_=>none
noncomputable def mE(b:Bool):aO:=fun f args hp=>if f=244 then Px args hp else if f=196 then rsK args hp else if f=241 then Gb [(241,11,120)] f args hp else bs b f args hp
theorem Py{hp0:List aD}{cs:List aR}(h:hp0.map aN=[.box cs]):hp0=[.box cs]:=by
 match hp0,h with
 | [],h=>simp at h
 | _::_::_,h=>simp at h
 | [o],h=>
  simp only[aWp,aWw,List.cons.injEq,and_true] at h;cases o<;>simp[aN] at h;rw[h]
theorem aI0{f:FuncId}{args:List AV}{av:AV}(h:QC Tryz.prog G f args av):AC Tryz.prog G f args [] fun a o=>a=av/\o.map aN=[]:=
 h.gh (fun a o ⟨h1,h2⟩ _=>⟨a,o,Gh.refl,aWA _,h1,by rw[h2];rfl⟩)
theorem aND{b:Bool}(hA:b=true->QC Tryz.prog G 11 [] (.one (.dc (.raw (.bool true))))):cB Tryz.prog G (mE b):=by
 intro f args hp av o' h hp0 hh;unfold mE at h;split at h
 ·rename_i hf;subst hf;refine⟨by kernel_rfl, ?_⟩;unfold Px at h;split at h
  ·rename_i n cs;cases hd:dcs cs with
   | none=>rw[hd] at h;cases h
   | some ds=>
   rw[hd] at h;simp only[aEv] at h;split at h
   ·rename_i hc;obtain⟨h0,h4,h1,h2,h3⟩:=hc;injection h with h;injection h with g1 g2;subst g1;subst g2
    have hb:=Py hh;subst hb;obtain⟨e1,e2,e3⟩:=jW 11 n ds h4;have q:=aEm (G:=G) (es:=eO 11 n ds) (fun e=>by rw[e] at e3;simp at e3;omega) (List.all_eq_true.1 h1) h2 (by rw[e3];exact h3)
    rw[e3,e1,<- lL hd] at q;exact q.gh (fun a o ⟨h1,h2⟩ _=>⟨a,o,Gh.refl,Nat.le_of_eq (by rw[h2]<;>rfl),h1,by rw[h2]<;>rfl⟩)
   ·cases h
  ·injection h with h;injection h with g1 g2;subst g1;subst g2
   have:hp0=[]:=by simpa using hh
   subst this;exact aEu.gh (fun a o ⟨h1,h2⟩ _=>⟨a,o,Gh.refl,Nat.le_of_eq (by rw[h2]<;>rfl),h1,by rw[h2];rfl⟩)
  ·cases h
 ·split at h
  ·rename_i hf;subst hf;refine⟨by kernel_rfl, ?_⟩;unfold rsK at h;split at h
   ·split at h
    ·rename_i hc;obtain⟨l,hl,rfl⟩:=hc;injection h with h;injection h with h1 h2;subst h1;subst h2
     have:hp0=[]:=by simpa using hh
     subst this;have q:=Pv (G:=G) (bb:=false) l hl.1 hl.2;rw[aEq];refine aI0 (Oj aRZ (fun f args hp av o' h hp0 hh=>?_) q)
     obtain⟨n,hn⟩:=jM h;exact zY (Ol (bs false)) (aKu (fun h=>by cases h)) n f args hp av o' hn hp0 hh
    ·cases h
   ·cases h
  ·split at h
   ·exact Bv [(241,11,120)] (fun e he=>by
     simp only[List.mem_singleton] at he;subst he;exact⟨by kernel_rfl,_,[Zi 0,.string ⟨#[]⟩,Zi 0,Zi 0,.bool false,.string ⟨#[]⟩,Zi 0,.slice none 0 0,Zi 0,Zi 0,Zi 0],Tryz.func241,Tryz.ntmps241,h241_ok,aG8,by decide⟩) f args hp av o' h hp0 hh
   ·exact aKu hA f args hp av o' h hp0 hh
theorem aNE{b:Bool}(f:FuncId)(args:List AV)(hp:List aD)(r:AV × List aD)(h:bs b f args hp=some r):mE b f args hp=some r:=by
 unfold mE;split
 ·rename_i hf;subst hf;have h:(none:Option (AV × List aD))=some r:=h;cases h
 ·split
  ·rename_i hf;subst hf;have h:(none:Option (AV × List aD))=some r:=h;cases h
  ·split
   ·rename_i hf;subst hf;have h:(none:Option (AV × List aD))=some r:=h;cases h
   ·exact h
theorem up{b:Bool}{f:FuncId}{a:List AV}{hp:List aD}{r:AV × List aD}(h:EV G (Tb (bs b)) f a hp=some r):EV G (Tb (mE b)) f a hp=some r:=
 aEt (T:=Tb (bs b)) (T':=Tb (mE b)) (fun _=>rfl) (fun f a hp r _ h=>aNE f a hp r h) h
theorem Wx{b:Bool}{args:List AV}{hp:List aD}:mE b 244 args hp=Px args hp:=by
 unfold mE;rw[if_pos rfl]
theorem aI1{b:Bool}(l:List aK)(h:(l.map aK.id).Nodup)(hl:l.length<=1000)(h0:0 < l.length):EV G (Tb (mE b)) 244 [.one (.bls 0 0 l.length 11),.one (.fn 245 [])] [.box (lQ (l.map aK.e).flatten)]=some (.tup [],[.box (lQ ((dL l).map aK.e).flatten)]):=by
 refine iI rfl ?_;show mE b 244 [.one (.bls 0 0 l.length 11),.one (.fn 245 [])] [.box (lQ (l.map aK.e).flatten)]=some (.tup [],[.box (lQ ((dL l).map aK.e).flatten)]);rw[Wx];simp only[Px];rw[Eg];simp only[aEv];have hz:∀ e∈l.map aK.e,e.length=11:=fun e he=>by obtain⟨a,_,rfl⟩:=List.mem_map.1 he;rfl
 have hc:=Hd (l.map aK.e) hz;rw[aWf] at hc;have hf:=(pK (l.map aK.e) hz).1;rw[aWf] at hf;have e:((l.map aK.e).map fun e=>(lJ e).2.2.2)=l.map aK.id:=by rw[aWE];rfl
 rw[hc,if_pos ⟨h0,hf,by rw[List.all_eq_true];intro x hx;obtain⟨a,_,rfl⟩:=List.mem_map.1 hx;rfl,by rw[e];exact h,by omega⟩,aEq]
theorem aI2{b:Bool}:EV G (Tb (mE b)) 244 [.one (.dc (.slc [])),.one (.fn 245 [])] []=some (.tup [],[]):=by
 refine iI rfl ?_;show mE b 244 [.one (.dc (.slc [])),.one (.fn 245 [])] []=some (.tup [],[]);rw[Wx];simp only[Px]
theorem aEw(l:List aK)(hl:l.length<=1000000):EV G (Tb (mE bb)) 241 [vl (l.map aK.e)] []=some (.one (.bld 0 l.length),[.arr 0 11 (l.map aK.e)]):=by
 refine iI rfl ?_;show (if fM 11 (l.map aK.e)=true/\(l.map aK.e).length * 120<=140737488355328 then some (AV.one (.bld 0 (l.map aK.e).length),[aD.arr 0 11 (l.map aK.e)]) else none)=_
 have h1:fM 11 (l.map aK.e)=true:=jZ (f:=aK.e) (fun _=>rfl) l
 rw[if_pos ⟨h1,by rw[aWf];omega⟩,aWf]
end Go.Proofs.YthepfneloomngaaGreatDoor
