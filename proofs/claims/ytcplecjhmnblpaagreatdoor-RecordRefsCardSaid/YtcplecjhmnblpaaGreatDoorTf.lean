/- The base of the table for lists that are sorted. Conditions: none. -/
import Derived.Test.YtcplecjhmnblpaaGreatDoorTe
import Derived.Test.YtcplecjhmnblpaaGreatDoorTg
import Derived.Test.YtcplecjhmnblpaaGreatDoorNh
import Derived.Shelf.SlSortCmp.NoneTotal
namespace Go.Proofs.YtcplecjhmnblpaaGreatDoor
set_option linter.unusedSimpArgs false
set_option linter.unusedVariables false
set_option maxRecDepth 4000
variable {G:Glob} {bb:Bool}
open Go.Sort
theorem sortNone_c (p:Option Addr) (cap:Nat) (fv:Value) (w:World):Calls Tryz.prog 134 #[.slice p 0 cap,fv] w fun e w'=>e=.returned (.tuple #[])∧w'=w:=
 AnyF.slices_SortFunc_none Tryz.laysSlsf6_f102 p cap fv w
theorem sort0_ac:AC Tryz.prog G 134 [.one (.dc (.slc [])),.one (.fn 119 [])] [] fun av o=>av=.tup []∧o=[]:=by
 intro F γ vs w hi hg hv
 obtain ⟨hz2,hv⟩:=hv
 obtain ⟨l⟩:=vs
 match l,hz2 with
 | [x,y],_=>
  have hx:=hv 0 _ _ rfl rfl
  have hp:∃ p cap,x=.slice p 0 cap:=by
   cases hx with | one _ _ hx=>cases hx with
   | dc d v h=>cases h with
    | nil A c=>exact ⟨_,_,rfl⟩
    | slc b off c size es g h1 h2 h3 h4=>exact ⟨_,_,rfl⟩
  obtain ⟨p,cap,rfl⟩:=hp
  refine (sortNone_c p cap y w).mono ?_
  rintro e w' ⟨rfl,rfl⟩
  exact ⟨_,.tup [],_,F,γ,rfl,⟨rfl,rfl⟩,Nat.le_refl _,Ext.refl _ _ _ _,hi,.tup _ _ rfl (fun i t v h=>by simp at h)⟩
def sortD (n:Nat):Option (List DC)→Option (AV × List AObj)
 | some ds=>if 0 < n∧ds.length=n * 11∧(chunk 11 n ds).all okD=true∧((chunk 11 n ds).map fun e=>(keyD e).2.2.2).Nodup∧n < 4611686018427387904 then some (.tup [],[.box (dcC (srtK cmD (chunk 11 n ds)).flatten)]) else none
 | none=>none
def sortK:List AV→List AObj→Option (AV × List AObj)
 | [.one (.bls 0 0 n 11),.one (.fn 119 [])],[.box cs]=>sortD n (dcs cs)
 | [.one (.dc (.slc [])),.one (.fn 119 [])],[]=>some (.tup [],[])
 | _,_=>none
theorem chunk_of {s:Nat}:∀ es:List (List DC),(∀ e∈es,e.length=s)→chunk s es.length es.flatten=es
 | [],_=>rfl
 | e::es,h=>by
  have he:=h e (List.mem_cons_self ..)
  rw [List.length_cons,chunk,List.flatten_cons,List.take_left' he,List.drop_left' he,chunk_of es (fun x hx=>h x (List.mem_cons_of_mem _ hx))]
theorem take_dc {s n:Nat} {es:List (List DC)} (h:∀ e∈es,e.length=s) (hn:es.length=n):dcs (List.take (n * s) (dcC es.flatten))=some es.flatten∧es.flatten.length=n * s∧chunk s n es.flatten=es:=by
 subst hn
 have hf:=(flat_get es h).1
 refine ⟨?_,hf,chunk_of es h⟩
 rw [List.take_of_length_le (by rw [dcC,List.length_map,hf];exact Nat.le_refl _),dcs_dcs]
def okL (l:List Att):Prop:=l.length≤1000∧∀ a∈l,a.rs.length≤1000000
open Classical in
noncomputable def rsK:List AV→List AObj→Option (AV × List AObj)
 | [.one (.dc (.slc es))],[]=>if ∃ l:List Att,okL l∧es=l.map Att.e then some (.one (.dc (.slc (srtK cmD es))),[]) else none
 | _,_=>none
noncomputable def bsS (b:Bool):CallT:=fun f args hp=>if f=134 then sortK args hp else if f=81 then rsK args hp else if f=132 then cloneB [(132,11,120)] f args hp else bs b f args hp
theorem box_of_norm {hp0:List AObj} {cs:List Cel} (h:hp0.map nocap=[.box cs]):hp0=[.box cs]:=by
 match hp0,h with
 | [],h=>simp at h
 | _::_::_,h=>simp at h
 | [o],h=>
  simp only [List.map_cons,List.map_nil,List.cons.injEq,and_true] at h
  cases o<;>simp [nocap] at h
  rw [h]
theorem qc_post {f:FuncId} {args:List AV} {av:AV} (h:QC Tryz.prog G f args av):AC Tryz.prog G f args [] fun a o=>a=av∧o.map nocap=[]:=
 h.gh (fun a o ⟨h1,h2⟩ _=>⟨a,o,Gh.refl,Nat.zero_le _,h1,by rw [h2];rfl⟩)
theorem bsO_ok {b:Bool} (hA:b=true→QC Tryz.prog G 11 [] (.one (.dc (.raw (.bool true))))):CallOK Tryz.prog G (bsS b):=by
 intro f args hp av o' h hp0 hh
 unfold bsS at h
 split at h
 ·rename_i hf
  subst hf
  refine ⟨by kernel_rfl, ?_⟩
  unfold sortK at h
  split at h
  ·rename_i n cs
   cases hd:dcs cs with
   | none=>rw [hd] at h;cases h
   | some ds=>
   rw [hd] at h
   simp only [sortD] at h
   split at h
   ·rename_i hc
    obtain ⟨h0,h4,h1,h2,h3⟩:=hc
    injection h with h;injection h with g1 g2;subst g1;subst g2
    have hb:=box_of_norm hh
    subst hb
    obtain ⟨e1,e2,e3⟩:=chunk_flat 11 n ds h4
    have q:=sortA_ac (G:=G) (es:=chunk 11 n ds) (fun e=>by rw [e] at e3;simp at e3;omega) (List.all_eq_true.1 h1) h2 (by rw [e3];exact h3)
    rw [e3,e1,← dcs_dcC hd] at q
    exact q.gh (fun a o ⟨h1,h2⟩ _=>⟨a,o,Gh.refl,Nat.le_of_eq (by rw [h2]<;>rfl),h1,by rw [h2]<;>rfl⟩)
   ·cases h
  ·injection h with h;injection h with g1 g2;subst g1;subst g2
   have:hp0=[]:=by simpa using hh
   subst this
   exact sort0_ac.gh (fun a o ⟨h1,h2⟩ _=>⟨a,o,Gh.refl,Nat.le_of_eq (by rw [h2]<;>rfl),h1,by rw [h2];rfl⟩)
  ·cases h
 ·split at h
  ·rename_i hf
   subst hf
   refine ⟨by kernel_rfl, ?_⟩
   unfold rsK at h
   split at h
   ·split at h
    ·rename_i hc
     obtain ⟨l,hl,rfl⟩:=hc
     injection h with h;injection h with h1 h2;subst h1;subst h2
     have:hp0=[]:=by simpa using hh
     subst this
     have q:=refSorted_v (G:=G) (bb:=false) l hl.1 hl.2
     rw [srtA_D]
     refine qc_post (EV_qc TR_ok (fun f args hp av o' h hp0 hh=>?_) q)
     obtain ⟨n,hn⟩:=lim_some h
     exact callN_ok (Tb_ok (bs false)) (bs_ok (fun h=>by cases h)) n f args hp av o' hn hp0 hh
    ·cases h
   ·cases h
  ·split at h
   ·exact cloneB_ok [(132,11,120)] (fun e he=>by
     simp only [List.mem_singleton] at he
     subst he
     exact ⟨by kernel_rfl,_,[Zi 0,.string ⟨#[]⟩,Zi 0,Zi 0,.bool false,.string ⟨#[]⟩,Zi 0,.slice none 0 0,Zi 0,Zi 0,Zi 0],Tryz.func132,Tryz.ntmps132,h132_ok,r132_ok,by decide⟩) f args hp av o' h hp0 hh
   ·exact bs_ok hA f args hp av o' h hp0 hh
theorem bs_sub {b:Bool} (f:FuncId) (args:List AV) (hp:List AObj) (r:AV × List AObj) (h:bs b f args hp=some r):bsS b f args hp=some r:=by
 unfold bsS
 split
 ·rename_i hf
  subst hf
  have h:(none:Option (AV × List AObj))=some r:=h
  cases h
 ·split
  ·rename_i hf
   subst hf
   have h:(none:Option (AV × List AObj))=some r:=h
   cases h
  ·split
   ·rename_i hf
    subst hf
    have h:(none:Option (AV × List AObj))=some r:=h
    cases h
   ·exact h
theorem up {b:Bool} {f:FuncId} {a:List AV} {hp:List AObj} {r:AV × List AObj} (h:EV G (Tb (bs b)) f a hp=some r):EV G (Tb (bsS b)) f a hp=some r:=
 EV_up (T:=Tb (bs b)) (T':=Tb (bsS b)) (fun _=>rfl) (fun f a hp r _ h=>bs_sub f a hp r h) h
theorem bsO_102 {b:Bool} {args:List AV} {hp:List AObj}:bsS b 134 args hp=sortK args hp:=by
 unfold bsS
 rw [if_pos rfl]
theorem sortB_v {b:Bool} (l:List Att) (h:(l.map Att.id).Nodup) (hl:l.length≤1000) (h0:0 < l.length):EV G (Tb (bsS b)) 134 [.one (.bls 0 0 l.length 11),.one (.fn 119 [])] [.box (dcC (l.map Att.e).flatten)]=some (.tup [],[.box (dcC ((srtA l).map Att.e).flatten)]):=by
 refine EV_base rfl ?_
 show bsS b 134 [.one (.bls 0 0 l.length 11),.one (.fn 119 [])] [.box (dcC (l.map Att.e).flatten)]=some (.tup [],[.box (dcC ((srtA l).map Att.e).flatten)])
 rw [bsO_102]
 simp only [sortK]
 rw [dcs_dcs]
 simp only [sortD]
 have hz:∀ e∈l.map Att.e,e.length=11:=fun e he=>by obtain ⟨a,_,rfl⟩:=List.mem_map.1 he;rfl
 have hc:=chunk_of (l.map Att.e) hz
 rw [List.length_map] at hc
 have hf:=(flat_get (l.map Att.e) hz).1
 rw [List.length_map] at hf
 have e:((l.map Att.e).map fun e=>(keyD e).2.2.2)=l.map Att.id:=by rw [List.map_map];rfl
 rw [hc,if_pos ⟨h0,hf,by rw [List.all_eq_true];intro x hx;obtain ⟨a,_,rfl⟩:=List.mem_map.1 hx;rfl,by rw [e];exact h,by omega⟩,srtA_D]
theorem sortN_v {b:Bool}:EV G (Tb (bsS b)) 134 [.one (.dc (.slc [])),.one (.fn 119 [])] []=some (.tup [],[]):=by
 refine EV_base rfl ?_
 show bsS b 134 [.one (.dc (.slc [])),.one (.fn 119 [])] []=some (.tup [],[])
 rw [bsO_102]
 simp only [sortK]
theorem cloneT_v (l:List Att) (hl:l.length≤1000000):EV G (Tb (bsS bb)) 132 [vl (l.map Att.e)] []=some (.one (.bld 0 l.length),[.arr 0 11 (l.map Att.e)]):=by
 refine EV_base rfl ?_
 show (if allLen 11 (l.map Att.e)=true∧(l.map Att.e).length * 120≤140737488355328 then some (AV.one (.bld 0 (l.map Att.e).length),[AObj.arr 0 11 (l.map Att.e)]) else none)=_
 have h1:allLen 11 (l.map Att.e)=true:=allLen_map (f:=Att.e) (fun _=>rfl) l
 rw [if_pos ⟨h1,by rw [List.length_map];omega⟩,List.length_map]
end Go.Proofs.YtcplecjhmnblpaaGreatDoor
