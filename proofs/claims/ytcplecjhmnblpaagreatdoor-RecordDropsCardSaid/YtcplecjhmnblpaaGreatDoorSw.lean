/- What the frames over the base of records that change share. Conditions: none. -/
import Derived.Test.YtcplecjhmnblpaaGreatDoorSn
import Derived.Test.YtcplecjhmnblpaaGreatDoorSz
import Derived.Test.YtcplecjhmnblpaaGreatDoorRk
import Derived.Test.YtcplecjhmnblpaaGreatDoorTf
import Derived.Test.YtcplecjhmnblpaaGreatDoorSd
import Derived.Test.YtcplecjhmnblpaaGreatDoorUy
namespace Go.Proofs.YtcplecjhmnblpaaGreatDoor
set_option linter.unusedSimpArgs false
set_option linter.unusedVariables false
set_option maxRecDepth 4000
section
variable {G:Glob} {bb:Bool}
theorem indexOf_v (l:List Att) (i:Int) (hl:l.length≤1000000):EV G (Tb (bsS bb)) 34 [vl (l.map Att.e),vi i] []=some (vi (idI l i),[]):=by
 have hg:idI l i=if ix (fun k=>decide ((l.getD k Att.nil).id=i)=true) l.length=l.length then -1 else ((ix (fun k=>decide ((l.getD k Att.nil).id=i)=true) l.length:Nat):Int):=rfl
 generalize idI l i=g at *
 refine EV_run rfl ?_
 simp (disch:=omega) only [go_sem,h34c]
 rw [EL_fst (fun k=>⟨(vl (l.map Att.e)::vi i::jk 3 (vi k::jk 14 [])),[]⟩) (fun k=>decide ((l.getD k Att.nil).id=i)=true) l.length ?_ ?_]
 rotate_left
 ·rfl
 ·intro k hk hn
  have h3:=hn k (Nat.le_refl _)
  rw [getDA l k hk,decide_eq_true_eq] at h3
  simp (disch:=omega) only [go_sem,h34l0,List.length_map,ixA,Att.e,h3]
 obtain ⟨hk,hp,hn⟩:=ix_spec (fun k=>decide ((l.getD k Att.nil).id=i)=true) l.length
 generalize ix (fun k=>decide ((l.getD k Att.nil).id=i)=true) l.length=k at *
 rcases hp with rfl | ⟨hk',hp⟩
 ·rw [if_pos rfl] at hg
  subst hg
  simp (disch:=omega) only [go_sem,h34l0,List.length_map]
 ·rw [if_neg (by omega)] at hg
  subst hg
  rw [getDA l k hk',decide_eq_true_eq] at hp
  simp (disch:=omega) only [go_sem,h34l0,List.length_map,ixA,Att.e,eq_true hp]
theorem fnd_at {r:Rec} {i:Int} (h:fndE r i=0):recE r=0∧0≤idI r.ats i∧fndI r i=idI r.ats i∧(idI r.ats i).toNat < r.ats.length:=by
 have hz:recE r=0:=by
  unfold fndE at h
  split at h
  ·contradiction
  ·rename_i c;exact Classical.not_not.1 c
 have hi:0≤idI r.ats i:=by
  unfold fndE at h
  rw [if_neg (not_not_intro hz)] at h
  have:=un_0 (by decide) h
  simpa using this
 exact ⟨hz,hi,by unfold fndI;rw [if_neg (not_not_intro hz)],(idxV_at hi).1⟩
set_option maxHeartbeats 4000000 in
theorem takenF_v (r:Rec) (hW:r.W) (i:Int):EV G (Tb (bsS bb)) 33 [r.v,vi i] []=some (rtv (tknV r i),[]):=by
 refine EV_run rfl ?_
 have q1:=find_v (G:=G) (bb:=bb) r hW i
 unfold tknV
 by_cases c:fndE r i=0
 ·rw [if_neg (not_not_intro c)]
  obtain ⟨hz,hi,hI,hlt⟩:=fnd_at c
  rw [c,hI] at q1
  rw [getDA r.ats _ hlt]
  have hk:(((idI r.ats i).toNat:Nat):Int)=idI r.ats i:=by omega
  rw [← hk] at q1
  generalize (idI r.ats i).toNat=k at *
  have q6:=copied9_v (G:=G) (bb:=bb) r hW
  have e:=ixA r.ats k hlt
  generalize r.ats[k]=b at *
  simp (disch:=omega) only [go_sem,h33c,q1,q6,e,Att.e,List.length_map]
  all_goals rfl
 ·rw [if_pos c]
  generalize fndE r i=z at *
  generalize fndI r i=y at *
  simp (disch:=omega) only [go_sem,h33c,q1,c,Att.nil]
  all_goals rfl
end
section
variable {G:Glob} {bb:Bool}
end
section
variable {G:Glob} {bb:Bool}
theorem okA_intI {m:Nat} {av:AV} (h:okA Tryz.prog (m+1) 3 av):∃ i:Int,av=vi i∧In64 i:=by
 obtain ⟨d,rfl,h2⟩:=okA_one (by kernel_rfl) h
 obtain ⟨i,rfl,hi⟩:=okT_i1 h2
 exact ⟨i,rfl,hi⟩
end
section
variable {G:Glob} {bb:Bool}
def h14o:HF:={ h14 with own:=true }
def tbP:FuncId→Option HF:=fun f=>if f=36 then some h36 else if f=14 then some h14o else if f=67 then some h26o else none
noncomputable def TP (G:Glob):HT:=⟨tbP,EV G (Tb (bsS false))⟩
theorem TP_ok {G:Glob}:HTOK Tryz.prog (TP G):=by
 intro f h hf
 change tbP f=some h at hf
 unfold tbP at hf
 split at hf
 ·rename_i e
  subst e
  injection hf with hf;subst hf;exact ⟨by kernel_rfl,_,Tryz.func36,Tryz.ntmps36,h36_ok,r36_ok⟩
 ·split at hf
  ·rename_i e
   subst e
   injection hf with hf;subst hf;exact ⟨by kernel_rfl,_,Tryz.func14,Tryz.ntmps14,h14_ok,r14_ok⟩
  ·split at hf
   ·rename_i e
    subst e
    injection hf with hf;subst hf;exact ⟨by kernel_rfl,_,Tryz.func67,Tryz.ntmps67,h67_ok,r67_ok⟩
   ·cases hf
theorem tp {f:FuncId} {args:List AV} {hp:List AObj} {r:AV × List AObj} (h:EV G (Tb (bsS false)) f args hp=some r) (h1:tbP f=none:=by decide):EV G (TP G) f args hp=some r:=EV_base h1 h
theorem copyP_v (l:List Att) (hl:l.length≤1000) (hr:∀ a∈l,a.rs.length≤1000000):EV G (TP G) 67 [vl (l.map Att.e)] []=some (.one (.bld 0 l.length),[.arr 0 11 (l.map Att.e)]):=by
 refine EV_run (h:=h26o) rfl ?_
 simp only [h26o]
 simp (disch:=omega) only [go_sem,h67c]
 rw [EL_loop (fun k=>⟨(vl (l.map Att.e)::jk 2 (.one (.bld 0 ((l.take k).map Att.e).length)::vi k::jk 15 [])),[.arr 0 11 ((l.take k).map Att.e)]⟩) l.length ?_ ?_]
 ·simp (disch:=omega) only [go_sem,h67l0,List.length_map,List.take_length]
 ·rfl
 ·intro k hk
  have q:=tp (up (copyA_v (G:=G) (bb:=false) l[k] (hr _ (List.getElem_mem hk))))
  have hb:((l.take k).map Att.e).length≤1000:=by rw [List.length_map,List.length_take];omega
  have hall:=all_att (l.take k)
  rw [takeA l k hk]
  generalize (l.take k).map Att.e=C at hb hall ⊢
  simp (disch:=omega) only [go_sem,h67l0,List.length_map,ixA,Att.e,q,hall]
  rw [List.length_append]
  rfl
end
section
variable {G:Glob} {bb:Bool}
noncomputable def bsP (G:Glob) (b:Bool):CallT:=fun f args hp=>if f=30∨f=31∨f=36 then EV G (TP G) f args hp else bsS b f args hp
theorem bsP_ok {b:Bool} (hA:b=true→QC Tryz.prog G 11 [] (.one (.dc (.raw (.bool true))))):CallOK Tryz.prog G (bsP G b):=by
 intro f args hp av o' h hp0 hh
 unfold bsP at h
 split at h
 ·obtain ⟨n,hn⟩:=lim_some h
  refine callN_ok TP_ok ?_ n f args hp av o' hn hp0 hh
  intro f args hp av o' h hp0 hh
  obtain ⟨n,hn⟩:=lim_some h
  exact callN_ok (Tb_ok (bsS false)) (bsO_ok (fun h=>by cases h)) n f args hp av o' hn hp0 hh
 ·exact bsO_ok hA f args hp av o' h hp0 hh
theorem bsP_sub {b:Bool} (f:FuncId) (args:List AV) (hp:List AObj) (r:AV × List AObj) (h:bsS b f args hp=some r):bsP G b f args hp=some r:=by
 have hn:∀ f,f=30∨f=31∨f=36→bsS b f args hp=none:=by
  rintro f (rfl | rfl | rfl)<;>rfl
 unfold bsP
 split
 ·rename_i hf
  rw [hn f hf] at h;cases h
 ·exact h
theorem upP {b:Bool} {f:FuncId} {a:List AV} {hp:List AObj} {r:AV × List AObj} (h:EV G (Tb (bsS b)) f a hp=some r):EV G (Tb (bsP G b)) f a hp=some r:=
 EV_up (T:=Tb (bsS b)) (T':=Tb (bsP G b)) (fun _=>rfl) (fun f a hp r _ h=>bsP_sub f a hp r h) h
theorem inP {b:Bool} {f:FuncId} {args:List AV} {hp:List AObj} {r:AV × List AObj} (h:EV G (TP G) f args hp=some r) (hf:f=30∨f=31∨f=36):EV G (Tb (bsP G b)) f args hp=some r:=by
 refine EV_base (by rcases hf with rfl | rfl | rfl<;>rfl) ?_
 show bsP G b f args hp=some r
 unfold bsP
 rw [if_pos hf]
 exact h
end
section
variable {G:Glob} {bb:Bool}
abbrev nilAtt:Value:=.agg #[.int .i64 0,.string ⟨#[]⟩,.int .i64 0,.int .i64 0,.bool false,.string ⟨#[]⟩,.int .i64 0,.slice none 0 0,.int .i64 0,.int .i64 0,.int .i64 0]
end
end Go.Proofs.YtcplecjhmnblpaaGreatDoor
