/- The bytes of an attribute, by the program. Conditions: none. -/
import Derived.Test.YtcplecjhmnblpaaGreatDoorUa
namespace Go.Proofs.YtcplecjhmnblpaaGreatDoor
set_option linter.unusedSimpArgs false
set_option linter.unusedVariables false
set_option maxRecDepth 4000
section
variable {G:Glob} {bb:Bool}
def rfbB:List Int:=[34,42,47,58,60,62,63,92,124]
def legB (c:Int):Bool:=decide (32≤c∧c≤126∧c∉rfbB)
theorem ixb_nat:∀ n:_root_.Fin 256,(Lib.indexByte (ByteArray.mk #[34,42,47,58,60,62,63,92,124]).data.toList ((n.val:Int).toNat.toUInt8) < 0)↔((n.val:Int)∉rfbB):=by decide
theorem ixb_ref (c:Int) (h:0≤c∧c≤255):(Lib.indexByte (ByteArray.mk #[34,42,47,58,60,62,63,92,124]).data.toList c.toNat.toUInt8 < 0)=(c∉rfbB):=by
 have:=ixb_nat ⟨c.toNat,by omega⟩
 simp only [show ((c.toNat:Nat):Int)=c by omega] at this
 exact propext this
theorem ixb_v (s:ByteArray) (c:Int):EV G (Tb (bs bb)) 240 [.one (.dc (.raw (.string s))),vu c] []=some (vi (Lib.indexByte s.data.toList c.toNat.toUInt8),[]):=EV_base rfl rfl
theorem ixbS_v (s:ByteArray) (c:Int):EV G (Tb (bs bb)) 274 [.one (.dc (.raw (.string s))),vu c] []=some (vi (Lib.indexByte s.data.toList c.toNat.toUInt8),[]):=by
 refine EV_run rfl ?_
 simp (disch:=omega) only [go_sem,h274c,ixb_v]
theorem legB_v (c:Int) (h:0≤c∧c≤255):EV G (Tb (bs bb)) 250 [vu c] []=some (vb (legB c),[]):=by
 refine EV_run rfl ?_
 have h1:=ixb_ref c h
 unfold legB
 by_cases c1:32≤c
 ·by_cases c2:c≤126
  ·simp (disch:=omega) only [go_sem,h250c,ixbS_v,c1,c2]
   simp only [h1,true_and]
  ·simp (disch:=omega) only [go_sem,h250c,ixbS_v,c1,c2]
 ·simp (disch:=omega) only [go_sem,h250c,ixbS_v,c1]
theorem outJ_n {id:Nat}:outJ [] id=true:=rfl
theorem outJ_c {j id:Nat} {J:List Nat}:outJ (j::J) id=(!nq id j&&outJ J id):=by
 simp only [outJ,nq_eq,List.contains_cons,Bool.not_or]
attribute [go_sem] outJ_n outJ_c
theorem notLeg_v (c:Int) (h:0≤c∧c≤255):EV G (Tb (bs bb)) 273 [vu c,.one (.ptr 0 0)] [.box [.fn 250 []]]=some (vb (!legB c),[.box [.fn 250 []]]):=by
 refine EV_run rfl ?_
 have h1:=legB_v (G:=G) (bb:=bb) c h
 simp (disch:=omega) only [go_sem,h273c,h1]
theorem getDI (l:List Int) (k:Nat) (h:k < l.length):l.getD k 0=l[k]:=getD_at l k h
theorem badIx_v (l:List Int) (hB:Byts l) (hl:l.length≤1000000):
  EV G (Tb (bs bb)) 282 [vl (bl l),.one (.fn 273 [.ptr 0 0])] [.box [.fn 250 []]]=some (vi (if ix (fun k=>¬ legB (l.getD k 0)=true) l.length=l.length then -1 else (ix (fun k=>¬ legB (l.getD k 0)=true) l.length:Nat)),[.box [.fn 250 []]]):=by
 refine EV_run rfl ?_
 simp (disch:=omega) only [go_sem,h282c,List.length_map]
 rw [EL_fst (fun k=>⟨(vl (bl l)::.one (.fn 273 [.ptr 0 0])::jk 5 (vi l.length::vi k::jk 10 [])),[.box [.fn 250 []]]⟩) (fun k=>¬ legB (l.getD k 0)=true) l.length ?_ ?_]
 rotate_left
 ·rfl
 ·intro k hk hn
  have h1:=hn k (Nat.le_refl _)
  rw [getDI l k hk] at h1
  have h0:=hB _ (List.getElem_mem hk)
  have h2:=notLeg_v (G:=G) (bb:=bb) l[k] h0
  have h3:legB l[k]=true:=Classical.not_not.1 h1
  simp (disch:=omega) only [go_sem,h282l0,List.length_map,by1,h2,h3]
 obtain ⟨hk,hp,hn⟩:=ix_spec (fun k=>¬ legB (l.getD k 0)=true) l.length
 generalize ix (fun k=>¬ legB (l.getD k 0)=true) l.length=k at *
 rcases hp with rfl | ⟨hk',hp⟩
 ·simp (disch:=omega) only [go_sem,h282l0,List.length_map]
 ·rw [getDI l k hk'] at hp
  have h0:=hB _ (List.getElem_mem hk')
  have h2:=notLeg_v (G:=G) (bb:=bb) l[k] h0
  have h3:legB l[k]=false:=by simpa using hp
  rw [if_neg (by omega)]
  simp (disch:=omega) only [go_sem,h282l0,List.length_map,by1,h2,h3]
def allB (l:List Int):Bool:=l.all legB
theorem allB_ix (l:List Int):(if ix (fun k=>¬ legB (l.getD k 0)=true) l.length=l.length then (-1:Int) else (ix (fun k=>¬ legB (l.getD k 0)=true) l.length:Nat)) < 0↔allB l=true:=by
 obtain ⟨hk,hp,hn⟩:=ix_spec (fun k=>¬ legB (l.getD k 0)=true) l.length
 generalize ix (fun k=>¬ legB (l.getD k 0)=true) l.length=k at *
 rcases hp with rfl | ⟨hk',hp⟩
 ·rw [if_pos rfl]
  refine ⟨fun _=>?_,fun _=>by decide⟩
  unfold allB
  rw [List.all_eq_true]
  intro x hx
  obtain ⟨j,hj,rfl⟩:=List.mem_iff_getElem.1 hx
  have:=hn j hj
  rw [getDI l j hj] at this
  exact Classical.not_not.1 this
 ·rw [if_neg (by omega)]
  refine ⟨fun h=>by omega,fun h=>?_⟩
  rw [getDI l k hk'] at hp
  exact absurd (List.all_eq_true.1 h _ (List.getElem_mem hk')) hp
theorem bytesD_str (l:List Int) (hB:Byts l):bytesD (str l)=l.map by1:=by
 unfold bytesD
 rw [str_data,List.map_map]
 refine List.map_congr_left (fun b hb=>?_)
 simp only [Function.comp_apply,by1,u8_nat b (hB b hb)]
theorem contB_v (l:List Int) (hB:Byts l) (hl:l.length≤1000000):
  EV G (Tb (bs bb)) 272 [vl (bl l),.one (.fn 273 [.ptr 0 0])] [.box [.fn 250 []]]=some (vb (!allB l),[.box [.fn 250 []]]):=by
 refine EV_run rfl ?_
 have h1:=badIx_v (G:=G) (bb:=bb) l hB hl
 have h2:=allB_ix l
 generalize (if ix (fun k=>¬ legB (l.getD k 0)=true) l.length=l.length then (-1:Int) else (ix (fun k=>¬ legB (l.getD k 0)=true) l.length:Nat))=z at h1 h2
 cases ha:allB l with
 | true=>
  have h3:=h2.2 ha
  simp (disch:=omega) only [go_sem,h272c,h1]
  simp;omega
 | false=>
  have h3:¬ z < 0:=fun h=>by rw [h2.1 h] at ha;cases ha
  simp (disch:=omega) only [go_sem,h272c,h1]
  simp;omega
theorem mapM1 {α β:Type} (f:α→Option β) (x:α):[x].mapM f=(f x).map fun c=>[c]:=by
 cases h:f x<;>simp [List.mapM_cons,h]
theorem allBytes_v (l:List Int) (hB:Byts l) (hl:l.length≤1000000):EV G (Tb (bs bb)) 249 [sv l,.one (.fn 250 [])] []=some (vb (allB l),[]):=by
 refine EV_run rfl ?_
 have h1:=contB_v (G:=G) (bb:=bb) l hB hl
 have h2:=bytesD_str l hB
 cases ha:allB l
 all_goals rw [ha] at h1
 all_goals simp (disch:=omega) only [go_sem,h249c,h1,h2,mapM1,oneOf]
theorem suf_v (l:List Int) (c:Int) (hB:Byts l) (hc:0≤c∧c≤255) (hl:l.length≤1000000):EV G (Tb (bs bb)) 275 [sv l,sv [c]] []=some (vb (decide (l≠[]∧l.getLast?=some c)),[]):=by
 refine EV_run rfl ?_
 by_cases h:l=[]
 ·subst h
  simp (disch:=omega) only [go_sem,h275c,List.length_cons,List.length_nil]
 ·have hp:1≤l.length:=by have:=List.length_pos_iff.2 h;omega
  have hd:l.drop (l.length - 1)=[l[l.length - 1]]:=by
   rw [List.drop_eq_getElem_cons (by omega),List.drop_eq_nil_of_le (by omega)]
  have hB1:Byts [l[l.length - 1]]:=fun b hb=>by rw [List.mem_singleton.1 hb];exact hB _ (List.getElem_mem _)
  have hB2:Byts [c]:=fun b hb=>by rw [List.mem_singleton.1 hb];exact hc
  have e:=str_inj hB1 hB2
  have e2:l.getLast?=some l[l.length - 1]:=by rw [List.getLast?_eq_getElem?,List.getElem?_eq_getElem (by omega)]
  simp (disch:=omega) only [go_sem,h275c,List.length_cons,List.length_nil,hd,e,e2]
  simp [h]
theorem sufS_v (l:List Int) (c:Int) (hB:Byts l) (hc:0≤c∧c≤255) (hl:l.length≤1000000):EV G (Tb (bs bb)) 251 [sv l,sv [c]] []=some (vb (decide (l≠[]∧l.getLast?=some c)),[]):=by
 refine EV_run rfl ?_
 have h1:=suf_v (G:=G) (bb:=bb) l c hB hc hl
 simp (disch:=omega) only [go_sem,h251c,h1]
theorem at_s (l:List Int) (hB:Byts l) (k:Nat) (h:k < l.length):l[k]?=some l[k]∧((u8 l[k]).toNat:Int)=l[k]:=⟨List.getElem?_eq_getElem h,u8_nat _ (hB _ (List.getElem_mem h))⟩
def nmOK (l:List Int):Prop:=l≠[]∧l.length≤32∧allB l=true∧l≠[46,46]∧l.getLast?≠some 32∧l.getLast?≠some 46
instance (l:List Int):Decidable (nmOK l):=by unfold nmOK;infer_instance
theorem s46:(⟨#[46,46]⟩:ByteArray)=str [46,46]:=rfl
theorem s1_46:(⟨#[46]⟩:ByteArray)=str [46]:=rfl
theorem s1_32:(⟨#[32]⟩:ByteArray)=str [32]:=rfl
theorem byts_c (l:List Int) (h:(l.all fun b=>decide (0≤b∧b≤255))=true):Byts l:=fun b hb=>by simpa using List.all_eq_true.1 h b hb
theorem byts_nil:Byts []:=fun b hb=>by cases hb
theorem isLegal_v (l:List Int) (hB:Byts l) (hl:l.length≤1000000):EV G (Tb (bs bb)) 206 [sv l] []=some (vb (decide (nmOK l)),[]):=by
 refine EV_run rfl ?_
 have e0:=str_inj hB byts_nil
 have e1:=str_inj hB (byts_c [46,46] (by decide))
 have h1:=allBytes_v (G:=G) (bb:=bb) l hB hl
 have h2:=sufS_v (G:=G) (bb:=bb) l 32 hB (by omega) hl
 have h3:=sufS_v (G:=G) (bb:=bb) l 46 hB (by omega) hl
 by_cases c0:l=[]
 ·rw [decide_eq_false (fun h:nmOK l=>h.1 c0)]
  simp (disch:=omega) only [go_sem,h206c,str_nil,s46,s1_46,s1_32,e0,e1,c0]
 ·by_cases c1:l.length≤32
  ·by_cases c2:allB l=true
   ·rw [c2] at h1
    by_cases c3:l=[46,46]
    ·rw [decide_eq_false (fun h:nmOK l=>h.2.2.2.1 c3)]
     replace c3:=eq_true c3
     simp (disch:=omega) only [go_sem,h206c,str_nil,s46,s1_46,s1_32,e0,e1,c0,c1,h1,c3]
    ·by_cases c4:l.getLast?=some 32
     ·rw [decide_eq_false (fun h:nmOK l=>h.2.2.2.2.1 c4)]
      rw [decide_eq_true (⟨c0,c4⟩:l≠[]∧l.getLast?=some 32)] at h2
      simp (disch:=omega) only [go_sem,h206c,str_nil,s46,s1_46,s1_32,e0,e1,c0,c1,h1,c3,h2]
     ·rw [decide_eq_false (fun h:l≠[]∧l.getLast?=some 32=>c4 h.2)] at h2
      by_cases c5:l.getLast?=some 46
      ·rw [decide_eq_false (fun h:nmOK l=>h.2.2.2.2.2 c5)]
       rw [decide_eq_true (⟨c0,c5⟩:l≠[]∧l.getLast?=some 46)] at h3
       simp (disch:=omega) only [go_sem,h206c,str_nil,s46,s1_46,s1_32,e0,e1,c0,c1,h1,c3,h2,h3]
      ·rw [show decide (nmOK l)=true from decide_eq_true ⟨c0,c1,c2,c3,c4,c5⟩]
       rw [decide_eq_false (fun h:l≠[]∧l.getLast?=some 46=>c5 h.2)] at h3
       simp (disch:=omega) only [go_sem,h206c,str_nil,s46,s1_46,s1_32,e0,e1,c0,c1,h1,c3,h2,h3]
   ·rw [decide_eq_false (fun h:nmOK l=>c2 h.2.2.1)]
    rw [Bool.eq_false_iff.2 c2] at h1
    simp (disch:=omega) only [go_sem,h206c,str_nil,s46,s1_46,s1_32,e0,e1,c0,c1,h1]
  ·rw [decide_eq_false (fun h:nmOK l=>c1 h.2.1)]
   simp (disch:=omega) only [go_sem,h206c,str_nil,s46,s1_46,s1_32,e0,e1,c0,c1]
theorem checkName_v (l:List Int) (hB:Byts l) (hl:l.length≤1000000):EV G (Tb (bs bb)) 173 [sv l] []=some (vi (firstE [if l.length≤32 then 0 else 8,if nmOK l then 0 else 4]),[]):=by
 refine EV_run rfl ?_
 have h1:=isLegal_v (G:=G) (bb:=bb) l hB hl
 have e:((l.length:Int)≤32)=(l.length≤32):=by apply propext;omega
 simp (disch:=omega) only [go_sem,h173c,h1,unlessN_v,firstN2,decide_eq_true_eq,e]
def nmB (l:List Int):Bool:=decide (l=[]∨nmOK l)
theorem nameErr_v (l:List Int) (hB:Byts l) (hl:l.length≤1000000):EV G (Tb (bs bb)) 125 [sv l] []=some (vi (if nmB l=true then 0 else 4),[]):=by
 refine EV_run rfl ?_
 have e0:=str_inj hB byts_nil
 have h1:=checkName_v (G:=G) (bb:=bb) l hB hl
 by_cases c0:l=[]
 ·rw [show nmB l=true from decide_eq_true (.inl c0)]
  simp (disch:=omega) only [go_sem,h125c,str_nil,e0,c0,unless8_v]
 ·by_cases c1:nmOK l
  ·rw [show nmB l=true from decide_eq_true (.inr c1)]
   have c2:=c1.2.1
   rw [if_pos c1,if_pos c2,show firstE [0,0]=0 from rfl] at h1
   simp (disch:=omega) only [go_sem,h125c,str_nil,e0,c0,h1,unless8_v]
  ·rw [show nmB l=false from decide_eq_false (fun h=>h.elim c0 c1)]
   rw [if_neg c1] at h1
   by_cases c2:l.length≤32
   ·rw [if_pos c2,show firstE [0,4]=4 from rfl] at h1
    simp (disch:=omega) only [go_sem,h125c,str_nil,e0,c0,h1,unless8_v]
   ·rw [if_neg c2,show firstE [8,4]=8 from rfl] at h1
    simp (disch:=omega) only [go_sem,h125c,str_nil,e0,c0,h1,unless8_v]
theorem legal_v (c:Int):EV G (Tb (bs bb)) 182 [vu c] []=some (vb (legB c),[]):=by
 refine EV_run rfl ?_
 by_cases c1:c < 32
 ·rw [show legB c=false from decide_eq_false (fun h=>by omega)]
  simp (disch:=omega) only [go_sem,h182c,c1]
 ·by_cases c2:c > 126
  ·rw [show legB c=false from decide_eq_false (fun h=>by omega)]
   simp (disch:=omega) only [go_sem,h182c,c1,c2]
  ·have hr:(⟨#[34,42,47,58,60,62,63,92,124]⟩:ByteArray)=str rfbB:=rfl
   have hBr:Byts rfbB:=byts_c rfbB (by decide)
   simp (disch:=omega) only [go_sem,h182c,c1,c2,hr]
   rw [EL_fst (fun k=>⟨(vu c::jk 2 (vi k::jk 14 [])),[]⟩) (fun k=>rfbB.getD k 0=c) 9 ?_ ?_]
   rotate_left
   ·rfl
   ·intro k hk hn
    have h1:=hn k (Nat.le_refl _)
    obtain ⟨h2,h3⟩:=at_s rfbB hBr k hk
    rw [getDI rfbB k hk] at h1
    simp (disch:=omega) only [go_sem,h182l0,hr,h2,h3,h1,Option.map_some]
   obtain ⟨hk,hp,hn⟩:=ix_spec (fun k=>rfbB.getD k 0=c) 9
   generalize ix (fun k=>rfbB.getD k 0=c) 9=k at *
   rcases hp with rfl | ⟨hk',hp⟩
   ·have hm:c∉rfbB:=by
     intro hm
     obtain ⟨j,hj,e⟩:=List.mem_iff_getElem.1 hm
     exact hn j hj (by rw [getDI rfbB j hj];exact e)
    rw [show legB c=true from decide_eq_true ⟨by omega,by omega,hm⟩]
    simp (disch:=omega) only [go_sem,h182l0,hr]
   ·have hm:c∈rfbB:=by
     rw [getDI rfbB k hk'] at hp
     rw [← hp];exact List.getElem_mem _
    obtain ⟨h2,h3⟩:=at_s rfbB hBr k hk'
    rw [getDI rfbB k hk'] at hp
    rw [hp] at h2 h3
    rw [show legB c=false from decide_eq_false (fun h=>h.2.2 hm)]
    simp (disch:=omega) only [go_sem,h182l0,hr,h2,h3,Option.map_some]
theorem nameR_v (l:List Int) (hB:Byts l) (hl:l.length≤1000000):EV G (Tb (bs bb)) 137 [sv l] []=some (vi (if l.length > 32 then 8 else if nmOK l then 0 else 4),[]):=by
 refine EV_run rfl ?_
 have e0:=str_inj hB byts_nil
 have e1:=str_inj hB (byts_c [46,46] (by decide))
 have e2:=str_inj hB (byts_c [46] (by decide))
 by_cases c0:l.length > 32
 ·rw [if_pos c0]
  simp (disch:=omega) only [go_sem,h137c,c0]
 ·rw [if_neg c0]
  by_cases c1:l=[]
  ·rw [if_neg (fun h:nmOK l=>h.1 c1)]
   simp (disch:=omega) only [go_sem,h137c,c0,str_nil,s46,s1_46,e0,c1]
  ·have hp:1≤l.length:=by have:=List.length_pos_iff.2 c1;omega
   have eg:l.getLast?=some l[l.length - 1]:=by rw [List.getLast?_eq_getElem?,List.getElem?_eq_getElem (by omega)]
   obtain ⟨hx,hx2⟩:=at_s l hB (l.length - 1) (by omega)
   by_cases c2:l=[46]
   ·rw [if_neg (fun h:nmOK l=>h.2.2.2.2.2 (by rw [c2];rfl))]
    replace c2:=eq_true c2
    simp (disch:=omega) only [go_sem,h137c,c0,str_nil,s46,s1_46,e0,c1,e2,c2]
   ·by_cases c3:l=[46,46]
    ·rw [if_neg (fun h:nmOK l=>h.2.2.2.1 c3)]
     replace c3:=eq_true c3
     simp (disch:=omega) only [go_sem,h137c,c0,str_nil,s46,s1_46,e0,c1,e2,c2,e1,c3]
    ·by_cases c4:l[l.length - 1]=32
     ·rw [if_neg (fun h:nmOK l=>h.2.2.2.2.1 (by rw [eg,c4]))]
      rw [c4] at hx hx2
      simp (disch:=omega) only [go_sem,h137c,c0,str_nil,s46,s1_46,e0,c1,e2,c2,e1,c3,toNat_sub1,hx,hx2,Option.map_some]
     ·by_cases c5:l[l.length - 1]=46
      ·rw [if_neg (fun h:nmOK l=>h.2.2.2.2.2 (by rw [eg,c5]))]
       rw [c5] at hx hx2
       simp (disch:=omega) only [go_sem,h137c,c0,str_nil,s46,s1_46,e0,c1,e2,c2,e1,c3,toNat_sub1,hx,hx2,Option.map_some]
      ·have hnm:nmOK l↔allB l=true:=by
        exact ⟨fun h=>h.2.2.1,fun h=>⟨c1,by omega,h,c3,by rw [eg];simpa using c4,by rw [eg];simpa using c5⟩⟩
       simp (disch:=omega) only [go_sem,h137c,c0,str_nil,s46,s1_46,e0,c1,e2,c2,e1,c3,hx,hx2,Option.map_some,c4,c5]
       rw [EL_fst (fun k=>⟨(sv l::jk 2 (vi k::jk 40 [])),[]⟩) (fun k=>¬ legB (l.getD k 0)=true) l.length ?_ ?_]
       rotate_left
       ·rfl
       ·intro k hk hn
        have h1:=hn k (Nat.le_refl _)
        obtain ⟨h2,h4⟩:=at_s l hB k hk
        rw [getDI l k hk] at h1
        have h3:=legal_v (G:=G) (bb:=bb) l[k]
        rw [Classical.not_not.1 h1] at h3
        simp (disch:=omega) only [go_sem,h137l0,h2,h3,h4,Option.map_some]
       obtain ⟨hk,hq,hn⟩:=ix_spec (fun k=>¬ legB (l.getD k 0)=true) l.length
       generalize ix (fun k=>¬ legB (l.getD k 0)=true) l.length=k at *
       rcases hq with rfl | ⟨hk',hq⟩
       ·have ha:allB l=true:=by
         unfold allB
         rw [List.all_eq_true]
         intro x hx
         obtain ⟨j,hj,rfl⟩:=List.mem_iff_getElem.1 hx
         have:=hn j hj
         rw [getDI l j hj] at this
         exact Classical.not_not.1 this
        rw [if_pos (hnm.2 ha)]
        simp (disch:=omega) only [go_sem,h137l0]
       ·have ha:¬ allB l=true:=by
         intro ha
         rw [getDI l k hk'] at hq
         exact hq (List.all_eq_true.1 ha _ (List.getElem_mem hk'))
        obtain ⟨h2,h4⟩:=at_s l hB k hk'
        rw [getDI l k hk'] at hq
        have h3:=legal_v (G:=G) (bb:=bb) l[k]
        rw [(by simpa using hq:legB l[k]=false)] at h3
        rw [if_neg (fun h=>ha (hnm.1 h))]
        simp (disch:=omega) only [go_sem,h137l0,h2,h3,h4,Option.map_some]
theorem isName_v (l:List Int) (hB:Byts l) (hl:l.length≤1000000):EV G (Tb (bs bb)) 85 [sv l] []=some (vb (nmB l),[]):=by
 refine EV_run rfl ?_
 have e0:=str_inj hB byts_nil
 have h1:=nameR_v (G:=G) (bb:=bb) l hB hl
 by_cases c0:l=[]
 ·rw [show nmB l=true from decide_eq_true (.inl c0)]
  simp (disch:=omega) only [go_sem,h85c,str_nil,e0,c0]
 ·by_cases c1:nmOK l
  ·rw [show nmB l=true from decide_eq_true (.inr c1)]
   have c2:=c1.2.1
   rw [if_pos c1,if_neg (by omega)] at h1
   simp (disch:=omega) only [go_sem,h85c,str_nil,e0,c0,h1]
  ·rw [show nmB l=false from decide_eq_false (fun h=>h.elim c0 c1)]
   rw [if_neg c1] at h1
   by_cases c2:l.length > 32
   ·rw [if_pos c2] at h1
    simp (disch:=omega) only [go_sem,h85c,str_nil,e0,c0,h1]
    rfl
   ·rw [if_neg c2] at h1
    simp (disch:=omega) only [go_sem,h85c,str_nil,e0,c0,h1]
    rfl
end
section
variable {G:Glob} {bb:Bool}
def yC (b:Int):Cel:=rawC (.int .u8 b)
abbrev yb (l:List Int):AObj:=.box (l.map yC)
theorem kill_yb (p:Nat→Bool) (l:List Int):(l.map yC).map (killC p)=l.map yC:=by rw [List.map_map];rfl
theorem ct_yb (m:Nat) (l:List Int):ctCs m (l.map yC)=l.map yC:=by rw [ctCs_eq,kill_yb]
theorem ids_yb (l:List Int):idsL (l.map yC)=[]:=by
 induction l with
 | nil=>rfl
 | cons b l ih=>rw [List.map_cons,idsL,ih];rfl
theorem kp_yb (J:List Nat) (l:List Int):kpCs J (l.map yC)=true:=by
 induction l with
 | nil=>rfl
 | cons b l ih=>rw [List.map_cons,kpCs,ih];rfl
theorem rn_yb (ρ:Nat→Nat) (l:List Int):(l.map yC).map (renC ρ)=l.map yC:=by
 induction l with
 | nil=>rfl
 | cons b l ih=>rw [List.map_cons,List.map_cons,ih];rfl
theorem keep_yb (p:Nat→Bool) (l:List Int):keepL p (l.map yC)=true:=by
 induction l with
 | nil=>rfl
 | cons b l ih=>rw [List.map_cons,keepL,ih];rfl
theorem put_yb (l:List Int) (k:Nat) (b:Int) (h:k < l.length):putAt (l.map yC) k [.dc (.raw (.int .u8 b))]=(l.set k b).map yC:=by
 unfold putAt
 apply List.ext_getElem?
 intro i
 simp only [List.map_set]
 by_cases h1:i < k
 ·rw [List.append_assoc,List.getElem?_append_left (by simp;omega),List.getElem?_take_of_lt h1,List.getElem?_set_ne (by omega)]
 ·by_cases h2:i=k
  ·subst h2
   rw [List.append_assoc,List.getElem?_append_right (by simp;omega),List.getElem?_set_self (by simpa using h)]
   simp [Nat.min_eq_left (Nat.le_of_lt h)];rfl
  ·rw [List.getElem?_append_right (by simp;omega),List.getElem?_set_ne (by omega),List.getElem?_drop]
   congr 1
   simp;omega
attribute [go_sem] kill_yb ct_yb ids_yb kp_yb rn_yb keep_yb
theorem fvB2_b {d:Option Nat} {st:AS} {id:Nat} {cs:List Cel}:fvB2 d id st (some (.tup [],[.box cs]))=bif keepL (fun _=>true) cs then some (⟨putS st.sl d (.tup []),st.hp.set id (.box cs)⟩,[id],[id]) else none:=Eq.trans rfl rfl
attribute [go_sem] fvB2_b
def putK (l:List Int) (a:Nat) (n:Int):Nat→List Int
 | 0=>l
 | k+1=>(putK l a n k).set (a+k) (shK n k % 256)
theorem putK_len (l:List Int) (a:Nat) (n:Int) (k:Nat):(putK l a n k).length=l.length:=by
 induction k with
 | zero=>rfl
 | succ k ih=>simp [putK,ih]
theorem put_v (l:List Int) (a k:Nat) (n:Int) (h:a+k≤l.length) (hl:l.length≤1000000) (hn:-9223372036854775808≤n∧n≤9223372036854775807):
  EV G (Tb (bs bb)) 179 [.one (.bls 0 0 l.length 1),vi a,vi k,vi n] [yb l]=some (.tup [],[yb (putK l a n k)]):=by
 refine EV_run rfl ?_
 simp (disch:=omega) only [go_sem,h179c]
 rw [EL_loop (fun j=>⟨(.one (.bls 0 0 l.length 1)::vi a::jk 1 (vi (shK n j)::jk 5 (vi k::vi j::jk 12 []))),[yb (putK l a n j)]⟩) k ?_ ?_]
 ·simp (disch:=omega) only [go_sem,h179l0]
 ·rfl
 ·intro j hj
  have h1:=putK_len l a n j
  have h2:=shK_in n hn j
  have h3:=put_yb (putK l a n j) (a+j) (shK n j % 256) (by omega)
  simp (disch:=omega) only [go_sem,h179l0,List.length_map,h1,wu8,Int.reduceToNat,Int.reducePow,fdiv256,shK,putK,h3]
theorem put_n (l:List Int) (a k:Nat) (n:Int) (N:Nat) (hN:l.length=N) (h:a+k≤N) (hl:N≤1000000) (hn:-9223372036854775808≤n∧n≤9223372036854775807):
  EV G (Tb (bs bb)) 179 [.one (.bls 0 0 N 1),vi a,vi k,vi n] [yb l]=some (.tup [],[yb (putK l a n k)]):=by
 subst hN
 exact put_v l a k n h hl hn
theorem put_0 (l:List Int) (n:Int) (N:Nat) (hN:l.length=N) (h:4≤N) (hl:N≤1000000) (hn:-9223372036854775808≤n∧n≤9223372036854775807):EV G (Tb (bs bb)) 179 [.one (.bls 0 0 N 1),vi 0,vi 4,vi n] [yb l]=some (.tup [],[yb (putK l 0 n 4)]):=put_n l 0 4 n N hN h hl hn
theorem put_4 (l:List Int) (a:Int) (n:Int) (N:Nat) (hN:l.length=N) (ha:0≤a) (h:a+4≤N) (hl:N≤1000000) (hn:-9223372036854775808≤n∧n≤9223372036854775807):EV G (Tb (bs bb)) 179 [.one (.bls 0 0 N 1),vi a,vi 4,vi n] [yb l]=some (.tup [],[yb (putK l a.toNat n 4)]):=by
 have:=put_n (G:=G) (bb:=bb) l a.toNat 4 n N hN (by omega) hl hn
 rwa [Int.toNat_of_nonneg ha] at this
theorem put_2 (l:List Int) (a:Int) (n:Int) (N:Nat) (hN:l.length=N) (ha:0≤a) (h:a+2≤N) (hl:N≤1000000) (hn:-9223372036854775808≤n∧n≤9223372036854775807):EV G (Tb (bs bb)) 179 [.one (.bls 0 0 N 1),vi a,vi 2,vi n] [yb l]=some (.tup [],[yb (putK l a.toNat n 2)]):=by
 have:=put_n (G:=G) (bb:=bb) l a.toNat 2 n N hN (by omega) hl hn
 rwa [Int.toNat_of_nonneg ha] at this
theorem put_1 (l:List Int) (a:Int) (n:Int) (N:Nat) (hN:l.length=N) (ha:0≤a) (h:a+1≤N) (hl:N≤1000000) (hn:-9223372036854775808≤n∧n≤9223372036854775807):EV G (Tb (bs bb)) 179 [.one (.bls 0 0 N 1),vi a,vi 1,vi n] [yb l]=some (.tup [],[yb (putK l a.toNat n 1)]):=by
 have:=put_n (G:=G) (bb:=bb) l a.toNat 1 n N hN (by omega) hl hn
 rwa [Int.toNat_of_nonneg ha] at this
def cpL (b:List Int) (k:Nat) (s:List Int):List Int:=b.take k++s++b.drop (k+s.length)
theorem cpL_len {b:List Int} {k:Nat} {s:List Int} (h:k+s.length≤b.length):(cpL b k s).length=b.length:=by simp [cpL];omega
theorem bytesCel_u8 (s:List Int) (hB:Byts s):bytesCel (s.map u8)=s.map yC:=by
 unfold bytesCel
 rw [List.map_map]
 exact List.map_congr_left (fun b hb=>by simp only [Function.comp_apply,yC,u8_nat b (hB b hb)])
theorem cpy_yb (b s:List Int) (k n:Nat) (hB:Byts s) (h:s.length≤n):putAt (b.map yC) k (bytesCel ((s.map u8).take n))=(cpL b k s).map yC:=by
 rw [List.take_of_length_le (by simpa using h),bytesCel_u8 s hB]
 simp [putAt,cpL,List.map_append,List.map_take,List.map_drop]
def zl (n:Nat):List Int:=List.replicate n 0
theorem zl_len (n:Nat):(zl n).length=n:=List.length_replicate
theorem rep_yb (n:Nat):List.replicate n (Cel.dc (.raw (.int .u8 0)))=(zl n).map yC:=by rw [zl,List.map_replicate];rfl
theorem bytesC_yb (l:List Int):bytesC (l.map yC)=some (l.map u8):=by
 induction l with
 | nil=>rfl
 | cons b l ih=>simp only [List.map_cons,yC,rawC,bytesC,u8] at ih ⊢;rw [ih];rfl
theorem takeD_yb (l:List Int) (n:Nat) (h:l.length≤n):(l.map yC).take n=l.map yC:=List.take_of_length_le (by simpa using h)
def hdN (a:Att):Nat:=if a.res=true then 24 else 40
def bdy (a:Att):List Int:=if a.res=true then a.va else (encV a.rs).1
def atN (a:Att):Nat:=(hdN a+a.nm.length+7) / 8 * 8
def szN (a:Att):Nat:=(atN a+(bdy a).length+7) / 8 * 8
def put6 (a:Att):List Int:=putK (putK (putK (putK (putK (putK (zl (szN a)) 0 a.ty 4) 4 (szN a) 4) 9 a.nm.length 1) 10 (hdN a) 2) 12 a.fl 2) 14 a.id 2
def put7 (a:Att):List Int:=if a.res=true then putK (putK (put6 a) 16 (bdy a).length 4) 20 (atN a) 4
 else putK (putK (putK (putK (putK (putK (putK (put6 a) 8 1 1) 16 a.fi 4) 20 (a.fi+lenW a.rs - 1) 4) 24 (atN a) 2) 28 a.al 4) 32 a.sz 4) 36 a.vd 4
def encB (a:Att):List Int:=cpL (cpL (put7 a) (hdN a) a.nm) (atN a) (bdy a)
structure Att.Bd (a:Att):Prop where
 nm:Byts a.nm
 va:Byts a.va
 nl:a.nm.length≤1000
 vl:a.va.length≤1000
 rl:a.rs.length≤1000
 ty:-1000000000000≤a.ty∧a.ty≤1000000000000
 id:-1000000000000≤a.id∧a.id≤1000000000000
 fl:-1000000000000≤a.fl∧a.fl≤1000000000000
 fi:-1000000000000≤a.fi∧a.fi≤1000000000000
 al:-1000000000000≤a.al∧a.al≤1000000000000
 sz:-1000000000000≤a.sz∧a.sz≤1000000000000
 vd:-1000000000000≤a.vd∧a.vd≤1000000000000
 lw:-1000000000000≤lenW a.rs∧lenW a.rs≤1000000000000
theorem encV_byts (l:List Run):Byts (encV l).1∧(encV l).1.length≤5 * 64+1:=by
 unfold encV
 by_cases c:errsE [l]=0
 ·have hc:(chk l).2=0:=by rw [errs1] at c;exact c
  have hr:=runs_in hc
  have hlen:=chk_len hc
  obtain ⟨g1,g2,g3⟩:=encK_ok l (fun r hr'=>(hr r hr').1) l.length (Nat.le_refl _)
  rw [encK_all] at g1 g3
  rw [if_neg (by simpa using c)]
  refine ⟨fun b hb=>?_,by simp;omega⟩
  rcases List.mem_append.1 hb with hb | hb
  ·exact g3 b hb
  ·have:=List.mem_singleton.1 hb;omega
 ·rw [if_pos c]
  exact ⟨byts_nil,by simp⟩
end
section
variable {G:Glob} {bb:Bool}
theorem bytesC_r (l:List Int) (n:Nat) (h:l.length≤n):bytesC ((l.map yC).take n)=some (l.map u8):=by rw [takeD_yb l n h,bytesC_yb]
theorem put6_len (a:Att):(put6 a).length=szN a:=by simp only [put6,putK_len,zl_len]
set_option maxHeartbeats 4000000 in
theorem encoded_t (a:Att) (h:a.Bd) (hr:a.res=true):EV G (Tb (bs bb)) 129 [a.v] []=some (sv (encB a),[]):=by
 refine EV_run rfl ?_
 obtain ⟨hnm,hva,hnl,hvl,hrl,hty,hid,hfl,hfi,hal,hsz,hvd,hlw⟩:=h
 have eh:hdN a=24:=by simp [hdN,hr]
 have eb:bdy a=a.va:=by simp [bdy,hr]
 have eA:al8 (24+(a.nm.length:Int))=((atN a:Nat):Int):=by simp only [al8,atN,eh];omega
 have eN:al8 (((atN a:Nat):Int)+(a.va.length:Int))=((szN a:Nat):Int):=by simp only [al8,szN,eb];omega
 have hA:24+a.nm.length≤atN a∧atN a≤2000:=by simp only [atN,eh];omega
 have hN:atN a+a.va.length≤szN a∧szN a≤4000:=by simp only [szN,eb];omega
 unfold encB put7
 rw [if_pos hr]
 have h6:=put6_len a
 unfold put6 at h6 ⊢
 rw [eh,eb] at *
 generalize atN a=A at *
 generalize szN a=N at *
 have hc1:=cpy_yb (putK (putK (putK (putK (putK (putK (putK (putK (zl N) 0 a.ty 4) 4 N 4) 9 a.nm.length 1) 10 24 2) 12 a.fl 2) 14 a.id 2) 16 a.va.length 4) 20 A 4) a.nm 24 (N - 24) hnm (by omega)
 have hc2:=cpy_yb (cpL (putK (putK (putK (putK (putK (putK (putK (putK (zl N) 0 a.ty 4) 4 N 4) 9 a.nm.length 1) 10 24 2) 12 a.fl 2) 14 a.id 2) 16 a.va.length 4) 20 A 4) 24 a.nm) a.va A (N - A) hva (by omega)
 have hl1:(cpL (putK (putK (putK (putK (putK (putK (putK (putK (zl N) 0 a.ty 4) 4 N 4) 9 a.nm.length 1) 10 24 2) 12 a.fl 2) 14 a.id 2) 16 a.va.length 4) 20 A 4) 24 a.nm).length=N:=by
  rw [cpL_len (by simp only [putK_len,zl_len];omega)];simp only [putK_len,zl_len]
 have hl2:=cpL_len (b:=cpL (putK (putK (putK (putK (putK (putK (putK (putK (zl N) 0 a.ty 4) 4 N 4) 9 a.nm.length 1) 10 24 2) 12 a.fl 2) 14 a.id 2) 16 a.va.length 4) 20 A 4) 24 a.nm) (k:=A) (s:=a.va) (by omega)
 rw [hl1] at hl2
 have e3:(A+(N - A)≤N)=True:=eq_true (by omega)
 simp (disch:=first | omega | (simp only [List.length_map,putK_len,zl_len]<;>omega)) only [go_sem,h129c,hr,head_v,aligned_v,eA,eN,rep_yb,List.length_map,put_0,put_1,put_2,put_4,Int.reduceToNat,Int.toNat_natCast,putK_len,zl_len,hc1,hc2,hl1,e3,if_true,bytesC_r,List.drop_zero,Option.toList_some,Option.toList_none,List.cons_append,List.nil_append]
set_option maxHeartbeats 4000000 in
theorem encoded_f (a:Att) (h:a.Bd) (hr:a.res=false):EV G (Tb (bs bb)) 129 [a.v] []=some (sv (encB a),[]):=by
 refine EV_run rfl ?_
 obtain ⟨hnm,hva,hnl,hvl,hrl,hty,hid,hfl,hfi,hal,hsz,hvd,hlw⟩:=h
 have hr':¬ a.res=true:=by rw [hr];decide
 have eh:hdN a=40:=by simp [hdN,hr]
 have eb:bdy a=(encV a.rs).1:=by simp [bdy,hr]
 obtain ⟨hby,hbl⟩:=encV_byts a.rs
 have q1:=encode_v (G:=G) (B:=bs bb) a.rs
 have q2:=clusters8_v (G:=G) (bb:=bb) a (by omega)
 simp only [Att.v,Att.c,hr] at q2
 have eA:al8 (40+(a.nm.length:Int))=((atN a:Nat):Int):=by simp only [al8,atN,eh];omega
 have eN:al8 (((atN a:Nat):Int)+((encV a.rs).1.length:Int))=((szN a:Nat):Int):=by simp only [al8,szN,eb];omega
 have hA:40+a.nm.length≤atN a∧atN a≤2000:=by simp only [atN,eh];omega
 have hN:atN a+(encV a.rs).1.length≤szN a∧szN a≤4000:=by simp only [szN,eb];omega
 unfold encB put7
 rw [if_neg hr']
 have h6:=put6_len a
 unfold put6 at h6 ⊢
 rw [eh,eb] at *
 generalize atN a=A at *
 generalize szN a=N at *
 generalize (encV a.rs).1=C at *
 have hc1:=cpy_yb (putK (putK (putK (putK (putK (putK (putK (putK (putK (putK (putK (putK (putK (zl N) 0 a.ty 4) 4 N 4) 9 a.nm.length 1) 10 40 2) 12 a.fl 2) 14 a.id 2) 8 1 1) 16 a.fi 4) 20 (a.fi+lenW a.rs - 1) 4) 24 A 2) 28 a.al 4) 32 a.sz 4) 36 a.vd 4) a.nm 40 (N - 40) hnm (by omega)
 have hl1:(cpL (putK (putK (putK (putK (putK (putK (putK (putK (putK (putK (putK (putK (putK (zl N) 0 a.ty 4) 4 N 4) 9 a.nm.length 1) 10 40 2) 12 a.fl 2) 14 a.id 2) 8 1 1) 16 a.fi 4) 20 (a.fi+lenW a.rs - 1) 4) 24 A 2) 28 a.al 4) 32 a.sz 4) 36 a.vd 4) 40 a.nm).length=N:=by
  rw [cpL_len (by simp only [putK_len,zl_len];omega)];simp only [putK_len,zl_len]
 have hc2:=cpy_yb (cpL (putK (putK (putK (putK (putK (putK (putK (putK (putK (putK (putK (putK (putK (zl N) 0 a.ty 4) 4 N 4) 9 a.nm.length 1) 10 40 2) 12 a.fl 2) 14 a.id 2) 8 1 1) 16 a.fi 4) 20 (a.fi+lenW a.rs - 1) 4) 24 A 2) 28 a.al 4) 32 a.sz 4) 36 a.vd 4) 40 a.nm) C A (N - A) hby (by omega)
 have hl2:=cpL_len (b:=cpL (putK (putK (putK (putK (putK (putK (putK (putK (putK (putK (putK (putK (putK (zl N) 0 a.ty 4) 4 N 4) 9 a.nm.length 1) 10 40 2) 12 a.fl 2) 14 a.id 2) 8 1 1) 16 a.fi 4) 20 (a.fi+lenW a.rs - 1) 4) 24 A 2) 28 a.al 4) 32 a.sz 4) 36 a.vd 4) 40 a.nm) (k:=A) (s:=C) (by omega)
 rw [hl1] at hl2
 have e3:(A+(N - A)≤N)=True:=eq_true (by omega)
 simp (disch:=first | omega | (simp only [List.length_map,putK_len,zl_len]<;>omega)) only [go_sem,h129c,hr,head_v,aligned_v,eA,eN,q1,q2,rep_yb,List.length_map,put_0,put_1,put_2,put_4,Int.reduceToNat,Int.toNat_natCast,putK_len,zl_len,hc1,hc2,hl1,e3,if_true,bytesC_r,List.drop_zero,Option.toList_some,Option.toList_none,List.cons_append,List.nil_append]
theorem encoded_v (a:Att) (h:a.Bd):EV G (Tb (bs bb)) 129 [a.v] []=some (sv (encB a),[]):=by
 cases hr:a.res with
 | true=>exact encoded_t a h hr
 | false=>exact encoded_f a h hr
theorem encB_len (a:Att) (h:a.Bd):(encB a).length=szN a:=by
 have hbl:(bdy a).length≤1000:=by
  unfold bdy
  split
  ·exact h.vl
  ·have:=(encV_byts a.rs).2;omega
 have h7:(put7 a).length=szN a:=by
  unfold put7
  split<;>simp only [putK_len,put6_len]
 have hA:hdN a+a.nm.length≤atN a:=by unfold atN;omega
 have hN:atN a+(bdy a).length≤szN a:=by unfold szN;omega
 have h8:(cpL (put7 a) (hdN a) a.nm).length=szN a:=by rw [cpL_len (by omega),h7]
 rw [encB,cpL_len (by omega),h8]
end
end Go.Proofs.YtcplecjhmnblpaaGreatDoor
