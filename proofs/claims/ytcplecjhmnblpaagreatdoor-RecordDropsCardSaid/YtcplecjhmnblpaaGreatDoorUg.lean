/- The errors of attributes, by the reference. Conditions: none. -/
import Derived.Test.YtcplecjhmnblpaaGreatDoorUd
namespace Go.Proofs.YtcplecjhmnblpaaGreatDoor
set_option linter.unusedSimpArgs false
set_option linter.unusedVariables false
set_option maxRecDepth 4000
section
variable {G:Glob} {bb:Bool}
def rsdE (a:Att):Int:=if a.rs=[]∧a.fi=0∧a.al=0∧a.sz=0∧a.vd=0 then (if a.va.length > 400 then 8 else 0) else 3
def othE (a:Att):Int:=
 if a.ty∈rtys then 20 else if a.va≠[] then 3 else if ¬(0≤a.fi∧a.fi≤4096) then 2 else if (chk a.rs).2≠0 then (chk a.rs).2
 else if a.fi > 0∧a.rs=[] then 17 else if a.fi+lenW a.rs > 4096 then 8 else if a.fi > 0∧(a.al≠0∨a.sz≠0∨a.vd≠0) then 3
 else if ¬((0≤a.al∧a.al≤1048576)∧(0≤a.sz∧a.sz≤1048576)∧(0≤a.vd∧a.vd≤1048576)) then 2 else if a.vd > a.sz then 9 else 0
def sthE (a:Att):Int:=if a.res=true then rsdE a else othE a
def errA (a:Att):Int:=
 if a.ty∉tys then 15 else if nmB a.nm=false then 4 else if ¬((0≤a.id∧a.id≤65535)∧(0≤a.fl∧a.fl≤7)) then 2
 else if sthE a≠0 then sthE a else if szN a > 440 then 16 else 0
structure Att.W (a:Att):Prop where
 nm:Byts a.nm
 va:Byts a.va
 nl:a.nm.length≤100000
 vl:a.va.length≤100000
 rl:a.rs.length≤100000
theorem rs0 (l:List Run):((l.length:Int)=0)=(l=[]):=by
 apply propext
 rw [← List.length_eq_zero_iff];omega
theorem rsdErr_v (a:Att):EV G (Tb (bs bb)) 127 [a.v] []=some (vi (rsdE a),[]):=by
 refine EV_run rfl ?_
 unfold rsdE
 have e4:((a.va.length:Int)≤400)=(a.va.length≤400):=by apply propext;omega
 by_cases c1:a.rs=[]
 ·by_cases c2:a.fi=0
  ·by_cases c3:a.al=0
   ·by_cases c4:a.sz=0
    ·by_cases c5:a.vd=0
     ·rw [if_pos ⟨c1,c2,c3,c4,c5⟩]
      by_cases c6:a.va.length≤400
      ·rw [if_neg (by omega)]
       simp (disch:=omega) only [go_sem,h127c,List.length_map,rs0,eq_true c1,c2,c3,c4,c5,unless8_v,first8_2,eq_true c6]
       rfl
      ·rw [if_pos (by omega)]
       simp (disch:=omega) only [go_sem,h127c,List.length_map,rs0,eq_true c1,c2,c3,c4,c5,unless8_v,first8_2,e4,c6]
       rfl
     ·rw [if_neg (fun h=>c5 h.2.2.2.2)]
      simp (disch:=omega) only [go_sem,h127c,List.length_map,rs0,eq_true c1,c2,c3,c4,c5,unless8_v,first8_2]
      simp [firstE]
    ·rw [if_neg (fun h=>c4 h.2.2.2.1)]
     simp (disch:=omega) only [go_sem,h127c,List.length_map,rs0,eq_true c1,c2,c3,c4,unless8_v,first8_2]
     simp [firstE]
   ·rw [if_neg (fun h=>c3 h.2.2.1)]
    simp (disch:=omega) only [go_sem,h127c,List.length_map,rs0,eq_true c1,c2,c3,unless8_v,first8_2]
    simp [firstE]
  ·rw [if_neg (fun h=>c2 h.2.1)]
   simp (disch:=omega) only [go_sem,h127c,List.length_map,rs0,eq_true c1,c2,unless8_v,first8_2]
   simp [firstE]
 ·rw [if_neg (fun h=>c1 h.1)]
  simp (disch:=omega) only [go_sem,h127c,List.length_map,rs0,c1,unless8_v,first8_2]
  simp [firstE]
theorem firstE_0 (l:List Int):firstE (0::l)=firstE l:=rfl
theorem firstE_n (e:Int) (l:List Int) (h:e≠0):firstE (e::l)=e:=by rw [firstE,if_neg h]
theorem firstE_nil:firstE []=0:=rfl
def un (b:Bool) (e:Int):Int:=if b=true then 0 else e
theorem un_t (e:Int):un true e=0:=rfl
theorem un_f (e:Int):un false e=e:=rfl
theorem unless8_u (b:Bool) (e:Int):EV G (Tb (bs bb)) 118 [vb b,vi e] []=some (vi (un b e),[]):=unless8_v b e
theorem len0 (l:List Run):(0 < (l.length:Int))=(l≠[]):=by
 apply propext
 have:=@List.length_eq_zero_iff _ l
 constructor
 ·intro h e;rw [this.2 e] at h;omega
 ·intro h;have:l.length≠0:=fun e=>h (this.1 e);omega
def oth2 (a:Att):Int:=firstE [un (!decide (a.fi > 0)||decide (a.rs≠[])) 17,un (decide (a.fi+lenW a.rs≤4096)) 8,un (!decide (a.fi > 0)||!(decide (a.al≠0)||(decide (a.sz≠0)||decide (a.vd≠0)))) 3,
 un (decide (0≤a.al∧a.al≤1048576)&&(decide (0≤a.sz∧a.sz≤1048576)&&decide (0≤a.vd∧a.vd≤1048576))) 2,un (decide (a.vd≤a.sz)) 9]
theorem un_ite {b:Bool} {p:Prop} [Decidable p] {e:Int} (h:p↔¬ b=true):un b e=if p then e else 0:=by
 unfold un
 by_cases hb:b=true
 ·rw [if_pos hb,if_neg (fun hp=>h.1 hp hb)]
 ·rw [if_neg hb,if_pos (h.2 hb)]
theorem firstE_if {p:Prop} [Decidable p] {e:Int} {l:List Int} (he:e≠0):firstE ((if p then e else 0)::l)=if p then e else firstE l:=by
 by_cases h:p
 ·rw [if_pos h,if_pos h,firstE_n e l he]
 ·rw [if_neg h,if_neg h,firstE_0]
theorem oth2_eq (a:Att):oth2 a=if a.fi > 0∧a.rs=[] then 17 else if a.fi+lenW a.rs > 4096 then 8 else if a.fi > 0∧(a.al≠0∨a.sz≠0∨a.vd≠0) then 3
 else if ¬((0≤a.al∧a.al≤1048576)∧(0≤a.sz∧a.sz≤1048576)∧(0≤a.vd∧a.vd≤1048576)) then 2 else if a.vd > a.sz then 9 else 0:=by
 unfold oth2
 rw [un_ite (p:=a.fi > 0∧a.rs=[]) (by simp),un_ite (p:=a.fi+lenW a.rs > 4096) (by simp),un_ite (p:=a.fi > 0∧(a.al≠0∨a.sz≠0∨a.vd≠0)) (by simp only [Bool.or_eq_true,Bool.not_eq_true',Bool.or_eq_false_iff,decide_eq_true_eq,decide_eq_false_iff_not];omega),
  un_ite (p:=¬((0≤a.al∧a.al≤1048576)∧(0≤a.sz∧a.sz≤1048576)∧(0≤a.vd∧a.vd≤1048576))) (by simp only [Bool.and_eq_true,decide_eq_true_eq]),un_ite (p:=a.vd > a.sz) (by simp)]
 rw [firstE_if (by decide),firstE_if (by decide),firstE_if (by decide),firstE_if (by decide),firstE_if (by decide),firstE_nil]
theorem othE_eq (a:Att):othE a=if a.ty∈rtys then 20 else if a.va≠[] then 3 else if ¬(0≤a.fi∧a.fi≤4096) then 2 else if (chk a.rs).2≠0 then (chk a.rs).2 else oth2 a:=by
 rw [oth2_eq];rfl
set_option maxHeartbeats 2000000 in
theorem othErr_v (a:Att) (hW:a.W) (ht:a.ty∈tys):EV G (Tb (bs bb)) 128 [a.v] []=some (vi (othE a),[]):=by
 refine EV_run rfl ?_
 rw [othE_eq]
 have em:=mpGet_ty a.ty
 rw [if_pos ht] at em
 have ev:=str_inj hW.va byts_nil
 have q1:=check_v (G:=G) (B:=bs bb) a.rs
 have q2:=clusters8_v (G:=G) (bb:=bb) a (by have:=hW.rl;omega)
 by_cases c1:a.ty∈rtys
 ·rw [if_pos c1]
  rw [decide_eq_true c1] at em
  simp (disch:=omega) only [go_sem,h128c,types_v,em,str_nil,ev,unless8_u,un_t,un_f,firstE_0,firstE_n,firstE_nil,within8_v,first8_3]
 ·rw [if_neg c1]
  rw [decide_eq_false c1] at em
  by_cases c2:a.va=[]
  ·rw [if_neg (by simpa using c2)]
   replace c2:=eq_true c2
   by_cases c3:0≤a.fi∧a.fi≤4096
   ·rw [if_neg (fun h=>h c3)]
    have c3':=eq_true c3
    by_cases c4:(chk a.rs).2=0
    ·rw [if_neg (fun h=>h c4)]
     have hF:=chk_fine c4
     have hl:=lenW_eq a.rs (fun r hr=>(hF.el r hr).2.2) (by have:=hF.sum;omega)
     have hl2:=lenR_nonneg a.rs (fun r hr=>(hF.el r hr).2.2)
     have hl3:=hF.sum
     rw [← hl] at hl2 hl3
     have fin:∀ L,L=[un (!decide (a.fi > 0)||decide (a.rs≠[])) 17,un (decide (a.fi+lenW a.rs≤4096)) 8,un (!decide (a.fi > 0)||!(decide (a.al≠0)||(decide (a.sz≠0)||decide (a.vd≠0)))) 3,
       un (decide (0≤a.al∧a.al≤1048576)&&(decide (0≤a.sz∧a.sz≤1048576)&&decide (0≤a.vd∧a.vd≤1048576))) 2,un (decide (a.vd≤a.sz)) 9]→firstE L=oth2 a:=fun L h=>by rw [h];rfl
     by_cases c5:a.fi > 0
     ·by_cases c6:a.al=0
      ·have c8:0≤a.al∧a.al≤1048576:=by omega
       by_cases c7:a.sz=0
       ·have c9:0≤a.sz∧a.sz≤1048576:=by omega
        simp (disch:=omega) only [go_sem,h128c,types_v,em,str_nil,ev,unless8_u,un_t,un_f,firstE_0,firstE_n,firstE_nil,within8_v,first8_3,c2,c3',q1,c4,eq_true c5,eq_true c6,eq_true c8,eq_true c7,eq_true c9,List.length_map,len0]
        simp (disch:=omega) only [go_sem,q2,unless8_u,first8_5,len0,un_t,un_f,eq_true c5,eq_true c6,eq_true c8,eq_true c7,eq_true c9]
        rw [fin _ (by simp [un,c5,c6,c8,c7,c9])]
       ·by_cases c9:0≤a.sz∧a.sz≤1048576
        ·simp (disch:=omega) only [go_sem,h128c,types_v,em,str_nil,ev,unless8_u,un_t,un_f,firstE_0,firstE_n,firstE_nil,within8_v,first8_3,c2,c3',q1,c4,eq_true c5,eq_true c6,eq_true c8,c7,eq_true c9,List.length_map,len0]
         simp (disch:=omega) only [go_sem,q2,unless8_u,first8_5,len0,un_t,un_f,eq_true c5,eq_true c6,eq_true c8,c7,eq_true c9]
         rw [fin _ (by simp [un,c5,c6,c8,c7,c9])]
        ·simp (disch:=omega) only [go_sem,h128c,types_v,em,str_nil,ev,unless8_u,un_t,un_f,firstE_0,firstE_n,firstE_nil,within8_v,first8_3,c2,c3',q1,c4,eq_true c5,eq_true c6,eq_true c8,c7,c9,List.length_map,len0]
         simp (disch:=omega) only [go_sem,q2,unless8_u,first8_5,len0,un_t,un_f,eq_true c5,eq_true c6,eq_true c8,c7,c9]
         rw [fin _ (by simp [un,c5,c6,c8,c7,c9])]
      ·by_cases c8:0≤a.al∧a.al≤1048576
       ·by_cases c9:0≤a.sz∧a.sz≤1048576
        ·simp (disch:=omega) only [go_sem,h128c,types_v,em,str_nil,ev,unless8_u,un_t,un_f,firstE_0,firstE_n,firstE_nil,within8_v,first8_3,c2,c3',q1,c4,eq_true c5,c6,eq_true c8,eq_true c9,List.length_map,len0]
         simp (disch:=omega) only [go_sem,q2,unless8_u,first8_5,len0,un_t,un_f,eq_true c5,c6,eq_true c8,eq_true c9]
         rw [fin _ (by simp [un,c5,c6,c8,c9])]
        ·simp (disch:=omega) only [go_sem,h128c,types_v,em,str_nil,ev,unless8_u,un_t,un_f,firstE_0,firstE_n,firstE_nil,within8_v,first8_3,c2,c3',q1,c4,eq_true c5,c6,eq_true c8,c9,List.length_map,len0]
         simp (disch:=omega) only [go_sem,q2,unless8_u,first8_5,len0,un_t,un_f,eq_true c5,c6,eq_true c8,c9]
         rw [fin _ (by simp [un,c5,c6,c8,c9])]
       ·simp (disch:=omega) only [go_sem,h128c,types_v,em,str_nil,ev,unless8_u,un_t,un_f,firstE_0,firstE_n,firstE_nil,within8_v,first8_3,c2,c3',q1,c4,eq_true c5,c6,c8,List.length_map,len0]
        simp (disch:=omega) only [go_sem,q2,unless8_u,first8_5,len0,un_t,un_f,eq_true c5,c6,c8]
        rw [fin _ (by simp [un,c5,c6,c8])]
     ·by_cases c6:a.al=0
      ·have c8:0≤a.al∧a.al≤1048576:=by omega
       by_cases c7:a.sz=0
       ·have c9:0≤a.sz∧a.sz≤1048576:=by omega
        simp (disch:=omega) only [go_sem,h128c,types_v,em,str_nil,ev,unless8_u,un_t,un_f,firstE_0,firstE_n,firstE_nil,within8_v,first8_3,c2,c3',q1,c4,c5,eq_true c6,eq_true c8,eq_true c7,eq_true c9,List.length_map,len0]
        simp (disch:=omega) only [go_sem,q2,unless8_u,first8_5,len0,un_t,un_f,c5,eq_true c6,eq_true c8,eq_true c7,eq_true c9]
        rw [fin _ (by simp [un,c5,c6,c8,c7,c9])]
       ·by_cases c9:0≤a.sz∧a.sz≤1048576
        ·simp (disch:=omega) only [go_sem,h128c,types_v,em,str_nil,ev,unless8_u,un_t,un_f,firstE_0,firstE_n,firstE_nil,within8_v,first8_3,c2,c3',q1,c4,c5,eq_true c6,eq_true c8,c7,eq_true c9,List.length_map,len0]
         simp (disch:=omega) only [go_sem,q2,unless8_u,first8_5,len0,un_t,un_f,c5,eq_true c6,eq_true c8,c7,eq_true c9]
         rw [fin _ (by simp [un,c5,c6,c8,c7,c9])]
        ·simp (disch:=omega) only [go_sem,h128c,types_v,em,str_nil,ev,unless8_u,un_t,un_f,firstE_0,firstE_n,firstE_nil,within8_v,first8_3,c2,c3',q1,c4,c5,eq_true c6,eq_true c8,c7,c9,List.length_map,len0]
         simp (disch:=omega) only [go_sem,q2,unless8_u,first8_5,len0,un_t,un_f,c5,eq_true c6,eq_true c8,c7,c9]
         rw [fin _ (by simp [un,c5,c6,c8,c7,c9])]
      ·by_cases c8:0≤a.al∧a.al≤1048576
       ·by_cases c9:0≤a.sz∧a.sz≤1048576
        ·simp (disch:=omega) only [go_sem,h128c,types_v,em,str_nil,ev,unless8_u,un_t,un_f,firstE_0,firstE_n,firstE_nil,within8_v,first8_3,c2,c3',q1,c4,c5,c6,eq_true c8,eq_true c9,List.length_map,len0]
         simp (disch:=omega) only [go_sem,q2,unless8_u,first8_5,len0,un_t,un_f,c5,c6,eq_true c8,eq_true c9]
         rw [fin _ (by simp [un,c5,c6,c8,c9])]
        ·simp (disch:=omega) only [go_sem,h128c,types_v,em,str_nil,ev,unless8_u,un_t,un_f,firstE_0,firstE_n,firstE_nil,within8_v,first8_3,c2,c3',q1,c4,c5,c6,eq_true c8,c9,List.length_map,len0]
         simp (disch:=omega) only [go_sem,q2,unless8_u,first8_5,len0,un_t,un_f,c5,c6,eq_true c8,c9]
         rw [fin _ (by simp [un,c5,c6,c8,c9])]
       ·simp (disch:=omega) only [go_sem,h128c,types_v,em,str_nil,ev,unless8_u,un_t,un_f,firstE_0,firstE_n,firstE_nil,within8_v,first8_3,c2,c3',q1,c4,c5,c6,c8,List.length_map,len0]
        simp (disch:=omega) only [go_sem,q2,unless8_u,first8_5,len0,un_t,un_f,c5,c6,c8]
        rw [fin _ (by simp [un,c5,c6,c8])]
    ·rw [if_pos c4]
     simp (disch:=omega) only [go_sem,h128c,types_v,em,str_nil,ev,unless8_u,un_t,un_f,firstE_0,firstE_n,firstE_nil,within8_v,first8_3,c2,c3',q1,c4]
   ·rw [if_pos c3]
    simp (disch:=omega) only [go_sem,h128c,types_v,em,str_nil,ev,unless8_u,un_t,un_f,firstE_0,firstE_n,firstE_nil,within8_v,first8_3,c2,c3]
  ·rw [if_pos c2]
   simp (disch:=omega) only [go_sem,h128c,types_v,em,str_nil,ev,unless8_u,un_t,un_f,firstE_0,firstE_n,firstE_nil,within8_v,first8_3,c2]
end
section
variable {G:Glob} {bb:Bool}
theorem tys_bd {n:Int} (h:n∈tys):0≤n∧n≤200:=by
 simp only [tys,List.mem_cons,List.not_mem_nil,or_false] at h;omega
theorem nmB_len {l:List Int} (h:nmB l=true):l.length≤32:=by
 unfold nmB at h
 rcases of_decide_eq_true h with h | h
 ·subst h;simp
 ·exact h.2.1
theorem chk_bd {l:List Run} (h:(chk l).2=0):l.length≤64∧0≤lenW l∧lenW l≤100000000:=by
 have hF:=chk_fine h
 have hl:=lenW_eq l (fun r hr=>(hF.el r hr).2.2) (by have:=hF.sum;omega)
 have hl2:=lenR_nonneg l (fun r hr=>(hF.el r hr).2.2)
 have hl3:=hF.sum
 exact ⟨chk_len h,by omega,by omega⟩
theorem othE_0 {a:Att} (h:othE a=0):a.ty∉rtys∧a.va=[]∧(0≤a.fi∧a.fi≤4096)∧(chk a.rs).2=0∧¬(a.fi > 0∧a.rs=[])∧a.fi+lenW a.rs≤4096∧¬(a.fi > 0∧(a.al≠0∨a.sz≠0∨a.vd≠0))∧
  ((0≤a.al∧a.al≤1048576)∧(0≤a.sz∧a.sz≤1048576)∧(0≤a.vd∧a.vd≤1048576))∧a.vd≤a.sz:=by
 unfold othE at h
 split at h
 ·omega
 rename_i h1
 split at h
 ·omega
 rename_i h2
 split at h
 ·omega
 rename_i h3
 split at h
 ·rename_i h4;exact absurd h h4
 rename_i h4
 split at h
 ·omega
 rename_i h5
 split at h
 ·omega
 rename_i h6
 split at h
 ·omega
 rename_i h7
 split at h
 ·omega
 rename_i h8
 split at h
 ·omega
 rename_i h9
 exact ⟨h1,Classical.not_not.1 h2,Classical.not_not.1 h3,Classical.not_not.1 h4,h5,by omega,h7,Classical.not_not.1 h8,by omega⟩
theorem rsdE_0 {a:Att} (h:rsdE a=0):a.rs=[]∧a.fi=0∧a.al=0∧a.sz=0∧a.vd=0∧a.va.length≤400:=by
 unfold rsdE at h
 split at h
 ·rename_i h1
  split at h
  ·omega
  ·obtain ⟨h1,h2,h3,h4,h5⟩:=h1
   exact ⟨h1,h2,h3,h4,h5,by omega⟩
 ·omega
theorem Att.bd {a:Att} (hW:a.W) (h1:a.ty∈tys) (h2:nmB a.nm=true) (h3:(0≤a.id∧a.id≤65535)∧(0≤a.fl∧a.fl≤7)) (h4:sthE a=0):a.Bd:=by
 have g1:=tys_bd h1
 have g2:=nmB_len h2
 unfold sthE at h4
 split at h4
 ·obtain ⟨q1,q2,q3,q4,q5,q6⟩:=rsdE_0 h4
  have:lenW a.rs=0:=by rw [q1];rfl
  exact ⟨hW.nm,hW.va,by omega,by omega,by rw [q1];simp,by omega,by omega,by omega,by omega,by omega,by omega,by omega,by omega⟩
 ·obtain ⟨q1,q2,q3,q4,q5,q6,q7,q8,q9⟩:=othE_0 h4
  obtain ⟨c1,c2,c3⟩:=chk_bd q4
  exact ⟨hW.nm,hW.va,by omega,by rw [q2];simp,by omega,by omega,by omega,by omega,by omega,by omega,by omega,by omega,by omega⟩
theorem checkA_v (a:Att) (hW:a.W):EV G (Tb (bs bb)) 72 [a.v] []=some (vi (errA a),[]):=by
 refine EV_run rfl ?_
 have q1:=isType_v (G:=G) (bb:=bb) a.ty
 have q2:=nameErr_v (G:=G) (bb:=bb) a.nm hW.nm (by have:=hW.nl;omega)
 unfold errA
 by_cases c1:a.ty∈tys
 ·rw [if_neg (fun h=>h c1)]
  rw [decide_eq_true c1] at q1
  cases c2:nmB a.nm with
  | false=>
   rw [c2] at q2
   rw [if_pos rfl]
   by_cases d1:0≤a.id∧a.id≤65535
   ·simp (disch:=omega) only [go_sem,h72c,q1,q2,unless8_u,un_t,un_f,firstE_0,firstE_n,firstE_nil,within8_v,first8_3,eq_true d1]
   ·simp (disch:=omega) only [go_sem,h72c,q1,q2,unless8_u,un_t,un_f,firstE_0,firstE_n,firstE_nil,within8_v,first8_3,d1]
  | true=>
   rw [c2] at q2
   rw [if_neg (by decide)]
   by_cases d1:0≤a.id∧a.id≤65535
   ·by_cases d2:0≤a.fl∧a.fl≤7
    ·rw [if_neg (fun h=>h ⟨d1,d2⟩)]
     have hbd:=fun h=>Att.bd hW c1 c2 ⟨d1,d2⟩ h
     have q5 (h):=encoded_v (G:=G) (bb:=bb) a (hbd h)
     have q6 (h):=encB_len a (hbd h)
     cases c3:a.res with
     | true=>
      have q4:=rsdErr_v (G:=G) (bb:=bb) a
      simp only [sthE,c3,if_true] at q5 q6 ⊢
      simp only [Att.v,Att.c,c3] at q4 q5
      by_cases c4:rsdE a=0
      ·have e6:((szN a:Int)≤440)=(szN a≤440):=by apply propext;omega
       by_cases c5:szN a≤440
       ·rw [if_neg (fun h=>h c4),if_neg (by omega)]
        simp (disch:=omega) only [go_sem,h72c,q1,q2,unless8_u,un_t,un_f,firstE_0,firstE_n,firstE_nil,within8_v,first8_3,eq_true d1,eq_true d2,q4,c4,q5 c4,q6 c4,c3,eq_true c5,e6]
       ·rw [if_neg (fun h=>h c4),if_pos (by omega)]
        simp (disch:=omega) only [go_sem,h72c,q1,q2,unless8_u,un_t,un_f,firstE_0,firstE_n,firstE_nil,within8_v,first8_3,eq_true d1,eq_true d2,q4,c4,q5 c4,q6 c4,c3,c5,e6]
      ·rw [if_pos c4]
       simp (disch:=omega) only [go_sem,h72c,q1,q2,unless8_u,un_t,un_f,firstE_0,firstE_n,firstE_nil,within8_v,first8_3,eq_true d1,eq_true d2,q4,c4,c3]
     | false=>
      have q4:=othErr_v (G:=G) (bb:=bb) a hW c1
      simp only [sthE,c3,if_false,Bool.false_eq_true] at q5 q6 ⊢
      simp only [Att.v,Att.c,c3] at q4 q5
      by_cases c4:othE a=0
      ·have e6:((szN a:Int)≤440)=(szN a≤440):=by apply propext;omega
       by_cases c5:szN a≤440
       ·rw [if_neg (fun h=>h c4),if_neg (by omega)]
        simp (disch:=omega) only [go_sem,h72c,q1,q2,unless8_u,un_t,un_f,firstE_0,firstE_n,firstE_nil,within8_v,first8_3,eq_true d1,eq_true d2,q4,c4,q5 c4,q6 c4,c3,eq_true c5,e6]
       ·rw [if_neg (fun h=>h c4),if_pos (by omega)]
        simp (disch:=omega) only [go_sem,h72c,q1,q2,unless8_u,un_t,un_f,firstE_0,firstE_n,firstE_nil,within8_v,first8_3,eq_true d1,eq_true d2,q4,c4,q5 c4,q6 c4,c3,c5,e6]
      ·rw [if_pos c4]
       simp (disch:=omega) only [go_sem,h72c,q1,q2,unless8_u,un_t,un_f,firstE_0,firstE_n,firstE_nil,within8_v,first8_3,eq_true d1,eq_true d2,q4,c4,c3]
    ·rw [if_pos (fun h=>d2 h.2)]
     simp (disch:=omega) only [go_sem,h72c,q1,q2,unless8_u,un_t,un_f,firstE_0,firstE_n,firstE_nil,within8_v,first8_3,eq_true d1,d2]
   ·rw [if_pos (fun h=>d1 h.1)]
    simp (disch:=omega) only [go_sem,h72c,q1,q2,unless8_u,un_t,un_f,firstE_0,firstE_n,firstE_nil,within8_v,first8_3,d1]
 ·rw [if_pos c1]
  rw [decide_eq_false c1] at q1
  by_cases d1:0≤a.id∧a.id≤65535
  ·simp (disch:=omega) only [go_sem,h72c,q1,q2,unless8_u,un_t,un_f,firstE_0,firstE_n,firstE_nil,within8_v,first8_3,eq_true d1]
  ·simp (disch:=omega) only [go_sem,h72c,q1,q2,unless8_u,un_t,un_f,firstE_0,firstE_n,firstE_nil,within8_v,first8_3,d1]
end
section
variable {G:Glob} {bb:Bool}
theorem lit11 (call:CallT) (n:Int):stZ call G ⟨[vi n,.junk,vb false,.junk,.junk,.junk],[]⟩ [Oo 4 (.mov (.t 0)),Oo 5 (.call 136 [(.t 3),(.t 4)]),Oo 2 (.mov (.t 5))] (some 3) (.bslc 1 11 [Zi 0] [(0,(Ki 16)),(1,(Ki 32)),(2,(Ki 48)),(3,(Ki 64)),(4,(Ki 96)),(5,(Ki 112)),(6,(Ki 128)),(7,(Ki 144)),(8,(Ki 160)),(9,(Ki 176)),(10,(Ki 192))])=
  some ⟨[vi n,.junk,vb false,vl (el tys),.junk,.junk],[]⟩:=rfl
theorem isTypeR_v (n:Int):EV G (Tb (bs bb)) 84 [vi n] []=some (vb (decide (n∈tys)),[]):=by
 refine EV_run rfl ?_
 have q:=has_v (G:=G) (B:=bs bb) tys n (by simp [tys])
 simp (disch:=omega) only [go_sem,h84c,↓lit11,q]
theorem residentR_v (n:Int):EV G (Tb (bs bb)) 138 [vi n] []=some (vb (decide (n∈rtys)),[]):=by
 refine EV_run rfl ?_
 have q:=has_v (G:=G) (B:=bs bb) rtys n (by simp [rtys])
 have e:el rtys=[[ci 16],[ci 48],[ci 96],[ci 112],[ci 144]]:=rfl
 rw [e] at q
 simp (disch:=omega) only [go_sem,h138c,q]
theorem lenP (l:List Run):((l.length:Int) > 0)=(l≠[]):=len0 l
theorem rsdErrR_v (a:Att):EV G (Tb (bs bb)) 87 [a.v] []=some (vi (rsdE a),[]):=by
 refine EV_run rfl ?_
 unfold rsdE
 by_cases c1:a.rs=[]
 ·have c1':¬ (a.rs≠[]):=fun h=>h c1
  by_cases c2:a.fi=0
  ·by_cases c3:a.al=0
   ·by_cases c4:a.sz=0
    ·by_cases c5:a.vd=0
     ·rw [if_pos ⟨c1,c2,c3,c4,c5⟩]
      have e4:((a.va.length:Int) > 400)=(a.va.length > 400):=by apply propext;omega
      by_cases c6:a.va.length > 400
      ·rw [if_pos c6]
       simp (disch:=omega) only [go_sem,h87c,List.length_map,lenP,c1',c2,c3,c4,c5,e4,eq_true c6]
      ·rw [if_neg c6]
       simp (disch:=omega) only [go_sem,h87c,List.length_map,lenP,c1',c2,c3,c4,c5,e4,c6]
     ·rw [if_neg (fun h=>c5 h.2.2.2.2)]
      simp (disch:=omega) only [go_sem,h87c,List.length_map,lenP,c1',c2,c3,c4,c5]
    ·rw [if_neg (fun h=>c4 h.2.2.2.1)]
     simp (disch:=omega) only [go_sem,h87c,List.length_map,lenP,c1',c2,c3,c4]
   ·rw [if_neg (fun h=>c3 h.2.2.1)]
    simp (disch:=omega) only [go_sem,h87c,List.length_map,lenP,c1',c2,c3]
  ·rw [if_neg (fun h=>c2 h.2.1)]
   simp (disch:=omega) only [go_sem,h87c,List.length_map,lenP,c1',c2]
 ·rw [if_neg (fun h=>c1 h.1)]
  have c1':(a.rs≠[])=True:=eq_true c1
  simp (disch:=omega) only [go_sem,h87c,List.length_map,lenP,c1']
set_option maxHeartbeats 2000000 in
theorem othErrR_v (a:Att) (hW:a.W):EV G (Tb (bs bb)) 86 [a.v] []=some (vi (othE a),[]):=by
 refine EV_run rfl ?_
 have q0:=residentR_v (G:=G) (bb:=bb) a.ty
 have ev:=str_inj hW.va byts_nil
 have q1:=err_r (G:=G) (B:=bs bb) a.rs
 have q2:=length_r (G:=G) (B:=bs bb) a.rs (by have:=hW.rl;omega)
 unfold othE
 by_cases c1:a.ty∈rtys
 ·rw [if_pos c1]
  rw [decide_eq_true c1] at q0
  simp (disch:=omega) only [go_sem,h86c,q0]
 ·rw [if_neg c1]
  rw [decide_eq_false c1] at q0
  by_cases c2:a.va=[]
  ·rw [if_neg (by simpa using c2)]
   replace c2:=eq_true c2
   by_cases c3:0≤a.fi∧a.fi≤4096
   ·rw [if_neg (fun h=>h c3)]
    have c3':=eq_true c3
    by_cases c4:(chk a.rs).2=0
    ·rw [if_neg (fun h=>h c4)]
     obtain ⟨g1,g2,g3⟩:=chk_bd c4
     by_cases c5:a.fi > 0∧a.rs=[]
     ·rw [if_pos c5]
      have d1:=c5.1
      simp (disch:=omega) only [go_sem,h86c,q0,str_nil,ev,c2,within_r,c3',q1,c4,eq_true d1,List.length_map,rs0,eq_true c5.2]
     ·rw [if_neg c5]
      by_cases c6:a.fi+lenW a.rs > 4096
      ·rw [if_pos c6]
       by_cases d1:a.fi > 0
       ·have d2:¬ a.rs=[]:=fun h=>c5 ⟨d1,h⟩
        simp (disch:=omega) only [go_sem,h86c,q0,str_nil,ev,c2,within_r,c3',q1,c4,eq_true d1,List.length_map,rs0,d2,q2,eq_true c6]
       ·simp (disch:=omega) only [go_sem,h86c,q0,str_nil,ev,c2,within_r,c3',q1,c4,d1,q2,eq_true c6]
      ·rw [if_neg c6]
       by_cases d1:a.fi > 0
       ·have d2:¬ a.rs=[]:=fun h=>c5 ⟨d1,h⟩
        by_cases c7:a.al=0
        ·by_cases c8:a.sz=0
         ·by_cases c9:a.vd=0
          ·rw [if_neg (fun h=>by obtain ⟨_,h⟩:=h;omega),if_neg (fun h=>h (by omega)),if_neg (by omega)]
           have d3:=eq_true (show 0≤a.al∧a.al≤1048576 by omega)
           have d4:=eq_true (show 0≤a.sz∧a.sz≤1048576 by omega)
           have d5:=eq_true (show 0≤a.vd∧a.vd≤1048576 by omega)
           have d6:¬ a.vd > a.sz:=by omega
           simp (disch:=omega) only [go_sem,h86c,q0,str_nil,ev,c2,within_r,c3',q1,c4,eq_true d1,List.length_map,rs0,d2,q2,c6,eq_true c7,eq_true c8,eq_true c9,d3,d4,d5,d6]
          ·rw [if_pos ⟨d1,.inr (.inr c9)⟩]
           simp (disch:=omega) only [go_sem,h86c,q0,str_nil,ev,c2,within_r,c3',q1,c4,eq_true d1,List.length_map,rs0,d2,q2,c6,eq_true c7,eq_true c8,c9]
         ·rw [if_pos ⟨d1,.inr (.inl c8)⟩]
          simp (disch:=omega) only [go_sem,h86c,q0,str_nil,ev,c2,within_r,c3',q1,c4,eq_true d1,List.length_map,rs0,d2,q2,c6,eq_true c7,c8]
        ·rw [if_pos ⟨d1,.inl c7⟩]
         simp (disch:=omega) only [go_sem,h86c,q0,str_nil,ev,c2,within_r,c3',q1,c4,eq_true d1,List.length_map,rs0,d2,q2,c6,c7]
       ·rw [if_neg (fun h=>d1 h.1)]
        by_cases d3:0≤a.al∧a.al≤1048576
        ·by_cases d4:0≤a.sz∧a.sz≤1048576
         ·by_cases d5:0≤a.vd∧a.vd≤1048576
          ·rw [if_neg (fun h=>h ⟨d3,d4,d5⟩)]
           by_cases d6:a.vd > a.sz
           ·rw [if_pos d6]
            simp (disch:=omega) only [go_sem,h86c,q0,str_nil,ev,c2,within_r,c3',q1,c4,d1,q2,c6,eq_true d3,eq_true d4,eq_true d5,eq_true d6]
           ·rw [if_neg d6]
            simp (disch:=omega) only [go_sem,h86c,q0,str_nil,ev,c2,within_r,c3',q1,c4,d1,q2,c6,eq_true d3,eq_true d4,eq_true d5,d6]
          ·rw [if_pos (fun h=>d5 h.2.2)]
           simp (disch:=omega) only [go_sem,h86c,q0,str_nil,ev,c2,within_r,c3',q1,c4,d1,q2,c6,eq_true d3,eq_true d4,d5]
         ·rw [if_pos (fun h=>d4 h.2.1)]
          simp (disch:=omega) only [go_sem,h86c,q0,str_nil,ev,c2,within_r,c3',q1,c4,d1,q2,c6,eq_true d3,d4]
        ·rw [if_pos (fun h=>d3 h.1)]
         simp (disch:=omega) only [go_sem,h86c,q0,str_nil,ev,c2,within_r,c3',q1,c4,d1,q2,c6,d3]
    ·rw [if_pos c4]
     simp (disch:=omega) only [go_sem,h86c,q0,str_nil,ev,c2,within_r,c3',q1,c4]
   ·rw [if_pos c3]
    simp (disch:=omega) only [go_sem,h86c,q0,str_nil,ev,c2,within_r,c3]
  ·rw [if_pos c2]
   simp (disch:=omega) only [go_sem,h86c,q0,str_nil,ev,c2]
theorem floor_v (n m:Int) (hm:0 < m∧m≤4611686018427387904) (hn:-4611686018427387904≤n∧n≤4611686018427387904):EV G (Tb (bs bb)) 141 [vi n,vi m] []=some (vi (n / m),[]):=by
 refine EV_run rfl ?_
 have h1:n.tdiv m=n / m+(if n.tmod m < 0 then 1 else 0):=by
  have e1:=Int.tmod_add_mul_tdiv n m
  have e2:=Int.emod_add_mul_ediv n m
  have e3:=modT n m hm.1
  have e4:m * (n.tdiv m - n / m)=n % m - n.tmod m:=by rw [Int.mul_sub];omega
  split at e3
  ·rename_i hc
   rw [if_pos hc]
   have:m * (n.tdiv m - n / m)=m * 1:=by omega
   have:=Int.eq_of_mul_eq_mul_left (by omega) this
   omega
  ·rename_i hc
   rw [if_neg hc]
   have:m * (n.tdiv m - n / m)=m * 0:=by omega
   have:=Int.eq_of_mul_eq_mul_left (by omega) this
   omega
 have h2:-4611686018427387904≤n / m∧n / m≤4611686018427387904:=by
  constructor
  ·by_cases h0:0≤n
   ·have:=Int.ediv_nonneg h0 (show 0≤m by omega);omega
   ·have h3:n * m≤n:=by
     have:=Int.mul_nonpos_of_nonpos_of_nonneg (show n≤0 by omega) (show 0≤m - 1 by omega)
     rw [Int.mul_sub,Int.mul_one] at this
     omega
    have:=Int.le_ediv_of_mul_le hm.1 h3
    omega
  ·by_cases h0:0≤n
   ·have:=Int.ediv_le_self m h0;omega
   ·have:=Int.ediv_neg_of_neg_of_pos (by omega:n < 0) hm.1;omega
 by_cases c:n.tmod m < 0
 ·rw [if_pos c] at h1
  have h3:n.tdiv m - 1=n / m:=by omega
  simp (disch:=omega) only [go_sem,h141c,h1,c]
  simp
 ·rw [if_neg c] at h1
  have h3:n.tdiv m=n / m:=by omega
  simp (disch:=omega) only [go_sem,h141c,h3,c]
theorem ceil_v (n m:Int) (hm:0 < m∧m≤4611686018427387904) (hn:-4611686018427387904≤n∧n≤4611686018427387904) (hq:-4611686018427387904≤-n / m∧-n / m≤4611686018427387904):EV G (Tb (bs bb)) 89 [vi n,vi m] []=some (vi (-(-n / m)),[]):=by
 refine EV_run rfl ?_
 have q:=floor_v (G:=G) (bb:=bb) (-n) m hm (by omega)
 rw [show -n=0 - n by omega] at q hq ⊢
 have e:0 - (0 - n) / m=-((0 - n) / m):=by omega
 simp (disch:=omega) only [go_sem,h89c,q,e]
end
end Go.Proofs.YtcplecjhmnblpaaGreatDoor
