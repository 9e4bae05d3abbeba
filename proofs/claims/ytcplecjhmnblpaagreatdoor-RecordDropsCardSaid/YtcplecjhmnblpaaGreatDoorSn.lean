/- An attribute of a record replaced, by the program. Conditions: as each theorem says. -/
import Derived.Test.YtcplecjhmnblpaaGreatDoorSg
import Derived.Test.YtcplecjhmnblpaaGreatDoorUw
namespace Go.Proofs.YtcplecjhmnblpaaGreatDoor
set_option linter.unusedSimpArgs false
set_option linter.unusedVariables false
set_option maxRecDepth 4000
section
variable {G:Glob} {bb:Bool}
theorem numB_f {r:Rec} (h:numB r=false):chkV r=(0,2):=by
 have h0:hdE r=2:=by unfold hdE;rw [h,un_f,firstE_n _ _ (by decide)]
 unfold chkV
 rw [if_pos (by rw [h0];decide),h0]
theorem numB_t {r:Rec} (h:numB r=true):hdE r=firstE [basE r.br r.bq,un (usedB r.fl||empB r) 3]:=by
 unfold hdE
 rw [h,un_t,firstE_0]
theorem chk_hd {r:Rec} {e:Int} (h:hdE r=e) (he:e≠0):chkV r=(0,e):=by
 unfold chkV
 rw [if_pos (by rw [h];exact he),h]
set_option maxHeartbeats 4000000 in
theorem checkR_t (r:Rec) (hW:r.W) (n1:1≤r.sq∧r.sq≤65535) (n2:0≤r.li∧r.li≤65535) (n3:0≤r.fl∧r.fl≤3) (n4:0≤r.nx∧r.nx≤65535) (n5:0≤r.ls∧r.ls≤2147483647)
  (z0:basE r.br r.bq=0) (hh:usedB r.fl=true∨usedB r.fl=false∧r.ats=[]∧r.li=0∧r.br=0∧r.bq=0∧r.fl=0∧r.nx=0):
  EV G (Tb (bsS bb)) 18 [r.v] []=some (iiv (if (ordV r.ats).2≠0 then ordV r.ats else if 0≤gtI r then (gtI r,9) else (0,un (decide (needA r.ats≤440)) 16)),[]):=by
 have hln:=hW.ln
 have w:=withinB_v (G:=G) (bb:=bb)
 have q1:=baseErrR_v (G:=G) (bb:=bb) r.br r.bq
 rw [z0] at q1
 have q2:=usedR_v (G:=G) (bb:=bb) r ⟨n3.1,by omega⟩
 have q4:=up (orderR_v (G:=G) (bb:=bb) r.ats hW.at' (by omega))
 have hs:=ordV_sng (l:=r.ats)
 have hlen:r.ats.length≤900:=hln
 generalize ho:ordV r.ats=o at *
 obtain ⟨o1,o2⟩:=o
 dsimp only at q4 ⊢
 by_cases c2:o2=0
 ·have he:∀ a∈r.ats,errA a=0:=((sng_iff r.ats).1 (hs c2)).1
  have q6:=needR_v (G:=G) (bb:=bb) r.ats hW.at' he (by omega)
  rw [if_neg (not_not_intro c2)]
  have hg:gtI r=if ix (fun k=>decide (r.nx≤(r.ats.getD k Att.nil).id)=true) r.ats.length=r.ats.length then -1 else ((ix (fun k=>decide (r.nx≤(r.ats.getD k Att.nil).id)=true) r.ats.length:Nat):Int):=rfl
  generalize gtI r=g at *
  refine EV_run rfl ?_
  rcases hh with hu | ⟨hu,f1,f2,f3,f4,f5,f6⟩
  ·rw [hu] at q2
   simp (disch:=omega) only [go_sem,h18c,w,q1,q2,q4,eq_true c2,eq_true n1,eq_true n2,eq_true n3,eq_true n4,eq_true n5,decide_true,Bool.not_true]
   rw [EL_fst (fun k=>⟨(jk 1 (.one (.ptr 0 0)::jk 5 (vi k::jk 95 []))),[.box r.c]⟩) (fun k=>decide (r.nx≤(r.ats.getD k Att.nil).id)=true) r.ats.length ?_ ?_]
   rotate_left
   ·rfl
   ·intro k hk hn
    have h3:=hn k (Nat.le_refl _)
    rw [getDA r.ats k hk,decide_eq_true_eq] at h3
    simp (disch:=omega) only [go_sem,h18l0,List.length_map,ixA,Att.e,h3]
   obtain ⟨hk,hp,hn⟩:=ix_spec (fun k=>decide (r.nx≤(r.ats.getD k Att.nil).id)=true) r.ats.length
   generalize ix (fun k=>decide (r.nx≤(r.ats.getD k Att.nil).id)=true) r.ats.length=k at *
   rcases hp with rfl | ⟨hk',hp⟩
   ·rw [if_pos rfl] at hg
    subst hg
    rw [if_neg (by decide)]
    by_cases c4:needA r.ats≤440
    ·have c5:¬ 440 < needA r.ats:=by omega
     rw [decide_eq_true c4,un_t]
     simp (disch:=omega) only [go_sem,h18l0,List.length_map,q6,c5]
    ·have c5:440 < needA r.ats:=by omega
     rw [decide_eq_false c4,un_f]
     simp (disch:=omega) only [go_sem,h18l0,List.length_map,q6,eq_true c5]
   ·rw [if_neg (by omega)] at hg
    subst hg
    rw [if_pos (by omega)]
    rw [getDA r.ats k hk',decide_eq_true_eq] at hp
    simp (disch:=omega) only [go_sem,h18l0,List.length_map,ixA,Att.e,eq_true hp]
  ·rw [hu] at q2
   have d2:¬ 0 < (r.ats.length:Int):=by rw [f1];simp
   simp (disch:=omega) only [go_sem,h18c,w,q1,q2,q4,eq_true c2,eq_true n1,eq_true n2,eq_true n3,eq_true n4,eq_true n5,decide_true,Bool.not_true,List.length_map,d2,eq_true f2,eq_true f3,eq_true f4,eq_true f5,eq_true f6]
   rw [EL_fst (fun k=>⟨(jk 1 (.one (.ptr 0 0)::jk 5 (vi k::jk 95 []))),[.box r.c]⟩) (fun k=>decide (r.nx≤(r.ats.getD k Att.nil).id)=true) r.ats.length ?_ ?_]
   rotate_left
   ·rfl
   ·intro k hk hn
    rw [f1] at hk
    simp at hk
   obtain ⟨hk,hp,hn⟩:=ix_spec (fun k=>decide (r.nx≤(r.ats.getD k Att.nil).id)=true) r.ats.length
   generalize ix (fun k=>decide (r.nx≤(r.ats.getD k Att.nil).id)=true) r.ats.length=k at *
   rcases hp with rfl | ⟨hk',hp⟩
   ·rw [if_pos rfl] at hg
    subst hg
    rw [if_neg (by decide)]
    by_cases c4:needA r.ats≤440
    ·have c5:¬ 440 < needA r.ats:=by omega
     rw [decide_eq_true c4,un_t]
     simp (disch:=omega) only [go_sem,h18l0,List.length_map,q6,c5]
    ·have c5:440 < needA r.ats:=by omega
     rw [decide_eq_false c4,un_f]
     simp (disch:=omega) only [go_sem,h18l0,List.length_map,q6,eq_true c5]
   ·rw [if_neg (by omega)] at hg
    subst hg
    rw [if_pos (by omega)]
    rw [getDA r.ats k hk',decide_eq_true_eq] at hp
    simp (disch:=omega) only [go_sem,h18l0,List.length_map,ixA,Att.e,eq_true hp]
 ·rw [if_pos c2]
  refine EV_run rfl ?_
  rcases hh with hu | ⟨hu,f1,f2,f3,f4,f5,f6⟩
  ·rw [hu] at q2
   simp (disch:=omega) only [go_sem,h18c,w,q1,q2,q4,c2,eq_true n1,eq_true n2,eq_true n3,eq_true n4,eq_true n5,decide_true,Bool.not_true]
  ·rw [hu] at q2
   have d2:¬ 0 < (r.ats.length:Int):=by rw [f1];simp
   simp (disch:=omega) only [go_sem,h18c,w,q1,q2,q4,c2,eq_true n1,eq_true n2,eq_true n3,eq_true n4,eq_true n5,decide_true,Bool.not_true,List.length_map,d2,eq_true f2,eq_true f3,eq_true f4,eq_true f5,eq_true f6]
set_option maxHeartbeats 4000000 in
theorem checkR_v (r:Rec) (hW:r.W):EV G (Tb (bsS bb)) 18 [r.v] []=some (iiv (chkV r),[]):=by
 have w:=withinB_v (G:=G) (bb:=bb)
 have q1:=baseErrR_v (G:=G) (bb:=bb) r.br r.bq
 by_cases n1:1≤r.sq∧r.sq≤65535
 ·by_cases n2:0≤r.li∧r.li≤65535
  ·by_cases n3:0≤r.fl∧r.fl≤3
   ·by_cases n4:0≤r.nx∧r.nx≤65535
    ·by_cases n5:0≤r.ls∧r.ls≤2147483647
     ·have hn:numB r=true:=by simp [numB,n1,n2,n3,n4,n5]
      have hd:=numB_t hn
      by_cases z0:basE r.br r.bq=0
      ·rw [z0,firstE_0] at hd
       have q2:=usedR_v (G:=G) (bb:=bb) r ⟨n3.1,by omega⟩
       cases hu:usedB r.fl with
       | true=>
        rw [hu,Bool.true_or,un_t] at hd
        have h0:hdE r=0:=hd
        have e:chkV r=if (ordV r.ats).2≠0 then ordV r.ats else if 0≤gtI r then (gtI r,9) else (0,un (decide (needA r.ats≤440)) 16):=by
         unfold chkV
         rw [if_neg (not_not_intro h0)]
        rw [e]
        exact checkR_t r hW n1 n2 n3 n4 n5 z0 (.inl hu)
       | false=>
        rw [hu,Bool.false_or] at hd
        rw [hu] at q2
        rw [z0] at q1
        cases he:empB r with
        | true=>
         rw [he,un_t] at hd
         have h0:hdE r=0:=hd
         have e:chkV r=if (ordV r.ats).2≠0 then ordV r.ats else if 0≤gtI r then (gtI r,9) else (0,un (decide (needA r.ats≤440)) 16):=by
          unfold chkV
          rw [if_neg (not_not_intro h0)]
         rw [e]
         simp only [empB,Bool.and_eq_true,decide_eq_true_eq] at he
         exact checkR_t r hW n1 n2 n3 n4 n5 z0 (.inr ⟨hu,he.2.1,he.2.2.1,he.2.2.2.1.1,he.2.2.2.1.2,he.1,he.2.2.2.2⟩)
        | false=>
         rw [he,un_f] at hd
         have h0:hdE r=3:=hd
         rw [chk_hd h0 (by decide)]
         refine EV_run rfl ?_
         by_cases c2:r.ats=[]
         ·have d2:¬ 0 < (r.ats.length:Int):=by rw [c2];simp
          by_cases c3:r.li=0
          ·by_cases c4:r.br=0
           ·by_cases c5:r.bq=0
            ·by_cases c1:r.fl=0
             ·by_cases c6:r.nx=0
              ·simp [empB,c1,c2,c3,c4,c5,c6] at he
              ·simp (disch:=omega) only [go_sem,h18c,w,q1,q2,eq_true n1,eq_true n2,eq_true n3,eq_true n4,eq_true n5,decide_true,Bool.not_true,List.length_map,d2,eq_true c3,eq_true c4,eq_true c5,eq_true c1,c6]
             ·simp (disch:=omega) only [go_sem,h18c,w,q1,q2,eq_true n1,eq_true n2,eq_true n3,eq_true n4,eq_true n5,decide_true,Bool.not_true,List.length_map,d2,eq_true c3,eq_true c4,eq_true c5,c1]
            ·simp (disch:=omega) only [go_sem,h18c,w,q1,q2,eq_true n1,eq_true n2,eq_true n3,eq_true n4,eq_true n5,decide_true,Bool.not_true,List.length_map,d2,eq_true c3,eq_true c4,c5]
           ·simp (disch:=omega) only [go_sem,h18c,w,q1,q2,eq_true n1,eq_true n2,eq_true n3,eq_true n4,eq_true n5,decide_true,Bool.not_true,List.length_map,d2,eq_true c3,c4]
          ·simp (disch:=omega) only [go_sem,h18c,w,q1,q2,eq_true n1,eq_true n2,eq_true n3,eq_true n4,eq_true n5,decide_true,Bool.not_true,List.length_map,d2,c3]
         ·have d2:0 < (r.ats.length:Int):=by
           have:=List.length_pos_iff.2 c2
           omega
          simp (disch:=omega) only [go_sem,h18c,w,q1,q2,eq_true n1,eq_true n2,eq_true n3,eq_true n4,eq_true n5,decide_true,Bool.not_true,List.length_map,eq_true d2]
      ·rw [firstE_n _ _ z0] at hd
       rw [chk_hd hd z0]
       refine EV_run rfl ?_
       simp (disch:=omega) only [go_sem,h18c,w,q1,eq_true n1,eq_true n2,eq_true n3,eq_true n4,eq_true n5,decide_true,Bool.not_true,z0]
     ·rw [numB_f (by simp [numB,n5])]
      refine EV_run rfl ?_
      simp (disch:=omega) only [go_sem,h18c,w,eq_true n1,eq_true n2,eq_true n3,eq_true n4,n5,decide_true,Bool.not_true,decide_false,Bool.not_false]
    ·rw [numB_f (by simp [numB,n4])]
     refine EV_run rfl ?_
     simp (disch:=omega) only [go_sem,h18c,w,eq_true n1,eq_true n2,eq_true n3,n4,decide_true,Bool.not_true,decide_false,Bool.not_false]
   ·rw [numB_f (by simp [numB,n3])]
    refine EV_run rfl ?_
    simp (disch:=omega) only [go_sem,h18c,w,eq_true n1,eq_true n2,n3,decide_true,Bool.not_true,decide_false,Bool.not_false]
  ·rw [numB_f (by simp [numB,n2])]
   refine EV_run rfl ?_
   simp (disch:=omega) only [go_sem,h18c,w,eq_true n1,n2,decide_true,Bool.not_true,decide_false,Bool.not_false]
 ·rw [numB_f (by simp [numB,n1])]
  refine EV_run rfl ?_
  simp (disch:=omega) only [go_sem,h18c,w,n1,decide_false,Bool.not_false]
theorem errR9_v (r:Rec) (hW:r.W):EV G (Tb (bsS bb)) 29 [r.v] []=some (vi (recE r),[]):=by
 refine EV_run rfl ?_
 have q:=checkR_v (G:=G) (bb:=bb) r hW
 unfold recE
 generalize chkV r=o at *
 obtain ⟨o1,o2⟩:=o
 simp (disch:=omega) only [go_sem,h29c,q]
def roomV (r:Rec) (e:Int):Int × Int:=if e≠0 then (0,e) else (440 - needA r.ats,0)
theorem recordErr_v (r:Rec) (hW:r.W):EV G (Tb (bsS bb)) 68 [r.v] []=some (vi (recE r),[]):=by
 refine EV_run rfl ?_
 have q:=check9_v (G:=G) (bb:=bb) r hW
 unfold recE
 generalize chkV r=o at *
 obtain ⟨o1,o2⟩:=o
 simp (disch:=omega) only [go_sem,h68c,q]
theorem roomIn_v (r:Rec) (hW:r.W):EV G (Tb (bsS bb)) 15 [r.v] []=some (iiv (roomV r (recE r)),[]):=by
 refine EV_run rfl ?_
 have q:=recordErr_v (G:=G) (bb:=bb) r hW
 have hln:=hW.ln
 have q2:=needed_v (G:=G) (bb:=bb) r.ats hW.at' (by omega)
 have q3:=needA_rg r.ats hW.at'
 unfold roomV
 generalize recE r=e at *
 by_cases c:e=0
 ·rw [if_neg (not_not_intro c)]
  simp (disch:=omega) only [go_sem,h15c,q,q2,eq_true c]
 ·rw [if_pos c]
  simp (disch:=omega) only [go_sem,h15c,q,c]
theorem new_v (q f a b:Int):EV G (Tb (bsS bb)) 16 [vi q,vi f,rfv a b] []=some (rcv (newV q f a b),[]):=by
 have w:=within9_v (G:=G) (bb:=bb) q 1 65535
 have u:=unless9_v (G:=G) (bb:=bb)
 have q1:=baseErr_v (G:=G) (bb:=bb) a b
 have q3:=first9_2 (G:=G) (bb:=bb)
 unfold newV
 have h0:newE q f a b=firstE [un (decide (1≤q∧q≤65535)&&(decide (f=1)||decide (f=3))) 2,basE a b]:=rfl
 generalize newE q f a b=e at *
 generalize basE a b=z at *
 have fin:∀ c2:Bool,EV G (Tb (bsS bb)) 16 [vi q,vi f,rfv a b] []=some (rcv (if e≠0 then (.nil,e) else (⟨q,0,f,a,b,0,0,[]⟩,0)),[]):=fun _=>by
  refine EV_run rfl ?_
  cases c1:decide (1≤q∧q≤65535)
  all_goals rw [c1] at w h0
  all_goals by_cases c2:f=1
  all_goals by_cases c4:e=0
  all_goals first | rw [if_neg (not_not_intro c4)] | rw [if_pos c4]
  all_goals first | rw [decide_eq_true c2] at h0 | rw [decide_eq_false c2] at h0
  all_goals simp only [Bool.true_and,Bool.false_and,Bool.true_or,Bool.false_or] at h0
  ·simp (disch:=omega) only [go_sem,h16c,w,u,q1,q3,← h0,eq_true c2,eq_true c4,Rec.nil]
   rfl
  ·simp (disch:=omega) only [go_sem,h16c,w,u,q1,q3,← h0,eq_true c2,c4,Rec.nil]
   rfl
  ·by_cases c3:f=3
   all_goals simp (disch:=omega) only [go_sem,h16c,w,u,q1,q3,← h0,c2,eq_true c4,Rec.nil]
   all_goals rfl
  ·by_cases c3:f=3
   all_goals simp (disch:=omega) only [go_sem,h16c,w,u,q1,q3,← h0,c2,c4,Rec.nil]
   all_goals rfl
  ·simp (disch:=omega) only [go_sem,h16c,w,u,q1,q3,← h0,eq_true c2,eq_true c4,Rec.nil]
   rfl
  ·simp (disch:=omega) only [go_sem,h16c,w,u,q1,q3,← h0,eq_true c2,c4,Rec.nil]
   rfl
  ·by_cases c3:f=3
   ·rw [decide_eq_true c3] at h0
    simp (disch:=omega) only [go_sem,h16c,w,u,q1,q3,← h0,c2,eq_true c3,eq_true c4,Rec.nil]
    rfl
   ·rw [decide_eq_false c3] at h0
    simp (disch:=omega) only [go_sem,h16c,w,u,q1,q3,← h0,c2,c3,eq_true c4,Rec.nil]
    rfl
  ·by_cases c3:f=3
   ·rw [decide_eq_true c3] at h0
    simp (disch:=omega) only [go_sem,h16c,w,u,q1,q3,← h0,c2,eq_true c3,c4,Rec.nil]
    rfl
   ·rw [decide_eq_false c3] at h0
    simp (disch:=omega) only [go_sem,h16c,w,u,q1,q3,← h0,c2,c3,c4,Rec.nil]
    rfl
 exact fin true
theorem after_v (n:Int) (h:0≤n∧n≤65535):EV G (Tb (bsS bb)) 69 [vi n,vi 65535] []=some (vi (nxtN n),[]):=by
 refine EV_run rfl ?_
 have e:n.tmod 65535=n % 65535:=by rw [Int.tmod_eq_emod_of_nonneg h.1]
 unfold nxtN
 simp (disch:=omega) only [go_sem,h69c,e]
end
section
variable {G:Glob} {bb:Bool}
theorem sameAs_r (l:List Att) (hW:∀ a∈l,a.W) (hl:l.length≤1000):EV G (Tb (bsS bb)) 95 [vl (l.map Att.e),vl (l.map Att.e)] []=some (vb true,[]):=up (sameAs_v l hW hl)
set_option maxHeartbeats 1000000 in
theorem sameRec_v (r:Rec) (hW:r.W):EV G (Tb (bsS bb)) 39 [r.v,r.v] []=some (vb true,[]):=by
 refine EV_run rfl ?_
 have q:=sameAs_r (G:=G) (bb:=bb) r.ats hW.at' (by have:=hW.ln;omega)
 simp (disch:=omega) only [go_sem,h39c,q]
theorem same_ok (r:Rec) (hW:r.W):EV G (Tb (bsS bb)) 21 [r.v,vi 0,r.v,vi 0] []=some (vb true,[]):=by
 refine EV_run rfl ?_
 have q:=sameRec_v (G:=G) (bb:=bb) r hW
 simp (disch:=omega) only [go_sem,h21c,q]
theorem same_err (w:Rec) (e:Int) (he:e≠0):EV G (Tb (bsS bb)) 21 [Rec.nil.v,vi e,w.v,vi e] []=some (vb true,[]):=by
 refine EV_run rfl ?_
 have q:=sameRec_v (G:=G) (bb:=bb) .nil Rec.nil_W
 simp only [Rec.v,Rec.c,Rec.nil,List.map_nil] at q ⊢
 simp (disch:=omega) only [go_sem,h21c,q,he]
def ResOk (p:Rec × Int):Prop:=p.1.W∧(p.2≠0→p.1=.nil)
theorem copyRec_v (r:Rec) (hW:r.W):EV G (Tb (bsS bb)) 14 [r.v] []=some (r.v,[]):=by
 refine EV_run rfl ?_
 have hl:=hW.ln
 have q:=up (copyAs_v (G:=G) (bb:=bb) r.ats (by omega) (fun a ha=>by have:=(hW.at' a ha).rl;omega))
 simp (disch:=omega) only [go_sem,h14c,q]
theorem fewIn_v (a:Att):EV G (Tb (bsS bb)) 25 [a.v] []=some (vb (fewB a),[]):=by
 refine EV_run rfl ?_
 unfold fewB
 have e1:((a.rs.length:Int)≤80)=(a.rs.length≤80):=by apply propext;omega
 have e2:((a.va.length:Int)≤500)=(a.va.length≤500):=by apply propext;omega
 have e3:((a.nm.length:Int)≤60)=(a.nm.length≤60):=by apply propext;omega
 by_cases c1:a.rs.length≤80
 ·by_cases c2:a.va.length≤500
  ·simp (disch:=omega) only [go_sem,h25c,List.length_map,e1,e2,e3,eq_true c1,eq_true c2]
   all_goals simp [c1,c2]
  ·simp (disch:=omega) only [go_sem,h25c,List.length_map,e1,e2,e3,eq_true c1,c2]
   all_goals simp [c1,c2]
 ·simp (disch:=omega) only [go_sem,h25c,List.length_map,e1,e2,e3,c1]
  all_goals simp [c1]
def fewR (r:Rec):Bool:=r.ats.all fewB&&decide (r.ats.length≤40)
theorem few9_v (r:Rec) (hl:r.ats.length≤9223372036854775807):EV G (Tb (bsS bb)) 12 [r.v] []=some (vb (fewR r),[]):=by
 refine EV_run rfl ?_
 unfold fewR
 simp (disch:=omega) only [go_sem,h12c]
 rw [EL_fst (fun k=>⟨(jk 1 (.one (.ptr 0 0)::jk 1 (vi k::jk 18 []))),[.box r.c]⟩) (fun k=>fewB (r.ats.getD k Att.nil)=false) r.ats.length ?_ ?_]
 rotate_left
 ·rfl
 ·intro k hk hn
  have h1:=hn k (Nat.le_refl _)
  rw [getDA r.ats k hk] at h1
  have h2:fewB r.ats[k]=true:=by simpa using h1
  have q:=fewIn_v (G:=G) (bb:=bb) r.ats[k]
  rw [h2] at q
  simp (disch:=omega) only [go_sem,h12l0,List.length_map,ixA,Att.e,q]
 have hx:=all_ix r.ats Att.nil fewB
 obtain ⟨hk,hp,hn⟩:=ix_spec (fun k=>fewB (r.ats.getD k Att.nil)=false) r.ats.length
 generalize ix (fun k=>fewB (r.ats.getD k Att.nil)=false) r.ats.length=k at *
 rcases hp with rfl | ⟨hk',hp⟩
 ·rw [hx.1 rfl]
  by_cases c:r.ats.length≤40
  ·have c':(r.ats.length:Int)≤40:=by omega
   simp (disch:=omega) only [go_sem,h12l0,List.length_map,eq_true c']
   simp [c]
  ·have c':¬ (r.ats.length:Int)≤40:=by omega
   simp (disch:=omega) only [go_sem,h12l0,List.length_map,c']
   simp [c]
 ·have e:r.ats.all fewB=false:=by
   cases h:r.ats.all fewB with
   | false=>rfl
   | true=>have:=hx.2 h;omega
  rw [e]
  rw [getDA r.ats k hk'] at hp
  have q:=fewIn_v (G:=G) (bb:=bb) r.ats[k]
  rw [hp] at q
  simp (disch:=omega) only [go_sem,h12l0,List.length_map,ixA,Att.e,q]
theorem fewR_W {r:Rec} (h:fewR r=true) (hB:∀ a∈r.ats,Byts a.nm∧Byts a.va):r.W:=by
 simp only [fewR,Bool.and_eq_true,decide_eq_true_eq,List.all_eq_true] at h
 refine ⟨fun a ha=>?_,by omega⟩
 have h1:=h.1 a ha
 simp only [fewB,Bool.and_eq_true,decide_eq_true_eq] at h1
 exact ⟨(hB a ha).1,(hB a ha).2,by omega,by omega,by omega⟩
theorem freed_v (r:Rec) (hW:r.W):EV G (Tb (bsS bb)) 17 [r.v] []=some (rcv (frdV r),[]):=by
 refine EV_run rfl ?_
 have q1:=recordErr_v (G:=G) (bb:=bb) r hW
 have q2:=isUsed_v (G:=G) (bb:=bb) r
 have u:=unless9_v (G:=G) (bb:=bb)
 have q3:=first9_2 (G:=G) (bb:=bb)
 unfold frdV
 have hz:∀ e,e=recE r→(e=0→1≤r.sq∧r.sq≤65535):=fun e h1 h2=>(recE_ok (h1 ▸ h2)).num.1
 have hz1:=hz (recE r) rfl
 generalize recE r=e at *
 by_cases c:firstE [e,un (usedB r.fl) 20]=0
 ·rw [if_neg (not_not_intro c)]
  have q4:=after_v (G:=G) (bb:=bb) r.sq (by have:=hz1 (firstE2 c).1;omega)
  simp (disch:=omega) only [go_sem,h17c,q1,q2,u,q3,q4,eq_true c,frdO]
  rfl
 ·rw [if_pos c]
  simp (disch:=omega) only [go_sem,h17c,q1,q2,u,q3,c,Rec.nil]
  rfl
theorem aw9_v:EV G (Tb (bsS true)) 11 [] []=some (vb true,[]):=EV_base rfl rfl
end
section
variable {G:Glob} {bb:Bool}
abbrev Rec.c2 (r:Rec):List Cel:=[.dc (ci r.sq),.dc (ci r.li),.dc (ci r.fl),.dc (ci r.br),.dc (ci r.bq),.dc (ci r.nx),.dc (ci r.ls),.bld 2 r.ats.length]
theorem set_self {α:Type} (l:List α) (k:Nat) (h:k < l.length):l.set k l[k]=l:=List.set_getElem_self h
set_option maxHeartbeats 4000000 in
theorem copied9_v (r:Rec) (hW:r.W):EV G (Tb (bsS bb)) 74 [r.v] []=some (.agg r.c2,[.box r.c2,.box r.c2,.arr 0 11 (r.ats.map Att.e)]):=by
 refine EV_run rfl ?_
 have hl:=hW.ln
 have q:=cloneT_v (G:=G) (bb:=bb) r.ats (by omega)
 simp (disch:=omega) only [go_sem,h74c,q]
 rw [EL_loop (fun k=>⟨(jk 1 (.one (.ptr 0 0)::.one (.ptr 1 0)::jk 7 (vi r.ats.length::vi k::jk 16 []))),[.box [.dc (ci r.sq),.dc (ci r.li),.dc (ci r.fl),.dc (ci r.br),.dc (ci r.bq),.dc (ci r.nx),.dc (ci r.ls),.bld 2 r.ats.length],.box [.dc (ci 0),.dc (ci 0),.dc (ci 0),.dc (ci 0),.dc (ci 0),.dc (ci 0),.dc (ci 0),.dc (.raw (.slice none 0 0))],.arr 0 11 (r.ats.map Att.e)]⟩) r.ats.length ?_ ?_]
 ·simp (disch:=omega) only [go_sem,h74l0,List.length_map]
 ·rfl
 ·intro k hk
  have q2:=up (clone_v (G:=G) (bb:=bb) r.ats[k].rs (by have:=(hW.at' _ (List.getElem_mem hk)).rl;omega))
  have e:=ixA r.ats k hk
  have hs:(r.ats.map Att.e).set k r.ats[k].e=r.ats.map Att.e:=by
   have:=set_self (r.ats.map Att.e) k (by rw [List.length_map];exact hk)
   rwa [List.getElem_map] at this
  simp (disch:=omega) only [go_sem,h74l0,List.length_map,e,Att.e,q2]
  rw [hs]
theorem hasF_v (a b:Att) (ha:Byts a.nm) (hb:Byts b.nm):EV G (Tb (bsS bb)) 131 [b.v,.one (.ptr 0 0)] [.box a.c]=some (vb (keyB a b),[.box a.c]):=by
 refine EV_run rfl ?_
 have e:=str_inj ha hb
 unfold keyB
 by_cases c1:a.ty=b.ty
 ·by_cases c2:a.nm=b.nm
  ·rw [eq_true c2] at e
   simp (disch:=omega) only [go_sem,h131c,eq_true c1,e]
   all_goals simp [c1,c2]
  ·rw [eq_false c2] at e
   simp (disch:=omega) only [go_sem,h131c,eq_true c1,e]
   all_goals simp [c1,c2]
 ·simp (disch:=omega) only [go_sem,h131c,c1]
  all_goals simp [c1]
abbrev Att.dd (a:Att):List DC:=[ci a.ty,.raw (.string (str a.nm)),ci a.id,ci a.fl,.raw (.bool a.res),.raw (.string (str a.va)),ci a.fi,.slc (a.rs.map Run.e),ci a.al,ci a.sz,ci a.vd]
theorem has_v9 (r:Rec) (a:Att) (hW:r.W) (ha:Byts a.nm):EV G (Tb (bsS bb)) 73 [r.v,a.v] []=some (vb (hasB r a),[]):=by
 refine EV_run rfl ?_
 have hl:=hW.ln
 have q:EV G (Tb (bsS bb)) 130 [vl (r.ats.map Att.e),.one (.fn 131 [.ptr 0 0])] [.box a.c]=some (vb (r.ats.any fun b=>keyB a b),[.box a.c]):=
  anyP_v 131 a.dd (fun b=>keyB a b) r.ats (by omega) (fun b hb=>hasF_v a b ha (hW.at' b hb).nm)
 unfold hasB
 by_cases c:a.ty=48
 ·simp (disch:=omega) only [go_sem,h73c,eq_true c]
  all_goals simp [c]
 ·simp (disch:=omega) only [go_sem,h73c,c,q]
  all_goals simp [c]
end
section
variable {G:Glob} {bb:Bool}
theorem setId_W {a:Att} {i:Int} (h:a.W):(setId a i).W:=⟨h.nm,h.va,h.nl,h.vl,h.rl⟩
theorem len32 (l:List Att):((l.length:Int) < 32)=(l.length < 32):=by apply propext;omega
set_option maxHeartbeats 8000000 in
theorem putIn_v (r:Rec) (hW:r.W) (a:Att) (haW:a.W):EV G (Tb (bsS bb)) 26 [r.v,a.v] []=some (rcv (putV r a),[]):=by
 refine EV_run rfl ?_
 have q1:=recordErr_v (G:=G) (bb:=bb) r hW
 have q2:=isUsed_v (G:=G) (bb:=bb) r
 have u:=unless9_v (G:=G) (bb:=bb)
 have q3:=first9_3 (G:=G) (bb:=bb)
 have hok:recE r=0→r.Ok:=recE_ok
 have hb:=setId_W (i:=r.nx) haW
 have q4:=up (checkA_v (G:=G) (bb:=bb) (setId a r.nx) hb)
 have q5:=has_v9 (G:=G) (bb:=bb) r (setId a r.nx) hW hb.nm
 have e5:hasB r (setId a r.nx)=hasB r a:=rfl
 rw [e5] at q5
 unfold putV putE1 putE2
 by_cases c1:firstE [recE r,un (usedB r.fl) 20,un (decide (r.nx < 65535)) 16]=0
 ·rw [if_neg (not_not_intro c1)]
  obtain ⟨z1,z2,z3⟩:=firstE3 c1
  have hO:=hok z1
  have hn:=hO.num.2.2.2.1
  have hln:=hO.ln
  clear hok
  have e3:=len32 r.ats
  by_cases c2:firstE [errA (setId a r.nx),un (!hasB r a) 5,un (decide (r.ats.length < 32)) 8]=0
  ·rw [if_neg (not_not_intro c2)]
   obtain ⟨y1,y2,y3⟩:=firstE3 c2
   have hl:r.ats.length < 32:=by
    have:=un_0 (by decide) y3
    simpa using this
   have q6:=copied9_v (G:=G) (bb:=bb) r hW
   have hs:=put_srt hO y1 hl
   have hWn:∀ x∈r.ats++[setId a r.nx],x.W:=fun x hx=>by
    rcases List.mem_append.1 hx with hx | hx
    ·exact hW.at' x hx
    ·rw [List.mem_singleton.1 hx];exact hb
   have hll:(r.ats++[setId a r.nx]).length=r.ats.length+1:=by simp
   have q7:=sorted_v (G:=G) (bb:=bb) (r.ats++[setId a r.nx]) hWn (by omega)
   rw [if_pos hs,hs] at q7
   have q8:=needed_v (G:=G) (bb:=bb) (srtA (r.ats++[setId a r.nx])) (fun x hx=>hWn x (srtA_mem.1 hx)) (by rw [srtA_len];omega)
   have tk:∀ x:List DC,List.take (r.ats.length+1) (List.map Att.e r.ats++[x])=List.map Att.e r.ats++[x]:=fun x=>List.take_of_length_le (by rw [List.length_append,List.length_map];exact Nat.le_refl _)
   unfold putO
   simp only [List.map_append,List.map_cons,List.map_nil] at q7
   generalize srtA (r.ats++[setId a r.nx])=m at *
   generalize errA (setId a r.nx)=ea at *
   generalize hasB r a=hb' at *
   generalize recE r=re at *
   generalize usedB r.fl=ub at *
   simp only [setId] at q4 q5 q7 ⊢
   generalize needA m=z at *
   by_cases c3:z≤440
   ·have d3:¬ 440 < z:=by omega
    rw [if_pos c3]
    simp (disch:=omega) only [go_sem,h26c,q1,q2,u,q3,q4,q5,q6,q7,q8,eq_true c1,eq_true c2,d3,e3,List.length_map,List.length_append,List.length_cons,List.length_nil,Nat.zero_add,Nat.le_refl,tk]
    all_goals rfl
   ·have d3:440 < z:=by omega
    rw [if_neg c3]
    simp (disch:=omega) only [go_sem,h26c,q1,q2,u,q3,q4,q5,q6,q7,q8,eq_true c1,eq_true c2,eq_true d3,e3,List.length_map,List.length_append,List.length_cons,List.length_nil,Nat.zero_add,Nat.le_refl,tk,Rec.nil]
    rfl
  ·rw [if_pos c2]
   generalize errA (setId a r.nx)=ea at *
   generalize hasB r a=hb' at *
   generalize recE r=re at *
   generalize usedB r.fl=ub at *
   simp only [setId] at q4 q5
   simp (disch:=omega) only [go_sem,h26c,q1,q2,u,q3,q4,q5,eq_true c1,c2,e3,List.length_map,Rec.nil]
   rfl
 ·rw [if_pos c1]
  generalize recE r=re at *
  generalize usedB r.fl=ub at *
  simp (disch:=omega) only [go_sem,h26c,q1,q2,u,q3,c1,Rec.nil]
  rfl
end
section
variable {G:Glob} {bb:Bool}
theorem findF_v (a:Att) (i:Int):EV G (Tb (bsS bb)) 135 [a.v,.one (.ptr 0 0)] [.box ([ci i].map Cel.dc)]=some (vb (decide (a.id=i)),[.box ([ci i].map Cel.dc)]):=by
 refine EV_run rfl ?_
 simp (disch:=omega) only [go_sem,h135c,List.map_cons,List.map_nil]
theorem find_v (r:Rec) (hW:r.W) (i:Int):EV G (Tb (bsS bb)) 77 [r.v,vi i] []=some (iiv (fndI r i,fndE r i),[]):=by
 refine EV_run rfl ?_
 have hl:=hW.ln
 have q1:=recordErr_v (G:=G) (bb:=bb) r hW
 have u:=unless9_v (G:=G) (bb:=bb)
 have q2:=idxP_v (G:=G) (bb:=bb) 135 [ci i] (fun a=>decide (a.id=i)) r.ats (by omega) (fun a _=>findF_v a i)
 simp only [List.map_cons,List.map_nil] at q2
 unfold fndI fndE idI
 generalize idxV (fun a=>decide (a.id=i)) r.ats=k at *
 by_cases c:recE r=0
 ·rw [if_neg (not_not_intro c),if_neg (not_not_intro c)]
  rw [c] at q1
  simp (disch:=omega) only [go_sem,h77c,q1,q2,u]
 ·rw [if_pos c,if_pos c]
  simp (disch:=omega) only [go_sem,h77c,q1,c]
end
end Go.Proofs.YtcplecjhmnblpaaGreatDoor
