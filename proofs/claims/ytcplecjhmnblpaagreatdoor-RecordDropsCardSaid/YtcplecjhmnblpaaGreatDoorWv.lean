/- RecordDrops returns true for every input, and each argument reads afterwards as it read before; the variables that the row lists are laid by the program's text. Conditions: none. -/
import Derived.Test.YtcplecjhmnblpaaGreatDoorSw
import Derived.Test.YtcplecjhmnblpaaGreatDoorRe
import Derived.Test.YtcplecjhmnblpaaGreatDoorSz
namespace Go.Proofs.YtcplecjhmnblpaaGreatDoor
set_option linter.unusedSimpArgs false
set_option linter.unusedVariables false
set_option maxRecDepth 4000
section
variable {G:Glob} {bb:Bool}
def delK:List AV→List AObj→Option (AV × List AObj)
 | [.one (.bld 0 n),.one (.dc (.raw (.int .i64 i))),.one (.dc (.raw (.int .i64 j)))],[.arr _ s es]=>
  if s=11∧0≤i∧j=i+1∧i.toNat < n∧n≤es.length∧n+1≤140737488355328 then some (.one (.bld 0 (n - 1)),[.arr 0 11 (es.take i.toNat++(es.take n).drop (i.toNat+1))]) else none
 | _,_=>none
noncomputable def bsL (G:Glob) (b:Bool):CallT:=fun f args hp=>if f=82 then delK args hp else bsP G b f args hp
theorem bsL_ok {b:Bool} (hA:b=true→QC Tryz.prog G 11 [] (.one (.dc (.raw (.bool true))))):CallOK Tryz.prog G (bsL G b):=by
 intro f args hp av o' h hp0 hh
 unfold bsL at h
 split at h
 ·rename_i hf
  subst hf
  refine ⟨by kernel_rfl, ?_⟩
  unfold delK at h
  split at h
  ·rename_i n i j c s es
   split at h
   ·rename_i hc
    obtain ⟨rfl,h1,rfl,h2,h3,h4⟩:=hc
    injection h with h;injection h with g1 g2;subst g1;subst g2
    obtain ⟨cap,rfl,_⟩:=arr_of_norm hh
    obtain ⟨k,rfl⟩:=Int.eq_ofNat_of_zero_le h1
    exact delA_ac h2 h3 h4
   ·cases h
  ·cases h
 ·exact bsP_ok hA f args hp av o' h hp0 hh
theorem bsL_sub {b:Bool} (f:FuncId) (args:List AV) (hp:List AObj) (r:AV × List AObj) (h:bsP G b f args hp=some r):bsL G b f args hp=some r:=by
 have hn:bsP G b 82 args hp=none:=by
  unfold bsP
  rw [if_neg (by decide)]
  rfl
 unfold bsL
 split
 ·rename_i hf
  subst hf
  rw [hn] at h;cases h
 ·exact h
theorem upD {b:Bool} {f:FuncId} {a:List AV} {hp:List AObj} {r:AV × List AObj} (h:EV G (Tb (bsP G b)) f a hp=some r):EV G (Tb (bsL G b)) f a hp=some r:=
 EV_up (T:=Tb (bsP G b)) (T':=Tb (bsL G b)) (fun _=>rfl) (fun f a hp r _ h=>bsL_sub f a hp r h) h
theorem delF_v (l:List Att) (k:Nat) (hk:k < l.length) (hl:l.length≤1000000):EV G (Tb (bsL G bb)) 82 [.one (.bld 0 l.length),vi k,vi ((k:Int)+1)] [.arr 0 11 (l.map Att.e)]=some (.one (.bld 0 (l.length - 1)),[.arr 0 11 ((l.eraseIdx k).map Att.e)]):=by
 refine EV_base rfl ?_
 show bsL G bb 82 [.one (.bld 0 l.length),vi k,vi ((k:Int)+1)] [.arr 0 11 (l.map Att.e)]=_
 unfold bsL
 rw [if_pos rfl]
 show (if _ then _ else _)=_
 rw [if_pos ⟨rfl,by omega,rfl,by omega,by rw [List.length_map];exact Nat.le_refl _,by omega⟩]
 have e:(l.map Att.e).take l.length=l.map Att.e:=List.take_of_length_le (by rw [List.length_map];exact Nat.le_refl _)
 rw [e,Int.toNat_natCast,← List.map_take,← List.map_drop,← List.map_append,List.eraseIdx_eq_take_drop_succ]
end
section
variable {G:Glob} {bb:Bool}
theorem bsL_ok9:CallOK Tryz.prog GF (bsL GF true):=bsL_ok fun _=>awake_q9 GF_9
theorem qc9L {f:FuncId} {args:List AV} {r:AV} (h:EV GF (Tb (bsL GF true)) f args []=some (r,[])):QC Tryz.prog GF f args r:=EV_qc (Tb_ok (bsL GF true)) bsL_ok9 h
end
section
variable {G:Glob} {bb:Bool}
theorem without_v (l:List Att) (hW:∀ a∈l,a.W) (hl:l.length≤900) (k:Nat) (hk:k < l.length):EV G (TP G) 36 [vl (l.map Att.e),vi k] []=some (vl ((l.eraseIdx k).map Att.e),[]):=by
 refine EV_run (h:=h36) rfl ?_
 have hr:∀ a∈l,a.rs.length≤1000000:=fun a ha=>by have:=(hW a ha).rl;omega
 have q1:=copyP_v (G:=G) (l.take k) (by rw [List.length_take];omega) (fun a ha=>hr a (List.mem_of_mem_take ha))
 have q2:=copyP_v (G:=G) (l.drop (k+1)) (by rw [List.length_drop];omega) (fun a ha=>hr a (List.mem_of_mem_drop ha))
 rw [List.map_take] at q1
 rw [List.map_drop] at q2
 have h1:(l.take k).length=k:=by rw [List.length_take];omega
 have h2:(l.drop (k+1)).length=l.length - (k+1):=List.length_drop
 rw [h1] at q1
 rw [h2] at q2
 rw [List.eraseIdx_eq_take_drop_succ,List.map_append,List.map_take,List.map_drop]
 have e1:((k:Int)+1).toNat=k+1:=by omega
 have hA:=all_att l
 have hAd:((l.map Att.e).drop (k+1)).length=l.length - (k+1):=by rw [List.length_drop,List.length_map]
 have hAt:((l.map Att.e).take k).length=k:=by rw [List.length_take,List.length_map];omega
 have hall:allLen 11 ((l.map Att.e).drop (k+1))=true:=by
  rw [← List.map_drop];exact allLen_map (f:=Att.e) (fun _=>rfl) _
 have ht1:((l.map Att.e).take k).take k=(l.map Att.e).take k:=List.take_of_length_le (by omega)
 have ht2:((l.map Att.e).drop (k+1)).take (l.length - (k+1))=(l.map Att.e).drop (k+1):=List.take_of_length_le (by omega)
 have ht3:((l.map Att.e).take k++(l.map Att.e).drop (k+1)).take (k+(l.length - (k+1)))=(l.map Att.e).take k++(l.map Att.e).drop (k+1):=List.take_of_length_le (by rw [List.length_append];omega)
 have hle:k+(l.length - (k+1))≤((l.map Att.e).take k++(l.map Att.e).drop (k+1)).length:=by rw [List.length_append];omega
 generalize eA:(l.map Att.e).take k=A at *
 generalize eD:(l.map Att.e).drop (k+1)=D at *
 simp (disch:=omega) only [go_sem,h36c,eA,eD,q1,q2,e1,List.length_map,Int.toNat_natCast,hall,ht1,ht2,ht3,hAd,hAt,Nat.le_refl,eq_true hle]
end
section
variable {G:Glob} {bb:Bool}
theorem put_ok (r:Rec) (hW:r.W) (a:Att) (haW:a.W):ResOk (putV r a):=by
 unfold putV
 split
 ·exact ⟨Rec.nil_W,fun _=>rfl⟩
 ·rename_i c1
  split
  ·exact ⟨Rec.nil_W,fun _=>rfl⟩
  ·split
   ·refine ⟨⟨fun x hx=>?_, ?_⟩,fun h=>absurd rfl h⟩
    ·have hx':x∈srtA (r.ats++[setId a r.nx]):=hx
     rw [srtA_mem] at hx'
     rcases List.mem_append.1 hx' with hx | hx
     ·exact hW.at' x hx
     ·rw [List.mem_singleton.1 hx];exact setId_W haW
    ·show (srtA (r.ats++[setId a r.nx])).length≤900
     rw [srtA_len,List.length_append,List.length_singleton]
     have h1:=Classical.not_not.1 c1
     have h2:recE r=0:=by
      unfold putE1 at h1
      exact (firstE3 h1).1
     have:=(recE_ok h2).ln
     omega
   ·exact ⟨Rec.nil_W,fun _=>rfl⟩
theorem fewB_W {a:Att} (h:fewB a=true) (hB:Byts a.nm∧Byts a.va):a.W:=by
 simp only [fewB,Bool.and_eq_true,decide_eq_true_eq] at h
 exact ⟨hB.1,hB.2,by omega,by omega,by omega⟩
end
section
variable {G:Glob} {bb:Bool}
theorem erase_W {r:Rec} (hW:r.W) (k:Nat):(setAts r (r.ats.eraseIdx k)).W:=⟨fun a ha=>hW.at' a (List.mem_of_mem_eraseIdx ha),Nat.le_trans (List.length_eraseIdx_le ..) hW.ln⟩
set_option maxHeartbeats 4000000 in
theorem dropF_v (r:Rec) (hW:r.W) (i:Int):EV G (Tb (bsL G bb)) 32 [r.v,vi i] []=some (rcv (drpV r i),[]):=by
 refine EV_run rfl ?_
 have q1:=upD (upP (find_v (G:=G) (bb:=bb) r hW i))
 unfold drpV
 by_cases c:fndE r i=0
 ·rw [if_neg (not_not_intro c)]
  obtain ⟨hz,hi,hI,hlt⟩:=fnd_at c
  rw [c,hI] at q1
  have hk:(((idI r.ats i).toNat:Nat):Int)=idI r.ats i:=by omega
  rw [← hk] at q1
  generalize (idI r.ats i).toNat=k at *
  have q6:=upD (upP (copied9_v (G:=G) (bb:=bb) r hW))
  have q7:=delF_v (G:=G) (bb:=bb) r.ats k hlt (by have:=hW.ln;omega)
  have hln:=hW.ln
  have hlen:(r.ats.eraseIdx k).length=r.ats.length - 1:=List.length_eraseIdx_of_lt hlt
  have tk:((r.ats.eraseIdx k).map Att.e).take (r.ats.length - 1)=(r.ats.eraseIdx k).map Att.e:=List.take_of_length_le (by rw [List.length_map,hlen];exact Nat.le_refl _)
  have hle:r.ats.length - 1≤((r.ats.eraseIdx k).map Att.e).length:=by rw [List.length_map,hlen];exact Nat.le_refl _
  unfold setAts
  generalize (r.ats.eraseIdx k)=M at *
  simp (disch:=omega) only [go_sem,h32c,q1,q6,q7,List.length_map,hlen,tk,hle,Nat.le_refl]
  all_goals rfl
 ·rw [if_pos c]
  generalize fndE r i=z at *
  generalize fndI r i=y at *
  simp (disch:=omega) only [go_sem,h32c,q1,c,Rec.nil]
  all_goals rfl
theorem nilA_W:Att.nil.W:=⟨fun x hx=>(by cases hx),fun x hx=>(by cases hx),Nat.zero_le _,Nat.zero_le _,Nat.zero_le _⟩
theorem drp_err {r:Rec} {i:Int} (h:fndE r i≠0):drpV r i=(.nil,fndE r i)∧tknV r i=(Att.nil,fndE r i):=by
 unfold drpV tknV
 rw [if_pos h,if_pos h]
 exact ⟨rfl,rfl⟩
theorem drp_hit {r:Rec} {i:Int} (h:fndE r i=0):drpV r i=(setAts r (r.ats.eraseIdx (idI r.ats i).toNat),0)∧tknV r i=(r.ats.getD (idI r.ats i).toNat Att.nil,0):=by
 unfold drpV tknV
 rw [if_neg (not_not_intro h),if_neg (not_not_intro h)]
 exact ⟨rfl,rfl⟩
theorem put_fnd {r:Rec} {a:Att} (hW:r.W) (haW:Byts a.nm) (h:Put r a):fndE (putO r a) r.nx=0:=by
 unfold fndE
 rw [put_rec hW haW h,if_neg (not_not_intro rfl),decide_eq_true (put_idx h).1]
 rfl
theorem put_back {r:Rec} {a:Att} (hW:r.W) (haW:Byts a.nm) (h:Put r a):drpV (putO r a) r.nx=(⟨r.sq,r.li,r.fl,r.br,r.bq,r.nx+1,r.ls,r.ats⟩,0)∧tknV (putO r a) r.nx=(setId a r.nx,0):=by
 obtain ⟨h1,h2⟩:=drp_hit (put_fnd hW haW h)
 rw [h1,h2,put_drop h,(put_idx h).2.2]
 exact ⟨rfl,rfl⟩
abbrev upA {G:Glob} {f:FuncId} {a:List AV} {hp:List AObj} {r:AV × List AObj} (h:EV G (Tb (bsS true)) f a hp=some r):EV G (Tb (bsL G true)) f a hp=some r:=upD (upP h)
theorem room_0 (r:Rec):roomV r 0=(440 - needA r.ats,0):=by
 unfold roomV
 rw [if_neg (not_not_intro rfl)]
theorem again_v (r:Rec) (hW:r.W) (a:Att) (haW:a.W) (e0:recE r=0) (hp:Put r a) (hpe:putV r a=(putO r a,0)):∃ (M:Rec) (A:Att) (E:List Int) (D:Int),
  EV G (Tb (bsL G true)) 26 [r.v,a.v] []=some (rcv (M,0),[])∧EV G (Tb (bsL G true)) 14 [M.v] []=some (M.v,[])∧
  EV G (Tb (bsL G true)) 33 [M.v,vi r.nx] []=some (rtv (A,0),[])∧
  EV G (Tb (bsL G true)) 32 [M.v,vi r.nx] []=some (rcv (⟨r.sq,r.li,r.fl,r.br,r.bq,r.nx+1,r.ls,r.ats⟩,0),[])∧
  EV G (Tb (bsL G true)) 15 [r.v] []=some (iiv (440 - D,0),[])∧EV G (Tb (bsL G true)) 15 [M.v] []=some (iiv (440 - (D+E.length),0),[])∧
  EV G (Tb (bsL G true)) 37 [A.v] []=some (vi 0,[])∧EV G (Tb (bsL G true)) 38 [A.v] []=some (sv E,[])∧
  0≤D∧D≤440∧E.length≤440∧0≤r.nx∧r.nx < 65535:=by
 have hM:=(put_ok r hW a haW).1
 have hA:=setId_W (i:=r.nx) haW
 obtain ⟨pb1,pb2⟩:=put_back hW haW.nm hp
 have qp:=upA (putIn_v (G:=G) (bb:=true) r hW a haW)
 rw [hpe] at hM qp
 have qcM:=upA (copyRec_v (G:=G) (bb:=true) (putO r a) hM)
 have qtM:=upA (takenF_v (G:=G) (bb:=true) (putO r a) hM r.nx)
 have qdM:=dropF_v (G:=G) (bb:=true) (putO r a) hM r.nx
 have qr:=upA (roomIn_v (G:=G) (bb:=true) r hW)
 have qrM:=upA (roomIn_v (G:=G) (bb:=true) (putO r a) hM)
 have qe:=upA (up (errR_v (G:=G) (bb:=true) (setId a r.nx) hA))
 have qn:=upA (up (encRef_v (G:=G) (bb:=true) (setId a r.nx) (errA_ok hA hp.ea)))
 rw [pb2] at qtM
 rw [pb1] at qdM
 rw [e0,room_0] at qr
 rw [put_rec hW haW.nm hp,room_0,put_need] at qrM
 rw [hp.ea] at qe
 rw [← (encA_ok hA hp.ea).1] at qn
 exact ⟨putO r a,setId a r.nx,encA (setId a r.nx),needA r.ats,qp,qcM,qtM,qdM,qr,qrM,qe,qn,(needA_rg r.ats hW.at').1,hp.ok.nd,encA_len hA,hp.ok.num.2.2.2.1.1,hp.nx⟩
set_option maxHeartbeats 16000000 in
theorem drops_v (r:Rec) (hB:∀ a∈r.ats,Byts a.nm∧Byts a.va) (hl:r.ats.length≤9223372036854775807) (i:Int) (a:Att) (haB:Byts a.nm∧Byts a.va):EV G (Tb (bsL G true)) 5 [r.v,vi i,a.v] []=some (vb true,[]):=by
 have qw:EV G (Tb (bsL G true)) 11 [] []=some (vb true,[]):=upA aw9_v
 have q0:=upA (few9_v (G:=G) (bb:=true) r hl)
 have q00:=upA (fewIn_v (G:=G) (bb:=true) a)
 cases c0:fewR r with
 | false=>
  rw [c0] at q0
  refine EV_run rfl ?_
  simp (maxSteps:=2000000) (disch:=omega) only [go_sem,h5c,qw,q0]
 | true=>
  rw [c0] at q0
  cases c00:fewB a with
  | false=>
   rw [c00] at q00
   refine EV_run rfl ?_
   simp (maxSteps:=2000000) (disch:=omega) only [go_sem,h5c,qw,q0,q00]
  | true=>
   rw [c00] at q00
   have hW:=fewR_W c0 hB
   have haW:=fewB_W c00 haB
   have qc:=upA (copyRec_v (G:=G) (bb:=true) r hW)
   have qa:=upA (up (copyA_v (G:=G) (bb:=true) a (Nat.le_trans haW.rl (by decide))))
   have qd:=dropF_v (G:=G) (bb:=true) r hW i
   have qt:=upA (takenF_v (G:=G) (bb:=true) r hW i)
   have qe:=upA (errR9_v (G:=G) (bb:=true) r hW)
   have qi:=upA (indexOf_v (G:=G) (bb:=true) r.ats i (by have:=hW.ln;omega))
   have es:str []=⟨#[]⟩:=rfl
   have sn:=upA (up (sameA_v (G:=G) (bb:=true) Att.nil Att.nil nilA_W nilA_W))
   have sR:=upA (sameRec_v (G:=G) (bb:=true) r hW)
   rw [(sameB_iff _ _).2 rfl] at sn
   simp only [Att.v,Att.c,Att.nil,List.map_nil,es] at sn
   by_cases e0:recE r=0
   ·rw [e0] at qe
    have hP:(∃ M e,e≠0∧EV G (Tb (bsL G true)) 26 [r.v,a.v] []=some (rcv (M,e),[]))∨Put r a∧putV r a=(putO r a,0):=by
     by_cases h:(putV r a).2=0
     ·exact .inr (putV_ok h)
     ·exact .inl ⟨(putV r a).1,(putV r a).2,h,upA (putIn_v (G:=G) (bb:=true) r hW a haW)⟩
    by_cases k0:idI r.ats i < 0
    ·have hf:fndE r i=6:=by
      unfold fndE
      rw [if_neg (not_not_intro e0),decide_eq_false (by omega)]
      rfl
     obtain ⟨d1,d2⟩:=drp_err (r:=r) (i:=i) (by rw [hf];decide)
     rw [hf] at d1 d2
     rw [d1] at qd
     rw [d2] at qt
     have s1:=upA (same_err (G:=G) (bb:=true) .nil 6 (by decide))
     simp only [Rec.v,Rec.c,Rec.t,Rec.nil,List.map_nil,Att.t,Att.c,Att.nil,es] at s1 qd qt
     rcases hP with ⟨M,e,hp,qp⟩ | ⟨hp,hpe⟩
     ·generalize idI r.ats i=K at *
      refine EV_run rfl ?_
      simp (maxSteps:=2000000) (disch:=omega) only [go_sem,h5c,qw,q0,q00,qc,qa,qd,qt,qe,qi,qp,sn,es,s1,eq_true k0,hp]
     ·obtain ⟨M,A,E,D,y1,y2,y3,y4,y5,y6,y7,y8,b1,b2,b3,b4,b5⟩:=again_v (G:=G) r hW a haW e0 hp hpe
      clear hp hpe d1 d2 hf
      generalize idI r.ats i=K at *
      have hz:440 - D - (440 - (D+(E.length:Int)))=E.length:=by omega
      refine EV_run rfl ?_
      simp (maxSteps:=2000000) (disch:=omega) only [go_sem,h5c,qw,q0,q00,qc,qa,qd,qt,qe,qi,sn,es,s1,eq_true k0,y1,y2,y3,y4,y5,y6,y7,y8,hz,sR,str_size]
    ·have hf:fndE r i=0:=by
      unfold fndE
      rw [if_neg (not_not_intro e0),decide_eq_true (by omega)]
      rfl
     obtain ⟨d1,d2⟩:=drp_hit hf
     obtain ⟨_,_,_,hlt⟩:=fnd_at hf
     rw [d1] at qd
     rw [d2,getDA r.ats _ hlt] at qt
     have hk:(((idI r.ats i).toNat:Nat):Int)=idI r.ats i:=by omega
     rw [← hk] at qi
     have hP':(∃ M e,e≠0∧EV G (Tb (bsL G true)) 26 [r.v,a.v] []=some (rcv (M,e),[]))∨(∃ (M:Rec) (A:Att) (E:List Int) (D:Int),
      EV G (Tb (bsL G true)) 26 [r.v,a.v] []=some (rcv (M,0),[])∧EV G (Tb (bsL G true)) 14 [M.v] []=some (M.v,[])∧
      EV G (Tb (bsL G true)) 33 [M.v,vi r.nx] []=some (rtv (A,0),[])∧
      EV G (Tb (bsL G true)) 32 [M.v,vi r.nx] []=some (rcv (⟨r.sq,r.li,r.fl,r.br,r.bq,r.nx+1,r.ls,r.ats⟩,0),[])∧
      EV G (Tb (bsL G true)) 15 [r.v] []=some (iiv (440 - D,0),[])∧EV G (Tb (bsL G true)) 15 [M.v] []=some (iiv (440 - (D+E.length),0),[])∧
      EV G (Tb (bsL G true)) 37 [A.v] []=some (vi 0,[])∧EV G (Tb (bsL G true)) 38 [A.v] []=some (sv E,[])∧
      0≤D∧D≤440∧E.length≤440∧0≤r.nx∧r.nx < 65535):=by
      rcases hP with h | ⟨hp,hpe⟩
      ·exact .inl h
      ·exact .inr (again_v (G:=G) r hW a haW e0 hp hpe)
     clear hP d1 d2 hf hk
     generalize (idI r.ats i).toNat=k at *
     have qW:=upD (inP (b:=true) (without_v (G:=G) r.ats hW.at' (by have:=hW.ln;omega) k hlt) (.inr (.inr rfl)))
     have e:=ixA r.ats k hlt
     have hb:(r.ats[k]).W:=hW.at' _ (List.getElem_mem hlt)
     have sB:=upA (up (sameA_v (G:=G) (bb:=true) r.ats[k] r.ats[k] hb hb))
     rw [(sameB_iff _ _).2 rfl] at sB
     have sW:=upA (same_ok (G:=G) (bb:=true) (setAts r (r.ats.eraseIdx k)) (erase_W hW k))
     simp only [setAts] at qd sW
     generalize r.ats[k]=b at *
     generalize r.ats.eraseIdx k=L at *
     rcases hP' with ⟨M,z,hp,qp⟩ | ⟨M,A,E,D,y1,y2,y3,y4,y5,y6,y7,y8,b1,b2,b3,b4,b5⟩
     ·refine EV_run rfl ?_
      simp (maxSteps:=2000000) (disch:=omega) only [go_sem,h5c,qw,q0,q00,qc,qa,qd,qt,qe,qi,qW,qp,e,sB,sW,hp,Att.e,List.length_map]
     ·have hz:440 - D - (440 - (D+(E.length:Int)))=E.length:=by omega
      refine EV_run rfl ?_
      simp (maxSteps:=2000000) (disch:=omega) only [go_sem,h5c,qw,q0,q00,qc,qa,qd,qt,qe,qi,qW,e,sB,sW,y1,y2,y3,y4,y5,y6,y7,y8,hz,sR,str_size,Att.e,List.length_map]
   ·have hf:fndE r i=recE r:=by unfold fndE;rw [if_pos e0]
    obtain ⟨d1,d2⟩:=drp_err (r:=r) (i:=i) (by rw [hf];exact e0)
    rw [hf] at d1 d2
    rw [d1] at qd
    rw [d2] at qt
    have s1:=upA (same_err (G:=G) (bb:=true) .nil (recE r) e0)
    simp only [Rec.v,Rec.c,Rec.t,Rec.nil,List.map_nil,Att.t,Att.c,Att.nil,es] at s1 qd qt
    clear d1 d2 hf
    generalize recE r=d at *
    generalize idI r.ats i=K at *
    refine EV_run rfl ?_
    simp (maxSteps:=2000000) (disch:=omega) only [go_sem,h5c,qw,q0,q00,qc,qa,qd,qt,qe,qi,sn,es,s1,e0]
end
section
variable {G:Glob} {bb:Bool}
open Go.ChangeShapes Go.WideShapes Go.ChangeAt Go.RowKit
set_option maxRecDepth 100000 in
theorem recordDrops_lifted (os:Os) (started:os.Started) (H:Type) (enc:TypeId × Value→H):
  ReturnsInHanded {} Tryz.checked os 5 .any (fun w args=>(Rows.recordDropsSpec.pre enc Tryz.prog Tryz.f5 [] false w args∧laidMetH Tryz.prog Rows.recordDropsRow.laid w)∧sizedMet enc Tryz.prog Tryz.f5 (OpenSpec.ofChange Rows.recordDropsSpec) false w args) (Rows.recordDropsSpec.post enc Tryz.prog Tryz.f5 false true false false):=by
 refine returns_shaped (C:=Tryz.checked) (X:=fun w _=>laidMetH Tryz.prog Rows.recordDropsRow.laid w) (fun _ _ _ hh h=>h.of_heap hh) Tryz.own started (by kernel_rfl) Tryz.func5
  (ChangeSpec.witness_shaped (enc:=enc) (C:=Tryz.checked) (os:=os) (X:=fun w _=>laidMetH Tryz.prog Rows.recordDropsRow.laid w) false (World.laidAll Tryz.prog os Rows.recordDropsRow.laid) #[nilRec,.int .i64 0,nilAtt] 8 (World.laidAll_os _ _ _)
   (World.shaped_of_ZipB (by kernel_rfl) (by kernel_rfl)) (by kernel_rfl) (by kernel_rfl) (by kernel_rfl)
   (by rw [MakeChecks.laidMetH_plain _ _ _ (by kernel_rfl)];exact laidMet_laidAll _ (by kernel_rfl) (by kernel_rfl))) ?_
 intro W base args ds gs before hval0 hW hL hsh
 have hval:∀ (j:Nat) t v,Tryz.f5.params[j]?=some t→args[j]?=some v→Value.okWide Tryz.prog W .any base t v:=hval0
 have hW':=hW
 obtain ⟨p,q,hA0,hV,rfl,hfz,hnd⟩:=hW
 have hA:DataW.TrodAll enc Tryz.prog W 0 (fun _=>true) true Tryz.f5.params.toList args.toList ds p:=hA0
 obtain ⟨rfl,rfl⟩:=trodVars_none hV
 obtain ⟨avs,h1,h2,h3,h4⟩:=args_data (m:=7) hA (fun j t v a b=>hval j t v (by simpa using a) (by simpa using b)) (by
  have:Tryz.f5.params.toList.all (datT Tryz.prog 7)=true:=by kernel_rfl
  exact fun t ht=>List.all_eq_true.1 this t ht)
 rw [Tryz.params5] at h3
 match avs,h3 with
 | [b0,b1,b2],h3=>
  obtain ⟨k0,k1,k2,_⟩:=h3
  obtain ⟨r,rfl,hr⟩:=okA_rec (m:=0) k0
  obtain ⟨n,rfl,hn⟩:=okA_intI (m:=6) k1
  obtain ⟨a,rfl,ha⟩:=okA_att (m:=2) k2
  have hgl:GlobOK (allF W) GF:=glob9 hL
  have hq:=qc9L (drops_v (G:=GF) r (fun a ha=>⟨(hr.at' a ha).nm,(hr.at' a ha).va⟩) hr.ln n a ⟨ha.nm,ha.va⟩)
  refine (law_calls hq hgl ⟨by simpa using h1,fun i av v a b=>h2 i av v a (by simpa using b)⟩).mono fun e W' ⟨he,hb⟩=>?_
  subst he
  rw [Tryz.params5] at h4
  match ds,h4 with
  | [d0,d1,d2],_=>
   exact ⟨_,rfl,post_true (tb:=4) Tryz.laidOut (by
    have:Tryz.f5.params.toList.all (fun t=>Tryz.prog.readableRec t&&decide (t < Tryz.prog.types.size))=true:=by kernel_rfl
    intro t ht
    have:=List.all_eq_true.1 this t ht
    rw [Bool.and_eq_true,decide_eq_true_eq] at this
    exact this) rfl rfl Tryz.underlying4 hW' rfl hb⟩
theorem and_t {a b:Bool} (h1:a=true) (h2:b=true):(a&&b)=true:=by rw [h1,h2];rfl
theorem rdj0:(Rows.recordDropsRow.wf (OpenSpec.ofChange Rows.recordDropsSpec))=true:=by kernel_rfl
theorem rdj1:(laidOutB Tryz.pinned.checked.prog)=true:=by kernel_rfl
theorem rdj2:(mapsRowed Tryz.pinned.checked.prog)=true:=by kernel_rfl
theorem rdj3:(Tryz.f5.params.all (Tryz.pinned.checked.prog.readableRec ·))=true:=by kernel_rfl
theorem rdj4:(namedTie Tryz.pinned.checked.prog Rows.recordDropsRow.named Rows.recordDropsSpec.vars)=true:=by kernel_rfl
theorem rdj5:((Rows.recordDropsRow.stops==[]))=true:=by kernel_rfl
theorem rdj6:((Tryz.pinned.checked.prog.stops==[]))=true:=by kernel_rfl
theorem rdj7:((Rows.recordDropsRow.knobs==[]))=true:=by kernel_rfl
theorem rdj8:((Tryz.pinned.checked.prog.stopKnobs==[]))=true:=by kernel_rfl
theorem rdj9:((Rows.recordDropsRow.inPlace==Tryz.pinned.checked.prog.inPlace 5))=true:=by kernel_rfl
theorem rdj10:((Rows.recordDropsRow.unfollowed==Tryz.pinned.checked.prog.unfollowed 5))=true:=by kernel_rfl
theorem rdj11:((Rows.recordDropsRow.recurses==Tryz.pinned.checked.prog.recurses 5))=true:=by kernel_rfl
theorem rdj12:((Rows.recordDropsRow.named==Tryz.pinned.checked.prog.varsNamed 5))=true:=by kernel_rfl
theorem rdj13:((Rows.recordDropsRow.maps==(Tryz.f5.params.toList++Rows.recordDropsSpec.plain.varTypes Tryz.pinned.checked.prog).any (Tryz.pinned.checked.prog.mapsRec ·)))=true:=by kernel_rfl
theorem rdj14:((Rows.recordDropsRow.ifaces==(Tryz.f5.params.toList++Rows.recordDropsSpec.plain.varTypes Tryz.pinned.checked.prog).any (Tryz.pinned.checked.prog.ifacesRec ·)))=true:=by kernel_rfl
theorem rdj15:((Rows.recordDropsRow.mapsOut==Tryz.pinned.checked.prog.mapsAmong Tryz.f5.resultTypes.toList))=true:=by kernel_rfl
theorem rdj16:((Rows.recordDropsRow.loops==(Tryz.f5.params.toList++Rows.recordDropsSpec.plain.varTypes Tryz.pinned.checked.prog).any (Tryz.pinned.checked.prog.loopsFrom ·)))=true:=by kernel_rfl
theorem rdj17:((Rows.recordDropsRow.wideKeys==(Tryz.f5.params.toList++Rows.recordDropsSpec.plain.varTypes Tryz.pinned.checked.prog++Tryz.f5.resultTypes.toList).any (Tryz.pinned.checked.prog.wideKeysFrom ·)))=true:=by kernel_rfl
theorem rdj18:(Rows.recordDropsSpec.vars.all (Tryz.pinned.checked.prog.varReadable ·))=true:=by kernel_rfl
theorem rdj19:(Tryz.f5.resultTypes.all (fun t=>Tryz.pinned.checked.prog.readableRec t&&decide (t < Tryz.pinned.checked.prog.types.size)))=true:=by kernel_rfl
theorem rdj20:((Rows.recordDropsRow.ifacesOut==Tryz.f5.resultTypes.toList.any (Tryz.pinned.checked.prog.ifacesRec ·)))=true:=by kernel_rfl
theorem rdj21:((Rows.recordDropsRow.loopsOut==Tryz.f5.resultTypes.toList.any (Tryz.pinned.checked.prog.loopsFrom ·)))=true:=by kernel_rfl
theorem rdj22:((Rows.recordDropsRow.plainKeys==Tryz.pinned.checked.prog.plainKeys))=true:=by kernel_rfl
theorem rdj23:(Rows.recordDropsRow.shortTexts.isNone)=true:=by kernel_rfl
theorem rdj24:(Tryz.pinned.checked.prog.stopsHeard)=true:=by kernel_rfl
theorem rdj25:(Tryz.pinned.checked.prog.mayEnter)=true:=by kernel_rfl
theorem rdj26:((Rows.recordDropsRow.lifted==Tryz.pinned.checked.prog.liftsFinal))=true:=by kernel_rfl
theorem rdj27:((Tryz.pinned.checked.prog.make==some Rows.recordDropsRow.make))=true:=by kernel_rfl
theorem rdj28:((Rows.recordDropsRow.kinds==(if Rows.recordDropsRow.domain.isEmpty then [] else Tryz.f5.params.toList.map fun t=>match Tryz.pinned.checked.prog.underlying t with | some (.int k)=>some k | _=>none)))=true:=by kernel_rfl
theorem rdj29:((Rows.recordDropsRow.pinned==Rows.recordDropsRow.pinnedBy))=true:=by kernel_rfl
theorem rdj30:((Rows.recordDropsRow.veiled==(Tryz.f5.params.toList++Rows.recordDropsSpec.plain.varTypes Tryz.pinned.checked.prog++Tryz.f5.resultTypes.toList).any (Tryz.pinned.checked.prog.veiledRec ·)))=true:=by kernel_rfl
theorem rdj31:(Rows.recordDropsRow.veiledFits Tryz.pinned.checked.prog Tryz.f5.params.toList (Tryz.f5.params.toList++Rows.recordDropsSpec.plain.varTypes Tryz.pinned.checked.prog++Tryz.f5.resultTypes.toList))=true:=by kernel_rfl
theorem rd_facts:joinedFacts Tryz.pinned.checked.prog 5 Tryz.f5 Rows.recordDropsSpec Rows.recordDropsRow=true:=(and_t (and_t (and_t (and_t (and_t (and_t (and_t (and_t (and_t (and_t (and_t (and_t (and_t (and_t (and_t (and_t (and_t (and_t (and_t (and_t (and_t (and_t (and_t (and_t (and_t (and_t (and_t (and_t (and_t (and_t (and_t rdj0 rdj1) rdj2) rdj3) rdj4) rdj5) rdj6) rdj7) rdj8) rdj9) rdj10) rdj11) rdj12) rdj13) rdj14) rdj15) rdj16) rdj17) rdj18) rdj19) rdj20) rdj21) rdj22) rdj23) rdj24) rdj25) rdj26) rdj27) rdj28) rdj29) rdj30) rdj31)
theorem recordDrops_said:Rows.RecordDropsSaid:=
 OpenClaim.holds_of_wide 5 Tryz.f5 rfl rfl rfl rfl rfl rfl rfl ⟨rfl,rfl,rfl,rfl,rfl⟩ rfl rfl rfl rfl rfl (by kernel_rfl) Tryz.func5 rd_facts
  (of_decide_eq_true (by kernel_rfl)) (by unfold Func.isWrapper;first | (rw [if_pos (by decide +kernel)];kernel_rfl) | (rw [if_neg (by decide +kernel)];exact ⟨rfl,rfl⟩))
  (fun os started H enc _=>recordDrops_lifted os started H enc)
theorem recordDrops_plain (f:FuncId) (fn:Func) (hf:Tryz.pinned.checked.prog.funcNamed "depository/depositorylaw09.RecordDrops"=some f) (hfn:Tryz.pinned.checked.prog.funcs[f]?=some fn):
  true=Tryz.pinned.checked.prog.looks []∧∀ (j:Nat) t,fn.params[j]?=some t→Tryz.pinned.checked.prog.wantsStandIn t=false:=by
 obtain rfl:f=5:=Option.some.inj ((show Tryz.prog.funcNamed "depository/depositorylaw09.RecordDrops"=some 5 by kernel_rfl).symm.trans hf) |>.symm
 obtain rfl:fn=Tryz.f5:=(Option.some.inj (Tryz.func5.symm.trans hfn)).symm
 refine ⟨by kernel_rfl,fun j t ht=>?_⟩
 have hall:Tryz.f5.params.toList.all (fun t=>!Tryz.prog.wantsStandIn t)=true:=by kernel_rfl
 have:=List.all_eq_true.1 hall t (by simpa using Array.mem_of_getElem? ht)
 have e:Tryz.prog.wantsStandIn t=false:=by simpa using this
 exact e
theorem recordDrops_holds:Rows.RecordDropsCardSaid:=
 Claim7.holds_tied_plain_at .later [] _ _ _ _ recordDrops_said (fun _ h=>by cases h) (by kernel_rfl) (fun _ h=>by cases h) recordDrops_row_tie rfl ⟨rfl,rfl⟩ (by kernel_rfl) rfl recordDrops_plain (by kernel_rfl)
end
end Go.Proofs.YtcplecjhmnblpaaGreatDoor
