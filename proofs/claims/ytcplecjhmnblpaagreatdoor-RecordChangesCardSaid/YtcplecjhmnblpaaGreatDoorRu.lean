/- RecordChanges returns true for every input, and each argument reads afterwards as it read before; the variables that the row lists are laid by the program's text. Conditions: none. -/
import Derived.Test.YtcplecjhmnblpaaGreatDoorRs
namespace Go.Proofs.YtcplecjhmnblpaaGreatDoor
set_option linter.unusedSimpArgs false
set_option linter.unusedVariables false
set_option maxRecDepth 4000
section
variable {G:Glob} {bb:Bool}
theorem bsP_ok9:CallOK Tryz.prog GF (bsP GF true):=bsP_ok fun _=>awake_q9 GF_9
theorem qc9P {f:FuncId} {args:List AV} {r:AV} (h:EV GF (Tb (bsP GF true)) f args []=some (r,[])):QC Tryz.prog GF f args r:=EV_qc (Tb_ok (bsP GF true)) bsP_ok9 h
abbrev nilAtt:Value:=.agg #[.int .i64 0,.string ⟨#[]⟩,.int .i64 0,.int .i64 0,.bool false,.string ⟨#[]⟩,.int .i64 0,.slice none 0 0,.int .i64 0,.int .i64 0,.int .i64 0]
end
section
variable {G:Glob} {bb:Bool}
theorem repE_e {r:Rec} {a:Att} (h:recE r=0):repE r a=if idI r.ats a.id < 0 then 6 else errA a:=by
 unfold repE fndE
 rw [if_neg (not_not_intro h)]
 by_cases c:idI r.ats a.id < 0
 ·rw [if_pos c,decide_eq_false (by omega),un_f,firstE_n _ _ (by decide)]
 ·rw [if_neg c,decide_eq_true (by omega),un_t,firstE_0]
  by_cases k:errA a=0
  ·rw [k];rfl
  ·rw [firstE_n _ _ k]
set_option maxHeartbeats 8000000 in
theorem replR_v (r:Rec) (hW:r.W) (h:recE r=0) (a:Att) (haW:a.W):EV G (TP G) 31 [r.v,a.v] []=some (rcv (repV r a),[]):=by
 refine EV_run (h:=h31) rfl ?_
 have hO:=recE_ok h
 have hln:=hO.ln
 have q1:=tp (indexOf_v (G:=G) (bb:=false) r.ats a.id (by omega))
 have q2:=tp (up (errR_v (G:=G) (bb:=false) a haW))
 have q3:=tp (up (key_v (G:=G) (bb:=false) a))
 unfold repV
 rw [repE_e h]
 by_cases c1:idI r.ats a.id < 0
 ·rw [if_pos c1,if_pos (by decide)]
  generalize idI r.ats a.id=i at *
  simp (disch:=omega) only [go_sem,h31c,q1,eq_true c1,Rec.nil]
  all_goals rfl
 ·rw [if_neg c1]
  by_cases c2:errA a=0
  ·rw [if_neg (not_not_intro c2)]
   rw [c2] at q2
   have hi:0≤idI r.ats a.id:=by omega
   have hlt:repK r a < r.ats.length:=(idxV_at hi).1
   have hk:((repK r a:Nat):Int)=idI r.ats a.id:=by unfold repK;omega
   rw [← hk] at q1
   have c1':¬ ((repK r a:Nat):Int) < 0:=by omega
   unfold repO
   clear hk hi c1
   generalize repK r a=k at *
   have e:=ixA r.ats k hlt
   have hold:=hW.at' _ (List.getElem_mem hlt)
   have q4:=tp (up (key_v (G:=G) (bb:=false) r.ats[k]))
   have eS:=str_inj haW.nm hold.nm
   have q5:=copyRP_v (G:=G) r hW
   have q6:=tp (up (copyA_v (G:=G) (bb:=false) a (Nat.le_trans haW.rl (by decide))))
   have hWn:∀ x∈r.ats.set k a,x.W:=fun x hx=>by
    rcases List.mem_or_eq_of_mem_set hx with hx | hx
    ·exact hW.at' x hx
    ·rw [hx];exact haW
   have hEn:∀ x∈r.ats.set k a,errA x=0:=fun x hx=>by
    rcases List.mem_or_eq_of_mem_set hx with hx | hx
    ·exact hO.errs.1 x hx
    ·rw [hx];exact c2
   have q8:=tp (needR_v (G:=G) (bb:=false) (r.ats.set k a) hWn hEn (by rw [List.length_set];omega))
   rw [List.map_set] at q8
   have tk:∀ x:List DC,List.take r.ats.length ((List.map Att.e r.ats).set k x)=(List.map Att.e r.ats).set k x:=fun x=>List.take_of_length_le (by rw [List.length_set,List.length_map];exact Nat.le_refl _)
   rw [getDA r.ats k hlt,keyB_f]
   generalize r.ats[k]=b at *
   have ez:∀ z:Int,(z > 440)=(440 < z):=fun z=>rfl
   by_cases k1:a.ty=b.ty
   ·by_cases k2:a.nm=b.nm
    ·by_cases k3:a.fi=b.fi
     ·rw [if_neg (by simp [k1,k2,k3])]
      rw [eq_true k2] at eS
      by_cases c3:needA (setAts r (r.ats.set k a)).ats≤440
      ·have c4:needA (r.ats.set k a)≤440:=c3
       have d3:¬ 440 < needA (r.ats.set k a):=by omega
       rw [if_pos c3]
       simp only [setAts]
       simp (disch:=omega) only [go_sem,h31c,q1,q2,q3,q4,q5,q6,q8,e,Att.e,c1',ez,d3,eq_true k1,eS,beqS,eq_true k3,List.length_map,List.length_set,Nat.le_refl,tk,List.map_set]
       all_goals simp only [rcv,Rec.t,Rec.c,List.map_set]
      ·have c4:¬ needA (r.ats.set k a)≤440:=c3
       have d3:440 < needA (r.ats.set k a):=by omega
       rw [if_neg c3]
       simp (disch:=omega) only [go_sem,h31c,q1,q2,q3,q4,q5,q6,q8,e,Att.e,c1',ez,eq_true d3,eq_true k1,eS,beqS,eq_true k3,List.length_map,List.length_set,Nat.le_refl,tk,List.map_set,Rec.nil]
       all_goals rfl
     ·rw [if_pos (by simp [k3])]
      rw [eq_true k2] at eS
      simp (disch:=omega) only [go_sem,h31c,q1,q2,q3,q4,e,Att.e,c1',eq_true k1,eS,beqS,k3,List.length_map,Rec.nil]
      all_goals rfl
    ·rw [if_pos (by simp [k2])]
     rw [eq_false k2] at eS
     simp (disch:=omega) only [go_sem,h31c,q1,q2,q3,q4,e,Att.e,c1',eq_true k1,eS,beqS,List.length_map,Rec.nil]
     all_goals rfl
   ·rw [if_pos (by simp [k1])]
    simp (disch:=omega) only [go_sem,h31c,q1,q2,q3,q4,e,Att.e,c1',k1,List.length_map,Rec.nil]
    all_goals rfl
  ·rw [if_pos c2]
   generalize errA a=ea at *
   generalize idI r.ats a.id=i at *
   simp (disch:=omega) only [go_sem,h31c,q1,q2,c1,c2,Rec.nil]
   all_goals rfl
end
section
variable {G:Glob} {bb:Bool}
theorem put_ok (r:Rec) (hW:r.W) (a:Att) (haW:a.W):ResOk (putV r a):=by
 unfold putV
 split
 ·exact ⟨Rec.nil_W,fun _=>rfl⟩
 ·rename_i c1
  split
  ·exact ⟨Rec.nil_W,fun _=>rfl⟩
  ·split
   ·refine ⟨⟨fun x hx=>?_, ?_⟩,fun h=>absurd rfl h⟩
    ·have hx':x∈srtA (r.ats++[setId a r.nx]):=hx
     rw [srtA_mem] at hx'
     rcases List.mem_append.1 hx' with hx | hx
     ·exact hW.at' x hx
     ·rw [List.mem_singleton.1 hx];exact setId_W haW
    ·show (srtA (r.ats++[setId a r.nx])).length≤900
     rw [srtA_len,List.length_append,List.length_singleton]
     have h1:=Classical.not_not.1 c1
     have h2:recE r=0:=by
      unfold putE1 at h1
      exact (firstE3 h1).1
     have:=(recE_ok h2).ln
     omega
   ·exact ⟨Rec.nil_W,fun _=>rfl⟩
theorem rep_ok (r:Rec) (hW:r.W) (a:Att) (haW:a.W):ResOk (repV r a):=by
 unfold repV
 split
 ·exact ⟨Rec.nil_W,fun _=>rfl⟩
 ·split
  ·exact ⟨Rec.nil_W,fun _=>rfl⟩
  ·split
   ·refine ⟨⟨fun x hx=>?_, ?_⟩,fun h=>absurd rfl h⟩
    ·have hx':x∈r.ats.set (repK r a) a:=hx
     rcases List.mem_or_eq_of_mem_set hx' with hx | hx
     ·exact hW.at' x hx
     ·rw [hx];exact haW
    ·show (r.ats.set (repK r a) a).length≤900
     rw [List.length_set];exact hW.ln
   ·exact ⟨Rec.nil_W,fun _=>rfl⟩
theorem fewB_W {a:Att} (h:fewB a=true) (hB:Byts a.nm∧Byts a.va):a.W:=by
 simp only [fewB,Bool.and_eq_true,decide_eq_true_eq] at h
 exact ⟨hB.1,hB.2,by omega,by omega,by omega⟩
theorem put_err {r:Rec} {a:Att} (h:recE r≠0):putV r a=(.nil,recE r):=by
 unfold putV putE1
 rw [firstE_n _ _ h,if_pos h]
theorem rep_err {r:Rec} {a:Att} (h:recE r≠0):repV r a=(.nil,recE r):=by
 unfold repV repE fndE
 rw [if_pos h,firstE_n _ _ h,if_pos h]
theorem aw9P_v:EV G (Tb (bsP G true)) 11 [] []=some (vb true,[]):=upP aw9_v
set_option maxHeartbeats 8000000 in
theorem changes_v (r:Rec) (hB:∀ a∈r.ats,Byts a.nm∧Byts a.va) (hl:r.ats.length≤9223372036854775807) (a:Att) (haB:Byts a.nm∧Byts a.va):EV G (Tb (bsP G true)) 4 [r.v,a.v] []=some (vb true,[]):=by
 have qw:=aw9P_v (G:=G)
 have q0:=upP (few9_v (G:=G) (bb:=true) r hl)
 have q00:=upP (fewIn_v (G:=G) (bb:=true) a)
 cases c0:fewR r with
 | false=>
  rw [c0] at q0
  refine EV_run rfl ?_
  simp (disch:=omega) only [go_sem,h4c,qw,q0]
 | true=>
  rw [c0] at q0
  cases c00:fewB a with
  | false=>
   rw [c00] at q00
   refine EV_run rfl ?_
   simp (disch:=omega) only [go_sem,h4c,qw,q0,q00]
  | true=>
   rw [c00] at q00
   have hW:=fewR_W c0 hB
   have haW:=fewB_W c00 haB
   have q1:=upP (copyRec_v (G:=G) (bb:=true) r hW)
   have q2:=upP (up (copyA_v (G:=G) (bb:=true) a (Nat.le_trans haW.rl (by decide))))
   have q3:=upP (putIn_v (G:=G) (bb:=true) r hW a haW)
   have q4:=upP (replIn_v (G:=G) (bb:=true) r hW a haW)
   have q5:=upP (errR9_v (G:=G) (bb:=true) r hW)
   have hp:=put_ok r hW a haW
   have hr:=rep_ok r hW a haW
   by_cases c1:recE r=0
   ·have q6:=inP (b:=true) (putR_v (G:=G) r hW c1 a haW) (.inl rfl)
    have q7:=inP (b:=true) (replR_v (G:=G) r hW c1 a haW) (.inr (.inl rfl))
    have s1:=upP (same_v (G:=G) (bb:=true) (putV r a) hp (putV r a).1 (fun _=>rfl))
    have s2:=upP (same_v (G:=G) (bb:=true) (repV r a) hr (repV r a).1 (fun _=>rfl))
    rw [c1] at q5
    generalize putV r a=p at *
    generalize repV r a=y at *
    obtain ⟨p1,p2⟩:=p
    obtain ⟨y1,y2⟩:=y
    dsimp only at s1 s2
    refine EV_run rfl ?_
    simp (disch:=omega) only [go_sem,h4c,qw,q0,q00,q1,q2,q3,q4,q5,q6,q7,s1,s2]
   ·rw [put_err c1] at q3
    rw [rep_err c1] at q4
    have s1:=upP (same_err (G:=G) (bb:=true) .nil (recE r) c1)
    generalize recE r=d at *
    simp only [Rec.v,Rec.c,Rec.nil,List.map_nil] at s1
    simp only [Rec.t,Rec.nil,List.map_nil] at q3 q4
    refine EV_run rfl ?_
    simp (disch:=omega) only [go_sem,h4c,qw,q0,q00,q1,q2,q3,q4,q5,c1,s1]
end
section
variable {G:Glob} {bb:Bool}
open Go.ChangeShapes Go.WideShapes Go.ChangeAt Go.RowKit
set_option maxRecDepth 100000 in
theorem recordChanges_lifted (os:Os) (started:os.Started) (H:Type) (enc:TypeId × Value→H):
  ReturnsInHanded {} Tryz.checked os 4 .any (fun w args=>(Rows.recordChangesSpec.pre enc Tryz.prog Tryz.f4 [] false w args∧laidMetH Tryz.prog Rows.recordChangesRow.laid w)∧sizedMet enc Tryz.prog Tryz.f4 (OpenSpec.ofChange Rows.recordChangesSpec) false w args) (Rows.recordChangesSpec.post enc Tryz.prog Tryz.f4 false true false false):=by
 refine returns_shaped (C:=Tryz.checked) (X:=fun w _=>laidMetH Tryz.prog Rows.recordChangesRow.laid w) (fun _ _ _ hh h=>h.of_heap hh) Tryz.own started (by kernel_rfl) Tryz.func4
  (ChangeSpec.witness_shaped (enc:=enc) (C:=Tryz.checked) (os:=os) (X:=fun w _=>laidMetH Tryz.prog Rows.recordChangesRow.laid w) false (World.laidAll Tryz.prog os Rows.recordChangesRow.laid) #[nilRec,nilAtt] 8 (World.laidAll_os _ _ _)
   (World.shaped_of_ZipB (by kernel_rfl) (by kernel_rfl)) (by kernel_rfl) (by kernel_rfl) (by kernel_rfl)
   (by rw [MakeChecks.laidMetH_plain _ _ _ (by kernel_rfl)];exact laidMet_laidAll _ (by kernel_rfl) (by kernel_rfl))) ?_
 intro W base args ds gs before hval0 hW hL hsh
 have hval:∀ (j:Nat) t v,Tryz.f4.params[j]?=some t→args[j]?=some v→Value.okWide Tryz.prog W .any base t v:=hval0
 have hW':=hW
 obtain ⟨p,q,hA0,hV,rfl,hfz,hnd⟩:=hW
 have hA:DataW.TrodAll enc Tryz.prog W 0 (fun _=>true) true Tryz.f4.params.toList args.toList ds p:=hA0
 obtain ⟨rfl,rfl⟩:=trodVars_none hV
 obtain ⟨avs,h1,h2,h3,h4⟩:=args_data (m:=7) hA (fun j t v a b=>hval j t v (by simpa using a) (by simpa using b)) (by
  have:Tryz.f4.params.toList.all (datT Tryz.prog 7)=true:=by kernel_rfl
  exact fun t ht=>List.all_eq_true.1 this t ht)
 rw [Tryz.params4] at h3
 match avs,h3 with
 | [b0,b1],h3=>
  obtain ⟨k0,k1,_⟩:=h3
  obtain ⟨r,rfl,hr⟩:=okA_rec (m:=0) k0
  obtain ⟨a,rfl,ha⟩:=okA_att (m:=2) k1
  have hgl:GlobOK (allF W) GF:=glob9 hL
  have hq:=qc9P (changes_v (G:=GF) r (fun a ha=>⟨(hr.at' a ha).nm,(hr.at' a ha).va⟩) hr.ln a ⟨ha.nm,ha.va⟩)
  refine (law_calls hq hgl ⟨by simpa using h1,fun i av v a b=>h2 i av v a (by simpa using b)⟩).mono fun e W' ⟨he,hb⟩=>?_
  subst he
  rw [Tryz.params4] at h4
  match ds,h4 with
  | [d0,d1],_=>
   exact ⟨_,rfl,post_true (tb:=4) Tryz.laidOut (by
    have:Tryz.f4.params.toList.all (fun t=>Tryz.prog.readableRec t&&decide (t < Tryz.prog.types.size))=true:=by kernel_rfl
    intro t ht
    have:=List.all_eq_true.1 this t ht
    rw [Bool.and_eq_true,decide_eq_true_eq] at this
    exact this) rfl rfl Tryz.underlying4 hW' rfl hb⟩
theorem and_t {a b:Bool} (h1:a=true) (h2:b=true):(a&&b)=true:=by rw [h1,h2];rfl
theorem rgj0:(Rows.recordChangesRow.wf (OpenSpec.ofChange Rows.recordChangesSpec))=true:=by kernel_rfl
theorem rgj1:(laidOutB Tryz.pinned.checked.prog)=true:=by kernel_rfl
theorem rgj2:(mapsRowed Tryz.pinned.checked.prog)=true:=by kernel_rfl
theorem rgj3:(Tryz.f4.params.all (Tryz.pinned.checked.prog.readableRec ·))=true:=by kernel_rfl
theorem rgj4:(namedTie Tryz.pinned.checked.prog Rows.recordChangesRow.named Rows.recordChangesSpec.vars)=true:=by kernel_rfl
theorem rgj5:((Rows.recordChangesRow.stops==[]))=true:=by kernel_rfl
theorem rgj6:((Tryz.pinned.checked.prog.stops==[]))=true:=by kernel_rfl
theorem rgj7:((Rows.recordChangesRow.knobs==[]))=true:=by kernel_rfl
theorem rgj8:((Tryz.pinned.checked.prog.stopKnobs==[]))=true:=by kernel_rfl
theorem rgj9:((Rows.recordChangesRow.inPlace==Tryz.pinned.checked.prog.inPlace 4))=true:=by kernel_rfl
theorem rgj10:((Rows.recordChangesRow.unfollowed==Tryz.pinned.checked.prog.unfollowed 4))=true:=by kernel_rfl
theorem rgj11:((Rows.recordChangesRow.recurses==Tryz.pinned.checked.prog.recurses 4))=true:=by kernel_rfl
theorem rgj12:((Rows.recordChangesRow.named==Tryz.pinned.checked.prog.varsNamed 4))=true:=by kernel_rfl
theorem rgj13:((Rows.recordChangesRow.maps==(Tryz.f4.params.toList++Rows.recordChangesSpec.plain.varTypes Tryz.pinned.checked.prog).any (Tryz.pinned.checked.prog.mapsRec ·)))=true:=by kernel_rfl
theorem rgj14:((Rows.recordChangesRow.ifaces==(Tryz.f4.params.toList++Rows.recordChangesSpec.plain.varTypes Tryz.pinned.checked.prog).any (Tryz.pinned.checked.prog.ifacesRec ·)))=true:=by kernel_rfl
theorem rgj15:((Rows.recordChangesRow.mapsOut==Tryz.pinned.checked.prog.mapsAmong Tryz.f4.resultTypes.toList))=true:=by kernel_rfl
theorem rgj16:((Rows.recordChangesRow.loops==(Tryz.f4.params.toList++Rows.recordChangesSpec.plain.varTypes Tryz.pinned.checked.prog).any (Tryz.pinned.checked.prog.loopsFrom ·)))=true:=by kernel_rfl
theorem rgj17:((Rows.recordChangesRow.wideKeys==(Tryz.f4.params.toList++Rows.recordChangesSpec.plain.varTypes Tryz.pinned.checked.prog++Tryz.f4.resultTypes.toList).any (Tryz.pinned.checked.prog.wideKeysFrom ·)))=true:=by kernel_rfl
theorem rgj18:(Rows.recordChangesSpec.vars.all (Tryz.pinned.checked.prog.varReadable ·))=true:=by kernel_rfl
theorem rgj19:(Tryz.f4.resultTypes.all (fun t=>Tryz.pinned.checked.prog.readableRec t&&decide (t < Tryz.pinned.checked.prog.types.size)))=true:=by kernel_rfl
theorem rgj20:((Rows.recordChangesRow.ifacesOut==Tryz.f4.resultTypes.toList.any (Tryz.pinned.checked.prog.ifacesRec ·)))=true:=by kernel_rfl
theorem rgj21:((Rows.recordChangesRow.loopsOut==Tryz.f4.resultTypes.toList.any (Tryz.pinned.checked.prog.loopsFrom ·)))=true:=by kernel_rfl
theorem rgj22:((Rows.recordChangesRow.plainKeys==Tryz.pinned.checked.prog.plainKeys))=true:=by kernel_rfl
theorem rgj23:(Rows.recordChangesRow.shortTexts.isNone)=true:=by kernel_rfl
theorem rgj24:(Tryz.pinned.checked.prog.stopsHeard)=true:=by kernel_rfl
theorem rgj25:(Tryz.pinned.checked.prog.mayEnter)=true:=by kernel_rfl
theorem rgj26:((Rows.recordChangesRow.lifted==Tryz.pinned.checked.prog.liftsFinal))=true:=by kernel_rfl
theorem rgj27:((Tryz.pinned.checked.prog.make==some Rows.recordChangesRow.make))=true:=by kernel_rfl
theorem rgj28:((Rows.recordChangesRow.kinds==(if Rows.recordChangesRow.domain.isEmpty then [] else Tryz.f4.params.toList.map fun t=>match Tryz.pinned.checked.prog.underlying t with | some (.int k)=>some k | _=>none)))=true:=by kernel_rfl
theorem rgj29:((Rows.recordChangesRow.pinned==Rows.recordChangesRow.pinnedBy))=true:=by kernel_rfl
theorem rgj30:((Rows.recordChangesRow.veiled==(Tryz.f4.params.toList++Rows.recordChangesSpec.plain.varTypes Tryz.pinned.checked.prog++Tryz.f4.resultTypes.toList).any (Tryz.pinned.checked.prog.veiledRec ·)))=true:=by kernel_rfl
theorem rgj31:(Rows.recordChangesRow.veiledFits Tryz.pinned.checked.prog Tryz.f4.params.toList (Tryz.f4.params.toList++Rows.recordChangesSpec.plain.varTypes Tryz.pinned.checked.prog++Tryz.f4.resultTypes.toList))=true:=by kernel_rfl
theorem rg_facts:joinedFacts Tryz.pinned.checked.prog 4 Tryz.f4 Rows.recordChangesSpec Rows.recordChangesRow=true:=(and_t (and_t (and_t (and_t (and_t (and_t (and_t (and_t (and_t (and_t (and_t (and_t (and_t (and_t (and_t (and_t (and_t (and_t (and_t (and_t (and_t (and_t (and_t (and_t (and_t (and_t (and_t (and_t (and_t (and_t (and_t rgj0 rgj1) rgj2) rgj3) rgj4) rgj5) rgj6) rgj7) rgj8) rgj9) rgj10) rgj11) rgj12) rgj13) rgj14) rgj15) rgj16) rgj17) rgj18) rgj19) rgj20) rgj21) rgj22) rgj23) rgj24) rgj25) rgj26) rgj27) rgj28) rgj29) rgj30) rgj31)
theorem recordChanges_said:Rows.RecordChangesSaid:=
 OpenClaim.holds_of_wide 4 Tryz.f4 rfl rfl rfl rfl rfl rfl rfl ⟨rfl,rfl,rfl,rfl,rfl⟩ rfl rfl rfl rfl rfl (by kernel_rfl) Tryz.func4 rg_facts
  (of_decide_eq_true (by kernel_rfl)) (by unfold Func.isWrapper;first | (rw [if_pos (by decide +kernel)];kernel_rfl) | (rw [if_neg (by decide +kernel)];exact ⟨rfl,rfl⟩))
  (fun os started H enc _=>recordChanges_lifted os started H enc)
theorem recordChanges_plain (f:FuncId) (fn:Func) (hf:Tryz.pinned.checked.prog.funcNamed "depository/depositorylaw09.RecordChanges"=some f) (hfn:Tryz.pinned.checked.prog.funcs[f]?=some fn):
  true=Tryz.pinned.checked.prog.looks []∧∀ (j:Nat) t,fn.params[j]?=some t→Tryz.pinned.checked.prog.wantsStandIn t=false:=by
 obtain rfl:f=4:=Option.some.inj ((show Tryz.prog.funcNamed "depository/depositorylaw09.RecordChanges"=some 4 by kernel_rfl).symm.trans hf) |>.symm
 obtain rfl:fn=Tryz.f4:=(Option.some.inj (Tryz.func4.symm.trans hfn)).symm
 refine ⟨by kernel_rfl,fun j t ht=>?_⟩
 have hall:Tryz.f4.params.toList.all (fun t=>!Tryz.prog.wantsStandIn t)=true:=by kernel_rfl
 have:=List.all_eq_true.1 hall t (by simpa using Array.mem_of_getElem? ht)
 have e:Tryz.prog.wantsStandIn t=false:=by simpa using this
 exact e
theorem recordChanges_holds:Rows.RecordChangesCardSaid:=
 Claim7.holds_tied_plain_at .later [] _ _ _ _ recordChanges_said (fun _ h=>by cases h) (by kernel_rfl) (fun _ h=>by cases h) recordChanges_row_tie rfl ⟨rfl,rfl⟩ (by kernel_rfl) rfl recordChanges_plain (by kernel_rfl)
end
end Go.Proofs.YtcplecjhmnblpaaGreatDoor
