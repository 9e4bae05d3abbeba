/- EncodeRecord. Conditions: as each theorem says. -/
import Derived.Test.YtcplecjhmnblpaaGreatDoorSl
import Derived.Test.YtcplecjhmnblpaaGreatDoorUh
import Derived.Test.YtcplecjhmnblpaaGreatDoorSd
namespace Go.Proofs.YtcplecjhmnblpaaGreatDoor
set_option linter.unusedSimpArgs false
set_option linter.unusedVariables false
set_option maxRecDepth 4000
section
variable {G:Glob} {bb:Bool}
theorem setId_W {a:Att} {i:Int} (h:a.W):(setId a i).W:=⟨h.nm,h.va,h.nl,h.vl,h.rl⟩
theorem len32 (l:List Att):((l.length:Int) < 32)=(l.length < 32):=by apply propext;omega
set_option maxHeartbeats 8000000 in
theorem putIn_v (r:Rec) (hW:r.W) (a:Att) (haW:a.W):EV G (Tb (bsS bb)) 26 [r.v,a.v] []=some (rcv (putV r a),[]):=by
 refine EV_run rfl ?_
 have q1:=recordErr_v (G:=G) (bb:=bb) r hW
 have q2:=isUsed_v (G:=G) (bb:=bb) r
 have u:=unless9_v (G:=G) (bb:=bb)
 have q3:=first9_3 (G:=G) (bb:=bb)
 have hok:recE r=0→r.Ok:=recE_ok
 have hb:=setId_W (i:=r.nx) haW
 have q4:=up (checkA_v (G:=G) (bb:=bb) (setId a r.nx) hb)
 have q5:=has_v9 (G:=G) (bb:=bb) r (setId a r.nx) hW hb.nm
 have e5:hasB r (setId a r.nx)=hasB r a:=rfl
 rw [e5] at q5
 unfold putV putE1 putE2
 by_cases c1:firstE [recE r,un (usedB r.fl) 20,un (decide (r.nx < 65535)) 16]=0
 ·rw [if_neg (not_not_intro c1)]
  obtain ⟨z1,z2,z3⟩:=firstE3 c1
  have hO:=hok z1
  have hn:=hO.num.2.2.2.1
  have hln:=hO.ln
  clear hok
  have e3:=len32 r.ats
  by_cases c2:firstE [errA (setId a r.nx),un (!hasB r a) 5,un (decide (r.ats.length < 32)) 8]=0
  ·rw [if_neg (not_not_intro c2)]
   obtain ⟨y1,y2,y3⟩:=firstE3 c2
   have hl:r.ats.length < 32:=by
    have:=un_0 (by decide) y3
    simpa using this
   have q6:=copied9_v (G:=G) (bb:=bb) r hW
   have hs:=put_srt hO y1 hl
   have hWn:∀ x∈r.ats++[setId a r.nx],x.W:=fun x hx=>by
    rcases List.mem_append.1 hx with hx | hx
    ·exact hW.at' x hx
    ·rw [List.mem_singleton.1 hx];exact hb
   have hll:(r.ats++[setId a r.nx]).length=r.ats.length+1:=by simp
   have q7:=sorted_v (G:=G) (bb:=bb) (r.ats++[setId a r.nx]) hWn (by omega)
   rw [if_pos hs,hs] at q7
   have q8:=needed_v (G:=G) (bb:=bb) (srtA (r.ats++[setId a r.nx])) (fun x hx=>hWn x (srtA_mem.1 hx)) (by rw [srtA_len];omega)
   have tk:∀ x:List DC,List.take (r.ats.length+1) (List.map Att.e r.ats++[x])=List.map Att.e r.ats++[x]:=fun x=>List.take_of_length_le (by rw [List.length_append,List.length_map];exact Nat.le_refl _)
   unfold putO
   simp only [List.map_append,List.map_cons,List.map_nil] at q7
   generalize srtA (r.ats++[setId a r.nx])=m at *
   generalize errA (setId a r.nx)=ea at *
   generalize hasB r a=hb' at *
   generalize recE r=re at *
   generalize usedB r.fl=ub at *
   simp only [setId] at q4 q5 q7 ⊢
   generalize needA m=z at *
   by_cases c3:z≤440
   ·have d3:¬ 440 < z:=by omega
    rw [if_pos c3]
    simp (disch:=omega) only [go_sem,h26c,q1,q2,u,q3,q4,q5,q6,q7,q8,eq_true c1,eq_true c2,d3,e3,List.length_map,List.length_append,List.length_cons,List.length_nil,Nat.zero_add,Nat.le_refl,tk]
    all_goals rfl
   ·have d3:440 < z:=by omega
    rw [if_neg c3]
    simp (disch:=omega) only [go_sem,h26c,q1,q2,u,q3,q4,q5,q6,q7,q8,eq_true c1,eq_true c2,eq_true d3,e3,List.length_map,List.length_append,List.length_cons,List.length_nil,Nat.zero_add,Nat.le_refl,tk,Rec.nil]
    rfl
  ·rw [if_pos c2]
   generalize errA (setId a r.nx)=ea at *
   generalize hasB r a=hb' at *
   generalize recE r=re at *
   generalize usedB r.fl=ub at *
   simp only [setId] at q4 q5
   simp (disch:=omega) only [go_sem,h26c,q1,q2,u,q3,q4,q5,eq_true c1,c2,e3,List.length_map,Rec.nil]
   rfl
 ·rw [if_pos c1]
  generalize recE r=re at *
  generalize usedB r.fl=ub at *
  simp (disch:=omega) only [go_sem,h26c,q1,q2,u,q3,c1,Rec.nil]
  rfl
end
section
variable {G:Glob} {bb:Bool}
end
section
variable {G:Glob} {bb:Bool}
theorem withinD_v (n lo hi:Int):EV G (Tb (bs bb)) 157 [vi n,vi lo,vi hi] []=some (vb (decide (lo≤n∧n≤hi)),[]):=by
 refine EV_run rfl ?_
 by_cases h:lo≤n
 all_goals simp (disch:=omega) only [go_sem,h157c]
 all_goals simp [h]
theorem unlessD_v (b:Bool) (e:Int):EV G (Tb (bs bb)) 155 [vb b,vi e] []=some (vi (un b e),[]):=by
 refine EV_run rfl ?_
 cases b
 all_goals simp (disch:=omega) only [go_sem,h155c]
 all_goals rfl
theorem firstD_v (l:List Int) (hl:l.length≤1000):EV G (Tb (bs bb)) 154 [vl (el l)] []=some (vi (firstE l),[]):=by
 refine EV_run rfl ?_
 simp (disch:=omega) only [go_sem,h154c,List.length_map]
 have round:∀ k (hk:k < l.length),¬ l.getD k 0≠0→rnK [5,0,0] 0 (EC (EV G (Tb (bs bb))) G h154l0 ⟨(jk 5 (vl (el l)::vi l.length::vi k::jk 7 [])),[]⟩)=some ⟨(jk 5 (vl (el l)::vi l.length::vi (k+1:Nat)::jk 7 [])),[]⟩:=fun k hk hz=>by
  rw [getD_at l k hk] at hz
  simp (disch:=omega) only [go_sem,h154l0,List.length_map,ci1]
 rcases fstN (fun k=>l.getD k 0≠0) l.length with h | ⟨j,hj,h1,h2⟩
 ·rw [EL_loop (fun k=>⟨(jk 5 (vl (el l)::vi l.length::vi k::jk 7 [])),[]⟩) l.length ?_ ?_]
  ·rw [firstE_none l h]
   simp (disch:=omega) only [go_sem,h154l0]
  ·rfl
  ·exact fun k hk=>round k hk (h k hk)
 ·rw [EL_loop (fun k=>⟨(jk 5 (vl (el l)::vi l.length::vi k::jk 7 [])),[]⟩) j ?_ ?_]
  ·rw [firstE_at l j hj h2 h1]
   rw [getD_at l j hj] at h1
   simp (disch:=omega) only [go_sem,h154l0,List.length_map,ci1]
  ·rfl
  ·exact fun k hk=>round k (by omega) (h2 k hk)
theorem firstD_2 (a b:Int):EV G (Tb (bs bb)) 154 [vl [[ci a],[ci b]]] []=some (vi (firstE [a,b]),[]):=firstD_v [a,b] (by simp)
theorem checkB_v (l:List Int):EV G (Tb (bs bb)) 142 [sv l] []=some (vi (un (decide (l.length=512)) 10),[]):=by
 refine EV_run rfl ?_
 have u:=unlessD_v (G:=G) (bb:=bb)
 have e:((l.length:Int)=512)=(l.length=512):=by apply propext;omega
 simp (disch:=omega) only [go_sem,h142c,u,e]
theorem tail_v (i:Nat) (h:i≤1000):EV G (Tb (bs bb)) 147 [vi i] []=some (vi ((64 * i+62:Nat):Int),[]):=by
 refine EV_run rfl ?_
 have e:((i:Int)+1) * 64 - 2=((64 * i+62:Nat):Int):=by omega
 simp (disch:=omega) only [go_sem,h147c,e]
theorem littleD_v (n:Int) (h:-9223372036854775808≤n∧n≤9223372036854775807):EV G (Tb (bs bb)) 158 [vi n] []=some (sv (sgK n 2),[]):=by
 refine EV_run rfl ?_
 have e:sgK n 2=[n % 256,n / 256 % 256]:=rfl
 rw [e]
 simp (disch:=omega) only [go_sem,h158c,wu8,fdiv256,Int.reduceToNat,Int.reducePow,by1,bytesOf,u8,str,List.map_cons,List.map_nil]
 rfl
theorem byS (n:Int):∀ k,Byts (sgK n k)
 | 0=>fun b hb=>by cases hb
 | k+1=>fun b hb=>by
  rw [sgK,List.mem_append] at hb
  rcases hb with hb | hb
  ·exact byS n k b hb
  ·rw [List.mem_singleton.1 hb];omega
theorem dcC_bl:∀ b:List Int,dcC (List.map by1 b).flatten=b.map yC
 | []=>rfl
 | x::b=>by
  have ih:=dcC_bl b
  rw [List.map_cons,List.flatten_cons,List.map_cons,← ih]
  rfl
theorem bytesD_s (b:List Int) (h:Byts b):bytesD (str b)=List.map by1 b:=by
 show List.map _ (b.map u8)=_
 rw [List.map_map]
 exact List.map_congr_left fun x hx=>by simp only [Function.comp_apply,by1,u8_nat x (h x hx)]
theorem ne_bl {b:List Int} {n:Nat} (h:b.length=n) (hn:0 < n):(List.map by1 b).isEmpty=false:=by
 cases b with
 | nil=>simp at h;omega
 | cons _ _=>rfl
theorem slS_b (l:List Int) (i j:Int) (h:0≤i∧i≤j∧j≤l.length):slSV (sv l) (some (vi i)) (some (vi j))=some (sv ((l.take j.toNat).drop i.toNat)):=by
 have h2:0≤j:=by omega
 have h3:i≤(j.toNat:Int):=by omega
 simp only [slSV,asStr?,bound,asInt?,Option.bind_some,h.1,h.2.1,h.2.2,h2,h3,and_self,if_true,str_ext,str_size,rawV]
theorem slS_e (l:List Int) (j:Int) (h:0≤j∧j≤l.length):slSV (sv l) none (some (vi j))=some (sv (l.take j.toNat)):=by
 simp [slSV,asStr?,bound,asInt?,h.1,h.2,str_ext,str_size,rawV]
theorem atY_v (b:List Int) (i:Nat) (N:Nat) (hN:b.length=N) (h:i+2≤N) (hl:N≤1000000):EV G (Tb (bs bb)) 145 [.one (.bls 0 0 N 1),vi i] [yb b]=some (sv (cut2 b i),[yb b]):=by
 refine EV_run rfl ?_
 have ht:((i:Int)+2).toNat=i+2:=by omega
 have e:bytesC (((b.map yC).drop i).take 2)=some ((cut2 b i).map u8):=by rw [← List.map_drop,← List.map_take,bytesC_yb]
 simp (disch:=omega) only [go_sem,h145c,List.length_map,ht,Nat.add_sub_cancel_left,e,strF]
theorem putY_v (b t:List Int) (a:Int) (N:Nat) (hN:b.length=N) (hl:N≤1000000) (ha:0≤a∧a+t.length≤N) (hB:Byts t):EV G (Tb (bs bb)) 146 [.one (.bls 0 0 N 1),vi a,sv t] [yb b]=some (.tup [],[yb (cpL b a.toNat t)]):=by
 refine EV_run rfl ?_
 have e:=cpy_yb b t a.toNat (N - a.toNat) hB (by omega)
 simp (disch:=omega) only [go_sem,h146c,List.length_map,e]
theorem trimR_v (n:Nat) (h:n≤1000):EV G (Tb (bs bb)) 191 [sv (zl n),vu 0] []=some (sv [],[]):=by
 refine EV_run rfl ?_
 simp (disch:=omega) only [go_sem,h191c]
 rw [EL_loop (fun k=>⟨(sv (zl (n - k))::vu 0::jk 21 []),[]⟩) n ?_ ?_]
 ·rw [Nat.sub_self]
  simp (disch:=omega) only [go_sem,h191l0,str_size,zl_len]
  rfl
 ·rfl
 ·intro k hk
  have h1:(zl (n - k))[n - k - 1]?=some 0:=by unfold zl;rw [List.getElem?_replicate,if_pos (by omega)]
  have h2:=slS_e (zl (n - k)) ((n - k:Nat) - 1:Int) (by rw [zl_len];omega)
  have h3:(zl (n - k)).take (n - k - 1)=zl (n - (k+1)):=by
   unfold zl
   rw [List.take_replicate]
   congr 1
   omega
  have h5:(((n - k:Nat):Int) - 1).toNat=n - k - 1:=by omega
  rw [h5,h3] at h2
  have h4:(0:Int) < ((n - k:Nat):Int):=by omega
  have h6:((u8 0).toNat:Int)=0:=rfl
  simp (disch:=omega) only [go_sem,h191l0,str_size,zl_len,h1,h3,eq_true h4,h6]
theorem trimL_v:EV G (Tb (bs bb)) 190 [sv [],vu 0] []=some (sv [],[]):=by
 refine EV_run rfl ?_
 simp (disch:=omega) only [go_sem,h190c]
 rw [EL_loop (fun k=>⟨(sv []::vu 0::jk 15 []),[]⟩) 0 ?_ ?_]
 ·simp (disch:=omega) only [go_sem,h190l0,str_size,List.length_nil]
 ·rfl
 ·intro k hk
  omega
theorem trim_v:EV G (Tb (bs bb)) 156 [sv (zl 18),.one (.dc (.raw (.string ⟨#[0]⟩)))] []=some (sv [],[]):=by
 refine EV_run rfl ?_
 have q1:=trimR_v (G:=G) (bb:=bb) 18 (by decide)
 have q2:=trimL_v (G:=G) (bb:=bb)
 have i0:ixSV (.one (.dc (.raw (.string ⟨#[0]⟩)))) 0=some (vu 0):=by rfl
 have e0:¬ str (zl 18)=⟨#[]⟩:=by decide
 have e1:¬ (⟨#[0]⟩:ByteArray)=⟨#[]⟩:=by decide
 have e5:((UInt8.toNat 0:Nat):Int)=0:=rfl
 have e4:(((#[0]:Array UInt8).size:Nat):Int)=1:=rfl
 simp (disch:=omega) only [go_sem,h156c,q1,q2,i0,e0,e1,e4,e5]
theorem byC {s:List Int} (h:Byts s) (a:Nat):Byts (cut2 s a):=fun x hx=>h x (List.mem_of_mem_drop (List.mem_of_mem_take hx))
theorem byCp {b s:List Int} {k:Nat} (hb:Byts b) (hs:Byts s):Byts (cpL b k s):=fun x hx=>by
 unfold cpL at hx
 rcases List.mem_append.1 hx with hx | hx
 ·rcases List.mem_append.1 hx with hx | hx
  ·exact hb x (List.mem_of_mem_take hx)
  ·exact hs x hx
 ·exact hb x (List.mem_of_mem_drop hx)
theorem ptP_by {b:List Int} {u:Int} (hb:b.length=512) (hB:Byts b):∀ k,k≤8→Byts (ptP b u k)
 | 0,_=>byCp hB (byS u 2)
 | k+1,h=>byCp (byCp (ptP_by hb hB k (by omega)) (byC (ptP_by hb hB k (by omega)) _)) (byS u 2)
set_option maxHeartbeats 4000000 in
theorem protect_v (b:List Int) (u:Int) (hb:b.length=512) (hB:Byts b) (hz:(b.drop 40).take 18=zl 18) (hu:1≤u∧u≤65535):EV G (Tb (bs bb)) 103 [sv b,vi u] []=some (.tup [.one (.dc (.raw (.string (str (ptP b u 8))))),.one (.dc (ci 0))],[]):=by
 refine EV_run rfl ?_
 have q1:=checkB_v (G:=G) (bb:=bb) b
 have w:=unlessD_v (G:=G) (bb:=bb)
 have e1:un (decide (b.length=512)) 10=0:=by rw [decide_eq_true hb];rfl
 rw [e1] at q1
 have q2:=trim_v (G:=G) (bb:=bb)
 have q3:=withinD_v (G:=G) (bb:=bb) u 1 65535
 rw [decide_eq_true hu] at q3
 have q4:=firstD_2 (G:=G) (bb:=bb)
 have q5:=littleD_v (G:=G) (bb:=bb) u (by omega)
 have s1:=slS_b b 40 58 (by omega)
 have s2:(b.take (58:Int).toNat).drop (40:Int).toNat=zl 18:=by
  rw [← hz,List.take_drop];rfl
 have e3:str []=⟨#[]⟩:=rfl
 have q6:=putY_v (G:=G) (bb:=bb) b (sgK u 2) 40 512 hb (by decide) (by rw [sgK_len];decide) (byS u 2)
 have hD:=bytesD_s b hB
 have hE:=ne_bl hb (by decide)
 have hF:=dcC_bl b
 simp (disch:=omega) only [go_sem,h103c,q1,w,q2,q3,q4,q5,s2,e3,un_t,firstE_0,firstE_nil,str_size,hb,hD,hE,hF,nq_self,List.length_map,q6]
 rw [EL_loop (fun k=>⟨(jk 1 (vi u::jk 6 (.one (.bls 0 0 512 1)::jk 25 (vi k::jk 20 [])))),[yb (ptP b u k)]⟩) 8 ?_ ?_]
 ·have hl:=ptP_len (n:=u) hb 8 (by decide)
  have e:bytesC (List.take 512 (List.map yC (ptP b u 8)))=some ((ptP b u 8).map u8):=by rw [takeD_yb _ _ (by omega),bytesC_yb]
  simp (disch:=omega) only [go_sem,h103l0,e,strF]
 ·rfl
 ·intro k hk
  have hl:=ptP_len (n:=u) hb k (by omega)
  have t1:=tail_v (G:=G) (bb:=bb) k (by omega)
  have a1:=atY_v (G:=G) (bb:=bb) (ptP b u k) (64 * k+62) 512 hl (by omega) (by decide)
  have hc:=cut2_len (s:=ptP b u k) (a:=64 * k+62) (by omega)
  have hBk:Byts (ptP b u k):=ptP_by hb hB k (by omega)
  have p1:=putY_v (G:=G) (bb:=bb) (ptP b u k) (cut2 (ptP b u k) (64 * k+62)) (42+2 * (k:Int)) 512 hl (by decide) (by rw [hc];omega) (byC hBk _)
  have n1:(42+2 * (k:Int)).toNat=42+2 * k:=by omega
  rw [n1] at p1
  have hl2:(cpL (ptP b u k) (42+2 * k) (cut2 (ptP b u k) (64 * k+62))).length=512:=by rw [cpL_len (by rw [hc];omega),hl]
  have p2:=putY_v (G:=G) (bb:=bb) (cpL (ptP b u k) (42+2 * k) (cut2 (ptP b u k) (64 * k+62))) (sgK u 2) ((64 * k+62:Nat):Int) 512 hl2 (by decide) (by rw [sgK_len];omega) (byS u 2)
  rw [Int.toNat_natCast] at p2
  have e:cpL (cpL (ptP b u k) (42+2 * k) (cut2 (ptP b u k) (64 * k+62))) (64 * k+62) (sgK u 2)=ptP b u (k+1):=rfl
  rw [e] at p2
  generalize 64 * k+62=m at *
  generalize ptP b u (k+1)=y at *
  generalize cpL (ptP b u k) (42+2 * k) (cut2 (ptP b u k) m)=x at *
  generalize cut2 (ptP b u k) m=c at *
  generalize ptP b u k=z at *
  simp (disch:=omega) only [go_sem,h103l0,t1,a1,p1,p2,q5]
end
section
variable {G:Glob} {bb:Bool}
end
section
variable {G:Glob} {bb:Bool}
structure G9 (G:Glob):Prop where
 sq:G 0=some [ci 16,ci 2]
 li:G 1=some [ci 18,ci 2]
 fl:G 2=some [ci 22,ci 2]
 ba:G 3=some [ci 32,ci 4]
 bo:G 4=some [ci 36,ci 2]
 nx:G 5=some [ci 38,ci 2]
 ls:G 6=some [ci 8,ci 4]
 fi:G 8=some [ci 20,ci 2]
 en:G 9=some [ci 24,ci 4]
 si:G 10=some [ci 28,ci 4]
abbrev fv2 (a k:Int):AV:=.agg [.dc (ci a),.dc (ci k)]
theorem fput_v (l:List Int) (a k:Nat) (n:Int) (N:Nat) (hN:l.length=N) (h:a+k≤N) (hl:N≤1000000) (hn:-9223372036854775808≤n∧n≤9223372036854775807):
  EV G (Tb (bs bb)) 149 [fv2 a k,.one (.bls 0 0 N 1),vi n] [yb l]=some (.tup [],[yb (putK l a n k)]):=by
 refine EV_run rfl ?_
 simp (disch:=omega) only [go_sem,h149c]
 rw [EL_loop (fun j=>⟨(jk 1 (.one (.bls 0 0 N 1)::vi (shK n j)::.one (.ptr 1 0)::jk 4 (vi k::vi j::jk 13 []))),[yb (putK l a n j),.box [.dc (ci a),.dc (ci k)]]⟩) k ?_ ?_]
 ·simp (disch:=omega) only [go_sem,h149l0]
 ·rfl
 ·intro j hj
  have h1:=putK_len l a n j
  have h2:=shK_in n hn j
  have h3:=put_yb (putK l a n j) (a+j) (shK n j % 256) (by omega)
  simp (disch:=omega) only [go_sem,h149l0,List.length_map,h1,wu8,Int.reduceToNat,Int.reducePow,fdiv256,shK,putK,h3]
theorem blk_put (l:List Int) (a k:Nat) (n:Int) (hN:l.length=512) (h:a+k≤512) (hn:-9223372036854775808≤n∧n≤9223372036854775807):
  EV G (Tb (bs bb)) 149 [fv2 a k,.one (.bls 0 0 512 1),vi n] [yb l]=some (.tup [],[yb (putK l a n k)]):=fput_v l a k n 512 hN h (by decide) hn
structure Num9 (r:Rec):Prop where
 sq:-9223372036854775808≤r.sq∧r.sq≤9223372036854775807
 li:-9223372036854775808≤r.li∧r.li≤9223372036854775807
 fl:-9223372036854775808≤r.fl∧r.fl≤9223372036854775807
 br:-9223372036854775808≤r.br∧r.br≤9223372036854775807
 bq:-9223372036854775808≤r.bq∧r.bq≤9223372036854775807
 nx:-9223372036854775808≤r.nx∧r.nx≤9223372036854775807
 ls:-9223372036854775808≤r.ls∧r.ls≤9223372036854775807
theorem Rec.Ok.n9 {r:Rec} (hO:r.Ok):Num9 r:=by
 obtain ⟨n1,n2,n3,n4,n5⟩:=hO.num
 obtain ⟨n6,n7⟩:=hO.base
 exact ⟨by omega,by omega,by omega,by omega,by omega,by omega,by omega⟩
set_option maxHeartbeats 8000000 in
theorem block_v (hG:G9 G) (r:Rec) (at':List Int) (hN:Num9 r) (ha:at'.length≤444) (hB:Byts at'):EV G (Tb (bs bb)) 99 [r.v,sv at'] []=some (sv (blkL r (68+(at'.length:Int)) at'),[]):=by
 refine EV_run rfl ?_
 obtain ⟨n1,n2,n3,n4,n5,n6,n7⟩:=hN
 have hp:=pbl_eq r at' ha
 rw [← hp]
 unfold pbl
 have l0:(cpL (zl 512) 0 [70,73,76,69]).length=512:=by rw [cpL_len (by rw [zl_len];decide),zl_len]
 have e0:bytesCel (70::73::76::69::List.take 508 [])++List.drop (bytesCel (70::73::76::69::List.take 508 [])).length (List.map yC (zl 512))=(cpL (zl 512) 0 [70,73,76,69]).map yC:=by
  have h:=cpy_yb (zl 512) [70,73,76,69] 0 4 (fun x hx=>by simp at hx;omega) (by decide)
  rw [putAt_z] at h
  exact h
 have r0:List.replicate 512 (Cel.dc (DC.raw (Value.int .u8 0)))=(zl 512).map yC:=rep_yb 512
 generalize cpL (zl 512) 0 [70,73,76,69]=b0 at *
 have p1:EV G (Tb (bs bb)) 149 [fv2 8 4,.one (.bls 0 0 512 1),vi r.ls] [yb b0]=some (.tup [],[yb (putK b0 8 r.ls 4)]):=blk_put (G:=G) (bb:=bb) b0 8 4 r.ls l0 (by decide) (by omega)
 have l1:(putK b0 8 r.ls 4).length=512:=by rw [putK_len,l0]
 generalize putK b0 8 r.ls 4=b1 at *
 have p2:EV G (Tb (bs bb)) 149 [fv2 16 2,.one (.bls 0 0 512 1),vi r.sq] [yb b1]=some (.tup [],[yb (putK b1 16 r.sq 2)]):=blk_put (G:=G) (bb:=bb) b1 16 2 r.sq l1 (by decide) (by omega)
 have l2:(putK b1 16 r.sq 2).length=512:=by rw [putK_len,l1]
 generalize putK b1 16 r.sq 2=b2 at *
 have p3:EV G (Tb (bs bb)) 149 [fv2 18 2,.one (.bls 0 0 512 1),vi r.li] [yb b2]=some (.tup [],[yb (putK b2 18 r.li 2)]):=blk_put (G:=G) (bb:=bb) b2 18 2 r.li l2 (by decide) (by omega)
 have l3:(putK b2 18 r.li 2).length=512:=by rw [putK_len,l2]
 generalize putK b2 18 r.li 2=b3 at *
 have p4:EV G (Tb (bs bb)) 149 [fv2 20 2,.one (.bls 0 0 512 1),vi 64] [yb b3]=some (.tup [],[yb (putK b3 20 64 2)]):=blk_put (G:=G) (bb:=bb) b3 20 2 64 l3 (by decide) (by omega)
 have l4:(putK b3 20 64 2).length=512:=by rw [putK_len,l3]
 generalize putK b3 20 64 2=b4 at *
 have p5:EV G (Tb (bs bb)) 149 [fv2 22 2,.one (.bls 0 0 512 1),vi r.fl] [yb b4]=some (.tup [],[yb (putK b4 22 r.fl 2)]):=blk_put (G:=G) (bb:=bb) b4 22 2 r.fl l4 (by decide) (by omega)
 have l5:(putK b4 22 r.fl 2).length=512:=by rw [putK_len,l4]
 generalize putK b4 22 r.fl 2=b5 at *
 have p6:EV G (Tb (bs bb)) 149 [fv2 24 4,.one (.bls 0 0 512 1),vi (68+(at'.length:Int))] [yb b5]=some (.tup [],[yb (putK b5 24 (68+(at'.length:Int)) 4)]):=blk_put (G:=G) (bb:=bb) b5 24 4 (68+(at'.length:Int)) l5 (by decide) (by omega)
 have l6:(putK b5 24 (68+(at'.length:Int)) 4).length=512:=by rw [putK_len,l5]
 generalize putK b5 24 (68+(at'.length:Int)) 4=b6 at *
 have p7:EV G (Tb (bs bb)) 149 [fv2 28 4,.one (.bls 0 0 512 1),vi 512] [yb b6]=some (.tup [],[yb (putK b6 28 512 4)]):=blk_put (G:=G) (bb:=bb) b6 28 4 512 l6 (by decide) (by omega)
 have l7:(putK b6 28 512 4).length=512:=by rw [putK_len,l6]
 generalize putK b6 28 512 4=b7 at *
 have p8:EV G (Tb (bs bb)) 149 [fv2 32 4,.one (.bls 0 0 512 1),vi r.br] [yb b7]=some (.tup [],[yb (putK b7 32 r.br 4)]):=blk_put (G:=G) (bb:=bb) b7 32 4 r.br l7 (by decide) (by omega)
 have l8:(putK b7 32 r.br 4).length=512:=by rw [putK_len,l7]
 generalize putK b7 32 r.br 4=b8 at *
 have p9:EV G (Tb (bs bb)) 149 [fv2 36 2,.one (.bls 0 0 512 1),vi r.bq] [yb b8]=some (.tup [],[yb (putK b8 36 r.bq 2)]):=blk_put (G:=G) (bb:=bb) b8 36 2 r.bq l8 (by decide) (by omega)
 have l9:(putK b8 36 r.bq 2).length=512:=by rw [putK_len,l8]
 generalize putK b8 36 r.bq 2=b9 at *
 have p10:EV G (Tb (bs bb)) 149 [fv2 38 2,.one (.bls 0 0 512 1),vi r.nx] [yb b9]=some (.tup [],[yb (putK b9 38 r.nx 2)]):=blk_put (G:=G) (bb:=bb) b9 38 2 r.nx l9 (by decide) (by omega)
 have l10:(putK b9 38 r.nx 2).length=512:=by rw [putK_len,l9]
 generalize putK b9 38 r.nx 2=b10 at *
 have ef:(str at':ByteArray)++⟨#[255,255,255,255]⟩=str (at'++ffs):=by
  have:=str_app at' ffs
  exact this
 have eb:binV .add (sv at') (.one (.dc (.raw (.string ⟨#[255,255,255,255]⟩))))=some (sv (at'++ffs)):=by
  rw [bin_sadd (by rw [str_size];show at'.length+4≤_;omega),ef]
 have hBf:Byts (at'++ffs):=fun x hx=>by
  rcases List.mem_append.1 hx with hx | hx
  ·exact hB x hx
  ·exact byts_ff x hx
 have lf:(at'++ffs).length=at'.length+4:=by rw [List.length_append];rfl
 have ec:=cpy_yb b10 (at'++ffs) 64 448 hBf (by omega)
 have lc:(cpL b10 64 (at'++ffs)).length=512:=by rw [cpL_len (by rw [lf,l10];omega),l10]
 have ez:bytesC (List.take 512 (List.map yC (cpL b10 64 (at'++ffs))))=some ((cpL b10 64 (at'++ffs)).map u8):=by rw [takeD_yb _ _ (by omega),bytesC_yb]
 have e68:(64:Int)+(at'.length:Int)+4=68+(at'.length:Int):=by omega
 generalize cpL b10 64 (at'++ffs)=z at *
 have g1:=hG.sq;have g2:=hG.li;have g3:=hG.fl;have g4:=hG.ba;have g5:=hG.bo;have g6:=hG.nx;have g7:=hG.ls;have g8:=hG.fi;have g9:=hG.en;have g10:=hG.si
 simp (disch:=omega) only [go_sem,h99c,List.length_map,zl_len,r0,e0,p1,p2,p3,p4,p5,p6,p7,p8,p9,p10,g1,g2,g3,g4,g5,g6,g7,g8,g9,g10,l0,l1,l2,l3,l4,l5,l6,l7,l8,l9,l10,eb,str_size,lf,ec,lc,ez,strF,e68,Int.reduceToNat,rawC]
end
section
variable {G:Glob} {bb:Bool}
end
section
variable {G:Glob} {bb:Bool}
theorem accE (l:List Att) (k:Nat) (hk:k < l.length):((l.take (k+1)).map encA).flatten=((l.take k).map encA).flatten++encA l[k]:=by
 rw [List.take_succ_eq_append_getElem hk,List.map_append,List.flatten_append]
 simp
abbrev bkv (p:List Int × Int):AV:=.tup [.one (.dc (.raw (.string (str p.1)))),.one (.dc (ci p.2))]
abbrev Rec.u (r:Rec) (u:Int):AV:=.agg (r.c++[.dc (ci u)])
set_option maxHeartbeats 8000000 in
theorem encRec_v (hG:G9 G) (r:Rec) (hW:r.W) (u:Int):EV G (Tb (bsS bb)) 41 [r.u u] []=some (bkv (encV' r u),[]):=by
 refine EV_run rfl ?_
 have q1:=recordErr_v (G:=G) (bb:=bb) r hW
 have w:=within9_v (G:=G) (bb:=bb) u 1 65535
 have un9:=unless9_v (G:=G) (bb:=bb)
 have q3:=first9_2 (G:=G) (bb:=bb)
 unfold encV' encE
 by_cases c:firstE [recE r,un (decide (1≤u∧u≤65535)) 2]=0
 ·rw [if_neg (not_not_intro c)]
  obtain ⟨z1,z2⟩:=firstE2 c
  have hu:1≤u∧u≤65535:=of_decide_eq_true (un_0 (by decide) z2)
  have hO:=recE_ok z1
  have hln:=hO.ln
  have hat:=attsB_le hO
  have hBa:Byts (attsB r):=byts_flat fun p hp=>by
   obtain ⟨a,ha,rfl⟩:=List.mem_map.1 hp
   exact (encA_sh (hW.at' a ha) (hO.errs.1 a ha)).1
  generalize recE r=re at *
  have e0:(str []:ByteArray)=⟨#[]⟩:=rfl
  have qb:=up (block_v (G:=G) (bb:=bb) hG r (attsB r) hO.n9 (by omega) hBa)
  have hbl:=blk_len r (68+((attsB r).length:Int)) (attsB r) (by omega)
  have hby:=blk_byts r (68+((attsB r).length:Int)) (attsB r) hBa
  have hz:((blkL r (68+((attsB r).length:Int)) (attsB r)).drop 40).take 18=zl 18:=by
   refine ext_gt (by rw [List.length_take,List.length_drop,hbl,zl_len];decide) (fun j hj=>?_)
   rw [List.length_take,List.length_drop,hbl] at hj
   rw [gt_cut _ _ _ _ (by omega),gt_zl,blk_z _ _ _ _ (by omega) (by omega)]
  have qp:=up (protect_v (G:=G) (bb:=bb) _ u hbl hby hz hu)
  unfold encO
  generalize blkL r (68+((attsB r).length:Int)) (attsB r)=b at *
  generalize ptP b u 8=p at *
  have hE:attsB r=(r.ats.map encA).flatten:=rfl
  rw [hE] at qb
  clear hE hat hBa
  simp (disch:=omega) only [go_sem,h41c,q1,w,un9,q3,eq_true c,List.length_map]
  rw [EL_loop (fun k=>⟨(jk 1 (.one (.ptr 0 0)::jk 3 (sv ((r.ats.take k).map encA).flatten::jk 18 (vl (r.ats.map Att.e)::vi r.ats.length::vi k::jk 21 [])))),[.box (r.c++[.dc (ci u)]),.arr 0 1 [[ci re],[ci (un (decide (1≤u∧u≤65535)) 2)]]]⟩) r.ats.length ?_ ?_]
  ·simp (disch:=omega) only [go_sem,h41l0,List.take_length,qb,qp,List.cons_append,List.nil_append]
  ·rfl
  ·intro k hk
   have q:=up (encodeA_v (G:=G) (bb:=bb) r.ats[k] (hW.at' _ (List.getElem_mem hk)))
   rw [accE r.ats k hk]
   have b1:=needA_rg (r.ats.take k) (takeW hW.at' k)
   have b2:=attsB_len (r.ats.take k)
   have b3:=encA_len (hW.at' _ (List.getElem_mem hk))
   rw [List.length_take] at b1
   have b4:(((r.ats.take k).map encA).flatten.length:Int)+(encA r.ats[k]).length≤9223372036854775807:=by omega
   clear b1 b2 b3
   generalize ((r.ats.take k).map encA).flatten=s at *
   have eb:binV .add (sv s) (sv (encA r.ats[k]))=some (sv (s++encA r.ats[k])):=by
    rw [bin_sadd (by rw [str_size,str_size];omega),str_app]
   simp (disch:=omega) only [go_sem,h41l0,List.length_map,ixA,Att.e,q,eb,List.cons_append,List.nil_append]
 ·rw [if_pos c]
  generalize recE r=re at *
  simp (disch:=omega) only [go_sem,h41c,q1,w,un9,q3,c]
  rfl
end
end Go.Proofs.YtcplecjhmnblpaaGreatDoor
