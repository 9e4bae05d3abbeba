/- An attribute is decoded, by the reference: its contract. Conditions: none. -/
import Derived.Test.YtcplecjhmnblpaaGreatDoorUw
import Derived.Test.YtcplecjhmnblpaaGreatDoorTf
import Derived.Test.YtcplecjhmnblpaaGreatDoorUb
import Derived.Test.YtcplecjhmnblpaaGreatDoorUh
namespace Go.Proofs.YtcplecjhmnblpaaGreatDoor
set_option linter.unusedSimpArgs false
set_option linter.unusedVariables false
set_option maxRecDepth 4000
section
variable {G:Glob} {bb:Bool}
theorem cloneC_v (a:Att) (hl:a.rs.length≤1000000):EV G (Tb (bs bb)) 133 [a.v] []=some (a.v,[]):=by
 refine EV_run rfl ?_
 have q:=clone_v (G:=G) (bb:=bb) a.rs hl
 simp (disch:=omega) only [go_sem,h133c,q,Att.v,List.length_map]
abbrev lev (l:List Att) (e:Int):AV:=.tup [.one (.dc (.slc (l.map Att.e))),.one (.dc (ci e))]
theorem sorted_v (l:List Att) (hW:∀ a∈l,a.W) (hl:l.length≤1000):EV G (Tb (bsS bb)) 75 [vl (l.map Att.e)] []=some (lev (if srtE l=0 then srtA l else []) (srtE l),[]):=by
 refine EV_run rfl ?_
 unfold srtE
 by_cases c1:l.length > 32
 ·rw [if_pos c1]
  have d2:32 < (l.length:Int):=by omega
  simp (disch:=omega) only [go_sem,h75c,List.length_map,eq_true d2]
  rfl
 rw [if_neg c1]
 have d2:¬ 32 < (l.length:Int):=by omega
 simp (disch:=omega) only [go_sem,h75c,List.length_map,d2]
 rw [EL_fst (fun k=>⟨(vl (l.map Att.e)::jk 3 (.one (.bld 0 ((l.take k).map Att.e).length)::jk 6 (vl (l.map Att.e)::vi l.length::vi k::jk 19 []))),[.arr 0 11 ((l.take k).map Att.e)]⟩) (fun k=>sngE l k≠0) l.length ?_ ?_]
 rotate_left
 ·rfl
 ·intro k hk hn
  have hz:=Classical.not_not.1 (hn k (Nat.le_refl _))
  have q:=up (single_v (G:=G) (bb:=bb) l hW hl k hk)
  rw [hz] at q
  have q1:=up (cloneC_v (G:=G) (bb:=bb) l[k] (by have:=(hW _ (List.getElem_mem hk)).rl;omega))
  have hb:((l.take k).map Att.e).length≤1000:=by rw [List.length_map,List.length_take];omega
  have hall:=all_att (l.take k)
  rw [takeA l k hk]
  generalize (l.take k).map Att.e=C at hb hall ⊢
  simp (disch:=omega) only [go_sem,h75l0,List.length_map,ixA,Att.e,q,q1,hall]
  rw [List.length_append]
  rfl
 obtain ⟨hk,hp,hn⟩:=ix_spec (fun k=>sngE l k≠0) l.length
 generalize ix (fun k=>sngE l k≠0) l.length=k at *
 rcases hp with rfl | ⟨hk',hz⟩
 ·rw [if_neg (Nat.lt_irrefl _),if_pos rfl,List.take_length]
  have hs:(l.map Att.id).Nodup:=((sng_iff l).1 (fun j hj=>Classical.not_not.1 (hn j hj))).2
  by_cases h0:l=[]
  ·subst h0
   have q:=sortN_v (G:=G) (b:=bb)
   simp (disch:=omega) only [go_sem,h75l0,List.length_nil,List.map_nil,List.isEmpty_nil,q]
   first | done | rfl
  ·have hpos:0 < l.length:=List.length_pos_iff.2 h0
   have q:=sortB_v (G:=G) (b:=bb) l hs hl hpos
   have hE:(l.map Att.e).isEmpty=false:=by cases l with | nil=>exact absurd rfl h0 | cons _ _=>rfl
   have ha:=srtA_len l
   obtain ⟨b1,b2,b3⟩:=take_dc (s:=11) (n:=l.length) (es:=(srtA l).map Att.e) (fun e he=>by obtain ⟨a,_,rfl⟩:=List.mem_map.1 he;rfl) (by rw [List.length_map,ha])
   unfold lev
   generalize (srtA l).map Att.e=M at *
   simp (disch:=omega) only [go_sem,h75l0,List.length_map,q,hE,b1,b2,b3,nq_self,Nat.zero_mul,List.drop_zero]
 ·rw [if_pos hk',if_neg hz]
  have q:=up (single_v (G:=G) (bb:=bb) l hW hl k hk')
  simp (disch:=omega) only [go_sem,h75l0,List.length_map,ixA,Att.e,q,hz]
  rfl
theorem sameAs_v (l:List Att) (hW:∀ a∈l,a.W) (hl:l.length≤1000):EV G (Tb (bs bb)) 95 [vl (l.map Att.e),vl (l.map Att.e)] []=some (vb true,[]):=by
 refine EV_run rfl ?_
 simp (disch:=omega) only [go_sem,h95c,List.length_map]
 rw [EL_loop (fun k=>⟨(vl (l.map Att.e)::vl (l.map Att.e)::jk 3 (vi k::jk 21 [])),[]⟩) l.length ?_ ?_]
 ·simp (disch:=omega) only [go_sem,h95l0,List.length_map]
 ·rfl
 ·intro k hk
  have hw:=hW _ (List.getElem_mem hk)
  have q:=sameA_v (G:=G) (bb:=bb) l[k] l[k] hw hw
  rw [(sameB_iff _ _).2 rfl] at q
  simp (disch:=omega) only [go_sem,h95l0,List.length_map,ixA,Att.e,q]
end
section
variable {G:Glob} {B:CallT}
def sval:List Int→Int
 | [x]=>if 128≤x then x - 256 else x
 | [x,y]=>if 32768≤y * 256+x then y * 256+x - 65536 else y * 256+x
 | _=>0
def numR (bs:List Int) (a:Nat):Int × Bool × List Int:=if bs.length < a then (0,false,bs) else (sval (bs.take a),decide (sz (sval (bs.take a))=a),bs.drop a)
def runR (last h:Int) (t:List Int):Run × Bool × List Int:=
 if (1≤h % 16∧h % 16≤2)∧h / 16≤2 then
  if (numR t (h % 16).toNat).2.1=false∨h / 16=0 then (⟨-1,(numR t (h % 16).toNat).1⟩,(numR t (h % 16).toNat).2.1,(numR t (h % 16).toNat).2.2)
  else (⟨last+(numR (numR t (h % 16).toNat).2.2 (h / 16).toNat).1,(numR t (h % 16).toNat).1⟩,(numR (numR t (h % 16).toNat).2.2 (h / 16).toNat).2.1&&!decide (last+(numR (numR t (h % 16).toNat).2.2 (h / 16).toNat).1=-1),(numR (numR t (h % 16).toNat).2.2 (h / 16).toNat).2.2)
 else (⟨0,0⟩,false,t)
theorem byts_cons {x:Int} {l:List Int} (h:Byts (x::l)):(0≤x∧x≤255)∧Byts l:=⟨h x List.mem_cons_self,fun b hb=>h b (List.mem_cons_of_mem _ hb)⟩
structure DS where
 bs:List Int
 last:Int
 out:List Run
def dstep (z:DS):Option DS:=
 match z.bs with
 | []=>none
 | h::t=>if h=0 then none else if (runR z.last h t).2.1=true then some ⟨(runR z.last h t).2.2,if (runR z.last h t).1.s=-1 then z.last else (runR z.last h t).1.s,z.out++[(runR z.last h t).1]⟩ else none
def dK (s:List Int):Nat→DS
 | 0=>⟨s,0,[]⟩
 | k+1=>(dstep (dK s k)).getD (dK s k)
noncomputable def dEnd (s:List Int):Nat:=ix (fun k=>dstep (dK s k)=none) (s.length+1)
def decE (bs:List Int):Int:=match bs with
 | []=>3
 | h::t=>if h=0∧t=[] then 0 else 3
def decZ (z:DS):List Run × Int:=if decE z.bs≠0 then ([],3) else if (chk z.out).2≠0 then ([],(chk z.out).2) else (z.out,0)
noncomputable def decV (s:List Int):List Run × Int:=if (s.length:Int) > 400 then ([],8) else decZ (dK s (dEnd s))
end
section
variable {G:Glob} {B:CallT}
end
section
variable {G:Glob} {bb:Bool}
theorem ix_at {p:Nat→Prop} {n m:Nat} (hm:m < n) (h1:p m) (h2:∀ j,j < m→¬ p j):ix p n=m:=by
 obtain ⟨g1,g2,g3⟩:=ix_spec p n
 rcases Nat.lt_trichotomy (ix p n) m with h | h | h
 ·rcases g2 with g2 | ⟨_,g2⟩
  ·omega
  ·exact absurd g2 (h2 _ h)
 ·exact h
 ·exact absurd h1 (g3 _ h)
theorem sz_or (n:Int):sz n=1∨sz n=2:=by unfold sz;split<;>simp
theorem sval1 (n:Int) (h:-128≤n∧n≤127):sval (sgK n 1)=n:=by
 show sval [n % 256]=n
 simp only [sval]
 split<;>omega
theorem sval2 (n:Int) (h:-32768≤n∧n≤32767):sval (sgK n 2)=n:=by
 show sval [n % 256,n / 256 % 256]=n
 simp only [sval]
 split<;>omega
theorem numR_sg (n:Int) (h:-32768≤n∧n≤32767) (rest:List Int):numR (sgK n (sz n).toNat++rest) (sz n).toNat=(n,true,rest):=by
 unfold numR
 rw [if_neg (by rw [List.length_append,sgK_len];omega),List.take_left' (sgK_len _ _),List.drop_left' (sgK_len _ _)]
 have e:sval (sgK n (sz n).toNat)=n:=by
  unfold sz
  split
  ·exact sval1 n (by assumption)
  ·exact sval2 n h
 rw [e]
 have:sz n=((sz n).toNat:Int):=by have:=sz_or n;omega
 rw [decide_eq_true this]
def encH (last:Int) (r:Run):Int:=if r.s=-1 then sz r.n else 16 * sz (r.s - last)+sz r.n
def encT (last:Int) (r:Run):List Int:=if r.s=-1 then sgK r.n (sz r.n).toNat else sgK r.n (sz r.n).toNat++sgK (r.s - last) (sz (r.s - last)).toNat
theorem encR_ht (last:Int) (r:Run):encR last r=encH last r::encT last r:=by
 unfold encR encH encT
 split<;>rfl
theorem encH_0 (last:Int) (r:Run):encH last r≠0:=by
 have h1:=sz_or r.n
 have h2:=sz_or (r.s - last)
 unfold encH
 split<;>omega
theorem run_rg {r:Run} (h:rangeE r.s r.n=0):(1≤r.n∧r.n≤4096)∧(r.s=-1∨0≤r.s∧r.s≤511):=by
 rcases rangeE_ok h with ⟨h1,h2,h3⟩ | ⟨s,n,h1,h2,h3,h4⟩
 ·exact ⟨by omega,by omega⟩
 ·exact ⟨by omega,by omega⟩
theorem runR_enc {last:Int} {r:Run} (hr:rangeE r.s r.n=0) (hl:0≤last∧last≤511) (rest:List Int):runR last (encH last r) (encT last r++rest)=(r,true,rest):=by
 obtain ⟨⟨a1,a2⟩,a3⟩:=run_rg hr
 have s1:=sz_or r.n
 have s2:=sz_or (r.s - last)
 have n1:=numR_sg r.n (by omega)
 unfold encH encT
 by_cases c:r.s=-1
 ·rw [if_pos c,if_pos c]
  have e1:sz r.n % 16=sz r.n:=by omega
  have e2:sz r.n / 16=0:=by omega
  unfold runR
  rw [e1,e2,if_pos (by omega),if_pos (.inr rfl),n1 rest]
  simp only
  cases r
  simp only at c
  rw [c]
 ·rw [if_neg c,if_neg c]
  have e1:(16 * sz (r.s - last)+sz r.n) % 16=sz r.n:=by omega
  have e2:(16 * sz (r.s - last)+sz r.n) / 16=sz (r.s - last):=by omega
  unfold runR
  rw [e1,e2,if_pos (by omega),List.append_assoc,n1,if_neg (by simp;omega)]
  simp only
  rw [numR_sg (r.s - last) (by omega) rest]
  simp only
  rw [show last+(r.s - last)=r.s by omega,decide_eq_false c]
  cases r
  rfl
def nxt (last:Int) (r:Run):Int:=if r.s=-1 then last else r.s
theorem dstep_enc {last:Int} {r:Run} (hr:rangeE r.s r.n=0) (hl:0≤last∧last≤511) (rest:List Int) (out:List Run):dstep ⟨encR last r++rest,last,out⟩=some ⟨rest,nxt last r,out++[r]⟩:=by
 rw [encR_ht]
 unfold dstep
 simp only [List.cons_append]
 rw [if_neg (encH_0 _ _),runR_enc hr hl]
 simp only [if_true]
 rfl
def encF (last:Int):List Run→List Int
 | []=>[]
 | r::l=>encR last r++encF (nxt last r) l
theorem encL_F (l:List Run):(encL l).1=encF 0 l:=by
 have key:∀ (l:List Run) (p:List Int) (last:Int),(l.foldl est (p,last)).1=p++encF last l:=by
  intro l
  induction l with
  | nil=>intro p last;simp [encF]
  | cons r l ih=>
   intro p last
   have e:est (p,last) r=(p++encR last r,nxt last r):=rfl
   rw [List.foldl_cons,e,ih]
   simp only [encF,List.append_assoc]
 have:=key l [] 0
 simpa [encL] using this
def dM:Nat→DS→DS
 | 0,z=>z
 | k+1,z=>(dstep (dM k z)).getD (dM k z)
theorem dK_M (s:List Int):∀ k,dK s k=dM k ⟨s,0,[]⟩
 | 0=>rfl
 | k+1=>by rw [dK,dM,dK_M s k]
theorem dM_next {z z':DS} (h:dstep z=some z'):∀ k,dM (k+1) z=dM k z'
 | 0=>by show (dstep z).getD z=z';rw [h];rfl
 | k+1=>by rw [dM,dM_next h k,dM]
theorem nxt_rg {last:Int} {r:Run} (hr:rangeE r.s r.n=0) (hl:0≤last∧last≤511):0≤nxt last r∧nxt last r≤511:=by
 have:=(run_rg hr).2
 unfold nxt
 split<;>omega
theorem dM_enc:∀ (l:List Run) (last:Int) (out:List Run) (rest:List Int),(∀ r∈l,rangeE r.s r.n=0)→0≤last∧last≤511→
  (∃ x,dM l.length ⟨encF last l++rest,last,out⟩=⟨rest,x,out++l⟩)∧∀ j,j < l.length→¬ dstep (dM j ⟨encF last l++rest,last,out⟩)=none
 | [],last,out,rest,_,_=>⟨⟨last,by simp [dM,encF]⟩,fun j hj=>by simp at hj⟩
 | r::l,last,out,rest,h,hl=>by
  have hr:=h r List.mem_cons_self
  have hs:=dstep_enc hr hl (encF (nxt last r) l++rest) out
  obtain ⟨⟨x,h1⟩,h2⟩:=dM_enc l (nxt last r) (out++[r]) rest (fun q hq=>h q (List.mem_cons_of_mem _ hq)) (nxt_rg hr hl)
  have e:encF last (r::l)++rest=encR last r++(encF (nxt last r) l++rest):=by rw [encF,List.append_assoc]
  rw [e]
  refine ⟨⟨x, ?_⟩,fun j hj=>?_⟩
  ·show dM (l.length+1) _=_
   rw [dM_next hs,h1,List.append_assoc]
   rfl
  ·cases j with
   | zero=>
    intro g
    have g':dstep ⟨encR last r++(encF (nxt last r) l++rest),last,out⟩=none:=g
    rw [hs] at g'
    cases g'
   | succ j=>rw [dM_next hs];exact h2 j (by simpa using hj)
theorem encF_len {l:List Run} (h:(chk l).2=0):(encF 0 l).length≤320:=by
 rw [← encL_F];exact encL_len h
theorem dec_enc {l:List Run} (h:(chk l).2=0):decV ((encL l).1++[0])=(l,0):=by
 have hlen:=encF_len h
 obtain ⟨⟨x,h1⟩,h2⟩:=dM_enc l 0 [] [0] (chk_rg h) (by omega)
 have hl:=chk_len h
 have hll:l.length < (encF 0 l++[0]).length+1:=by
  have:∀ (l:List Run) (last:Int),l.length≤(encF last l).length:=by
   intro l
   induction l with
   | nil=>intro _;simp
   | cons r l ih=>intro last;have:=ih (nxt last r);simp only [encF,encR_ht,List.length_append,List.length_cons];omega
  have:=this l 0
  simp only [List.length_append,List.length_cons,List.length_nil]
  omega
 rw [encL_F]
 have hE:dEnd (encF 0 l++[0])=l.length:=by
  unfold dEnd
  refine ix_at hll ?_ (fun j hj=>?_)
  ·rw [dK_M,h1];rfl
  ·rw [dK_M];exact h2 j hj
 unfold decV
 rw [if_neg (by simp only [List.length_append,List.length_cons,List.length_nil];omega),hE,dK_M,h1]
 unfold decZ
 rw [if_neg (by simp [decE]),if_neg (by simp only [List.nil_append];omega)]
 rfl
end
section
variable {G:Glob} {bb:Bool}
theorem putK_skip (p L:List Int) (n:Int) (a:Nat) (h:p.length≤a):∀ k,putK (p++L) a n k=p++putK L (a - p.length) n k
 | 0=>rfl
 | k+1=>by
  rw [putK,putK_skip p L n a h k,putK,List.set_append_right _ _ (by omega)]
  congr 2
  omega
theorem putK_head (z X:List Int) (n:Int):∀ k,z.length=k→putK (z++X) 0 n k=sgK n k++X:=by
 have key:∀ (k:Nat) (z X:List Int),z.length=k→putK (z++X) 0 n k=sgK n k++X:=by
  intro k
  induction k with
  | zero=>
   intro z X h
   have:z=[]:=List.length_eq_zero_iff.1 h
   subst this
   rfl
  | succ k ih=>
   intro z X h
   obtain ⟨z',x,rfl⟩:∃ z' x,z=z'++[x]:=by
    rcases List.eq_nil_or_concat z with rfl | ⟨z',x,e⟩
    ·simp at h
    ·exact ⟨z',x,by rw [e,List.concat_eq_append]⟩
   have h':z'.length=k:=by simpa using h
   rw [putK,List.append_assoc,ih z' ([x]++X) h',Nat.zero_add,List.set_append_right _ _ (by rw [sgK_len];omega),sgK_len,Nat.sub_self,sgK,List.append_assoc]
   rfl
 exact fun k h=>key k z X h
theorem cpL_skip (p L s:List Int) (a:Nat) (h:p.length≤a):cpL (p++L) a s=p++cpL L (a - p.length) s:=by
 unfold cpL
 rw [List.take_append,List.take_of_length_le h,List.drop_append,List.drop_of_length_le (by omega),List.nil_append,List.append_assoc,List.append_assoc]
 rw [show a+s.length - p.length=a - p.length+s.length by omega,List.append_assoc]
theorem cpL_head (z X s:List Int) (h:z.length=s.length):cpL (z++X) 0 s=s++X:=by
 unfold cpL
 rw [List.take_zero,List.nil_append,Nat.zero_add,List.drop_left' h]
theorem cpL_at (z X s:List Int) (a:Nat) (ha:a=0) (h:z.length=s.length):cpL (z++X) a s=s++X:=by subst ha;exact cpL_head z X s h
theorem zl_add (a b:Nat):zl (a+b)=zl a++zl b:=by unfold zl;rw [List.replicate_append_replicate]
structure Att.Dc (a:Att):Prop where
 ty:0≤a.ty∧a.ty < 4294967296
 nm:Byts a.nm
 nl:a.nm.length≤255
 id:0≤a.id∧a.id < 65536
 fl:0≤a.fl∧a.fl < 65536
 va:Byts a.va
 vl:a.va.length≤1000
 t:a.res=true→a.rs=[]∧a.fi=0∧a.al=0∧a.sz=0∧a.vd=0
 f:a.res=false→a.va=[]∧(chk a.rs).2=0∧(0≤a.fi∧a.fi < 4294967296)∧(0≤a.al∧a.al < 4294967296)∧(0≤a.sz∧a.sz < 4294967296)∧(0≤a.vd∧a.vd < 4294967296)
theorem Att.Dc.bd {a:Att} (h:a.Dc):a.Bd:=by
 have h1:=h.ty;have h2:=h.nl;have h3:=h.id;have h4:=h.fl;have h5:=h.vl
 cases hr:a.res with
 | true=>
  obtain ⟨q1,q2,q3,q4,q5⟩:=h.t hr
  have:lenW a.rs=0:=by rw [q1];rfl
  exact ⟨h.nm,h.va,by omega,by omega,by rw [q1];simp,by omega,by omega,by omega,by omega,by omega,by omega,by omega,by omega⟩
 | false=>
  obtain ⟨q1,q2,q3,q4,q5,q6⟩:=h.f hr
  obtain ⟨c1,c2,c3⟩:=chk_bd q2
  exact ⟨h.nm,h.va,by omega,by omega,by omega,by omega,by omega,by omega,by omega,by omega,by omega,by omega,by omega⟩
theorem Att.Ok.dc {a:Att} (h:a.Ok):a.Dc:=by
 have g1:=tys_bd h.ty
 have g2:=nmB_len h.nm
 obtain ⟨g3,g4⟩:=h.rg
 have h4:=h.e
 unfold sthE at h4
 refine ⟨by omega,h.w.nm,by omega,by omega,by omega,h.w.va, ?_,fun hr=>?_,fun hr=>?_⟩
 ·split at h4
  ·have:=rsdE_0 h4;omega
  ·have:=(othE_0 h4).2.1;rw [this];simp
 ·rw [if_pos hr] at h4
  obtain ⟨q1,q2,q3,q4,q5,_⟩:=rsdE_0 h4
  exact ⟨q1,q2,q3,q4,q5⟩
 ·rw [if_neg (by rw [hr];decide)] at h4
  obtain ⟨r1,r2,r3,r4,r5,r6,r7,r8,r9⟩:=othE_0 h4
  exact ⟨r2,r4,by omega,by omega,by omega,by omega⟩
theorem bdy_eq {a:Att} (h:a.Dc):rfb a=bdy a:=by
 unfold rfb bdy
 cases hr:a.res with
 | true=>rfl
 | false=>
  rw [if_neg (by decide),if_neg (by decide)]
  obtain ⟨_,q2,_⟩:=h.f hr
  unfold encV
  rw [if_neg (by rw [errs1];simpa using q2)]
theorem sgK_mod (x:Int):sgK (x % 4294967296) 4=sgK x 4:=by
 simp only [sgK,shK,List.nil_append,List.cons_append]
 congr 1
 ·omega
 ·congr 1
  ·omega
  ·congr 1
   ·omega
   ·congr 1
    omega
theorem at_ok (a:Att):atN a % 8=0∧hdN a+a.nm.length≤atN a∧atN a+(bdy a).length≤szN a∧szN a % 8=0∧szN a≤atN a+(bdy a).length+7:=by
 unfold szN atN
 omega
theorem pad_u (X N u:Nat) (h:N=X+8+u) (h1:N % 8=0) (h2:u≤7):(X+7) / 8 * 8 - X=u:=by omega
set_option maxHeartbeats 1000000 in
theorem enc_t {a:Att} (h:a.Dc) (hr:a.res=true):encB a=rfE a:=by
 obtain ⟨o1,o2,o3,o4,o5⟩:=at_ok a
 have hb:=bdy_eq h
 have eh:hdN a=24:=by simp [hdN,hr]
 have ebd:bdy a=a.va:=by simp [bdy,hr]
 rw [eh] at o2
 rw [ebd] at o3 o5
 obtain ⟨g,eg⟩:∃ g,atN a=24+(a.nm.length+g):=⟨atN a - 24 - a.nm.length,by omega⟩
 obtain ⟨u,eu⟩:∃ u,szN a=atN a+(a.va.length+u):=⟨szN a - atN a - a.va.length,by omega⟩
 have eN:szN a=4+(4+(1+(1+(2+(2+(2+(4+(4+(a.nm.length+(g+(a.va.length+u))))))))))):=by omega
 have eZ:zl (szN a)=zl 4++(zl 4++(zl 1++(zl 1++(zl 2++(zl 2++(zl 2++(zl 4++(zl 4++(zl a.nm.length++(zl g++(zl a.va.length++zl u))))))))))):=by
  conv=>lhs;rw [eN]
  simp only [zl_add]
 unfold encB put7 put6
 rw [if_pos hr,eZ,eh,ebd]
 simp (disch:=first | omega | (simp only [zl_len,sgK_len]<;>omega) | fail) only [putK_skip,putK_head,zl_len,sgK_len,Nat.reduceSub,Nat.sub_self]
 simp (disch:=first | omega | (simp only [zl_len,sgK_len]<;>omega) | fail) only [cpL_skip,cpL_at,zl_len,sgK_len,Nat.reduceSub,Nat.sub_self]
 unfold rfE rf3 rf2 rf1 fil8
 rw [if_pos hr,if_pos hr,eh,hb,ebd]
 simp only [List.append_assoc]
 simp only [List.length_append,sgK_len,List.length_replicate]
 have e1:zl 1=sgK 0 1:=rfl
 have e2:atN a - 24 - a.nm.length=g:=by omega
 rw [e2]
 have e3:(1+(1+(2+(2+(2+(4+(4+(a.nm.length+(g+a.va.length))))))))+7) / 8 * 8 - (1+(1+(2+(2+(2+(4+(4+(a.nm.length+(g+a.va.length)))))))))=u:=by omega
 rw [e3]
 rfl
set_option maxHeartbeats 1000000 in
theorem enc_f {a:Att} (h:a.Dc) (hr:a.res=false):encB a=rfE a:=by
 obtain ⟨o1,o2,o3,o4,o5⟩:=at_ok a
 have hr':¬ a.res=true:=by rw [hr];decide
 have hb:=bdy_eq h
 have eh:hdN a=40:=by simp [hdN,hr]
 rw [eh] at o2
 obtain ⟨g,eg⟩:∃ g,atN a=40+(a.nm.length+g):=⟨atN a - 40 - a.nm.length,by omega⟩
 obtain ⟨u,eu⟩:∃ u,szN a=atN a+((bdy a).length+u):=⟨szN a - atN a - (bdy a).length,by omega⟩
 have eN:szN a=4+(4+(1+(1+(2+(2+(2+(4+(4+(2+(2+(4+(4+(4+(a.nm.length+(g+((bdy a).length+u)))))))))))))))):=by omega
 have eZ:zl (szN a)=zl 4++(zl 4++(zl 1++(zl 1++(zl 2++(zl 2++(zl 2++(zl 4++(zl 4++(zl 2++(zl 2++(zl 4++(zl 4++(zl 4++(zl a.nm.length++(zl g++(zl (bdy a).length++zl u)))))))))))))))):=by
  conv=>lhs;rw [eN]
  simp only [zl_add]
 unfold encB put7 put6
 rw [if_neg hr',eZ,eh]
 simp (disch:=first | omega | (simp only [zl_len,sgK_len]<;>omega) | fail) only [putK_skip,putK_head,zl_len,sgK_len,Nat.reduceSub,Nat.sub_self]
 simp (disch:=first | omega | (simp only [zl_len,sgK_len]<;>omega) | fail) only [cpL_skip,cpL_at,zl_len,sgK_len,Nat.reduceSub,Nat.sub_self]
 unfold rfE rf3 rf2 rf1 fil8
 rw [if_neg hr',if_neg hr',eh,hb,sgK_mod]
 simp only [List.append_assoc]
 simp only [List.length_append,sgK_len,List.length_replicate]
 have e1:zl 1=sgK 0 1:=rfl
 have e2:atN a - 40 - a.nm.length=g:=by omega
 rw [e2]
 have e3:(1+(1+(2+(2+(2+(4+(4+(2+(2+(4+(4+(4+(a.nm.length+(g+(bdy a).length)))))))))))))+7) / 8 * 8 - (1+(1+(2+(2+(2+(4+(4+(2+(2+(4+(4+(4+(a.nm.length+(g+(bdy a).length))))))))))))))=u:=pad_u _ (szN a) u (by clear eZ eN e2;omega) o4 (by clear eZ eN e2;omega)
 rw [e3]
 rfl
theorem enc_eq {a:Att} (h:a.Dc):encB a=rfE a:=by
 cases hr:a.res with
 | true=>exact enc_t h hr
 | false=>exact enc_f h hr
end
section
variable {G:Glob} {bb:Bool}
def gv:List Int→Int
 | []=>0
 | b::t=>b+256 * gv t
def gL (l:List Int) (a k:Nat):Int:=gv ((l.drop a).take k)
theorem gL_s (l:List Int) (a k:Nat) (h:a < l.length):gL l a (k+1)=l[a]+256 * gL l (a+1) k:=by
 unfold gL
 rw [List.drop_eq_getElem_cons h,List.take_succ_cons,gv]
theorem gv_bd:∀ (l:List Int) (m:Nat),Byts l→l.length≤m→0≤gv l∧gv l < 256 ^ m
 | [],m,_,_=>by
  have:(0:Int) < 256 ^ m:=Int.pow_pos (by decide)
  simp only [gv];omega
 | b::t,0,_,h=>by simp at h
 | b::t,m+1,hB,h=>by
  obtain ⟨hb,ht⟩:=byts_cons hB
  have ih:=gv_bd t m ht (by simpa using h)
  rw [gv,Int.pow_succ]
  omega
theorem byts_cut {l:List Int} (h:Byts l) (a k:Nat):Byts ((l.drop a).take k):=fun b hb=>h b (List.mem_of_mem_drop (List.mem_of_mem_take hb))
theorem gL_bd {l:List Int} (h:Byts l) (a k:Nat) (hk:k≤4):0≤gL l a k∧gL l a k < 4294967296:=by
 have h1:=gv_bd ((l.drop a).take k) k (byts_cut h a k) (by rw [List.length_take];omega)
 unfold gL
 rcases (show k=0∨k=1∨k=2∨k=3∨k=4 by omega) with rfl | rfl | rfl | rfl | rfl<;>simp only [Int.reducePow] at h1<;>omega
theorem little_at (l:List Int) (hB:Byts l) (a k:Nat) (ha:a+k≤l.length) (hk:k≤4) (hl:l.length≤1000000):EV G (Tb (bs bb)) 57 [sv l,vi a,vi k] []=some (vi (gL l a k),[]):=by
 refine EV_run rfl ?_
 simp (disch:=first | omega | (simp only [List.length_append,List.length_cons,List.length_nil,List.length_map,sgK_len];omega)) only [go_sem,h57c]
 rw [EL_loop (fun j=>⟨(sv l::vi a::jk 5 (vi (gL l (a+k - j) j)::vi ((k:Int) - 1 - j)::jk 16 [])),[]⟩) k ?_ ?_]
 ·have e:a+k - k=a:=by omega
  have e2:¬ 0≤(k:Int) - 1 - (k:Int):=by omega
  simp (disch:=first | omega | (simp only [List.length_append,List.length_cons,List.length_nil,List.length_map,sgK_len];omega)) only [go_sem,h57l0,e,e2]
 ·simp [gL,gv,jk]
 ·intro j hj
  have hx:=hB _ (List.getElem_mem (show a+k - 1 - j < l.length by omega))
  have g1:=gL_bd hB (a+k - j) j (by omega)
  have e1:gL l (a+k - (j+1)) (j+1)=gL l (a+k - j) j * 256+l[a+k - 1 - j]'(by omega):=by
   have:a+k - (j+1) < l.length:=by omega
   rw [gL_s l _ j this,show a+k - (j+1)+1=a+k - j by omega,Int.mul_comm]
   rw [Int.add_comm]
   congr 1
   congr 1
   omega
  have e2:0≤(k:Int) - 1 - (j:Int):=by omega
  rw [e1]
  generalize gL l (a+k - j) j=z at g1 ⊢
  have eN:((a:Int)+((k:Int) - 1 - (j:Int))).toNat=a+k - 1 - j:=by omega
  have hu:=u8_nat _ hx
  simp (disch:=first | omega | (simp only [List.length_append,List.length_cons,List.length_nil,List.length_map,sgK_len];omega)) only [go_sem,h57l0,eq_true e2,List.getElem_map,eN,hu]
  rw [show (k:Int) - 1 - (j:Int) - 1=(k:Int) - 1 - ((j:Int)+1) by omega]
theorem gv1 (n:Int) (h:0≤n∧n < 256):gv (sgK n 1)=n:=by
 show n % 256+256 * 0=n
 omega
theorem gv2 (n:Int) (h:0≤n∧n < 65536):gv (sgK n 2)=n:=by
 show n % 256+256 * (n / 256 % 256+256 * 0)=n
 omega
theorem gv4 (n:Int) (h:0≤n∧n < 4294967296):gv (sgK n 4)=n:=by
 show n % 256+256 * (n / 256 % 256+256 * (n / 256 / 256 % 256+256 * (n / 256 / 256 / 256 % 256+256 * 0)))=n
 omega
theorem gL_skip (p L:List Int) (a k:Nat) (h:p.length≤a):gL (p++L) a k=gL L (a - p.length) k:=by
 unfold gL
 rw [List.drop_append,List.drop_of_length_le (by omega),List.nil_append]
theorem gL_head (z L:List Int) (k:Nat) (h:z.length=k):gL (z++L) 0 k=gv z:=by
 unfold gL
 rw [List.drop_zero,List.take_left' h]
end
section
variable {G:Glob} {bb:Bool}
end
section
variable {G:Glob} {bb:Bool}
def raP (s:List Int):Nat→Nat
 | 0=>0
 | k+1=>raP s k+1+(s.getD (raP s k) 0 % 16+s.getD (raP s k) 0 / 16).toNat
noncomputable def raE (s:List Int):Nat:=ix (fun k=>s.length≤raP s k∨s.getD (raP s k) 0=0) (s.length+1)
noncomputable def raV (s:List Int):List Int:=if raP s (raE s) < s.length then s.take (raP s (raE s)+1) else s
theorem raP_ge (s:List Int):∀ k,k≤raP s k
 | 0=>Nat.le_refl _
 | k+1=>by have:=raP_ge s k;rw [raP];omega
def dRes (s:List Int):Bool:=decide (s.getD 8 0=0)
def dHd (s:List Int):Nat:=if dRes s=true then 24 else 40
def dSz (s:List Int):Nat:=(gL s 9 1).toNat
def dAt (s:List Int):Nat:=(dHd s+dSz s+7) / 8 * 8
def dNm (s:List Int):List Int:=(s.take (dHd s+dSz s)).drop (dHd s)
def dVl (s:List Int):Nat:=(gL s 16 4).toNat
def dT (s:List Int):Att:=⟨gL s 0 4,dNm s,gL s 14 2,gL s 12 2,true,(s.take (dAt s+dVl s)).drop (dAt s),0,[],0,0,0⟩
noncomputable def dF (s:List Int) (rs:List Run):Att:=⟨gL s 0 4,dNm s,gL s 14 2,gL s 12 2,false,[],gL s 16 4,rs,gL s 28 4,gL s 32 4,gL s 36 4⟩
noncomputable def dec1 (s:List Int):Att × Bool:=if s.length < 24 then (Att.nil,false) else if s.length < dAt s then (Att.nil,false) else
 if dRes s=true then (if s.length < dAt s+dVl s then (Att.nil,false) else (dT s,true)) else (dF s (decV (raV (s.drop (dAt s)))).1,decide ((decV (raV (s.drop (dAt s)))).2=0))
theorem byts_app {a b:List Int} (ha:Byts a) (hb:Byts b):Byts (a++b):=fun x hx=>(List.mem_append.1 hx).elim (ha x) (hb x)
theorem byts_rep (n:Nat):Byts (List.replicate n 0):=fun x hx=>by rw [List.eq_of_mem_replicate hx];omega
theorem encF_byts:∀ (l:List Run) (last:Int),Byts (encF last l)
 | [],_=>byts_nil
 | r::l,last=>by
  have s1:=sz_or r.n
  have s2:=sz_or (r.s - last)
  rw [encF,encR_ht]
  refine byts_app (fun x hx=>?_) (encF_byts l _)
  rcases List.mem_cons.1 hx with rfl | hx
  ·unfold encH;split<;>omega
  ·unfold encT at hx
   split at hx
   ·exact sgK_byts _ _ x hx
   ·exact byts_app (sgK_byts _ _) (sgK_byts _ _) x hx
theorem rfE_byts {a:Att} (h:a.Dc):Byts (rfE a):=by
 have hb:Byts (rfb a):=by
  unfold rfb
  split
  ·exact h.va
  ·exact byts_app (by rw [encL_F];exact encF_byts _ _) (byts_c _ (by decide))
 have h1:Byts (rf1 a):=by unfold rf1;exact byts_app (byts_app (byts_app (byts_app (sgK_byts _ _) (sgK_byts _ _)) (sgK_byts _ _)) (sgK_byts _ _)) (sgK_byts _ _)
 have h2:Byts (rf2 a):=by
  unfold rf2
  split
  ·exact byts_app (byts_app h1 (sgK_byts _ _)) (sgK_byts _ _)
  ·exact byts_app (byts_app (byts_app (byts_app (byts_app (byts_app (byts_app h1 (sgK_byts _ _)) (sgK_byts _ _)) (sgK_byts _ _)) (byts_rep _)) (sgK_byts _ _)) (sgK_byts _ _)) (sgK_byts _ _)
 unfold rfE rf3 fil8
 exact byts_app (byts_app (sgK_byts _ _) (sgK_byts _ _)) (byts_app (byts_app (byts_app (byts_app h2 h.nm) (byts_rep _)) hb) (byts_rep _))
theorem Att.Dc.w {a:Att} (h:a.Dc):a.W:=by
 have h1:=h.nl
 have h2:=h.vl
 refine ⟨h.nm,h.va,by omega,by omega, ?_⟩
 cases hr:a.res with
 | true=>rw [(h.t hr).1];simp
 | false=>have:=chk_len (h.f hr).2.1;omega
noncomputable def decPV (s:List Int):Att × Int:=if s.length > 440 then (Att.nil,8) else
 if (dec1 s).2=false∨encB (dec1 s).1≠s then (Att.nil,3) else if errA (dec1 s).1≠0 then (Att.nil,errA (dec1 s).1) else ((dec1 s).1,0)
end
section
variable {G:Glob} {bb:Bool}
end
section
variable {G:Glob} {bb:Bool}
theorem encF_app:∀ (a b:List Run) (last:Int),encF last (a++b)=encF last a++encF (a.foldl nxt last) b
 | [],_,_=>rfl
 | r::a,b,last=>by rw [List.cons_append,encF,encF_app a b,encF,List.append_assoc];rfl
theorem encT_len (last:Int) (r:Run):(encH last r % 16+encH last r / 16).toNat=(encT last r).length:=by
 have s1:=sz_or r.n
 have s2:=sz_or (r.s - last)
 unfold encH encT
 split
 ·rw [sgK_len];omega
 ·rw [List.length_append,sgK_len,sgK_len];omega
theorem getD_skip (p L:List Int):(p++L).getD p.length 0=L.getD 0 0:=by
 rw [List.getD_eq_getElem?_getD,List.getD_eq_getElem?_getD,List.getElem?_append_right (Nat.le_refl _),Nat.sub_self]
theorem raP_enc (l:List Run) (rest:List Int):∀ k,k≤l.length→raP (encF 0 l++([0]++rest)) k=(encF 0 (l.take k)).length∧∀ j,j < k→(encF 0 l++([0]++rest)).getD (raP (encF 0 l++([0]++rest)) j) 0≠0
 | 0,_=>⟨rfl,fun j hj=>by omega⟩
 | k+1,hk=>by
  obtain ⟨h1,h2⟩:=raP_enc l rest k (by omega)
  have hkl:k < l.length:=by omega
  have e1:l=l.take k++(l[k]::l.drop (k+1)):=by rw [← List.drop_eq_getElem_cons hkl,List.take_append_drop]
  have e2:encF 0 l=encF 0 (l.take k)++(encH ((l.take k).foldl nxt 0) l[k]::(encT ((l.take k).foldl nxt 0) l[k]++encF (nxt ((l.take k).foldl nxt 0) l[k]) (l.drop (k+1)))):=by
   conv=>lhs;rw [e1]
   rw [encF_app,encF,encR_ht]
   rfl
  have e3:(encF 0 l++([0]++rest)).getD (raP (encF 0 l++([0]++rest)) k) 0=encH ((l.take k).foldl nxt 0) l[k]:=by
   rw [h1]
   conv=>lhs;rw [e2]
   rw [List.append_assoc,getD_skip]
   rfl
  refine ⟨?_,fun j hj=>?_⟩
  ·rw [raP,e3,encT_len,h1,List.take_succ_eq_append_getElem hkl,encF_app,List.length_append]
   show _=_+(encF _ [l[k]]).length
   simp only [encF,encR_ht,List.append_nil,List.length_cons]
   omega
  ·by_cases c:j < k
   ·exact h2 j c
   ·have:j=k:=by omega
    subst this
    rw [e3]
    exact encH_0 _ _
theorem raV_enc (l:List Run) (rest:List Int):raV ((encL l).1++[0]++rest)=(encL l).1++[0]:=by
 rw [encL_F,List.append_assoc]
 obtain ⟨h1,h2⟩:=raP_enc l rest l.length (Nat.le_refl _)
 rw [List.take_length] at h1
 have hg:=raP_ge (encF 0 l++([0]++rest)) l.length
 have hlen:(encF 0 l++([0]++rest)).length=(encF 0 l).length+1+rest.length:=by simp only [List.length_append,List.length_cons,List.length_nil];omega
 have hz:(encF 0 l++([0]++rest)).getD (encF 0 l).length 0=0:=by rw [getD_skip];rfl
 have hm:∀ j,j≤l.length→raP (encF 0 l++([0]++rest)) j < (encF 0 l++([0]++rest)).length:=fun j hj=>by
  have h3:=(raP_enc l rest j hj).1
  have:(encF 0 (l.take j)).length≤(encF 0 l).length:=by
   conv=>rhs;rw [← List.take_append_drop j l,encF_app,List.length_append]
   omega
  omega
 have hE:raE (encF 0 l++([0]++rest))=l.length:=by
  unfold raE
  refine ix_at (by omega) (.inr (by rw [h1];exact hz)) (fun j hj g=>?_)
  rcases g with g | g
  ·have:=hm j (by omega);omega
  ·exact h2 j hj g
 unfold raV
 rw [hE,if_pos (hm _ (Nat.le_refl _)),h1]
 rw [← List.append_assoc,List.take_left' (by simp)]
theorem drop_skip (p L:List Int) (k:Nat) (h:p.length≤k):(p++L).drop k=L.drop (k - p.length):=by
 rw [List.drop_append,List.drop_of_length_le h,List.nil_append]
theorem drop_at (L:List Int) (k:Nat) (h:k=0):L.drop k=L:=by subst h;rfl
theorem getD_gL (s:List Int) (k:Nat) (h:k < s.length):s.getD k 0=gL s k 1:=by
 rw [getD_at s k h]
 unfold gL
 rw [List.drop_eq_getElem_cons h,List.take_succ_cons,List.take_zero]
 show s[k]=s[k]+256 * 0
 omega
theorem gL_at (z L:List Int) (a k:Nat) (ha:a=0) (h:z.length=k):gL (z++L) a k=gv z:=by subst ha;exact gL_head z L k h
theorem shT {a:Att} (h:a.Dc) (hr:a.res=true):rfE a=sgK a.ty 4++(sgK (szN a) 4++(sgK 0 1++(sgK a.nm.length 1++(sgK 24 2++(sgK a.fl 2++(sgK a.id 2++(sgK a.va.length 4++(sgK (atN a) 4++(a.nm++(List.replicate (atN a - 24 - a.nm.length) 0++(a.va++List.replicate (szN a - atN a - a.va.length) 0))))))))))):=by
 obtain ⟨o1,o2,o3,o4,o5⟩:=at_ok a
 have eh:hdN a=24:=by simp [hdN,hr]
 have ebd:bdy a=a.va:=by simp [bdy,hr]
 have hb:=bdy_eq h
 rw [eh] at o2
 rw [ebd] at o3 o5
 unfold rfE rf3 rf2 rf1 fil8
 rw [if_pos hr,if_pos hr,eh,hb,ebd]
 simp only [List.append_assoc]
 simp only [List.length_append,sgK_len,List.length_replicate]
 have e3:=pad_u (1+(1+(2+(2+(2+(4+(4+(a.nm.length+((atN a - 24 - a.nm.length)+a.va.length))))))))) (szN a) (szN a - atN a - a.va.length) (by omega) o4 (by omega)
 rw [e3]
 rfl
theorem shF {a:Att} (h:a.Dc) (hr:a.res=false):rfE a=sgK a.ty 4++(sgK (szN a) 4++(sgK 1 1++(sgK a.nm.length 1++(sgK 40 2++(sgK a.fl 2++(sgK a.id 2++(sgK a.fi 4++(sgK (a.fi+lenW a.rs - 1) 4++(sgK (atN a) 2++(List.replicate 2 0++(sgK a.al 4++(sgK a.sz 4++(sgK a.vd 4++(a.nm++(List.replicate (atN a - 40 - a.nm.length) 0++(((encL a.rs).1++[0])++List.replicate (szN a - atN a - (bdy a).length) 0)))))))))))))))):=by
 obtain ⟨o1,o2,o3,o4,o5⟩:=at_ok a
 have hr':¬ a.res=true:=by rw [hr];decide
 have eh:hdN a=40:=by simp [hdN,hr]
 have hb:=bdy_eq h
 have ef:rfb a=(encL a.rs).1++[0]:=by rw [rfb,if_neg hr']
 rw [← hb,ef] at o3 o5 ⊢
 rw [eh] at o2
 unfold rfE rf3 rf2 rf1 fil8
 rw [if_neg hr',if_neg hr',eh,ef,sgK_mod]
 simp only [List.append_assoc]
 simp only [List.length_append,sgK_len,List.length_replicate] at o3 o5 ⊢
 have e3:=pad_u (1+(1+(2+(2+(2+(4+(4+(2+(2+(4+(4+(4+(a.nm.length+((atN a - 40 - a.nm.length)+((encL a.rs).1.length+[(0:Int)].length))))))))))))))) (szN a) (szN a - atN a - ((encL a.rs).1.length+[(0:Int)].length)) (by omega) o4 (by omega)
 rw [e3]
 rfl
theorem rd_T {a:Att} (h:a.Dc) (hr:a.res=true):dRes (rfE a)=true∧dAt (rfE a)=atN a∧dSz (rfE a)=a.nm.length∧dVl (rfE a)=a.va.length∧(rfE a).getD 8 0=0∧dT (rfE a)=a∧(rfE a).length=szN a∧24+a.nm.length≤atN a∧atN a+a.va.length≤szN a:=by
 obtain ⟨o1,o2,o3,o4,o5⟩:=at_ok a
 have eh:hdN a=24:=by simp [hdN,hr]
 have ebd:bdy a=a.va:=by simp [bdy,hr]
 rw [eh] at o2
 rw [ebd] at o3 o5
 have hlen:(rfE a).length=szN a:=by rw [← enc_eq h,encB_len a h.bd]
 have hty:=h.ty;have hnl:=h.nl;have hid:=h.id;have hfl:=h.fl;have hvl:=h.vl
 have hS:=shT h hr
 have r8:gL (rfE a) 8 1=0:=by
  rw [hS]
  simp (disch:=first | omega | (simp only [sgK_len]<;>omega) | fail) only [gL_skip,gL_at,sgK_len,Nat.reduceSub]
  rfl
 have r9:gL (rfE a) 9 1=a.nm.length:=by
  rw [hS]
  simp (disch:=first | omega | (simp only [sgK_len]<;>omega) | fail) only [gL_skip,gL_at,sgK_len,Nat.reduceSub]
  exact gv1 _ (by omega)
 have r0:gL (rfE a) 0 4=a.ty:=by
  rw [hS]
  simp (disch:=first | omega | (simp only [sgK_len]<;>omega) | fail) only [gL_skip,gL_at,sgK_len,Nat.reduceSub]
  exact gv4 _ hty
 have r12:gL (rfE a) 12 2=a.fl:=by
  rw [hS]
  simp (disch:=first | omega | (simp only [sgK_len]<;>omega) | fail) only [gL_skip,gL_at,sgK_len,Nat.reduceSub]
  exact gv2 _ hfl
 have r14:gL (rfE a) 14 2=a.id:=by
  rw [hS]
  simp (disch:=first | omega | (simp only [sgK_len]<;>omega) | fail) only [gL_skip,gL_at,sgK_len,Nat.reduceSub]
  exact gv2 _ hid
 have r16:gL (rfE a) 16 4=a.va.length:=by
  rw [hS]
  simp (disch:=first | omega | (simp only [sgK_len]<;>omega) | fail) only [gL_skip,gL_at,sgK_len,Nat.reduceSub]
  exact gv4 _ (by omega)
 have rd24:(rfE a).drop 24=a.nm++(List.replicate (atN a - 24 - a.nm.length) 0++(a.va++List.replicate (szN a - atN a - a.va.length) 0)):=by
  rw [hS]
  simp (disch:=first | omega | (simp only [sgK_len]<;>omega) | fail) only [drop_skip,drop_at,sgK_len,Nat.reduceSub]
 have rda:(rfE a).drop (atN a)=a.va++List.replicate (szN a - atN a - a.va.length) 0:=by
  have e:(rfE a).drop (atN a)=((rfE a).drop 24).drop (atN a - 24):=by rw [List.drop_drop];congr 1;omega
  rw [e,rd24,drop_skip _ _ _ (by omega),drop_skip _ _ _ (by rw [List.length_replicate];omega),drop_at _ _ (by rw [List.length_replicate];omega)]
 have g8:(rfE a).getD 8 0=0:=by rw [getD_gL _ _ (by omega),r8]
 have eR:dRes (rfE a)=true:=by unfold dRes;rw [g8];rfl
 have eH:dHd (rfE a)=24:=by unfold dHd;rw [eR];rfl
 have eS:dSz (rfE a)=a.nm.length:=by unfold dSz;omega
 have eA:dAt (rfE a)=atN a:=by unfold dAt;rw [eH,eS];unfold atN;rw [eh]
 have eV:dVl (rfE a)=a.va.length:=by unfold dVl;omega
 have eN:dNm (rfE a)=a.nm:=by unfold dNm;rw [eH,eS,List.drop_take,rd24,show 24+a.nm.length - 24=a.nm.length by omega,List.take_left'];rfl
 refine ⟨eR,eA,eS,eV,g8, ?_,hlen,o2,o3⟩
 obtain ⟨t1,t2,t3,t4,t5⟩:=h.t hr
 unfold dT
 rw [eN,eA,eV,r0,r12,r14,List.drop_take,rda,show atN a+a.va.length - atN a=a.va.length by omega,List.take_left' rfl]
 cases a
 simp only at hr t1 t2 t3 t4 t5
 subst hr;subst t1;subst t2;subst t3;subst t4;subst t5
 rfl
theorem rd_F {a:Att} (h:a.Dc) (hr:a.res=false):dRes (rfE a)=false∧dAt (rfE a)=atN a∧dSz (rfE a)=a.nm.length∧(rfE a).getD 8 0=1∧dF (rfE a) a.rs=a∧(rfE a).drop (atN a)=((encL a.rs).1++[0])++List.replicate (szN a - atN a - (bdy a).length) 0∧
  (rfE a).length=szN a∧40+a.nm.length≤atN a∧atN a+((encL a.rs).1.length+1)≤szN a:=by
 obtain ⟨o1,o2,o3,o4,o5⟩:=at_ok a
 have eh:hdN a=40:=by simp [hdN,hr]
 have hb:=bdy_eq h
 have ef:rfb a=(encL a.rs).1++[0]:=by rw [rfb,if_neg (by rw [hr];decide)]
 have hbl:(bdy a).length=(encL a.rs).1.length+1:=by rw [← hb,ef];simp
 rw [eh] at o2
 have hlen:(rfE a).length=szN a:=by rw [← enc_eq h,encB_len a h.bd]
 have hty:=h.ty;have hnl:=h.nl;have hid:=h.id;have hfl:=h.fl
 obtain ⟨f1,f2,f3,f4,f5,f6⟩:=h.f hr
 have hS:=shF h hr
 have r8:gL (rfE a) 8 1=1:=by
  rw [hS]
  simp (disch:=first | omega | (simp only [sgK_len,List.length_replicate]<;>omega) | fail) only [gL_skip,gL_at,sgK_len,List.length_replicate,Nat.reduceSub]
  rfl
 have r9:gL (rfE a) 9 1=a.nm.length:=by
  rw [hS]
  simp (disch:=first | omega | (simp only [sgK_len,List.length_replicate]<;>omega) | fail) only [gL_skip,gL_at,sgK_len,List.length_replicate,Nat.reduceSub]
  exact gv1 _ (by omega)
 have r0:gL (rfE a) 0 4=a.ty:=by
  rw [hS]
  simp (disch:=first | omega | (simp only [sgK_len,List.length_replicate]<;>omega) | fail) only [gL_skip,gL_at,sgK_len,List.length_replicate,Nat.reduceSub]
  exact gv4 _ hty
 have r12:gL (rfE a) 12 2=a.fl:=by
  rw [hS]
  simp (disch:=first | omega | (simp only [sgK_len,List.length_replicate]<;>omega) | fail) only [gL_skip,gL_at,sgK_len,List.length_replicate,Nat.reduceSub]
  exact gv2 _ hfl
 have r14:gL (rfE a) 14 2=a.id:=by
  rw [hS]
  simp (disch:=first | omega | (simp only [sgK_len,List.length_replicate]<;>omega) | fail) only [gL_skip,gL_at,sgK_len,List.length_replicate,Nat.reduceSub]
  exact gv2 _ hid
 have r16:gL (rfE a) 16 4=a.fi:=by
  rw [hS]
  simp (disch:=first | omega | (simp only [sgK_len,List.length_replicate]<;>omega) | fail) only [gL_skip,gL_at,sgK_len,List.length_replicate,Nat.reduceSub]
  exact gv4 _ f3
 have r28:gL (rfE a) 28 4=a.al:=by
  rw [hS]
  simp (disch:=first | omega | (simp only [sgK_len,List.length_replicate]<;>omega) | fail) only [gL_skip,gL_at,sgK_len,List.length_replicate,Nat.reduceSub]
  exact gv4 _ f4
 have r32:gL (rfE a) 32 4=a.sz:=by
  rw [hS]
  simp (disch:=first | omega | (simp only [sgK_len,List.length_replicate]<;>omega) | fail) only [gL_skip,gL_at,sgK_len,List.length_replicate,Nat.reduceSub]
  exact gv4 _ f5
 have r36:gL (rfE a) 36 4=a.vd:=by
  rw [hS]
  simp (disch:=first | omega | (simp only [sgK_len,List.length_replicate]<;>omega) | fail) only [gL_skip,gL_at,sgK_len,List.length_replicate,Nat.reduceSub]
  exact gv4 _ f6
 have rd40:(rfE a).drop 40=a.nm++(List.replicate (atN a - 40 - a.nm.length) 0++(((encL a.rs).1++[0])++List.replicate (szN a - atN a - (bdy a).length) 0)):=by
  rw [hS]
  simp (disch:=first | omega | (simp only [sgK_len,List.length_replicate]<;>omega) | fail) only [drop_skip,drop_at,sgK_len,List.length_replicate,Nat.reduceSub]
 have rda:(rfE a).drop (atN a)=((encL a.rs).1++[0])++List.replicate (szN a - atN a - (bdy a).length) 0:=by
  have e:(rfE a).drop (atN a)=((rfE a).drop 40).drop (atN a - 40):=by rw [List.drop_drop];congr 1;omega
  rw [e,rd40,drop_skip _ _ _ (by omega),drop_skip _ _ _ (by rw [List.length_replicate];omega),drop_at _ _ (by rw [List.length_replicate];omega)]
 have g8:(rfE a).getD 8 0=1:=by rw [getD_gL _ _ (by omega),r8]
 have eR:dRes (rfE a)=false:=by unfold dRes;rw [g8];rfl
 have eH:dHd (rfE a)=40:=by unfold dHd;rw [eR];rfl
 have eS:dSz (rfE a)=a.nm.length:=by unfold dSz;omega
 have eA:dAt (rfE a)=atN a:=by unfold dAt;rw [eH,eS];unfold atN;rw [eh]
 have eN:dNm (rfE a)=a.nm:=by unfold dNm;rw [eH,eS,List.drop_take,rd40,show 40+a.nm.length - 40=a.nm.length by omega,List.take_left'];rfl
 refine ⟨eR,eA,eS,g8, ?_,rda,hlen,o2,by omega⟩
 unfold dF
 rw [eN,r0,r12,r14,r16,r28,r32,r36]
 cases a
 simp only at hr f1
 subst hr;subst f1
 rfl
theorem dec1_enc {a:Att} (h:a.Dc):dec1 (rfE a)=(a,true):=by
 cases hr:a.res with
 | true=>
  obtain ⟨e1,e2,e3,e4,e5,e6,e7,e8,e9⟩:=rd_T h hr
  unfold dec1
  rw [if_neg (by omega),e2,if_neg (by omega),if_pos e1,e4,if_neg (by omega),e6]
 | false=>
  obtain ⟨e1,e2,e3,e4,e5,e6,e7,e8,e9⟩:=rd_F h hr
  have hc:=(h.f hr).2.1
  unfold dec1
  rw [if_neg (by omega),e2,if_neg (by omega),if_neg (by rw [e1];decide),e6,raV_enc,dec_enc hc,e5]
  rfl
end
section
variable {G:Glob} {bb:Bool}
end
end Go.Proofs.YtcplecjhmnblpaaGreatDoor
