/- Functions of the base: the map of the types, and the index of a byte, walked by the kit's rules. Conditions: none. -/
import Derived.Test.YtcplecjhmnblpaaGreatDoorNd
import Derived.Test.YtcplecjhmnblpaaGreatDoorCb
import Derived.WalkKit
import Derived.WideMake
import Derived.MapKept
import Derived.Lib.Bytealg
import Derived.Lib.Walk
import Derived.Lib.Strings
import Derived.BigCall
namespace Go.Proofs.YtcplecjhmnblpaaGreatDoor
set_option linter.unusedSimpArgs false
set_option linter.unusedVariables false
section
section
variable {call:CallT} {G:Glob} {st s s':AS} {a b:HC} {L:List Nat} {m:Nat}
noncomputable def sqK (call:CallT) (G:Glob) (b:HC) (r:Option (Exit × AS)):Option (Exit × AS):=match r with
 | some (.normal,s)=>EC call G b s
 | r=>r
noncomputable def cdK (call:CallT) (G:Glob) (a b:HC) (st:AS):Option Bool→Option (Exit × AS)
 | some true=>EC call G a st
 | some false=>EC call G b st
 | none=>none
noncomputable def EL (call:CallT) (G:Glob) (a:HC) (L:List Nat) (m:Nat) (st:AS):Option (Exit × AS):=loopE (EC call G a) L m st
noncomputable def fnK (call:CallT) (G:Glob) (a:HC) (L:List Nat) (m:Nat) (r:Option (Exit × AS)):Option (Exit × AS):=match r with
 | some (.normal,s)=>EL call G a L m (trimA L m s)
 | r=>r
def rnK (L:List Nat) (m:Nat):Option (Exit × AS)→Option AS
 | some (.normal,s)=>some (trimA L m s)
 | _=>none
theorem EC_skip:EC call G .skip st=some (.normal,st):=Eq.trans rfl rfl
theorem EC_ret:EC call G .ret st=some (.ret,st):=Eq.trans rfl rfl
theorem EC_exit {id:Nat}:EC call G (.exit id) st=some (.exit id,st):=Eq.trans rfl rfl
theorem EC_region {ops:List AOp}:EC call G (.region ops) st=nrm (evR call G ops (some st)):=Eq.trans rfl rfl
theorem EC_regR {L:List Nat} {ops:List AOp}:EC call G (.regR L ops) st=nrm (evRR call G L ops (some st)):=Eq.trans rfl rfl
theorem EC_drawn {ops:List (Bool × AOp)}:EC call G (.drawn ops) st=nrm (evDr call G ops (some st)):=Eq.trans rfl rfl
theorem EC_seq:EC call G (.seq a b) st=sqK call G b (EC call G a st):=by rw [EC];rfl
theorem EC_cond {c:AArg}:EC call G (.cond c a b) st=cdK call G a b st (asBool? (evA G st.sl c)):=by rw [EC];rfl
theorem EC_block {id:Nat}:EC call G (.block id a) st=blkK id (EC call G a st):=Eq.trans rfl rfl
theorem EC_loop:EC call G (.loop L a) st=EL call G a L st.hp.length (trimA L st.hp.length st):=Eq.trans rfl rfl
theorem EC_trm {L:List Nat}:EC call G (.trm L a) st=EC call G a (trimA L st.hp.length st):=Eq.trans rfl rfl
theorem EC_gh {g:GH}:EC call G (.gh g a) st=EC call G a (ghE g st):=Eq.trans rfl rfl
theorem sqK_n:sqK call G b (some (.normal,s))=EC call G b s:=Eq.trans rfl rfl
theorem sqK_r:sqK call G b (some (.ret,s))=some (.ret,s):=Eq.trans rfl rfl
theorem sqK_e {id:Nat}:sqK call G b (some (.exit id,s))=some (.exit id,s):=Eq.trans rfl rfl
theorem cdK_t:cdK call G a b st (some true)=EC call G a st:=Eq.trans rfl rfl
theorem cdK_f:cdK call G a b st (some false)=EC call G b st:=Eq.trans rfl rfl
theorem cdK_pos {p:Prop} [Decidable p] (h:p):cdK call G a b st (some (decide p))=EC call G a st:=by rw [decide_eq_true h];rfl
theorem cdK_neg {p:Prop} [Decidable p] (h:¬ p):cdK call G a b st (some (decide p))=EC call G b st:=by rw [decide_eq_false h];rfl
theorem blkK_n {id:Nat}:blkK id (some (.normal,s))=some (.normal,s):=Eq.trans rfl rfl
theorem blkK_r {id:Nat}:blkK id (some (.ret,s))=some (.ret,s):=Eq.trans rfl rfl
theorem blkK_e {id id':Nat}:blkK id (some (.exit id',s))=bif nq id' id then some (.normal,s) else some (.exit id',s):=by
 simp only [blkK,blkE,nq_eq]
 by_cases h:id'=id
 ·simp [h]
 ·simp [h,(beq_eq_false_iff_ne.2 h:(id'==id)=false)]
theorem fnK_r:fnK call G a L m (some (.ret,s))=some (.ret,s):=Eq.trans rfl rfl
theorem fnK_e {id:Nat}:fnK call G a L m (some (.exit id,s))=some (.exit id,s):=Eq.trans rfl rfl
theorem rnK_n:rnK L m (some (.normal,s))=some (trimA L m s):=Eq.trans rfl rfl
theorem nrm_s:nrm (some s)=some (.normal,s):=Eq.trans rfl rfl
theorem EL_unf:EL call G a L m st=fnK call G a L m (EC call G a st):=by
 unfold EL
 cases h:EC call G a st with
 | none=>
  simp only [fnK]
  cases hl:loopE (EC call G a) L m st with
  | none=>rfl
  | some r=>
   obtain ⟨n,hn⟩:=lim_some hl
   cases n with
   | zero=>simp [lpN] at hn
   | succ n=>rw [lpN,h] at hn;cases hn
 | some r=>
  obtain ⟨e,s⟩:=r
  by_cases he:e=.normal
  ·subst he;exact loopE_eq st h
  ·rw [loopE_end h he]
   unfold fnK
   split
   ·rename_i h1;injection h1 with h1;injection h1 with h1;exact absurd h1 he
   ·rfl
theorem EL_loop (H:Nat→AS) (n:Nat) (h0:st=H 0) (hr:∀ k,k < n→rnK L m (EC call G a (H k))=some (H (k+1))):EL call G a L m st=fnK call G a L m (EC call G a (H n)):=by
 subst h0
 have key:∀ k,k≤n→EL call G a L m (H 0)=EL call G a L m (H k):=by
  intro k
  induction k with
  | zero=>intro _;rfl
  | succ k ih=>
   intro hk
   rw [ih (by omega),EL_unf]
   have:=hr k (by omega)
   unfold rnK at this
   split at this
   ·rename_i s h1
    injection this with this
    rw [h1,← this];rfl
   ·cases this
 rw [key n (Nat.le_refl _),EL_unf]
theorem EL_ind {α:Type} (H:α→AS) (R:α→Option (Exit × AS)) (μ:α→Nat) (z0:α) (I:α→Prop) (h0:st=H z0) (hI:I z0)
  (hr:∀ z,I z→(∃ z',I z'∧μ z' < μ z∧rnK L m (EC call G a (H z))=some (H z')∧R z'=R z)∨fnK call G a L m (EC call G a (H z))=R z):EL call G a L m st=R z0:=by
 subst h0
 have key:∀ (n:Nat) (z:α),μ z < n→I z→EL call G a L m (H z)=R z:=by
  intro n
  induction n with
  | zero=>intro z h;omega
  | succ n ih=>
   intro z hz hI
   rcases hr z hI with ⟨z',h1,h2,h3,h4⟩ | h
   ·rw [EL_unf]
    unfold rnK at h3
    split at h3
    ·rename_i s h5
     injection h3 with h3
     rw [h5]
     show EL call G a L m (trimA L m s)=R z
     rw [h3,ih z' (by omega) h1,h4]
    ·cases h3
   ·rw [EL_unf];exact h
 exact key _ z0 (Nat.lt_succ_self _) hI
theorem ix_ex (p:Nat→Prop):∀ n:Nat,∃ k,k≤n∧(k=n∨(k < n∧p k))∧∀ j,j < k→¬ p j
 | 0=>⟨0,Nat.le_refl _,.inl rfl,fun j h=>by omega⟩
 | n+1=>by
  obtain ⟨k,h1,h2,h3⟩:=ix_ex p n
  rcases h2 with h2 | ⟨h2,h4⟩
  ·subst h2
   by_cases hp:p k
   ·exact ⟨k,by omega,.inr ⟨by omega,hp⟩,h3⟩
   ·exact ⟨k+1,Nat.le_refl _,.inl rfl,fun j hj=>by
     by_cases he:j=k
     ·subst he;exact hp
     ·exact h3 j (by omega)⟩
  ·exact ⟨k,by omega,.inr ⟨by omega,h4⟩,h3⟩
noncomputable def ix (p:Nat→Prop) (n:Nat):Nat:=(ix_ex p n).choose
theorem ix_spec (p:Nat→Prop) (n:Nat):ix p n≤n∧(ix p n=n∨(ix p n < n∧p (ix p n)))∧∀ j,j < ix p n→¬ p j:=(ix_ex p n).choose_spec
theorem EL_fst (H:Nat→AS) (p:Nat→Prop) (n:Nat) (h0:st=H 0) (hr:∀ k,k < n→(∀ j,j≤k→¬ p j)→rnK L m (EC call G a (H k))=some (H (k+1))):
  EL call G a L m st=fnK call G a L m (EC call G a (H (ix p n))):=by
 obtain ⟨h1,_,h3⟩:=ix_spec p n
 exact EL_loop H _ h0 (fun k hk=>hr k (by omega) (fun j hj=>h3 j (by omega)))
theorem toNat_add (n k:Nat):((n:Int)+(k:Int)).toNat=n+k:=by omega
def jk:Nat→List AV→List AV
 | 0,t=>t
 | n+1,t=>.junk::jk n t
theorem putAt_s {c:Cel} {cs vs:List Cel} {n:Nat}:putAt (c::cs) (n+1) vs=c::putAt cs n vs:=by
 simp only [putAt,List.take_succ_cons,List.cons_append]
 rw [show n+1+vs.length=(n+vs.length)+1 by omega,List.drop_succ_cons]
theorem putAt_z {cs vs:List Cel}:putAt cs 0 vs=vs++cs.drop vs.length:=by simp [putAt]
theorem addA (a b c:Int):a+(b+c)=a+b+c:=(Int.add_assoc a b c).symm
theorem boxX_s {st:AS} {d:Option Nat} {cs:List Cel}:boxX st d (some cs)=some ⟨putS st.sl d (.one (.ptr st.hp.length 0)),st.hp++[.box cs]⟩:=Eq.trans rfl rfl
theorem toNat_sub1 (n:Nat):((n:Int) - 1).toNat=n - 1:=by omega
theorem evR_nil:evR call G [] (some st)=some st:=Eq.trans rfl rfl
theorem evR_o {d:Option Nat} {ai:AI} {g:Option (Nat × Bool)} {l:List AOp}:evR call G (⟨d,ai,g⟩::l) (some st)=evR call G l (stO call G st l d ai g):=Eq.trans rfl rfl
theorem evRR_nil {L:List Nat}:evRR call G L [] (some st)=some st:=Eq.trans rfl rfl
theorem evRR_o {L:List Nat} {d:Option Nat} {ai:AI} {g:Option (Nat × Bool)} {l:List AOp}:evRR call G L (⟨d,ai,g⟩::l) (some st)=evRR call G L l (stR call G L st l d ai g (isRef L ai g)):=Eq.trans rfl rfl
theorem stR_t {L:List Nat} {l:List AOp} {d:Option Nat} {ai:AI} {g:Option (Nat × Bool)}:stR call G L st l d ai g true=refZ call G L st d ai:=Eq.trans rfl rfl
theorem stR_f {L:List Nat} {l:List AOp} {d:Option Nat} {ai:AI} {g:Option (Nat × Bool)}:stR call G L st l d ai g false=stO call G st l d ai g:=Eq.trans rfl rfl
theorem refZ_c {L:List Nat} {d:Option Nat} {f:FuncId} {xs:List AArg}:refZ call G L st d (.call f xs)=refB call G st d f xs (hasN L (f+100000)):=Eq.trans rfl rfl
theorem refB_f {d:Option Nat} {f:FuncId} {xs:List AArg}:refB call G st d f xs false=evCall (nzCall call) d f (xs.map (evA G st.sl)) st:=Eq.trans rfl rfl
def vpBz (d:Option Nat) (st:AS) (av:AV):Bool→Option AS
 | true=>some ⟨putS st.sl d av,st.hp⟩
 | false=>none
theorem stO_n {l:List AOp} {d:Option Nat} {ai:AI}:stO call G st l d ai none=stZ call G st l d ai:=Eq.trans rfl rfl
theorem stO_g {l:List AOp} {d:Option Nat} {ai:AI} {g:Nat} {b:Bool}:stO call G st l d ai (some (g,b))=guZ call G st l d ai (gK b (evA G st.sl (.t g))):=Eq.trans rfl rfl
section
variable {l:List AOp} {d:Option Nat} {ai:AI}
theorem guZ_t:guZ call G st l d ai (some true)=stZ call G st l d ai:=Eq.trans rfl rfl
theorem guZ_f:guZ call G st l d ai (some false)=some ⟨putS st.sl d (.tup []),st.hp⟩:=Eq.trans rfl rfl
theorem guZ_pos {p:Prop} [Decidable p] (h:p):guZ call G st l d ai (some (decide p))=stZ call G st l d ai:=by rw [decide_eq_true h];rfl
theorem guZ_neg {p:Prop} [Decidable p] (h:¬ p):guZ call G st l d ai (some (decide p))=some ⟨putS st.sl d (.tup []),st.hp⟩:=by rw [decide_eq_false h];rfl
theorem guD_t {q:Bool}:guD' call G st q d ai (some true)=drZ call G st d ai q:=Eq.trans rfl rfl
theorem guD_f {q:Bool}:guD' call G st q d ai (some false)=some ⟨putS st.sl d (.tup []),st.hp⟩:=Eq.trans rfl rfl
theorem guD_pos {q:Bool} {p:Prop} [Decidable p] (h:p):guD' call G st q d ai (some (decide p))=drZ call G st d ai q:=by rw [decide_eq_true h];rfl
theorem guD_neg {q:Bool} {p:Prop} [Decidable p] (h:¬ p):guD' call G st q d ai (some (decide p))=some ⟨putS st.sl d (.tup []),st.hp⟩:=by rw [decide_eq_false h];rfl
theorem drO_n {q:Bool}:drO call G st q d ai none=drZ call G st d ai q:=Eq.trans rfl rfl
theorem drO_g {q:Bool} {g:Nat} {b:Bool}:drO call G st q d ai (some (g,b))=guD' call G st q d ai (gK b (evA G st.sl (.t g))):=Eq.trans rfl rfl
theorem evDr_nil:evDr call G [] (some st)=some st:=Eq.trans rfl rfl
theorem evDr_o {q:Bool} {g:Option (Nat × Bool)} {l:List (Bool × AOp)}:evDr call G ((q,⟨d,ai,g⟩)::l) (some st)=evDr call G l (drO call G st q d ai g):=Eq.trans rfl rfl
theorem stZ_call {f:FuncId} {xs:List AArg}:stZ call G st l d (.call f xs)=clZ call G d f xs st:=Eq.trans rfl rfl
theorem stZ_callv {x:AArg} {xs:List AArg}:stZ call G st l d (.callv x xs)=cvZ call G d x xs st:=Eq.trans rfl rfl
theorem stZ_app {z b:Nat} {zz:List Value} {s x:AArg}:stZ call G st l d (.app z b zz s x)=apZ d z b st (evA G st.sl s) (evA G st.sl x):=Eq.trans rfl rfl
theorem mkK_v {d:Option Nat} {size bytes:Nat} {z:List Value} {st:AS} {i j:Int} (h:0≤i∧i≤j∧j.toNat * bytes≤140737488355328):mkK d size bytes z st (some i) (some j)=some ⟨putS st.sl d (.one (.bld st.hp.length i.toNat)),st.hp++[.arr 0 size (List.replicate i.toNat (z.map DC.raw))]⟩:=by
 obtain ⟨n,rfl⟩:=Int.eq_ofNat_of_zero_le h.1
 obtain ⟨m,rfl⟩:=Int.eq_ofNat_of_zero_le (Int.le_trans h.1 h.2.1)
 have h1:=h.2.1
 have h2:=h.2.2
 simp only [Int.toNat_natCast] at h2
 simp only [mkK,Int.toNat_natCast]
 exact if_pos ⟨by omega,h2⟩
theorem stZ_cpys {x y:AArg}:stZ call G st l d (.cpys x y)=cpyZ G st d x y:=Eq.trans rfl rfl
theorem stZ_cvsb {x:AArg}:stZ call G st l d (.cvsb x)=cvsZ G st d x:=Eq.trans rfl rfl
theorem cpyV_s {id lo n z:Nat} {s:ByteArray}:cpyV d st (.one (.bls id lo n z)) (some s)=if z=1 then cpyK d st id lo n s (hpGet st.hp id) else none:=Eq.trans rfl rfl
theorem cpyK_b {id lo n:Nat} {s:ByteArray} {cs:List Cel}:cpyK d st id lo n s (.box cs)=if lo+n≤cs.length then some ⟨putS st.sl d (rawV (.int .i64 (min s.size n:Nat))),st.hp.set id (.box (putAt cs lo (bytesCel (s.data.toList.take n))))⟩ else none:=Eq.trans rfl rfl
theorem cvaK_s {s:ByteArray}:cvaK d st (some s)=some ⟨putS st.sl d (.one (.bld st.hp.length s.size)),st.hp++[.arr 0 1 (bytesD s)]⟩:=Eq.trans rfl rfl
theorem refZ_cvs {L:List Nat} {x:AArg}:refZ call G L st d (.cvsb x)=cvaK d st (asStr? (evA G st.sl x)):=Eq.trans rfl rfl
theorem cvsK_s {s:ByteArray}:cvsK d st (some s)=some ⟨putS st.sl d (.one (.dc (.slc (bytesD s)))),st.hp⟩:=Eq.trans rfl rfl
theorem mbK_v {d:Option Nat} {bytes:Nat} {v:Value} {st:AS} {i j:Int} (h:0≤i∧i≤j∧j.toNat * bytes≤140737488355328):mbK d 1 bytes st [v] (some i) (some j)=some ⟨putS st.sl d (.one (.bls st.hp.length 0 i.toNat 1)),st.hp++[.box (List.replicate j.toNat (rawC v))]⟩:=by
 obtain ⟨n,rfl⟩:=Int.eq_ofNat_of_zero_le h.1
 obtain ⟨m,rfl⟩:=Int.eq_ofNat_of_zero_le (Int.le_trans h.1 h.2.1)
 have h1:=h.2.1
 have h2:=h.2.2
 simp only [Int.toNat_natCast] at h2
 simp only [mbK,Int.toNat_natCast]
 exact if_pos ⟨trivial,by omega,h2⟩
theorem refZ_mk {L:List Nat} {z b:Nat} {zz:List Value} {x y:AArg}:refZ call G L st d (.mk z b zz x y)=mbK d z b st zz (asInt? (evA G st.sl x)) (asInt? (evA G st.sl y)):=Eq.trans rfl rfl
theorem stZ_bslc {z b:Nat} {zz:List Value} {ps:List (Nat × AArg)}:stZ call G st l d (.bslc z b zz ps)=bsZ G st d z b zz ps (litU d l):=Eq.trans rfl rfl
theorem stZ_alloc {z:List Value}:stZ call G st l d (.alloc z)=some ⟨putS st.sl d (.one (.ptr st.hp.length 0)),st.hp++[.box (z.map rawC)]⟩:=Eq.trans rfl rfl
theorem stZ_box {x:AArg}:stZ call G st l d (.box x)=boxX st d (cellsOf (evA G st.sl x)):=Eq.trans rfl rfl
theorem stZ_store {n:Nat} {x v:AArg}:stZ call G st l none (.store n x v)=stX G st n x v:=Eq.trans rfl rfl
theorem stZ_mov {x:AArg}:stZ call G st l d (.mov x)=some ⟨putS st.sl d (evA G st.sl x),st.hp⟩:=Eq.trans rfl rfl
theorem stZ_pick {c x y:AArg}:stZ call G st l d (.pick c x y)=putX st d (pickV (evA G st.sl c) (evA G st.sl x) (evA G st.sl y)):=Eq.trans rfl rfl
theorem stZ_load {g:Bool} {n:Nat} {x:AArg}:stZ call G st l d (.load g n x)=putX st d (loadV st.hp g n (evA G st.sl x)):=Eq.trans rfl rfl
theorem stZ_mpx {p:Bool} {z:Value} {x y:AArg}:stZ call G st l d (.mpx p z x y)=putX st d (mpxV p z (evA G st.sl x) (evA G st.sl y)):=Eq.trans rfl rfl
theorem stZ_nilc {x:AArg}:stZ call G st l d (.nilc x)=putX st d (nilcV (evA G st.sl x)):=Eq.trans rfl rfl
theorem stZ_bin {op:BinOp} {x y:AArg}:stZ call G st l d (.bin op x y)=putX st d (binV op (evA G st.sl x) (evA G st.sl y)):=Eq.trans rfl rfl
theorem stZ_binb {n:Bool} {x y:AArg}:stZ call G st l d (.binb n x y)=putX st d (binbV n (evA G st.sl x) (evA G st.sl y)):=Eq.trans rfl rfl
theorem stZ_eqs {n:Bool} {ks:List EK} {x y:AArg}:stZ call G st l d (.eqs n ks x y)=putX st d (eqsV n ks (evA G st.sl x) (evA G st.sl y)):=Eq.trans rfl rfl
theorem stZ_un {op:UnOp} {x:AArg}:stZ call G st l d (.un op x)=putX st d (unV op (evA G st.sl x)):=Eq.trans rfl rfl
theorem stZ_conv {k:IntKind} {x:AArg}:stZ call G st l d (.conv k x)=putX st d (convo k (asInt? (evA G st.sl x))):=Eq.trans rfl rfl
theorem stZ_cvbs {x:AArg}:stZ call G st l d (.cvbs x)=putX st d (cvbsV st.hp (evA G st.sl x)):=Eq.trans rfl rfl
theorem stZ_addo {o:Nat} {x:AArg}:stZ call G st l d (.addo o x)=putX st d (addoV o (evA G st.sl x)):=Eq.trans rfl rfl
theorem stZ_ixA {n z:Nat} {x i:AArg}:stZ call G st l d (.ixA n z x i)=putX st d (ixAo n z (evA G st.sl x) (asInt? (evA G st.sl i))):=Eq.trans rfl rfl
theorem stZ_ixL {z:Nat} {x i:AArg}:stZ call G st l d (.ixL z x i)=putX st d (ixLo st.hp z (evA G st.sl x) (asInt? (evA G st.sl i))):=Eq.trans rfl rfl
theorem stZ_ixS {x i:AArg}:stZ call G st l d (.ixS x i)=putX st d (ixSo (evA G st.sl x) (asInt? (evA G st.sl i))):=Eq.trans rfl rfl
theorem stZ_slS {x:AArg} {lo hi:Option AArg}:stZ call G st l d (.slS x lo hi)=putX st d (slSV (evA G st.sl x) (lo.map (evA G st.sl)) (hi.map (evA G st.sl))):=Eq.trans rfl rfl
theorem stZ_slL {z:Nat} {x:AArg} {lo hi:Option AArg}:stZ call G st l d (.slL z x lo hi)=putX st d (slLV st.hp z (evA G st.sl x) (lo.map (evA G st.sl)) (hi.map (evA G st.sl))):=Eq.trans rfl rfl
theorem stZ_build {z:List Value} {ps:List (Nat × Nat × AArg)}:stZ call G st l d (.build z ps)=putX st d (aggo (fillV (z.map rawC) (ps.map fun (o,s,x)=>(o,s,evA G st.sl x)))):=Eq.trans rfl rfl
theorem stZ_ext {x:AArg} {n:Nat}:stZ call G st l d (.ext x n)=putX st d (extV (evA G st.sl x) n):=Eq.trans rfl rfl
theorem stZ_lenS {x:AArg}:stZ call G st l d (.lenS x)=putX st d (lenSo (asStr? (evA G st.sl x))):=Eq.trans rfl rfl
theorem stZ_lenL {x:AArg}:stZ call G st l d (.lenL x)=putX st d (lenLV (evA G st.sl x)):=Eq.trans rfl rfl
theorem stZ_max {x y:AArg}:stZ call G st l d (.max2 x y)=putX st d (maxV (evA G st.sl x) (evA G st.sl y)):=Eq.trans rfl rfl
theorem stZ_mkfn {f:FuncId} {xs:List AArg}:stZ call G st l d (.mkfn f xs)=putX st d ((xs.mapM fun c=>oneOf (evA G st.sl c)).map fun cs=>.one (.fn f cs)):=Eq.trans rfl rfl
theorem drZ_l:drZ call G st d ai false=ldZ call G st d ai:=Eq.trans rfl rfl
theorem drZ_q:drZ call G st d ai true=qtZ call G st d ai:=Eq.trans rfl rfl
theorem ldZ_call {f:FuncId} {xs:List AArg}:ldZ call G st d (.call f xs)=dvK call G d f xs st (call f (vpAs G st xs) []):=Eq.trans rfl rfl
theorem ldZ_bslc {z b:Nat} {zz:List Value} {ps:List (Nat × AArg)}:ldZ call G st d (.bslc z b zz ps)=bsO G st d z b zz ps:=Eq.trans rfl rfl
theorem ldZ_store {n:Nat} {x v:AArg}:ldZ call G st none (.store n x v)=stX G st n x v:=Eq.trans rfl rfl
theorem qtZ_mov {x:AArg}:qtZ call G st d (.mov x)=some ⟨putS st.sl d (evA G st.sl x),st.hp⟩:=Eq.trans rfl rfl
theorem qtZ_pick {c x y:AArg}:qtZ call G st d (.pick c x y)=putX st d (pickV (evA G st.sl c) (evA G st.sl x) (evA G st.sl y)):=Eq.trans rfl rfl
theorem qtZ_load {g:Bool} {n:Nat} {x:AArg}:qtZ call G st d (.load g n x)=putX st d (loadV st.hp g n (evA G st.sl x)):=Eq.trans rfl rfl
theorem qtZ_mpx {p:Bool} {z:Value} {x y:AArg}:qtZ call G st d (.mpx p z x y)=putX st d (mpxV p z (evA G st.sl x) (evA G st.sl y)):=Eq.trans rfl rfl
theorem qtZ_bin {op:BinOp} {x y:AArg}:qtZ call G st d (.bin op x y)=putX st d (binV op (evA G st.sl x) (evA G st.sl y)):=Eq.trans rfl rfl
theorem qtZ_binb {n:Bool} {x y:AArg}:qtZ call G st d (.binb n x y)=putX st d (binbV n (evA G st.sl x) (evA G st.sl y)):=Eq.trans rfl rfl
theorem qtZ_eqs {n:Bool} {ks:List EK} {x y:AArg}:qtZ call G st d (.eqs n ks x y)=putX st d (eqsV n ks (evA G st.sl x) (evA G st.sl y)):=Eq.trans rfl rfl
theorem qtZ_un {op:UnOp} {x:AArg}:qtZ call G st d (.un op x)=putX st d (unV op (evA G st.sl x)):=Eq.trans rfl rfl
theorem qtZ_addo {o:Nat} {x:AArg}:qtZ call G st d (.addo o x)=putX st d (addoV o (evA G st.sl x)):=Eq.trans rfl rfl
theorem qtZ_ixL {z:Nat} {x i:AArg}:qtZ call G st d (.ixL z x i)=putX st d (ixLo st.hp z (evA G st.sl x) (asInt? (evA G st.sl i))):=Eq.trans rfl rfl
theorem qtZ_ixS {x i:AArg}:qtZ call G st d (.ixS x i)=putX st d (ixSo (evA G st.sl x) (asInt? (evA G st.sl i))):=Eq.trans rfl rfl
theorem qtZ_slS {x:AArg} {lo hi:Option AArg}:qtZ call G st d (.slS x lo hi)=putX st d (slSV (evA G st.sl x) (lo.map (evA G st.sl)) (hi.map (evA G st.sl))):=Eq.trans rfl rfl
theorem qtZ_build {z:List Value} {ps:List (Nat × Nat × AArg)}:qtZ call G st d (.build z ps)=putX st d (aggo (fillV (z.map rawC) (ps.map fun (o,s,x)=>(o,s,evA G st.sl x)))):=Eq.trans rfl rfl
theorem qtZ_ext {x:AArg} {n:Nat}:qtZ call G st d (.ext x n)=putX st d (extV (evA G st.sl x) n):=Eq.trans rfl rfl
theorem qtZ_lenS {x:AArg}:qtZ call G st d (.lenS x)=putX st d (lenSo (asStr? (evA G st.sl x))):=Eq.trans rfl rfl
theorem qtZ_lenL {x:AArg}:qtZ call G st d (.lenL x)=putX st d (lenLV (evA G st.sl x)):=Eq.trans rfl rfl
theorem gK_b {c b:Bool}:gK b (.one (.dc (.raw (.bool c))))=some (eqb c b):=Eq.trans rfl rfl
theorem gK_skip {b:Bool}:gK b (.tup [])=some false:=Eq.trans rfl rfl
theorem eqb_true (c:Bool):eqb c true=c:=by cases c<;>rfl
theorem eqb_false (c:Bool):eqb c false=!c:=by cases c<;>rfl
theorem putX_s {v:AV}:putX st d (some v)=some ⟨putS st.sl d v,st.hp⟩:=Eq.trans rfl rfl
end
theorem pickV_t {x y:AV}:pickV (.one (.dc (.raw (.bool true)))) x y=some x:=Eq.trans rfl rfl
theorem pickV_f {x y:AV}:pickV (.one (.dc (.raw (.bool false)))) x y=some y:=Eq.trans rfl rfl
theorem pickV_pos {p:Prop} [Decidable p] {x y:AV} (h:p):pickV (.one (.dc (.raw (.bool (decide p))))) x y=some x:=by rw [decide_eq_true h];rfl
theorem pickV_neg {p:Prop} [Decidable p] {x y:AV} (h:¬ p):pickV (.one (.dc (.raw (.bool (decide p))))) x y=some y:=by rw [decide_eq_false h];rfl
section
variable {k:IntKind} {x y:Int}
theorem bin_add:binV .add (.one (.dc (.raw (.int k x)))) (.one (.dc (.raw (.int k y))))=some (.one (.dc (.raw (.int k (k.wrap (x+y)))))):=by simp [binV,intOp]
theorem bin_sub:binV .sub (.one (.dc (.raw (.int k x)))) (.one (.dc (.raw (.int k y))))=some (.one (.dc (.raw (.int k (k.wrap (x - y)))))):=by simp [binV,intOp]
theorem bin_mul:binV .mul (.one (.dc (.raw (.int k x)))) (.one (.dc (.raw (.int k y))))=some (.one (.dc (.raw (.int k (k.wrap (x * y)))))):=by simp [binV,intOp]
theorem bin_eql:binV .eql (.one (.dc (.raw (.int k x)))) (.one (.dc (.raw (.int k y))))=some (.one (.dc (.raw (.bool (decide (x=y)))))):=by simp [binV,intOp,Bool.beq_eq_decide_eq]
theorem bin_neq:binV .neq (.one (.dc (.raw (.int k x)))) (.one (.dc (.raw (.int k y))))=some (.one (.dc (.raw (.bool (decide (x≠y)))))):=by
 simp only [binV,intOp,if_true,Option.map_some,rawV]
 congr 5
 rw [Bool.eq_iff_iff];simp
theorem bin_lss:binV .lss (.one (.dc (.raw (.int k x)))) (.one (.dc (.raw (.int k y))))=some (.one (.dc (.raw (.bool (decide (x < y)))))):=by simp [binV,intOp]
theorem bin_leq:binV .leq (.one (.dc (.raw (.int k x)))) (.one (.dc (.raw (.int k y))))=some (.one (.dc (.raw (.bool (decide (x≤y)))))):=by simp [binV,intOp]
theorem bin_gtr:binV .gtr (.one (.dc (.raw (.int k x)))) (.one (.dc (.raw (.int k y))))=some (.one (.dc (.raw (.bool (decide (y < x)))))):=by simp [binV,intOp]
theorem bin_geq:binV .geq (.one (.dc (.raw (.int k x)))) (.one (.dc (.raw (.int k y))))=some (.one (.dc (.raw (.bool (decide (y≤x)))))):=by simp [binV,intOp]
end
theorem bin_seq {x y:ByteArray}:binV .eql (.one (.dc (.raw (.string x)))) (.one (.dc (.raw (.string y))))=some (.one (.dc (.raw (.bool (decide (x=y)))))):=by
 simp only [binV,strOp,Option.map_some,rawV]
 congr 5
 rw [Bool.eq_iff_iff]
 simp [ByteArray.toList_eq,ByteArray.ext_iff,Array.ext_iff]
theorem un_not {c:Bool}:unV .not (.one (.dc (.raw (.bool c))))=some (.one (.dc (.raw (.bool (!c))))):=Eq.trans rfl rfl
theorem b_tb (b:Bool):(b==true)=b:=by cases b<;>rfl
theorem b_fb (b:Bool):(b==false)=!b:=by cases b<;>rfl
theorem ibeq (a b:Int):(a==b)=decide (a=b):=by rw [Bool.eq_iff_iff];simp
theorem dec_and {p q:Prop} [Decidable p] [Decidable q]:(decide p&&decide q)=decide (p∧q):=by simp
theorem dec_not {p:Prop} [Decidable p]:(!decide p)=decide (¬ p):=by simp
theorem allLen_map {α:Type} {f:α→List DC} {n:Nat} (h:∀ x,(f x).length=n) (l:List α):allLen n (l.map f)=true:=by
 induction l with
 | nil=>rfl
 | cons x l ih=>simp [allLen,ih,h,nq_eq]
theorem take_map_len {α β:Type} {f:α→β} {l:List α}:List.take l.length (l.map f)=l.map f:=List.take_of_length_le (by simp)
noncomputable def retI (own:Bool) (rs:List RetV) (n:Nat) (s:AS):Bool→Option (AV × List AObj)
 | true=>retK own n s.hp (retV s rs)
 | false=>none
theorem retZ_r {own:Bool} {rs:List RetV} {n:Nat}:retZ own rs n (some (.ret,s))=retI own rs n s (decide (n≤s.hp.length)):=by
 by_cases h:n≤s.hp.length<;>simp [retZ,isEnd,h,retI]
theorem retZ_n {own:Bool} {rs:List RetV} {n:Nat}:retZ own rs n (some (.normal,s))=retI own rs n s (decide (n≤s.hp.length)):=by
 by_cases h:n≤s.hp.length<;>simp [retZ,isEnd,h,retI]
theorem retI_t {own:Bool} {rs:List RetV} {n:Nat}:retI own rs n s true=retK own n s.hp (retV s rs):=Eq.trans rfl rfl
def rtWz (n:Nat) (hp:List AObj) (v:AV):Bool→AV × List AObj
 | true=>(nzV v,hp.take n)
 | false=>(nzV v,hp)
theorem retK_o {n:Nat} {hp:List AObj} {v:AV}:retK true n hp (some v)=some (rtWz n hp v (keepV (fun id=>decide (n≤id)) v&&(hp.take n).all (keepO fun id=>decide (n≤id)))):=by
 simp only [retK,retW,cond_true];cases (keepV (fun id=>decide (n≤id)) v&&(hp.take n).all (keepO fun id=>decide (n≤id)))<;>rfl
theorem rtWz_f {n:Nat} {hp:List AObj} {v:AV}:rtWz n hp v false=(nzV v,hp):=Eq.trans rfl rfl
def rtFz (n:Nat) (st:AS):AV × List AObj:=(nzV (killV (fun id=>decide (n≤id)) (st.sl.getD 0 .junk)),(st.hp.take n).map (killO fun id=>decide (n≤id)))
theorem retK_f {n:Nat} {hp:List AObj} {v:AV}:retK false n hp (some v)=some (rtFz n (frzIds (idsV v) (bxW n (idsV v) ⟨[v],hp⟩ (blsV v)))):=Eq.trans rfl rfl
theorem bxW_t {n:Nat} {ids:List Nat}:bxW n ids st true=bxIds n ids st:=Eq.trans rfl rfl
theorem bxW_f {n:Nat} {ids:List Nat}:bxW n ids st false=st:=Eq.trans rfl rfl
theorem bx1_t {id:Nat} {cs:List Cel}:bx1 id st (.box cs) true=bxB id cs st:=Eq.trans rfl rfl
def rtCz:Option TV→Option (List TV)→Option (List TV)
 | some a,some l=>some (a::l)
 | _,_=>none
def rtLz (st:AS):List RetV→Option (List TV)
 | []=>some []
 | r::rs=>rtCz ((retOne st r).bind toTV) (rtLz st rs)
theorem rtCz_s {a:TV} {l:List TV}:rtCz (some a) (some l)=some (a::l):=Eq.trans rfl rfl
theorem rtLz_eq (st:AS):∀ rs:List RetV,rs.mapM (fun r=>(retOne st r).bind toTV)=rtLz st rs
 | []=>rfl
 | r::rs=>by
  rw [List.mapM_cons,rtLz_eq st rs,rtLz]
  cases (retOne st r).bind toTV<;>cases rtLz st rs<;>rfl
theorem retV_0 {st:AS}:retV st []=some (.tup []):=Eq.trans rfl rfl
theorem retV_1 {st:AS} {r:RetV}:retV st [r]=retOne st r:=Eq.trans rfl rfl
theorem retV_2 {st:AS} {r q:RetV} {rs:List RetV}:retV st (r::q::rs)=(rtLz st (r::q::rs)).map .tup:=by
 rw [← rtLz_eq];rfl
theorem EV_run {G:Glob} {T:HT} {f:FuncId} {h:HF} {args:List AV} {hp:List AObj} {r:AV × List AObj} (hT:T.tab f=some h) (he:retZ h.own h.rs hp.length (EC (EV G T) G h.code ⟨args++junks (h.nt - args.length),hp⟩)=some r):EV G T f args hp=some r:=EV_of hT he
end
section
variable {call:CallT} {G:Glob} {st:AS} {d:Option Nat} {f:FuncId} {xs:List AArg} {av:AV} {os:List AObj} {o:AObj}
def clBz (call:CallT) (G:Glob) (d:Option Nat) (f:FuncId) (xs:List AArg) (st:AS):Bool→Option AS
 | true=>vwK call G d f xs st (call f (vwAs G st xs) [])
 | false=>evCall (nzCall call) d f (xs.map (evA G (frzIds (bldAs G st.sl xs) st).sl)) (frzIds (bldAs G st.sl xs) st)
def vwBz (call:CallT) (G:Glob) (d:Option Nat) (f:FuncId) (xs:List AArg) (st:AS) (av:AV):Bool→Option AS
 | true=>some ⟨putS st.sl d av,st.hp⟩
 | false=>dtK call G d f xs (frzIds (bldAs G st.sl xs) st)
def dvBz (call:CallT) (G:Glob) (d:Option Nat) (f:FuncId) (xs:List AArg) (st:AS) (av:AV):Bool→Option AS
 | true=>some ⟨putS st.sl d av,st.hp⟩
 | false=>dnZ call G d f xs st
def dtBz (call:CallT) (G:Glob) (d:Option Nat) (f:FuncId) (xs:List AArg) (st:AS):Bool→Option AS
 | true=>nwK d st (call f (nzAs G st.sl xs) [])
 | false=>none
def qtBz (call:CallT) (G:Glob) (d:Option Nat) (f:FuncId) (xs:List AArg) (st:AS):Bool→Option AS
 | true=>qcK d st (call f (nzAs G st.sl xs) [])
 | false=>none
theorem clZ_e:clZ call G d f xs st=clBz call G d f xs st (plainAs G st.sl xs):=by unfold clZ;cases plainAs G st.sl xs<;>rfl
theorem clBz_t:clBz call G d f xs st true=vwK call G d f xs st (call f (vwAs G st xs) []):=Eq.trans rfl rfl
theorem clBz_f:clBz call G d f xs st false=evCall (nzCall call) d f (xs.map (evA G (frzIds (bldAs G st.sl xs) st).sl)) (frzIds (bldAs G st.sl xs) st):=Eq.trans rfl rfl
theorem dtK_e:dtK call G d f xs st=dtBz call G d f xs st ((nzAs G st.sl xs).all (keepV fun _=>true)):=by unfold dtK;cases (nzAs G st.sl xs).all (keepV fun _=>true)<;>rfl
theorem dtBz_t:dtBz call G d f xs st true=nwK d st (call f (nzAs G st.sl xs) []):=Eq.trans rfl rfl
theorem qtZ_c:qtZ call G st d (.call f xs)=qtBz call G d f xs st ((nzAs G st.sl xs).all (keepV fun _=>true)):=by rw [qtZ];cases (nzAs G st.sl xs).all (keepV fun _=>true)<;>rfl
theorem qtBz_t:qtBz call G d f xs st true=qcK d st (call f (nzAs G st.sl xs) []):=Eq.trans rfl rfl
theorem vwBz_t:vwBz call G d f xs st av true=some ⟨putS st.sl d av,st.hp⟩:=Eq.trans rfl rfl
theorem vwBz_f:vwBz call G d f xs st av false=dtK call G d f xs (frzIds (bldAs G st.sl xs) st):=Eq.trans rfl rfl
theorem dvBz_t:dvBz call G d f xs st av true=some ⟨putS st.sl d av,st.hp⟩:=Eq.trans rfl rfl
theorem vwK_v:vwK call G d f xs st (some (av,[]))=vwBz call G d f xs st av (rawA? av):=by rw [vwK];cases rawA? av<;>rfl
theorem vwK_o:vwK call G d f xs st (some (av,o::os))=dtK call G d f xs (frzIds (bldAs G st.sl xs) st):=Eq.trans rfl rfl
theorem dvK_v:dvK call G d f xs st (some (av,[]))=dvBz call G d f xs st av (rawA? av):=by rw [dvK];cases rawA? av<;>rfl
theorem nwK_s:nwK d st (some (av,os))=some ⟨putS st.sl d (renV (jmap [] st.hp.length) av),st.hp++os.map (renO (jmap [] st.hp.length))⟩:=Eq.trans rfl rfl
theorem qcK_s:qcK d st (some (av,[]))=bif keepV (fun _=>true) av then some ⟨putS st.sl d av,st.hp⟩ else none:=Eq.trans rfl rfl
theorem qcK_o:qcK d st (some (av,o::os))=qcF d st (killV (fun id=>decide (0≤id)) ((frzIds (idsV av) ⟨[av],o::os⟩).sl.getD 0 .junk)):=Eq.trans rfl rfl
theorem cvK_f {caps:List Cel}:cvK call G d xs st (.one (.fn f caps))=evCall (nzCall call) d f (xs.map (evA G st.sl)++caps.map AV.one) st:=Eq.trans rfl rfl
theorem apZ_b {size bytes id n:Nat} {x:AV}:apZ d size bytes st (.one (.bld id n)) x=apB d size bytes st id n (hpGet st.hp id) (srcV st.hp x):=Eq.trans rfl rfl
theorem apB_s {size bytes id n c sz:Nat} {es news:List (List DC)}:apB d size bytes st id n (.arr c sz es) (some news)=if sz=size∧n≤es.length∧allLen size news=true∧(n+news.length) * bytes≤140737488355328 then
   some ⟨putS (klS id st.sl) d (.one (.bld id (n+news.length))),(klH id st.hp).set id (.arr 0 size (es.take n++news))⟩ else none:=rfl
theorem apN_s {size bytes:Nat} {news:List (List DC)}:apN d size bytes st (some news)=if allLen size news=true∧news.length * bytes≤140737488355328 then
   some ⟨putS st.sl d (.one (.bld st.hp.length news.length)),klH st.hp.length st.hp++[.arr 0 size news]⟩ else none:=rfl
theorem bsZ_t {size len:Nat} {z:List Value} {ps:List (Nat × AArg)}:bsZ G st d size len z ps true=bsX G (frzIds (bldPs G st.sl ps) st) d size len z ps:=Eq.trans rfl rfl
theorem bsZ_f {size len:Nat} {z:List Value} {ps:List (Nat × AArg)}:bsZ G st d size len z ps false=bsO G (frzIds (bldPs G st.sl ps) st) d size len z ps:=Eq.trans rfl rfl
theorem bvZ_a {id c s:Nat} {es:List (List DC)}:bvZ id st (.arr c s es)=bv1 id s es st es.isEmpty:=Eq.trans rfl rfl
theorem bv1_t {id s:Nat} {es:List (List DC)}:bv1 id s es st true=frzIds [id] st:=Eq.trans rfl rfl
theorem bv1_f {id s:Nat} {es:List (List DC)}:bv1 id s es st false=bvB id s es st:=Eq.trans rfl rfl
theorem ghN_n {i sz:Nat}:ghN i sz st (.one (.dc (.raw (.slice none 0 0))))=⟨st.sl.set i (.one (.bld st.hp.length 0)),st.hp++[.arr 0 sz []]⟩:=Eq.trans rfl rfl
theorem srcV_d {hp:List AObj} {es:List (List DC)}:srcV hp (.one (.dc (.slc es)))=some es:=Eq.trans rfl rfl
end
section
variable {k:IntKind} {x y:Int}
theorem bin_quo:binV .quo (.one (.dc (.raw (.int k x)))) (.one (.dc (.raw (.int k y))))=if y=0 then none else some (.one (.dc (.raw (.int k (k.wrap (x.tdiv y)))))):=by
 simp only [binV,intOp,if_true];split<;>rfl
theorem bin_rem:binV .rem (.one (.dc (.raw (.int k x)))) (.one (.dc (.raw (.int k y))))=if y=0 then none else some (.one (.dc (.raw (.int k (x.tmod y))))):=by
 simp only [binV,intOp,if_true];split<;>rfl
def andI (k:IntKind) (x y:Int):Int:=k.wrap (BitVec.ofInt k.bits x &&& BitVec.ofInt k.bits y).toNat
def orI (k:IntKind) (x y:Int):Int:=k.wrap (BitVec.ofInt k.bits x ||| BitVec.ofInt k.bits y).toNat
theorem bin_and:binV .and (.one (.dc (.raw (.int k x)))) (.one (.dc (.raw (.int k y))))=some (.one (.dc (.raw (.int k (andI k x y))))):=by simp [binV,intOp,andI]
theorem bin_or:binV .or (.one (.dc (.raw (.int k x)))) (.one (.dc (.raw (.int k y))))=some (.one (.dc (.raw (.int k (orI k x y))))):=by simp [binV,intOp,orI]
theorem bin_shl {j:IntKind} (h:0≤y):binV .shl (.one (.dc (.raw (.int j x)))) (.one (.dc (.raw (.int k y))))=some (.one (.dc (.raw (.int j (j.wrap (x * 2 ^ (min y.toNat j.bits))))))):=by
 simp only [binV];rw [if_neg (by omega)]
theorem bin_shr {j:IntKind} (h:0≤y):binV .shr (.one (.dc (.raw (.int j x)))) (.one (.dc (.raw (.int k y))))=some (.one (.dc (.raw (.int j (x.fdiv (2 ^ (min y.toNat j.bits))))))):=by
 simp only [binV];rw [if_neg (by omega)]
theorem un_neg:unV .neg (.one (.dc (.raw (.int k x))))=some (.one (.dc (.raw (.int k (k.wrap (0 - x)))))):=Eq.trans rfl rfl
theorem bin_sadd {a b:ByteArray} (h:a.size+b.size≤9223372036854775807):binV .add (.one (.dc (.raw (.string a)))) (.one (.dc (.raw (.string b))))=some (.one (.dc (.raw (.string (a++b))))):=by
 simp only [binV,strOp];rw [if_pos h];rfl
theorem beqS {x y:ByteArray}:(x.toList==y.toList)=decide (x=y):=by
 rw [Bool.eq_iff_iff]
 simp [ByteArray.toList_eq,ByteArray.ext_iff,Array.ext_iff]
theorem bin_sneq {x y:ByteArray}:binV .neq (.one (.dc (.raw (.string x)))) (.one (.dc (.raw (.string y))))=some (.one (.dc (.raw (.bool (decide (x≠y)))))):=by
 simp only [binV,strOp,Option.map_some,rawV,beqS]
 congr 5
 simp
end
section
variable {call:CallT} {G:Glob} {st s s':AS} {l:List AOp}
variable {r:Nat} {prs:List (Nat × Nat)} {acc:List FP} {d:Option Nat} {ai:AI} {f:FP} {R:List Nat}
def fvK (call:CallT) (G:Glob) (prs:List (Nat × Nat)) (acc:List FP) (r:Nat) (l:List AOp):Option (AS × FP)→Option AS
 | some (s,f)=>fvR call G prs (acc++[f]) r l (some s)
 | none=>none
theorem EC_drawnF {ops:List AOp}:EC call G (.drawnF prs ops) st=nrm (fvR call G prs [] st.hp.length ops (some ⟨st.sl,st.hp++deads (nAl ops)⟩)):=Eq.trans rfl rfl
theorem fvR_nil:fvR call G prs acc r [] (some st)=bif chkF prs acc then some st else none:=Eq.trans rfl rfl
theorem fvR_o {g:Option (Nat × Bool)} {l:List AOp}:fvR call G prs acc r (⟨d,ai,g⟩::l) (some st)=fvK call G prs acc (bif isAl ai then r+1 else r) l (fvO call G st d r ai g):=by rw [fvR];cases fvO call G st d r ai g<;>rfl
theorem fvK_s {l:List AOp}:fvK call G prs acc r l (some (st,f))=fvR call G prs (acc++[f]) r l (some st):=Eq.trans rfl rfl
theorem fvO_n:fvO call G st d r ai none=fvA call G st d r ai:=Eq.trans rfl rfl
theorem fvA_call {f:FuncId} {xs:List AArg}:fvA call G st d r (.call f xs)=fvC call G st d f xs ((xs.map (evA G st.sl)).flatMap idsV):=Eq.trans rfl rfl
theorem fvA_cpys {x y:AArg}:fvA call G st d r (.cpys x y)=fvY d st (evA G st.sl x) (asStr? (evA G st.sl y)):=Eq.trans rfl rfl
theorem fvY_b {id lo n:Nat} {bs:ByteArray}:fvY d st (.one (.bls id lo n 1)) (some bs)=fvY2 d id lo n bs st st.hp[id]?:=by simp only [fvY,if_true]
theorem fvY2_b {id lo n:Nat} {bs:ByteArray} {cs:List Cel} (h:lo+n≤cs.length):fvY2 d id lo n bs st (some (.box cs))=some (⟨putS st.sl d (rawV (.int .i64 (min bs.size n:Nat))),st.hp.set id (.box (putAt cs lo (bytesCel (bs.data.toList.take n))))⟩,[id],[id]):=if_pos h
theorem fvC_0 {f:FuncId} {xs:List AArg}:fvC call G st d f xs []=fvP [] (qtZ call G st d (.call f xs)):=Eq.trans rfl rfl
theorem fvC_1 {f:FuncId} {xs:List AArg} {id:Nat}:fvC call G st d f xs [id]=fvB call d f st (xs.map (evA G st.sl)) id st.hp[id]?:=Eq.trans rfl rfl
theorem fvP_s:fvP R (some s)=some (s,[],R):=Eq.trans rfl rfl
theorem fpV_o {c:Cel}:fpV (.one c)=fpC c:=Eq.trans rfl rfl
theorem fpA_n {sl:List AV}:fpA G sl []=[]:=Eq.trans rfl rfl
theorem fpA_c {sl:List AV} {x:AArg} {xs:List AArg}:fpA G sl (x::xs)=fpV (evA G sl x)++fpA G sl xs:=Eq.trans rfl rfl
theorem nAl_n:nAl []=0:=Eq.trans rfl rfl
theorem nAl_c {g:Option (Nat × Bool)} {l:List AOp}:nAl (⟨d,ai,g⟩::l)=bif isAl ai then nAl l+1 else nAl l:=Eq.trans rfl rfl
theorem deads_0:deads 0=[]:=Eq.trans rfl rfl
theorem chkF_n {fs:List FP}:chkF [] fs=true:=Eq.trans rfl rfl
theorem chkF_c {p q:Nat} {fs:List FP}:chkF ((p,q)::prs) fs=(dsM (atF fs p) (atF fs q)&&chkF prs fs):=Eq.trans rfl rfl
theorem dsM_p {a b c e:List Nat}:dsM (a,b) (c,e)=(disM a e&&(disM a c&&disM c b)):=Eq.trans rfl rfl
theorem disM_n {b:List Nat}:disM [] b=true:=Eq.trans rfl rfl
theorem atF_0 {fs:List FP}:atF (f::fs) 0=f:=Eq.trans rfl rfl
theorem atF_s {fs:List FP} {n:Nat}:atF (f::fs) (n+1)=atF fs n:=Eq.trans rfl rfl
theorem fvA_mov {x:AArg}:fvA call G st d r (.mov x)=fvP (fpA G st.sl [x]) (stZ call G st [] d (.mov x)):=Eq.trans rfl rfl
theorem fvA_load {g:Bool} {n:Nat} {x:AArg}:fvA call G st d r (.load g n x)=fvP (fpA G st.sl [x]) (stZ call G st [] d (.load g n x)):=Eq.trans rfl rfl
theorem fvA_bin {op:BinOp} {x y:AArg}:fvA call G st d r (.bin op x y)=fvP (fpA G st.sl [x,y]) (stZ call G st [] d (.bin op x y)):=Eq.trans rfl rfl
theorem fvA_addo {o:Nat} {x:AArg}:fvA call G st d r (.addo o x)=fvP (fpA G st.sl [x]) (stZ call G st [] d (.addo o x)):=Eq.trans rfl rfl
theorem fvA_slL {z:Nat} {x:AArg} {lo hi:Option AArg}:fvA call G st d r (.slL z x lo hi)=fvP (fpA G st.sl (x::(lo.toList++hi.toList))) (stZ call G st [] d (.slL z x lo hi)):=Eq.trans rfl rfl
end
attribute [go_sem] EC_drawnF fvR_nil fvR_o fvK_s fvO_n fvA_cpys fvY_b fvY2_b fvA_call fvC_0 fvC_1 fvP_s fpV_o fpA_n fpA_c nAl_n nAl_c deads_0 chkF_n chkF_c dsM_p disM_n atF_0 atF_s fpC isAl fvA_mov fvA_load fvA_bin fvA_addo fvA_slL
attribute [go_sem] EC_skip EC_ret EC_exit EC_region EC_drawn EC_seq EC_cond EC_block EC_loop EC_gh EC_trm sqK_n sqK_r sqK_e cdK_t cdK_f cdK_pos cdK_neg blkK_n blkK_r blkK_e fnK_r fnK_e rnK_n nrm_s evR_nil evR_o stO_n stO_g guZ_t guZ_f guZ_pos guZ_neg guD_t guD_f guD_pos guD_neg drO_n drO_g evDr_nil evDr_o
attribute [go_sem] bvZ_a bv1_t bv1_f bvIds bvB bvC bvCs bvV bvT bvS bvO bvH
attribute [go_sem] bxW_t bxW_f bx1_t bxIds bxB bxV bxT bxC bxD bxO blsV blsC blsCs blsT blsTs
attribute [go_sem] atO
attribute [go_sem] refB_f vpAs stZ_mpx qtZ_mpx stZ_cpys stZ_cvsb cpyZ cpyV_s cpyK_b cvaK_s refZ_cvs cvsZ cvsK_s mbK_v refZ_mk EC_regR evRR_nil evRR_o stR_t stR_f refZ_c isRef hasN capD clrZ mkZ mkK_v stZ_call stZ_callv stZ_app stZ_bslc stZ_alloc stZ_box stZ_store stZ_mov stZ_pick stZ_load stZ_nilc stZ_bin stZ_binb stZ_eqs stZ_un stZ_conv stZ_cvbs stZ_addo stZ_ixA stZ_ixL stZ_ixS stZ_slS stZ_slL stZ_build stZ_ext stZ_lenS stZ_lenL stZ_max stZ_mkfn
attribute [go_sem] drZ_l drZ_q ldZ_call ldZ_bslc ldZ_store qtZ_mov qtZ_pick qtZ_load qtZ_bin qtZ_binb qtZ_eqs qtZ_un qtZ_addo qtZ_ixL qtZ_ixS qtZ_slS qtZ_build qtZ_ext qtZ_lenS qtZ_lenL gK_b gK_skip eqb_true eqb_false putX_s pickV_t pickV_f pickV_pos pickV_neg bin_add bin_sub bin_mul bin_eql bin_neq bin_lss bin_leq bin_gtr bin_geq bin_seq un_not dec_and dec_not
attribute [go_sem] ibeq and_false false_and or_false false_or or_true true_or Bool.true_or Bool.false_or Bool.or_true Bool.or_false not_true_eq_false not_false_eq_true List.flatMap_cons List.flatMap_nil b_tb b_fb toNat_sub1 allLen take_map_len retZ_r retZ_n retI_t addA boxX_s toNat_add jk putAt_s putAt_z retK_o rtWz_f rtFz retK_f
attribute [go_sem] nrmB nrmL clZ_e clBz_t clBz_f dtK_e dtBz_t qtZ_c qtBz_t vwBz_t vwBz_f dvBz_t vwK_v vwK_o dvK_v nwK_s qcK_s qcK_o qcF List.getD_cons_zero cvK_f apZ_b apB_s apN_s bsZ_t bsZ_f ghN_n srcV_d bin_quo bin_rem bin_and bin_or bin_shl bin_shr un_neg bin_sadd bin_sneq ghE klC klCs klV klS klO klH plainC plainV plainAs vwAs nzAs bldC bldCs bldV bldAs nzCall cvZ isT anyT usesL litL litU bldPs bsO ctC ctCs ctV ctO ctH ctS trimA frzIds idxN setJ isBoxO idsV idsC idsL idsT keepV keepL keepT keepO Cel.keep killV killC killT killO renV renC renT renL renO jmap bldsOf junks rtCz_s rtLz retV_0 retV_1 retV_2 toTV retOne
end
section
def memN (x:Nat):List Nat→Bool
 | []=>false
 | j::J=>nq x j||memN x J
theorem memN_eq (x:Nat):∀ J:List Nat,memN x J=J.contains x
 | []=>rfl
 | j::J=>by rw [memN,List.contains_cons,memN_eq x J,nq_eq]
def rcB (hp:List AObj) (n id:Nat) (todo J:List Nat):Bool→List Nat
 | true=>reach hp n todo J
 | false=>reach hp n (idsO (hpGet hp id)++todo) (J++[id])
theorem reach_nil {hp:List AObj} {n:Nat} {J:List Nat}:reach hp n [] J=J:=by cases n<;>rfl
theorem reach_s {hp:List AObj} {n id:Nat} {todo J:List Nat}:reach hp (n+1) (id::todo) J=rcB hp n id todo J (memN id J):=by
 rw [reach,memN_eq];cases J.contains id<;>rfl
theorem rcB_f {hp:List AObj} {n id:Nat} {todo J:List Nat}:rcB hp n id todo J false=reach hp n (idsO (hpGet hp id)++todo) (J++[id]):=Eq.trans rfl rfl
def dstN:List Nat→Bool
 | []=>true
 | j::J=>!memN j J&&dstN J
theorem dstN_eq:∀ J:List Nat,dstN J=pairsOK (fun i j=>i != j) J
 | []=>rfl
 | j::J=>by
  rw [dstN,pairsOK,dstN_eq J,memN_eq]
  congr 1
  induction J with
  | nil=>rfl
  | cons i J ih=>simp only [List.contains_cons,List.all_cons,Bool.not_or,ih];rfl
def kpC (J:List Nat):Cel→Bool
 | .ptr id _=>memN id J
 | .bld id _=>memN id J
 | .ept id _ _ _=>memN id J
 | .bls id _ _ _=>memN id J
 | .fn f caps=>(Cel.fn f caps).keep (outJ J)
 | .dc _=>true
 | .ref _=>true
 | .mpc _=>true
 | .junk=>true
def kpCs (J:List Nat):List Cel→Bool
 | []=>true
 | c::cs=>kpC J c&&kpCs J cs
def kpV (J:List Nat):AV→Bool
 | .one c=>kpC J c
 | .agg cs=>kpCs J cs
 | .tup l=>l.all (keepT (outJ J))
 | .junk=>true
def kpVs (J:List Nat):List AV→Bool
 | []=>true
 | v::vs=>kpV J v&&kpVs J vs
def kpO (J:List Nat):AObj→Bool
 | .box cs=>kpCs J cs
 | .arr _ _ _=>true
 | .dead=>true
def kpH (J:List Nat) (hp:List AObj):List Nat→Bool
 | []=>true
 | j::l=>decide (j < hp.length)&&kpO J (hpGet hp j)&&kpH J hp l
theorem kpC_eq (J:List Nat) (c:Cel):kpC J c=c.keep (outJ J):=by
 cases c<;>simp [kpC,Cel.keep,outJ,memN_eq]
theorem kpCs_eq (J:List Nat):∀ cs,kpCs J cs=keepL (outJ J) cs
 | []=>rfl
 | c::cs=>by rw [kpCs,keepL,kpC_eq,kpCs_eq J cs]
theorem kpV_eq (J:List Nat) (v:AV):kpV J v=keepV (outJ J) v:=by
 cases v<;>simp [kpV,keepV,kpC_eq,kpCs_eq]
theorem kpVs_eq (J:List Nat):∀ vs,kpVs J vs=vs.all (keepV (outJ J))
 | []=>rfl
 | v::vs=>by rw [kpVs,List.all_cons,kpV_eq,kpVs_eq J vs]
theorem kpO_eq (J:List Nat) (o:AObj):kpO J o=keepO (outJ J) o:=by
 cases o<;>simp [kpO,keepO,kpCs_eq]
theorem kpH_eq (J:List Nat) (hp:List AObj):∀ l,kpH J hp l=l.all fun j=>decide (j < hp.length)&&keepO (outJ J) (hpGet hp j)
 | []=>rfl
 | j::l=>by rw [kpH,List.all_cons,kpO_eq,kpH_eq J hp l]
def arB (j:Nat) (l:List Nat):AObj→List Nat
 | .box _=>l
 | _=>j::l
def arJ (hp:List AObj):List Nat→List Nat
 | []=>[]
 | j::J=>arB j (arJ hp J) (hpGet hp j)
def kaC (A:List Nat):Cel→Cel
 | .dc d=>.dc d
 | .ref cs=>.ref cs
 | .mpc es=>.mpc es
 | .junk=>.junk
 | .ptr j o=>bif memN j A then .junk else .ptr j o
 | .bld j n=>bif memN j A then .junk else .bld j n
 | .ept j i s o=>bif memN j A then .junk else .ept j i s o
 | .bls j i s o=>bif memN j A then .junk else .bls j i s o
 | .fn f caps=>killC (fun id=>memN id A) (.fn f caps)
def kaCs (A:List Nat):List Cel→List Cel
 | []=>[]
 | c::cs=>kaC A c::kaCs A cs
def kaV (A:List Nat):AV→AV
 | .one c=>.one (kaC A c)
 | .agg cs=>.agg (kaCs A cs)
 | .tup l=>.tup (l.map (killT fun id=>memN id A))
 | .junk=>.junk
def kaS (A:List Nat):List AV→List AV
 | []=>[]
 | v::vs=>kaV A v::kaS A vs
def kaO (A:List Nat):AObj→AObj
 | .box cs=>.box (kaCs A cs)
 | .arr c s es=>.arr c s es
 | .dead=>.dead
def kaH (A:List Nat):List AObj→List AObj
 | []=>[]
 | o::os=>kaO A o::kaH A os
theorem kaC_eq (A:List Nat) (c:Cel):kaC A c=killC (fun id=>memN id A) c:=by
 cases c<;>simp only [kaC,killC,Cel.keep,if_true]
 case ptr j o=>
  by_cases h:memN j A=true
  ·simp [h]
  ·simp [h,(Bool.eq_false_iff.2 h:memN j A=false)]
 case bld j n=>
  by_cases h:memN j A=true
  ·simp [h]
  ·simp [h,(Bool.eq_false_iff.2 h:memN j A=false)]
 case ept j i s o=>
  by_cases h:memN j A=true
  ·simp [h]
  ·simp [h,(Bool.eq_false_iff.2 h:memN j A=false)]
 case bls j i s o=>
  by_cases h:memN j A=true
  ·simp [h]
  ·simp [h,(Bool.eq_false_iff.2 h:memN j A=false)]
theorem kaCs_eq (A:List Nat):∀ cs,kaCs A cs=cs.map (killC fun id=>memN id A)
 | []=>rfl
 | c::cs=>by simp [kaCs,kaC_eq,kaCs_eq A cs]
theorem kaV_eq (A:List Nat) (v:AV):kaV A v=killV (fun id=>memN id A) v:=by
 cases v<;>simp only [kaV,killV,kaC_eq,kaCs_eq]
theorem kaS_eq (A:List Nat):∀ l,kaS A l=l.map (killV fun id=>memN id A)
 | []=>rfl
 | c::cs=>by simp [kaS,kaV_eq,kaS_eq A cs]
theorem kaH_eq (A:List Nat):∀ l,kaH A l=l.map (killO fun id=>memN id A)
 | []=>rfl
 | o::os=>by cases o<;>simp [kaH,kaO,killO,kaCs_eq,kaH_eq A os]
theorem arJ_eq (hp:List AObj):∀ J:List Nat,(fun id=>memN id (arJ hp J))=fun id=>J.contains id&&!isBoxO (hpGet hp id)
 | []=>by funext id;rfl
 | j::J=>by
  funext id
  have ih:memN id (arJ hp J)=(J.contains id&&!isBoxO (hpGet hp id)):=congrFun (arJ_eq hp J) id
  rw [List.contains_cons,arJ]
  by_cases h:id=j
  ·subst h
   cases ho:hpGet hp id with
   | box cs=>rw [arB,ih,ho];simp [isBoxO]
   | _=>simp [arB,memN,nq_eq,isBoxO]
  ·have hb:(id==j)=false:=by simpa using h
   cases ho:hpGet hp j with
   | box cs=>rw [arB,ih,hb,Bool.false_or]
   | _=>simp only [arB,memN,nq_eq,hb,Bool.false_or];exact ih
def afB (J:List Nat) (st:AS) (d:Option Nat) (av:AV) (os:List AObj):List Nat→AS
 | []=>⟨putS st.sl d (renV (jmap J st.hp.length) av),setJ J (os.map (renO (jmap J st.hp.length))) st.hp++(os.drop J.length).map (renO (jmap J st.hp.length))⟩
 | a::A=>⟨putS (kaS (a::A) st.sl) d (renV (jmap J st.hp.length) av),setJ J (os.map (renO (jmap J st.hp.length))) (kaH (a::A) st.hp)++(os.drop J.length).map (renO (jmap J st.hp.length))⟩
theorem afterC_e {J:List Nat} {st:AS} {d:Option Nat} {av:AV} {os:List AObj}:afterC J st d av os=afB J st d av os (arJ st.hp J):=by
 unfold afterC
 rw [← arJ_eq]
 cases h:arJ st.hp J with
 | nil=>
  have hn:∀ id,memN id []=false:=fun _=>rfl
  rw [mapV_none hn,mapO_none hn];rfl
 | cons a A=>rw [afB,kaS_eq,kaH_eq]
theorem afB_n {J:List Nat} {st:AS} {d:Option Nat} {av:AV} {os:List AObj}:afB J st d av os []=⟨putS st.sl d (renV (jmap J st.hp.length) av),setJ J (os.map (renO (jmap J st.hp.length))) st.hp++(os.drop J.length).map (renO (jmap J st.hp.length))⟩:=Eq.trans rfl rfl
def evJ (call:CallT) (d:Option Nat) (f:FuncId) (avs:List AV) (st:AS) (J:List Nat):Option AS:=if okJ J st.hp avs then (call f (avs.map (renV (idxN J))) (J.map fun j=>renO (idxN J) (hpGet st.hp j))).map fun r=>afterC J st d r.1 r.2 else none
def evK (d:Option Nat) (st:AS) (J:List Nat):Option (AV × List AObj)→Option AS
 | some (av,os)=>some (afterC J st d av os)
 | none=>none
def evB (call:CallT) (d:Option Nat) (f:FuncId) (avs:List AV) (st:AS) (J:List Nat):Bool→Option AS
 | true=>evK d st J (call f (avs.map (renV (idxN J))) (J.map fun j=>renO (idxN J) (hpGet st.hp j)))
 | false=>none
theorem evCall_e {call:CallT} {d:Option Nat} {f:FuncId} {avs:List AV} {st:AS}:evCall call d f avs st=evJ call d f avs st (reach st.hp 2000 (avs.flatMap idsV) []):=Eq.trans rfl rfl
theorem evJ_e {call:CallT} {d:Option Nat} {f:FuncId} {avs:List AV} {st:AS} (J:List Nat):evJ call d f avs st J=evB call d f avs st J (dstN J&&kpH J st.hp J&&kpVs J avs):=by
 unfold evJ okJ
 rw [dstN_eq,kpH_eq,kpVs_eq]
 cases (pairsOK (fun i j=>i != j) J&&(J.all fun j=>decide (j < st.hp.length)&&keepO (outJ J) (hpGet st.hp j))&&avs.all (keepV (outJ J))) with
 | false=>rfl
 | true=>
  simp only [if_true,evB]
  cases call f (avs.map (renV (idxN J))) (J.map fun j=>renO (idxN J) (hpGet st.hp j))<;>rfl
theorem evJ_0 {call:CallT} {d:Option Nat} {f:FuncId} {avs:List AV} {st:AS}:evJ call d f avs st []=evB call d f avs st [] (dstN []&&kpH [] st.hp []&&kpVs [] avs):=evJ_e _
theorem evJ_1 {call:CallT} {d:Option Nat} {f:FuncId} {avs:List AV} {st:AS} {a:Nat}:evJ call d f avs st [a]=evB call d f avs st [a] (dstN [a]&&kpH [a] st.hp [a]&&kpVs [a] avs):=evJ_e _
theorem evJ_2 {call:CallT} {d:Option Nat} {f:FuncId} {avs:List AV} {st:AS} {a b:Nat}:evJ call d f avs st [a,b]=evB call d f avs st [a,b] (dstN [a,b]&&kpH [a,b] st.hp [a,b]&&kpVs [a,b] avs):=evJ_e _
theorem evB_t {call:CallT} {d:Option Nat} {f:FuncId} {avs:List AV} {st:AS} {J:List Nat}:evB call d f avs st J true=evK d st J (call f (avs.map (renV (idxN J))) (J.map fun j=>renO (idxN J) (hpGet st.hp j))):=Eq.trans rfl rfl
theorem evK_s {d:Option Nat} {st:AS} {J:List Nat} {av:AV} {os:List AObj}:evK d st J (some (av,os))=some (afterC J st d av os):=Eq.trans rfl rfl
theorem idsL_dcC:∀ ds:List DC,idsL (dcC ds)=[]
 | []=>rfl
 | d::ds=>by
  have:=idsL_dcC ds
  simp only [dcC,List.map_cons,idsL,idsC,List.nil_append] at this ⊢
  exact this
theorem kpCs_dcC (J:List Nat):∀ ds:List DC,kpCs J (dcC ds)=true
 | []=>rfl
 | d::ds=>by
  have:=kpCs_dcC J ds
  simp only [dcC,List.map_cons,kpCs,kpC,Bool.true_and] at this ⊢
  exact this
theorem ren_dcC (ρ:Nat→Nat) (ds:List DC):(dcC ds).map (renC ρ)=dcC ds:=by
 simp only [dcC,List.map_map]
 exact List.map_congr_left fun d _=>rfl
theorem dcs_dcs:∀ ds:List DC,dcs (dcC ds)=some ds
 | []=>rfl
 | d::ds=>by
  have:=dcs_dcs ds
  simp only [dcC,List.map_cons,dcs] at this ⊢
  rw [this];rfl
theorem nq_self (a:Nat):nq a a=true:=by rw [nq_eq];simp
attribute [go_sem] idsL_dcC kpCs_dcC ren_dcC dcs_dcs
attribute [go_sem] memN reach_nil reach_s rcB_f dstN kpC kpCs kpV kpVs kpO kpH arB arJ kaC kaCs kaV kaS kaO kaH afterC_e afB_n evCall_e evJ_0 evJ_1 evJ_2 evB_t evK_s idsO Nat.reduceLT
section
variable {call:CallT} {G:Glob} {st:AS} {d:Option Nat}
def fvBc (call:CallT) (d:Option Nat) (f:FuncId) (st:AS) (avs:List AV) (id:Nat) (cs:List Cel):Bool→Option (AS × FP)
 | true=>fvB2 d id st (nzCall call f (avs.map (renV (idxN [id]))) [.box cs])
 | false=>none
theorem fvB_b {f:FuncId} {avs:List AV} {id:Nat} {cs:List Cel}:fvB call d f st avs id (some (.box cs))=fvBc call d f st avs id cs (keepL (fun _=>true) cs&&kpVs [id] avs):=by
 rw [kpVs_eq]
 simp only [fvB]
 cases (keepL (fun _=>true) cs&&avs.all (keepV (outJ [id])))<;>rfl
theorem fvBc_t {f:FuncId} {avs:List AV} {id:Nat} {cs:List Cel}:fvBc call d f st avs id cs true=fvB2 d id st (nzCall call f (avs.map (renV (idxN [id]))) [.box cs]):=Eq.trans rfl rfl
end
attribute [go_sem] fvB_b fvBc_t
attribute [go_sem] Nat.reduceAdd Nat.reduceSub Nat.reduceMul Nat.reduceLeDiff Nat.reduceEqDiff
end
section
def cloneC (size bytes:Nat) (z:List Value):HC:=
 (.seq (.region [Oo 2 (.mov (.k (.slice none 0 0)))])
 (.seq (.seq (.region [Oo 3 (.mov (.t 0)),Oo 4 (.isnil false false (.t 3))])
 (.cond (.t 4) (.seq (.region [Oo 2 (.mov (.k (.slice none 0 0)))])
 .ret)
 .skip))
 (.seq (.region [Oo 5 (.bslc size 0 z []),Oo 6 (.mov (.t 0)),Oo 7 (.app size bytes z (.t 5) (.t 6)),Oo 2 (.mov (.t 7))])
 .ret)))
section
variable {P:Program} {G:Glob} {call:CallT}
theorem noCall_ok:CallOK P G (fun _ _ _=>none):=fun f args hp av o' h=>by cases h
theorem clone_rest {size bytes:Nat} {z:List Value} {es:List (List DC)} {v4:AV} (h4:v4=rawV (.bool false)) (hz:0 < z.length) (hl:allLen size es=true) (hb:es.length * bytes≤140737488355328):
  EC call G (.seq (.region [Oo 5 (.bslc size 0 z []),Oo 6 (.mov (.t 0)),Oo 7 (.app size bytes z (.t 5) (.t 6)),Oo 2 (.mov (.t 7))]) .ret)
   ⟨[.one (.dc (.slc es)),.junk,rawV (.slice none 0 0),.one (.dc (.slc es)),v4,.junk,.junk,.junk],[]⟩=
  some (.ret,⟨[.one (.dc (.slc es)),.junk,.one (.bld 0 es.length),.one (.dc (.slc es)),v4,.one .junk,.one (.dc (.slc es)),.one (.bld 0 es.length)],[.arr 0 size es]⟩):=by
 subst h4
 simp [go_sem,hl,hb]
theorem clone_ac {f:FuncId} {fn:Func} {size bytes:Nat} {z:List Value} {es:List (List DC)} (hf:P.funcs[f]?=some fn) (hn:fn.ntmps=8)
  (hc:fn.body.bind (compileC P)=some (cloneC size bytes z).er) (hr:fn.results.toList.mapM (retOf P)=some [.tmp 2])
  (hz:0 < z.length) (hl:allLen size es=true) (hb:es.length * bytes≤140737488355328):
  AC P G f [.one (.dc (.slc es))] [] fun a o=>a=.one (.bld 0 es.length)∧o.map nocap=[.arr 0 size es]:=by
 have hA:AC P G f [.one (.dc (.slc es))] [] fun a o=>(a=.one (.bld 0 es.length)∧o.map nocap=[.arr 0 size es])∨(es=[]∧a=rawV (.slice none 0 0)∧o=[]):=by
  refine AC.of_codeJ hf hn hc hr ?_
  have rest:∀ b:Bool,(b=true→es=[])→AW P G 0 (.cond (.t 4) (.seq (.region [Oo 2 (.mov (.k (.slice none 0 0)))]) .ret) .skip)
    (SeqQ P G 0 (.seq (.region [Oo 5 (.bslc size 0 z []),Oo 6 (.mov (.t 0)),Oo 7 (.app size bytes z (.t 5) (.t 6)),Oo 2 (.mov (.t 7))]) .ret) (Fin 0 [.tmp 2] fun a o=>(a=.one (.bld 0 es.length)∧o.map nocap=[.arr 0 size es])∨(es=[]∧a=rawV (.slice none 0 0)∧o=[])))
    ⟨[.one (.dc (.slc es)),.junk,rawV (.slice none 0 0),.one (.dc (.slc es)),rawV (.bool b),.junk,.junk,.junk],[]⟩:=by
   intro b hb0
   refine AW.cond (b:=b) rfl (fun h=>?_) (fun h=>?_)
   ·refine AW.seq (AW.region (WR.exX trivial rfl rfl (WR.nil ?_)))
    exact AW.ret (SeqQ.r (by unfold Fin;exact ⟨.inr rfl,Nat.zero_le _,_,rfl,.inr ⟨hb0 h,rfl,rfl⟩⟩))
   ·subst h
    refine AW.skip (SeqQ.n ?_)
    refine (EC_ok (noCall_ok (P:=P) (G:=G)) (.seq (.region [Oo 5 (.bslc size 0 z []),Oo 6 (.mov (.t 0)),Oo 7 (.app size bytes z (.t 5) (.t 6)),Oo 2 (.mov (.t 7))]) .ret) _ .ret _ (clone_rest rfl hz hl hb) 0).mono ?_
    rintro e s ⟨rfl,hs⟩
    unfold Fin
    refine ⟨.inr rfl,Nat.zero_le _,.one (.bld 0 es.length), ?_,.inl ⟨rfl,congrArg AS.hp hs⟩⟩
    rw [← retV_norm,hs]
    rfl
  refine AW.seq (AW.region (WR.exX trivial rfl rfl (WR.nil ?_)))
  refine AW.seqv (AW.seq (AW.region (WR.exX trivial rfl rfl ?_)))
  cases es with
  | nil=>exact WR.isnil0 trivial rfl rfl (fun b=>WR.nil (rest b (fun _=>rfl)))
  | cons e es=>exact WR.exX trivial rfl rfl (WR.nil (rest false (fun h=>by cases h)))
 refine hA.gh (fun a o h hl0=>?_)
 rcases h with ⟨rfl,h⟩ | ⟨rfl,rfl,rfl⟩
 ·exact ⟨_,_,Gh.refl,hl0,rfl,h⟩
 ·exact ⟨_,_,Gh.nil (d:=0) size rfl,Nat.zero_le _,rfl,rfl⟩
def cloneK (size bytes:Nat):List AV→List AObj→Option (AV × List AObj)
 | [.one (.dc (.slc es))],[]=>if allLen size es=true∧es.length * bytes≤140737488355328 then some (.one (.bld 0 es.length),[.arr 0 size es]) else none
 | _,_=>none
def cloneB:List (FuncId × Nat × Nat)→CallT
 | [],_,_,_=>none
 | (g,size,bytes)::L,f,args,hp=>if f=g then cloneK size bytes args hp else cloneB L f args hp
theorem cloneB_ok:∀ (L:List (FuncId × Nat × Nat)),(∀ e∈L,okF P e.1=true∧∃ fn z,P.funcs[e.1]?=some fn∧fn.ntmps=8∧fn.body.bind (compileC P)=some (cloneC e.2.1 e.2.2 z).er∧fn.results.toList.mapM (retOf P)=some [.tmp 2]∧0 < z.length)→CallOK P G (cloneB L)
 | [],_=>fun f args hp av o' h=>by cases h
 | (g,size,bytes)::L,hL=>fun f args hp av o' h hp0 hh=>by
  unfold cloneB at h
  split at h
  ·rename_i hf
   subst hf
   obtain ⟨h1,fn,z,h2,h3,h4,h5,h6⟩:=hL _ List.mem_cons_self
   refine ⟨h1, ?_⟩
   unfold cloneK at h
   split at h
   ·rename_i es
    split at h
    ·rename_i hc
     simp only [Option.some.injEq,Prod.mk.injEq] at h
     obtain ⟨rfl,rfl⟩:=h
     have:hp0=[]:=by simpa using hh
     subst this
     exact clone_ac h2 h3 h4 h5 h6 hc.1 hc.2
    ·cases h
   ·cases h
  ·exact cloneB_ok L (fun e he=>hL e (List.mem_cons_of_mem _ he)) f args hp av o' h hp0 hh
end
end
section
open Go.RowKit
theorem findNow_none (k:Int):∀ (l:List MapEntry) (i:Nat),(∀ x∈l,∃ n,x.key=.int .i64 n∧n≠k)→Instr.findNow (.int .i64) (.int .i64 k) l i=some none
 | [],i,h=>rfl
 | e::l,i,h=>by
  obtain ⟨n,h1,h2⟩:=h e List.mem_cons_self
  have hne:(k==n)=false:=by simp;exact fun e=>h2 e.symm
  simp [Instr.findNow,Instr.sameNow,h1,hne,findNow_none k l (i+1) (fun x hx=>h x (List.mem_cons_of_mem _ hx))]
theorem ins_run {P:Program} {t kt et:TypeId} (ht:P.underlying t=some (.map kt et)) (hk:P.underlying kt=some (.int .i64)) (w:World) (es:Array MapEntry) (clk:Nat) (n:Int) (v:Value)
  (hn:∀ x∈es.toList,∃ m,x.key=.int .i64 m∧m≠n):
  (Instr.mapUpdate t (.map (some w.heap.size)) (.int .i64 n) v).run P (w.alloc (.map es clk))=.ok () (w.alloc (.map (es.push { key:=.int .i64 n,val:=v,born:=clk }) (clk+1))):=by
 have hb:(w.alloc (.map es clk)).heap[w.heap.size]?=some (.map es clk):=by
  show (w.heap.push _)[w.heap.size]?=_
  simp
 have hgo:(getObj w.heap.size).run P (w.alloc (.map es clk))=.ok (.map es clk) (w.alloc (.map es clk)):=by simp only [getObj,Sem.run,hb]
 have hck:(Instr.checkKey false (9999+1) kt (.int .i64 n)).run P (w.alloc (.map es clk))=.ok () (w.alloc (.map es clk)):=by
  unfold Instr.checkKey
  simp [run_underlying hk]
 have hfk:(Instr.findKey kt (.int .i64 n) es.toList).run P (w.alloc (.map es clk))=.ok none (w.alloc (.map es clk)):=by
  simp [Instr.findKey,run_underlying hk,findNow_none n es.toList 0 hn]
 have hset:∀ o,(setObj w.heap.size o).run P (w.alloc (.map es clk))=.ok () (w.alloc o):=by
  intro o
  rw [MapKept.run_setObj_map o hb]
  have:(w.heap.push (.map es clk)).setIfInBounds w.heap.size o=w.heap.push o:=by
   apply Array.ext'
   simp
  show Result.ok () ({ w.alloc (.map es clk) with heap:=(w.heap.push (.map es clk)).setIfInBounds w.heap.size o }:World)=_
  rw [this];rfl
 simp [Instr.mapUpdate,run_underlying ht,hgo,hck,hfk,hset]
def tyL:List (Int × Value):=[(16,.bool true),(32,.bool false),(48,.bool true),(64,.bool false),(96,.bool true),(112,.bool true),(128,.bool false),(144,.bool true),(160,.bool false),(176,.bool false),(192,.bool false)]
def tyE:Array MapEntry:=#[⟨.int .i64 16,.bool true,0⟩,⟨.int .i64 32,.bool false,1⟩,⟨.int .i64 48,.bool true,2⟩,⟨.int .i64 64,.bool false,3⟩,⟨.int .i64 96,.bool true,4⟩,⟨.int .i64 112,.bool true,5⟩,⟨.int .i64 128,.bool false,6⟩,⟨.int .i64 144,.bool true,7⟩,⟨.int .i64 160,.bool false,8⟩,⟨.int .i64 176,.bool false,9⟩,⟨.int .i64 192,.bool false,10⟩]
set_option maxRecDepth 100000 in
set_option maxHeartbeats 1000000 in
theorem types_c (w:World):Calls Tryz.prog 172 #[] w fun e w'=>e=.returned (.map (some w.heap.size))∧w'=w.alloc (.map tyE 11):=by
 have hmm:=fun w=>run_makeMap_plain (P:=Tryz.prog) (w:=w) 184
 go_enter Tryz.func172,Tryz.ntmps172
 go_wp2
 iterate 11
  rw [ins_run Tryz.underlying184 Tryz.underlying3]
  rotate_left
  ·simp
  simp only [Result.andThen]
  go_wp2
 go_ret
 exact ⟨rfl,rfl⟩
set_option maxRecDepth 100000 in
theorem idx_c (s:ByteArray) (c:Int) (w:World):
  Calls Tryz.prog 240 #[.string s,.int .u8 c] w fun e w'=>e=.returned (.int .i64 (Lib.indexByte s.data.toList c.toNat.toUInt8))∧w'=w:=by
 go_enter Tryz.func240,Tryz.ntmps240
 go_wp2
 rw [run_callFunc_extern Tryz.func267 (by kernel_rfl) (by kernel_rfl) (by kernel_rfl) (e:=Extern.BytealgIndexByte.indexByte) (by kernel_rfl),Lib.run_indexByteString]
 simp only [Result.andThen]
 rw [Oper.upon_value]
 go_wp2
 go_ret
 exact ⟨rfl,rfl⟩
theorem nil_of {γ:List OI} {hp:List AObj} {F:Fz} {w:World} (hi:Inv F γ hp w) (h:hp=[]):γ=[]:=List.eq_nil_of_length_eq_zero (by rw [hi.len,h];rfl)
theorem types_q {G:Glob}:QC Tryz.prog G 172 [] (.one (.mpc tyL)):=by
 intro F γ vs w hi hg hv
 have hγ:=nil_of hi rfl
 subst hγ
 have hvs:vs=#[]:=Array.eq_empty_of_size_eq_zero hv.1
 subst hvs
 have hlt:∀ b o,F b=some o→b < w.heap.size:=fun b o h=>by
  have:=hi.fz b o h
  exact (Array.getElem?_eq_some_iff.1 this).1
 have hold:∀ b,b < w.heap.size→(w.heap.push (.map tyE 11))[b]?=w.heap[b]?:=fun b hb=>by rw [Array.getElem?_push_lt hb,Array.getElem?_eq_getElem hb]
 refine (types_c w).mono ?_
 rintro e w' ⟨rfl,rfl⟩
 refine ⟨_,_,[],fun b=>if b=w.heap.size then some (.map tyE 11) else F b,[],rfl,⟨rfl,rfl⟩,Nat.le_refl _,⟨?_,rfl,rfl,rfl, ?_, ?_, ?_, ?_, ?_⟩,⟨?_,rfl, ?_, ?_, ?_⟩,.one _ _ (.mpc tyL w.heap.size 11 tyE (by simp) (by rfl) (by decide))⟩
 ·intro b o h
  have:=hlt b o h
  show (if b=w.heap.size then _ else F b)=_
  rw [if_neg (by omega)];exact h
 ·show w.heap.size≤(w.heap.push _).size
  simp
 ·intro b hb _;exact hold b hb
 ·intro b o h
  by_cases hb:b=w.heap.size
  ·exact .inr (.inl (by omega))
  ·simp only [if_neg hb] at h;exact .inl h
 ·intro i b h;simp [blkAt] at h
 ·intro i hi;exact absurd hi (Nat.not_lt_zero _)
 ·intro b o h
  by_cases hb:b=w.heap.size
  ·subst hb
   simp only [if_true] at h
   rw [← h]
   show (w.heap.push _)[w.heap.size]?=_
   simp
  ·simp only [if_neg hb] at h
   exact (hold b (hlt b o h)).trans (hi.fz b o h)
 ·intro i j b h;simp [blkAt] at h
 ·intro i b h;simp [blkAt] at h
 ·intro i o x h;simp at h
theorem idx_q {G:Glob} (s:ByteArray) (c:Int):QC Tryz.prog G 240 [.one (.dc (.raw (.string s))),.one (.dc (.raw (.int .u8 c)))] (.one (.dc (.raw (.int .i64 (Lib.indexByte s.data.toList c.toNat.toUInt8))))):=by
 intro F γ vs w hi hg hv
 obtain ⟨hz,hv⟩:=hv
 have hγ:=nil_of hi rfl
 subst hγ
 obtain ⟨x,y,rfl⟩:∃ x y,vs=#[x,y]:=by
  obtain ⟨l⟩:=vs
  match l,hz with
  | [x,y],_=>exact ⟨x,y,rfl⟩
 have h1:=rv_raw (hv 0 _ _ rfl rfl)
 have h2:=rv_raw (hv 1 _ _ rfl rfl)
 subst h1;subst h2
 refine (idx_c s c w).mono ?_
 rintro e w' ⟨rfl,rfl⟩
 exact ⟨_,_,[],F,[],rfl,⟨rfl,rfl⟩,Nat.le_refl _,Ext.refl _ _ _ _,hi,.one _ _ (.dc _ _ (.raw _ rfl))⟩
def tyK:List AV→List AObj→Option (AV × List AObj)
 | [],[]=>some (.one (.mpc tyL),[])
 | _,_=>none
def ixK:List AV→List AObj→Option (AV × List AObj)
 | [.one (.dc (.raw (.string s))),.one (.dc (.raw (.int .u8 c)))],[]=>some (.one (.dc (.raw (.int .i64 (Lib.indexByte s.data.toList c.toNat.toUInt8)))),[])
 | _,_=>none
def awK:List AV→List AObj→Option (AV × List AObj)
 | [],[]=>some (.one (.dc (.raw (.bool true))),[])
 | _,_=>none
def bs (b:Bool):CallT:=fun f args hp=>if f=172 then tyK args hp else if f=240 then ixK args hp else if f=11 then (if b=true then awK args hp else none) else cloneB [(78,2,16)] f args hp
theorem bs_ok {G:Glob} {b:Bool} (hA:b=true→QC Tryz.prog G 11 [] (.one (.dc (.raw (.bool true))))):CallOK Tryz.prog G (bs b):=by
 intro f args hp av o' h hp0 hh
 unfold bs at h
 split at h
 ·rename_i hf
  subst hf
  unfold tyK at h
  split at h
  ·injection h with h;injection h with h1 h2;subst h1;subst h2
   have:hp0=[]:=by simpa using hh
   subst this
   exact ⟨by kernel_rfl,types_q.gh (fun a o ⟨h1,h2⟩ _=>⟨a,o,Gh.refl,Nat.zero_le _,h1,by rw [h2];rfl⟩)⟩
  ·cases h
 ·split at h
  ·rename_i hf
   subst hf
   unfold ixK at h
   split at h
   ·injection h with h;injection h with h1 h2;subst h1;subst h2
    have:hp0=[]:=by simpa using hh
    subst this
    exact ⟨by kernel_rfl,(idx_q _ _).gh (fun a o ⟨h1,h2⟩ _=>⟨a,o,Gh.refl,Nat.zero_le _,h1,by rw [h2];rfl⟩)⟩
   ·cases h
  ·split at h
   ·rename_i hf
    subst hf
    split at h
    ·rename_i hb
     unfold awK at h
     split at h
     ·injection h with h;injection h with h1 h2;subst h1;subst h2
      have:hp0=[]:=by simpa using hh
      subst this
      exact ⟨by kernel_rfl,(hA hb).gh (fun a o ⟨h1,h2⟩ _=>⟨a,o,Gh.refl,Nat.zero_le _,h1,by rw [h2];rfl⟩)⟩
     ·cases h
    ·cases h
   ·exact cloneB_ok [(78,2,16)] (fun e he=>by
     simp only [List.mem_singleton] at he
     subst he
     exact ⟨by kernel_rfl,_,[Zi 0,Zi 0],Tryz.func78,Tryz.ntmps78,h78_ok,r78_ok,by decide⟩) f args hp av o' h hp0 hh
end
end Go.Proofs.YtcplecjhmnblpaaGreatDoor
