/- Calls with pointers, in steps. Conditions: none. -/
import Derived.Test.YtmmafhopnkkeeaaGreatDoorNd
namespace Go.Proofs.YtmmafhopnkkeeaaGreatDoor
set_option linter.unusedSimpArgs false
set_option linter.unusedVariables false
section
section
variable {call:CallT} {G:Glob} {st s s':AS} {a b:HC} {L:List Nat} {m:Nat}
noncomputable def sqK (call:CallT) (G:Glob) (b:HC) (r:Option (Exit × AS)):Option (Exit × AS):=match r with
 | some (.normal,s)=>EC call G b s
 | r=>r
noncomputable def cdK (call:CallT) (G:Glob) (a b:HC) (st:AS):Option Bool→Option (Exit × AS)
 | some true=>EC call G a st
 | some false=>EC call G b st
 | none=>none
noncomputable def EL (call:CallT) (G:Glob) (a:HC) (L:List Nat) (m:Nat) (st:AS):Option (Exit × AS):=loopE (EC call G a) L m st
noncomputable def fnK (call:CallT) (G:Glob) (a:HC) (L:List Nat) (m:Nat) (r:Option (Exit × AS)):Option (Exit × AS):=match r with
 | some (.normal,s)=>EL call G a L m (trimA L m s)
 | r=>r
def rnK (L:List Nat) (m:Nat):Option (Exit × AS)→Option AS
 | some (.normal,s)=>some (trimA L m s)
 | _=>none
theorem EC_skip:EC call G .skip st=some (.normal,st):=Eq.trans rfl rfl
theorem EC_ret:EC call G .ret st=some (.ret,st):=Eq.trans rfl rfl
theorem EC_exit {id:Nat}:EC call G (.exit id) st=some (.exit id,st):=Eq.trans rfl rfl
theorem EC_region {ops:List AOp}:EC call G (.region ops) st=nrm (evR call G ops (some st)):=Eq.trans rfl rfl
theorem EC_drawn {ops:List (Bool × AOp)}:EC call G (.drawn ops) st=nrm (evDr call G ops (some st)):=Eq.trans rfl rfl
theorem EC_seq:EC call G (.seq a b) st=sqK call G b (EC call G a st):=by rw [EC];rfl
theorem EC_cond {c:AArg}:EC call G (.cond c a b) st=cdK call G a b st (asBool? (evA G st.sl c)):=by rw [EC];rfl
theorem EC_block {id:Nat}:EC call G (.block id a) st=blkK id (EC call G a st):=Eq.trans rfl rfl
theorem EC_loop:EC call G (.loop L a) st=EL call G a L st.hp.length (trimA L st.hp.length st):=Eq.trans rfl rfl
theorem EC_gh {g:GH}:EC call G (.gh g a) st=EC call G a (ghE g st):=Eq.trans rfl rfl
theorem sqK_n:sqK call G b (some (.normal,s))=EC call G b s:=Eq.trans rfl rfl
theorem sqK_r:sqK call G b (some (.ret,s))=some (.ret,s):=Eq.trans rfl rfl
theorem sqK_e {id:Nat}:sqK call G b (some (.exit id,s))=some (.exit id,s):=Eq.trans rfl rfl
theorem cdK_t:cdK call G a b st (some true)=EC call G a st:=Eq.trans rfl rfl
theorem cdK_f:cdK call G a b st (some false)=EC call G b st:=Eq.trans rfl rfl
theorem cdK_pos {p:Prop} [Decidable p] (h:p):cdK call G a b st (some (decide p))=EC call G a st:=by rw [decide_eq_true h];rfl
theorem cdK_neg {p:Prop} [Decidable p] (h:¬ p):cdK call G a b st (some (decide p))=EC call G b st:=by rw [decide_eq_false h];rfl
theorem blkK_n {id:Nat}:blkK id (some (.normal,s))=some (.normal,s):=Eq.trans rfl rfl
theorem blkK_r {id:Nat}:blkK id (some (.ret,s))=some (.ret,s):=Eq.trans rfl rfl
theorem blkK_e {id id':Nat}:blkK id (some (.exit id',s))=bif nq id' id then some (.normal,s) else some (.exit id',s):=by
 simp only [blkK,blkE,nq_eq]
 by_cases h:id'=id
 ·simp [h]
 ·simp [h,(beq_eq_false_iff_ne.2 h:(id'==id)=false)]
theorem fnK_r:fnK call G a L m (some (.ret,s))=some (.ret,s):=Eq.trans rfl rfl
theorem fnK_e {id:Nat}:fnK call G a L m (some (.exit id,s))=some (.exit id,s):=Eq.trans rfl rfl
theorem rnK_n:rnK L m (some (.normal,s))=some (trimA L m s):=Eq.trans rfl rfl
theorem nrm_s:nrm (some s)=some (.normal,s):=Eq.trans rfl rfl
theorem EL_unf:EL call G a L m st=fnK call G a L m (EC call G a st):=by
 unfold EL
 cases h:EC call G a st with
 | none=>
  simp only [fnK]
  cases hl:loopE (EC call G a) L m st with
  | none=>rfl
  | some r=>
   obtain ⟨n,hn⟩:=lim_some hl
   cases n with
   | zero=>simp [lpN] at hn
   | succ n=>rw [lpN,h] at hn;cases hn
 | some r=>
  obtain ⟨e,s⟩:=r
  by_cases he:e=.normal
  ·subst he;exact loopE_eq st h
  ·rw [loopE_end h he]
   unfold fnK
   split
   ·rename_i h1;injection h1 with h1;injection h1 with h1;exact absurd h1 he
   ·rfl
theorem EL_loop (H:Nat→AS) (n:Nat) (h0:st=H 0) (hr:∀ k,k < n→rnK L m (EC call G a (H k))=some (H (k+1))):EL call G a L m st=fnK call G a L m (EC call G a (H n)):=by
 subst h0
 have key:∀ k,k≤n→EL call G a L m (H 0)=EL call G a L m (H k):=by
  intro k
  induction k with
  | zero=>intro _;rfl
  | succ k ih=>
   intro hk
   rw [ih (by omega),EL_unf]
   have:=hr k (by omega)
   unfold rnK at this
   split at this
   ·rename_i s h1
    injection this with this
    rw [h1,← this];rfl
   ·cases this
 rw [key n (Nat.le_refl _),EL_unf]
theorem EL_ind {α:Type} (H:α→AS) (R:α→Option (Exit × AS)) (μ:α→Nat) (z0:α) (I:α→Prop) (h0:st=H z0) (hI:I z0)
  (hr:∀ z,I z→(∃ z',I z'∧μ z' < μ z∧rnK L m (EC call G a (H z))=some (H z')∧R z'=R z)∨fnK call G a L m (EC call G a (H z))=R z):EL call G a L m st=R z0:=by
 subst h0
 have key:∀ (n:Nat) (z:α),μ z < n→I z→EL call G a L m (H z)=R z:=by
  intro n
  induction n with
  | zero=>intro z h;omega
  | succ n ih=>
   intro z hz hI
   rcases hr z hI with ⟨z',h1,h2,h3,h4⟩ | h
   ·rw [EL_unf]
    unfold rnK at h3
    split at h3
    ·rename_i s h5
     injection h3 with h3
     rw [h5]
     show EL call G a L m (trimA L m s)=R z
     rw [h3,ih z' (by omega) h1,h4]
    ·cases h3
   ·rw [EL_unf];exact h
 exact key _ z0 (Nat.lt_succ_self _) hI
theorem ix_ex (p:Nat→Prop):∀ n:Nat,∃ k,k≤n∧(k=n∨(k < n∧p k))∧∀ j,j < k→¬ p j
 | 0=>⟨0,Nat.le_refl _,.inl rfl,fun j h=>by omega⟩
 | n+1=>by
  obtain ⟨k,h1,h2,h3⟩:=ix_ex p n
  rcases h2 with h2 | ⟨h2,h4⟩
  ·subst h2
   by_cases hp:p k
   ·exact ⟨k,by omega,.inr ⟨by omega,hp⟩,h3⟩
   ·exact ⟨k+1,Nat.le_refl _,.inl rfl,fun j hj=>by
     by_cases he:j=k
     ·subst he;exact hp
     ·exact h3 j (by omega)⟩
  ·exact ⟨k,by omega,.inr ⟨by omega,h4⟩,h3⟩
noncomputable def ix (p:Nat→Prop) (n:Nat):Nat:=(ix_ex p n).choose
theorem ix_spec (p:Nat→Prop) (n:Nat):ix p n≤n∧(ix p n=n∨(ix p n < n∧p (ix p n)))∧∀ j,j < ix p n→¬ p j:=(ix_ex p n).choose_spec
theorem EL_fst (H:Nat→AS) (p:Nat→Prop) (n:Nat) (h0:st=H 0) (hr:∀ k,k < n→(∀ j,j≤k→¬ p j)→rnK L m (EC call G a (H k))=some (H (k+1))):
  EL call G a L m st=fnK call G a L m (EC call G a (H (ix p n))):=by
 obtain ⟨h1,_,h3⟩:=ix_spec p n
 exact EL_loop H _ h0 (fun k hk=>hr k (by omega) (fun j hj=>h3 j (by omega)))
theorem toNat_add (n k:Nat):((n:Int)+(k:Int)).toNat=n+k:=by omega
def jk:Nat→List AV→List AV
 | 0,t=>t
 | n+1,t=>.junk::jk n t
theorem putAt_s {c:Cel} {cs vs:List Cel} {n:Nat}:putAt (c::cs) (n+1) vs=c::putAt cs n vs:=by
 simp only [putAt,List.take_succ_cons,List.cons_append]
 rw [show n+1+vs.length=(n+vs.length)+1 by omega,List.drop_succ_cons]
theorem putAt_z {cs vs:List Cel}:putAt cs 0 vs=vs++cs.drop vs.length:=by simp [putAt]
theorem addA (a b c:Int):a+(b+c)=a+b+c:=(Int.add_assoc a b c).symm
theorem boxX_s {st:AS} {d:Option Nat} {cs:List Cel}:boxX st d (some cs)=some ⟨putS st.sl d (.one (.ptr st.hp.length 0)),st.hp++[.box cs]⟩:=Eq.trans rfl rfl
theorem toNat_sub1 (n:Nat):((n:Int) - 1).toNat=n - 1:=by omega
theorem evR_nil:evR call G [] (some st)=some st:=Eq.trans rfl rfl
theorem evR_o {d:Option Nat} {ai:AI} {g:Option (Nat × Bool)} {l:List AOp}:evR call G (⟨d,ai,g⟩::l) (some st)=evR call G l (stO call G st l d ai g):=Eq.trans rfl rfl
def vpBz (d:Option Nat) (st:AS) (av:AV):Bool→Option AS
 | true=>some ⟨putS st.sl d av,st.hp⟩
 | false=>none
theorem stO_n {l:List AOp} {d:Option Nat} {ai:AI}:stO call G st l d ai none=stZ call G st l d ai:=Eq.trans rfl rfl
theorem stO_g {l:List AOp} {d:Option Nat} {ai:AI} {g:Nat} {b:Bool}:stO call G st l d ai (some (g,b))=guZ call G st l d ai (gK b (evA G st.sl (.t g))):=Eq.trans rfl rfl
section
variable {l:List AOp} {d:Option Nat} {ai:AI}
theorem guZ_t:guZ call G st l d ai (some true)=stZ call G st l d ai:=Eq.trans rfl rfl
theorem guZ_f:guZ call G st l d ai (some false)=some ⟨putS st.sl d (.tup []),st.hp⟩:=Eq.trans rfl rfl
theorem guZ_pos {p:Prop} [Decidable p] (h:p):guZ call G st l d ai (some (decide p))=stZ call G st l d ai:=by rw [decide_eq_true h];rfl
theorem guZ_neg {p:Prop} [Decidable p] (h:¬ p):guZ call G st l d ai (some (decide p))=some ⟨putS st.sl d (.tup []),st.hp⟩:=by rw [decide_eq_false h];rfl
theorem guD_t {q:Bool}:guD' call G st q d ai (some true)=drZ call G st d ai q:=Eq.trans rfl rfl
theorem guD_f {q:Bool}:guD' call G st q d ai (some false)=some ⟨putS st.sl d (.tup []),st.hp⟩:=Eq.trans rfl rfl
theorem guD_pos {q:Bool} {p:Prop} [Decidable p] (h:p):guD' call G st q d ai (some (decide p))=drZ call G st d ai q:=by rw [decide_eq_true h];rfl
theorem guD_neg {q:Bool} {p:Prop} [Decidable p] (h:¬ p):guD' call G st q d ai (some (decide p))=some ⟨putS st.sl d (.tup []),st.hp⟩:=by rw [decide_eq_false h];rfl
theorem drO_n {q:Bool}:drO call G st q d ai none=drZ call G st d ai q:=Eq.trans rfl rfl
theorem drO_g {q:Bool} {g:Nat} {b:Bool}:drO call G st q d ai (some (g,b))=guD' call G st q d ai (gK b (evA G st.sl (.t g))):=Eq.trans rfl rfl
theorem evDr_nil:evDr call G [] (some st)=some st:=Eq.trans rfl rfl
theorem evDr_o {q:Bool} {g:Option (Nat × Bool)} {l:List (Bool × AOp)}:evDr call G ((q,⟨d,ai,g⟩)::l) (some st)=evDr call G l (drO call G st q d ai g):=Eq.trans rfl rfl
theorem stZ_call {f:FuncId} {xs:List AArg}:stZ call G st l d (.call f xs)=clZ call G d f xs st:=Eq.trans rfl rfl
theorem stZ_app {z b:Nat} {zz:List Value} {s x:AArg}:stZ call G st l d (.app z b zz s x)=apZ d z b st (evA G st.sl s) (evA G st.sl x):=Eq.trans rfl rfl
theorem stZ_bslc {z b:Nat} {zz:List Value} {ps:List (Nat × AArg)}:stZ call G st l d (.bslc z b zz ps)=bsZ G st d z b zz ps (litU d l):=Eq.trans rfl rfl
theorem stZ_alloc {z:List Value}:stZ call G st l d (.alloc z)=some ⟨putS st.sl d (.one (.ptr st.hp.length 0)),st.hp++[.box (z.map rawC)]⟩:=Eq.trans rfl rfl
theorem stZ_box {x:AArg}:stZ call G st l d (.box x)=boxX st d (cellsOf (evA G st.sl x)):=Eq.trans rfl rfl
theorem stZ_store {n:Nat} {x v:AArg}:stZ call G st l none (.store n x v)=stX G st n x v:=Eq.trans rfl rfl
theorem stZ_mov {x:AArg}:stZ call G st l d (.mov x)=some ⟨putS st.sl d (evA G st.sl x),st.hp⟩:=Eq.trans rfl rfl
theorem stZ_pick {c x y:AArg}:stZ call G st l d (.pick c x y)=putX st d (pickV (evA G st.sl c) (evA G st.sl x) (evA G st.sl y)):=Eq.trans rfl rfl
theorem stZ_load {g:Bool} {n:Nat} {x:AArg}:stZ call G st l d (.load g n x)=putX st d (loadV st.hp g n (evA G st.sl x)):=Eq.trans rfl rfl
theorem stZ_nilc {x:AArg}:stZ call G st l d (.nilc x)=putX st d (nilcV (evA G st.sl x)):=Eq.trans rfl rfl
theorem stZ_bin {op:BinOp} {x y:AArg}:stZ call G st l d (.bin op x y)=putX st d (binV op (evA G st.sl x) (evA G st.sl y)):=Eq.trans rfl rfl
theorem stZ_un {op:UnOp} {x:AArg}:stZ call G st l d (.un op x)=putX st d (unV op (evA G st.sl x)):=Eq.trans rfl rfl
theorem stZ_conv {k:IntKind} {x:AArg}:stZ call G st l d (.conv k x)=putX st d (convo k (asInt? (evA G st.sl x))):=Eq.trans rfl rfl
theorem stZ_cvbs {x:AArg}:stZ call G st l d (.cvbs x)=putX st d (cvbsV st.hp (evA G st.sl x)):=Eq.trans rfl rfl
theorem stZ_addo {o:Nat} {x:AArg}:stZ call G st l d (.addo o x)=putX st d (addoV o (evA G st.sl x)):=Eq.trans rfl rfl
theorem stZ_ixA {n z:Nat} {x i:AArg}:stZ call G st l d (.ixA n z x i)=putX st d (ixAo n z (evA G st.sl x) (asInt? (evA G st.sl i))):=Eq.trans rfl rfl
theorem stZ_ixL {z:Nat} {x i:AArg}:stZ call G st l d (.ixL z x i)=putX st d (ixLo st.hp z (evA G st.sl x) (asInt? (evA G st.sl i))):=Eq.trans rfl rfl
theorem stZ_ixS {x i:AArg}:stZ call G st l d (.ixS x i)=putX st d (ixSo (evA G st.sl x) (asInt? (evA G st.sl i))):=Eq.trans rfl rfl
theorem stZ_slS {x:AArg} {lo hi:Option AArg}:stZ call G st l d (.slS x lo hi)=putX st d (slSV (evA G st.sl x) (lo.map (evA G st.sl)) (hi.map (evA G st.sl))):=Eq.trans rfl rfl
theorem stZ_build {z:List Value} {ps:List (Nat × Nat × AArg)}:stZ call G st l d (.build z ps)=putX st d (aggo (fillV (z.map rawC) (ps.map fun (o,s,x)=>(o,s,evA G st.sl x)))):=Eq.trans rfl rfl
theorem stZ_ext {x:AArg} {n:Nat}:stZ call G st l d (.ext x n)=putX st d (extV (evA G st.sl x) n):=Eq.trans rfl rfl
theorem stZ_lenS {x:AArg}:stZ call G st l d (.lenS x)=putX st d (lenSo (asStr? (evA G st.sl x))):=Eq.trans rfl rfl
theorem stZ_lenL {x:AArg}:stZ call G st l d (.lenL x)=putX st d (lenLV (evA G st.sl x)):=Eq.trans rfl rfl
theorem stZ_min {x y:AArg}:stZ call G st l d (.min2 x y)=putX st d (minV (evA G st.sl x) (evA G st.sl y)):=Eq.trans rfl rfl
theorem stZ_max {x y:AArg}:stZ call G st l d (.max2 x y)=putX st d (maxV (evA G st.sl x) (evA G st.sl y)):=Eq.trans rfl rfl
theorem drZ_l:drZ call G st d ai false=ldZ call G st d ai:=Eq.trans rfl rfl
theorem drZ_q:drZ call G st d ai true=qtZ call G st d ai:=Eq.trans rfl rfl
theorem ldZ_call {f:FuncId} {xs:List AArg}:ldZ call G st d (.call f xs)=dvK call G d f xs st (call f (vpAs G st xs) []):=Eq.trans rfl rfl
theorem ldZ_app {z b:Nat} {zz:List Value} {s x:AArg}:ldZ call G st d (.app z b zz s x)=apZ d z b st (evA G st.sl s) (evA G st.sl x):=Eq.trans rfl rfl
theorem ldZ_bslc {z b:Nat} {zz:List Value} {ps:List (Nat × AArg)}:ldZ call G st d (.bslc z b zz ps)=bsO G st d z b zz ps:=Eq.trans rfl rfl
theorem ldZ_store {n:Nat} {x v:AArg}:ldZ call G st none (.store n x v)=stX G st n x v:=Eq.trans rfl rfl
theorem qtZ_mov {x:AArg}:qtZ call G st d (.mov x)=some ⟨putS st.sl d (evA G st.sl x),st.hp⟩:=Eq.trans rfl rfl
theorem qtZ_pick {c x y:AArg}:qtZ call G st d (.pick c x y)=putX st d (pickV (evA G st.sl c) (evA G st.sl x) (evA G st.sl y)):=Eq.trans rfl rfl
theorem qtZ_load {g:Bool} {n:Nat} {x:AArg}:qtZ call G st d (.load g n x)=putX st d (loadV st.hp g n (evA G st.sl x)):=Eq.trans rfl rfl
theorem qtZ_nilc {x:AArg}:qtZ call G st d (.nilc x)=putX st d (nilcV (evA G st.sl x)):=Eq.trans rfl rfl
theorem qtZ_bin {op:BinOp} {x y:AArg}:qtZ call G st d (.bin op x y)=putX st d (binV op (evA G st.sl x) (evA G st.sl y)):=Eq.trans rfl rfl
theorem qtZ_binb {n:Bool} {x y:AArg}:qtZ call G st d (.binb n x y)=putX st d (binbV n (evA G st.sl x) (evA G st.sl y)):=Eq.trans rfl rfl
theorem qtZ_eqs {n:Bool} {ks:List EK} {x y:AArg}:qtZ call G st d (.eqs n ks x y)=putX st d (eqsV n ks (evA G st.sl x) (evA G st.sl y)):=Eq.trans rfl rfl
theorem qtZ_un {op:UnOp} {x:AArg}:qtZ call G st d (.un op x)=putX st d (unV op (evA G st.sl x)):=Eq.trans rfl rfl
theorem qtZ_addo {o:Nat} {x:AArg}:qtZ call G st d (.addo o x)=putX st d (addoV o (evA G st.sl x)):=Eq.trans rfl rfl
theorem qtZ_ixA {n z:Nat} {x i:AArg}:qtZ call G st d (.ixA n z x i)=putX st d (ixAo n z (evA G st.sl x) (asInt? (evA G st.sl i))):=Eq.trans rfl rfl
theorem qtZ_ixL {z:Nat} {x i:AArg}:qtZ call G st d (.ixL z x i)=putX st d (ixLo st.hp z (evA G st.sl x) (asInt? (evA G st.sl i))):=Eq.trans rfl rfl
theorem qtZ_lenL {x:AArg}:qtZ call G st d (.lenL x)=putX st d (lenLV (evA G st.sl x)):=Eq.trans rfl rfl
theorem gK_b {c b:Bool}:gK b (.one (.dc (.raw (.bool c))))=some (eqb c b):=Eq.trans rfl rfl
theorem gK_skip {b:Bool}:gK b (.tup [])=some false:=Eq.trans rfl rfl
theorem eqb_true (c:Bool):eqb c true=c:=by cases c<;>rfl
theorem eqb_false (c:Bool):eqb c false=!c:=by cases c<;>rfl
theorem putX_s {v:AV}:putX st d (some v)=some ⟨putS st.sl d v,st.hp⟩:=Eq.trans rfl rfl
end
theorem pickV_t {x y:AV}:pickV (.one (.dc (.raw (.bool true)))) x y=some x:=Eq.trans rfl rfl
theorem pickV_f {x y:AV}:pickV (.one (.dc (.raw (.bool false)))) x y=some y:=Eq.trans rfl rfl
theorem pickV_pos {p:Prop} [Decidable p] {x y:AV} (h:p):pickV (.one (.dc (.raw (.bool (decide p))))) x y=some x:=by rw [decide_eq_true h];rfl
theorem pickV_neg {p:Prop} [Decidable p] {x y:AV} (h:¬ p):pickV (.one (.dc (.raw (.bool (decide p))))) x y=some y:=by rw [decide_eq_false h];rfl
section
variable {k:IntKind} {x y:Int}
theorem bin_add:binV .add (.one (.dc (.raw (.int k x)))) (.one (.dc (.raw (.int k y))))=some (.one (.dc (.raw (.int k (k.wrap (x+y)))))):=by simp [binV,intOp]
theorem bin_sub:binV .sub (.one (.dc (.raw (.int k x)))) (.one (.dc (.raw (.int k y))))=some (.one (.dc (.raw (.int k (k.wrap (x - y)))))):=by simp [binV,intOp]
theorem bin_mul:binV .mul (.one (.dc (.raw (.int k x)))) (.one (.dc (.raw (.int k y))))=some (.one (.dc (.raw (.int k (k.wrap (x * y)))))):=by simp [binV,intOp]
theorem bin_eql:binV .eql (.one (.dc (.raw (.int k x)))) (.one (.dc (.raw (.int k y))))=some (.one (.dc (.raw (.bool (decide (x=y)))))):=by simp [binV,intOp,Bool.beq_eq_decide_eq]
theorem bin_neq:binV .neq (.one (.dc (.raw (.int k x)))) (.one (.dc (.raw (.int k y))))=some (.one (.dc (.raw (.bool (decide (x≠y)))))):=by
 simp only [binV,intOp,if_true,Option.map_some,rawV]
 congr 5
 rw [Bool.eq_iff_iff];simp
theorem bin_lss:binV .lss (.one (.dc (.raw (.int k x)))) (.one (.dc (.raw (.int k y))))=some (.one (.dc (.raw (.bool (decide (x < y)))))):=by simp [binV,intOp]
theorem bin_leq:binV .leq (.one (.dc (.raw (.int k x)))) (.one (.dc (.raw (.int k y))))=some (.one (.dc (.raw (.bool (decide (x≤y)))))):=by simp [binV,intOp]
theorem bin_gtr:binV .gtr (.one (.dc (.raw (.int k x)))) (.one (.dc (.raw (.int k y))))=some (.one (.dc (.raw (.bool (decide (y < x)))))):=by simp [binV,intOp]
theorem bin_geq:binV .geq (.one (.dc (.raw (.int k x)))) (.one (.dc (.raw (.int k y))))=some (.one (.dc (.raw (.bool (decide (y≤x)))))):=by simp [binV,intOp]
end
theorem bin_seq {x y:ByteArray}:binV .eql (.one (.dc (.raw (.string x)))) (.one (.dc (.raw (.string y))))=some (.one (.dc (.raw (.bool (decide (x=y)))))):=by
 simp only [binV,strOp,Option.map_some,rawV]
 congr 5
 rw [Bool.eq_iff_iff]
 simp [ByteArray.toList_eq,ByteArray.ext_iff,Array.ext_iff]
theorem un_not {c:Bool}:unV .not (.one (.dc (.raw (.bool c))))=some (.one (.dc (.raw (.bool (!c))))):=Eq.trans rfl rfl
theorem b_tb (b:Bool):(b==true)=b:=by cases b<;>rfl
theorem b_fb (b:Bool):(b==false)=!b:=by cases b<;>rfl
theorem ibeq (a b:Int):(a==b)=decide (a=b):=by rw [Bool.eq_iff_iff];simp
theorem dec_and {p q:Prop} [Decidable p] [Decidable q]:(decide p&&decide q)=decide (p∧q):=by simp
theorem dec_or {p q:Prop} [Decidable p] [Decidable q]:(decide p||decide q)=decide (p∨q):=by simp
theorem dec_not {p:Prop} [Decidable p]:(!decide p)=decide (¬ p):=by simp
theorem allLen_map {α:Type} {f:α→List DC} {n:Nat} (h:∀ x,(f x).length=n) (l:List α):allLen n (l.map f)=true:=by
 induction l with
 | nil=>rfl
 | cons x l ih=>simp [allLen,ih,h,nq_eq]
theorem take_map_len {α β:Type} {f:α→β} {l:List α}:List.take l.length (l.map f)=l.map f:=List.take_of_length_le (by simp)
noncomputable def retI (own:Bool) (rs:List RetV) (n:Nat) (s:AS):Bool→Option (AV × List AObj)
 | true=>retK own n s.hp (retV s rs)
 | false=>none
theorem retZ_r {own:Bool} {rs:List RetV} {n:Nat}:retZ own rs n (some (.ret,s))=retI own rs n s (decide (n≤s.hp.length)):=by
 by_cases h:n≤s.hp.length<;>simp [retZ,isEnd,h,retI]
theorem retZ_n {own:Bool} {rs:List RetV} {n:Nat}:retZ own rs n (some (.normal,s))=retI own rs n s (decide (n≤s.hp.length)):=by
 by_cases h:n≤s.hp.length<;>simp [retZ,isEnd,h,retI]
theorem retI_t {own:Bool} {rs:List RetV} {n:Nat}:retI own rs n s true=retK own n s.hp (retV s rs):=Eq.trans rfl rfl
def rtWz (n:Nat) (hp:List AObj) (v:AV):Bool→AV × List AObj
 | true=>(nzV v,hp.take n)
 | false=>(nzV v,hp)
theorem retK_o {n:Nat} {hp:List AObj} {v:AV}:retK true n hp (some v)=some (rtWz n hp v (keepV (fun id=>decide (n≤id)) v&&(hp.take n).all (keepO fun id=>decide (n≤id)))):=by
 simp only [retK,retW,cond_true];cases (keepV (fun id=>decide (n≤id)) v&&(hp.take n).all (keepO fun id=>decide (n≤id)))<;>rfl
theorem rtWz_f {n:Nat} {hp:List AObj} {v:AV}:rtWz n hp v false=(nzV v,hp):=Eq.trans rfl rfl
def rtFz (n:Nat) (st:AS):AV × List AObj:=(nzV (killV (fun id=>decide (n≤id)) (st.sl.getD 0 .junk)),(st.hp.take n).map (killO fun id=>decide (n≤id)))
theorem retK_f {n:Nat} {hp:List AObj} {v:AV}:retK false n hp (some v)=some (rtFz n (frzIds (idsV v) (bxW n (idsV v) ⟨[v],hp⟩ (blsV v)))):=Eq.trans rfl rfl
theorem bxW_f {n:Nat} {ids:List Nat}:bxW n ids st false=st:=Eq.trans rfl rfl
def rtCz:Option TV→Option (List TV)→Option (List TV)
 | some a,some l=>some (a::l)
 | _,_=>none
def rtLz (st:AS):List RetV→Option (List TV)
 | []=>some []
 | r::rs=>rtCz ((retOne st r).bind toTV) (rtLz st rs)
theorem rtCz_s {a:TV} {l:List TV}:rtCz (some a) (some l)=some (a::l):=Eq.trans rfl rfl
theorem rtLz_eq (st:AS):∀ rs:List RetV,rs.mapM (fun r=>(retOne st r).bind toTV)=rtLz st rs
 | []=>rfl
 | r::rs=>by
  rw [List.mapM_cons,rtLz_eq st rs,rtLz]
  cases (retOne st r).bind toTV<;>cases rtLz st rs<;>rfl
theorem retV_0 {st:AS}:retV st []=some (.tup []):=Eq.trans rfl rfl
theorem retV_1 {st:AS} {r:RetV}:retV st [r]=retOne st r:=Eq.trans rfl rfl
theorem retV_2 {st:AS} {r q:RetV} {rs:List RetV}:retV st (r::q::rs)=(rtLz st (r::q::rs)).map .tup:=by
 rw [← rtLz_eq];rfl
theorem EV_run {G:Glob} {T:HT} {f:FuncId} {h:HF} {args:List AV} {hp:List AObj} {r:AV × List AObj} (hT:T.tab f=some h) (he:retZ h.own h.rs hp.length (EC (EV G T) G h.code ⟨args++junks (h.nt - args.length),hp⟩)=some r):EV G T f args hp=some r:=EV_of hT he
end
section
variable {call:CallT} {G:Glob} {st:AS} {d:Option Nat} {f:FuncId} {xs:List AArg} {av:AV} {os:List AObj} {o:AObj}
def clBz (call:CallT) (G:Glob) (d:Option Nat) (f:FuncId) (xs:List AArg) (st:AS):Bool→Option AS
 | true=>vwK call G d f xs st (call f (vwAs G st xs) [])
 | false=>evCall (nzCall call) d f (xs.map (evA G (frzIds (bldAs G st.sl xs) st).sl)) (frzIds (bldAs G st.sl xs) st)
def vwBz (call:CallT) (G:Glob) (d:Option Nat) (f:FuncId) (xs:List AArg) (st:AS) (av:AV):Bool→Option AS
 | true=>some ⟨putS st.sl d av,st.hp⟩
 | false=>dtK call G d f xs (frzIds (bldAs G st.sl xs) st)
def dvBz (call:CallT) (G:Glob) (d:Option Nat) (f:FuncId) (xs:List AArg) (st:AS) (av:AV):Bool→Option AS
 | true=>some ⟨putS st.sl d av,st.hp⟩
 | false=>dnZ call G d f xs st
def dtBz (call:CallT) (G:Glob) (d:Option Nat) (f:FuncId) (xs:List AArg) (st:AS):Bool→Option AS
 | true=>nwK d st (call f (nzAs G st.sl xs) [])
 | false=>none
def qtBz (call:CallT) (G:Glob) (d:Option Nat) (f:FuncId) (xs:List AArg) (st:AS):Bool→Option AS
 | true=>qcK d st (call f (nzAs G st.sl xs) [])
 | false=>none
theorem clZ_e:clZ call G d f xs st=clBz call G d f xs st (plainAs G st.sl xs):=by unfold clZ;cases plainAs G st.sl xs<;>rfl
theorem clBz_t:clBz call G d f xs st true=vwK call G d f xs st (call f (vwAs G st xs) []):=Eq.trans rfl rfl
theorem clBz_f:clBz call G d f xs st false=evCall (nzCall call) d f (xs.map (evA G (frzIds (bldAs G st.sl xs) st).sl)) (frzIds (bldAs G st.sl xs) st):=Eq.trans rfl rfl
theorem dtK_e:dtK call G d f xs st=dtBz call G d f xs st ((nzAs G st.sl xs).all (keepV fun _=>true)):=by unfold dtK;cases (nzAs G st.sl xs).all (keepV fun _=>true)<;>rfl
theorem dtBz_t:dtBz call G d f xs st true=nwK d st (call f (nzAs G st.sl xs) []):=Eq.trans rfl rfl
theorem qtZ_c:qtZ call G st d (.call f xs)=qtBz call G d f xs st ((nzAs G st.sl xs).all (keepV fun _=>true)):=by rw [qtZ];cases (nzAs G st.sl xs).all (keepV fun _=>true)<;>rfl
theorem qtBz_t:qtBz call G d f xs st true=qcK d st (call f (nzAs G st.sl xs) []):=Eq.trans rfl rfl
theorem vwBz_t:vwBz call G d f xs st av true=some ⟨putS st.sl d av,st.hp⟩:=Eq.trans rfl rfl
theorem vwBz_f:vwBz call G d f xs st av false=dtK call G d f xs (frzIds (bldAs G st.sl xs) st):=Eq.trans rfl rfl
theorem dvBz_t:dvBz call G d f xs st av true=some ⟨putS st.sl d av,st.hp⟩:=Eq.trans rfl rfl
theorem vwK_v:vwK call G d f xs st (some (av,[]))=vwBz call G d f xs st av (rawA? av):=by rw [vwK];cases rawA? av<;>rfl
theorem vwK_o:vwK call G d f xs st (some (av,o::os))=dtK call G d f xs (frzIds (bldAs G st.sl xs) st):=Eq.trans rfl rfl
theorem dvK_v:dvK call G d f xs st (some (av,[]))=dvBz call G d f xs st av (rawA? av):=by rw [dvK];cases rawA? av<;>rfl
theorem nwK_s:nwK d st (some (av,os))=some ⟨putS st.sl d (renV (jmap [] st.hp.length) av),st.hp++os.map (renO (jmap [] st.hp.length))⟩:=Eq.trans rfl rfl
theorem qcK_s:qcK d st (some (av,[]))=bif keepV (fun _=>true) av then some ⟨putS st.sl d av,st.hp⟩ else none:=Eq.trans rfl rfl
theorem apZ_b {size bytes id n:Nat} {x:AV}:apZ d size bytes st (.one (.bld id n)) x=apB d size bytes st id n (hpGet st.hp id) (srcV st.hp x):=Eq.trans rfl rfl
theorem apB_s {size bytes id n c sz:Nat} {es news:List (List DC)}:apB d size bytes st id n (.arr c sz es) (some news)=if sz=size∧n≤es.length∧allLen size news=true∧(n+news.length) * bytes≤140737488355328 then
   some ⟨putS (klS id st.sl) d (.one (.bld id (n+news.length))),(klH id st.hp).set id (.arr 0 size (es.take n++news))⟩ else none:=rfl
theorem apN_s {size bytes:Nat} {news:List (List DC)}:apN d size bytes st (some news)=if allLen size news=true∧news.length * bytes≤140737488355328 then
   some ⟨putS st.sl d (.one (.bld st.hp.length news.length)),klH st.hp.length st.hp++[.arr 0 size news]⟩ else none:=rfl
theorem bsP_s {size len:Nat} {cs:List Cel} {ds:List DC}:bsP st d size len cs (some ds)=if ds.length=len * size then some ⟨putS st.sl d (.one (.bld st.hp.length len)),st.hp++[.arr 0 size (chunk size len ds)]⟩ else none:=Eq.trans rfl rfl
theorem dcs_ptr {a b:Nat} {cs:List Cel}:dcs (.ptr a b::cs)=none:=rfl
theorem bsZ_t {size len:Nat} {z:List Value} {ps:List (Nat × AArg)}:bsZ G st d size len z ps true=bsX G (frzIds (bldPs G st.sl ps) st) d size len z ps:=Eq.trans rfl rfl
theorem bsZ_f {size len:Nat} {z:List Value} {ps:List (Nat × AArg)}:bsZ G st d size len z ps false=bsO G (frzIds (bldPs G st.sl ps) st) d size len z ps:=Eq.trans rfl rfl
theorem ghN_n {i sz:Nat}:ghN i sz st (.one (.dc (.raw (.slice none 0 0))))=⟨st.sl.set i (.one (.bld st.hp.length 0)),st.hp++[.arr 0 sz []]⟩:=Eq.trans rfl rfl
theorem ghB_p {j sz id off:Nat}:ghB j sz st (.one (.ptr id off))=ghB1 id (off+j) sz st (hpGet st.hp id):=Eq.trans rfl rfl
theorem ghB1_b {id j sz:Nat} {cs:List Cel}:ghB1 id j sz st (.box cs)=ghB2 id j sz cs st cs[j]?:=Eq.trans rfl rfl
theorem ghB2_n {id j sz:Nat} {cs:List Cel}:ghB2 id j sz cs st (some (.dc (.raw (.slice none 0 0))))=⟨st.sl,st.hp.set id (.box (cs.set j (.bld st.hp.length 0)))++[.arr 0 sz []]⟩:=Eq.trans rfl rfl
def sbK (n:Nat):AObj→Option (List (List DC))
 | .arr _ _ es=>if n≤es.length then some (es.take n) else none
 | _=>none
theorem srcV_b {hp:List AObj} {id n:Nat}:srcV hp (.one (.bld id n))=sbK n (hpGet hp id):=by
 simp only [srcV];cases hpGet hp id<;>rfl
theorem sbK_a {n c z:Nat} {es:List (List DC)}:sbK n (.arr c z es)=if n≤es.length then some (es.take n) else none:=Eq.trans rfl rfl
theorem srcV_d {hp:List AObj} {es:List (List DC)}:srcV hp (.one (.dc (.slc es)))=some es:=Eq.trans rfl rfl
end
section
variable {k:IntKind} {x y:Int}
theorem bin_quo:binV .quo (.one (.dc (.raw (.int k x)))) (.one (.dc (.raw (.int k y))))=if y=0 then none else some (.one (.dc (.raw (.int k (k.wrap (x.tdiv y)))))):=by
 simp only [binV,intOp,if_true];split<;>rfl
theorem bin_rem:binV .rem (.one (.dc (.raw (.int k x)))) (.one (.dc (.raw (.int k y))))=if y=0 then none else some (.one (.dc (.raw (.int k (x.tmod y))))):=by
 simp only [binV,intOp,if_true];split<;>rfl
def andI (k:IntKind) (x y:Int):Int:=k.wrap (BitVec.ofInt k.bits x &&& BitVec.ofInt k.bits y).toNat
def orI (k:IntKind) (x y:Int):Int:=k.wrap (BitVec.ofInt k.bits x ||| BitVec.ofInt k.bits y).toNat
theorem bin_and:binV .and (.one (.dc (.raw (.int k x)))) (.one (.dc (.raw (.int k y))))=some (.one (.dc (.raw (.int k (andI k x y))))):=by simp [binV,intOp,andI]
theorem bin_or:binV .or (.one (.dc (.raw (.int k x)))) (.one (.dc (.raw (.int k y))))=some (.one (.dc (.raw (.int k (orI k x y))))):=by simp [binV,intOp,orI]
theorem bin_shl {j:IntKind} (h:0≤y):binV .shl (.one (.dc (.raw (.int j x)))) (.one (.dc (.raw (.int k y))))=some (.one (.dc (.raw (.int j (j.wrap (x * 2 ^ (min y.toNat j.bits))))))):=by
 simp only [binV];rw [if_neg (by omega)]
theorem bin_shr {j:IntKind} (h:0≤y):binV .shr (.one (.dc (.raw (.int j x)))) (.one (.dc (.raw (.int k y))))=some (.one (.dc (.raw (.int j (x.fdiv (2 ^ (min y.toNat j.bits))))))):=by
 simp only [binV];rw [if_neg (by omega)]
theorem un_neg:unV .neg (.one (.dc (.raw (.int k x))))=some (.one (.dc (.raw (.int k (k.wrap (0 - x)))))):=Eq.trans rfl rfl
theorem bin_sadd {a b:ByteArray} (h:a.size+b.size≤9223372036854775807):binV .add (.one (.dc (.raw (.string a)))) (.one (.dc (.raw (.string b))))=some (.one (.dc (.raw (.string (a++b))))):=by
 simp only [binV,strOp];rw [if_pos h];rfl
theorem beqS {x y:ByteArray}:(x.toList==y.toList)=decide (x=y):=by
 rw [Bool.eq_iff_iff]
 simp [ByteArray.toList_eq,ByteArray.ext_iff,Array.ext_iff]
theorem bin_sneq {x y:ByteArray}:binV .neq (.one (.dc (.raw (.string x)))) (.one (.dc (.raw (.string y))))=some (.one (.dc (.raw (.bool (decide (x≠y)))))):=by
 simp only [binV,strOp,Option.map_some,rawV,beqS]
 congr 5
 simp
end
section
variable {call:CallT} {G:Glob} {st s s':AS} {l:List AOp}
variable {r:Nat} {prs:List (Nat × Nat)} {acc:List FP} {d:Option Nat} {ai:AI} {f:FP} {R:List Nat}
end
attribute [go_sem] fpC isAl
attribute [go_sem] EC_skip EC_ret EC_exit EC_region EC_drawn EC_seq EC_cond EC_block EC_loop EC_gh sqK_n sqK_r sqK_e cdK_t cdK_f cdK_pos cdK_neg blkK_n blkK_r blkK_e fnK_r fnK_e rnK_n nrm_s evR_nil evR_o stO_n stO_g guZ_t guZ_f guZ_pos guZ_neg guD_t guD_f guD_pos guD_neg drO_n drO_g evDr_nil evDr_o
attribute [go_sem] bvIds bvB bvC bvCs bvV bvT bvS bvO bvH
attribute [go_sem] bxW_f bxIds bxB bxV bxT bxC bxD bxO blsV blsC blsCs blsT blsTs
attribute [go_sem] atO
attribute [go_sem] vpAs cpyZ cvsZ isRef hasN capD clrZ mkZ stZ_call stZ_app stZ_bslc stZ_alloc stZ_box stZ_store stZ_mov stZ_pick stZ_load stZ_nilc stZ_bin stZ_un stZ_conv stZ_cvbs stZ_addo stZ_ixA stZ_ixL stZ_ixS stZ_slS stZ_build stZ_ext stZ_lenS stZ_lenL stZ_min stZ_max
attribute [go_sem] drZ_l drZ_q ldZ_call ldZ_app ldZ_bslc ldZ_store qtZ_mov qtZ_pick qtZ_load qtZ_nilc qtZ_bin qtZ_binb qtZ_eqs qtZ_un qtZ_addo qtZ_ixA qtZ_ixL qtZ_lenL gK_b gK_skip eqb_true eqb_false putX_s pickV_t pickV_f pickV_pos pickV_neg bin_add bin_sub bin_mul bin_eql bin_neq bin_lss bin_leq bin_gtr bin_geq bin_seq un_not dec_and dec_or dec_not
attribute [go_sem] ibeq and_false false_and or_false false_or or_true true_or Bool.true_or Bool.false_or Bool.or_true Bool.or_false not_true_eq_false not_false_eq_true List.flatMap_cons List.flatMap_nil b_tb b_fb toNat_sub1 allLen take_map_len retZ_r retZ_n retI_t addA boxX_s toNat_add jk putAt_s putAt_z retK_o rtWz_f rtFz retK_f
attribute [go_sem] bsP_s dcs_ptr
attribute [go_sem] nrmB nrmL clZ_e clBz_t clBz_f dtK_e dtBz_t qtZ_c qtBz_t vwBz_t vwBz_f dvBz_t vwK_v vwK_o dvK_v nwK_s qcK_s qcF List.getD_cons_zero apZ_b apB_s apN_s bsZ_t bsZ_f ghN_n ghB_p ghB1_b ghB2_n srcV_d srcV_b sbK_a bin_quo bin_rem bin_and bin_or bin_shl bin_shr un_neg bin_sadd bin_sneq ghE klC klCs klV klS klO klH plainC plainV plainAs vwAs nzAs bldC bldCs bldV bldAs nzCall cvZ isT anyT usesL litL litU bldPs bsO ctC ctCs ctV ctO ctH ctS trimA frzIds idxN setJ isBoxO idsV idsC idsL idsT keepV keepL keepT keepO Cel.keep killV killC killT killO renV renC renT renL renO jmap bldsOf junks rtCz_s rtLz retV_0 retV_1 retV_2 toTV retOne
end
section
def memN (x:Nat):List Nat→Bool
 | []=>false
 | j::J=>nq x j||memN x J
theorem memN_eq (x:Nat):∀ J:List Nat,memN x J=J.contains x
 | []=>rfl
 | j::J=>by rw [memN,List.contains_cons,memN_eq x J,nq_eq]
def rcB (hp:List AObj) (n id:Nat) (todo J:List Nat):Bool→List Nat
 | true=>reach hp n todo J
 | false=>reach hp n (idsO (hpGet hp id)++todo) (J++[id])
theorem reach_nil {hp:List AObj} {n:Nat} {J:List Nat}:reach hp n [] J=J:=by cases n<;>rfl
theorem reach_s {hp:List AObj} {n id:Nat} {todo J:List Nat}:reach hp (n+1) (id::todo) J=rcB hp n id todo J (memN id J):=by
 rw [reach,memN_eq];cases J.contains id<;>rfl
theorem rcB_f {hp:List AObj} {n id:Nat} {todo J:List Nat}:rcB hp n id todo J false=reach hp n (idsO (hpGet hp id)++todo) (J++[id]):=Eq.trans rfl rfl
def dstN:List Nat→Bool
 | []=>true
 | j::J=>!memN j J&&dstN J
theorem dstN_eq:∀ J:List Nat,dstN J=pairsOK (fun i j=>i != j) J
 | []=>rfl
 | j::J=>by
  rw [dstN,pairsOK,dstN_eq J,memN_eq]
  congr 1
  induction J with
  | nil=>rfl
  | cons i J ih=>simp only [List.contains_cons,List.all_cons,Bool.not_or,ih];rfl
def kpC (J:List Nat):Cel→Bool
 | .ptr id _=>memN id J
 | .bld id _=>memN id J
 | .ept id _ _ _=>memN id J
 | .bls id _ _ _=>memN id J
 | .fn f caps=>(Cel.fn f caps).keep (outJ J)
 | .dc _=>true
 | .ref _=>true
 | .mpc _=>true
 | .junk=>true
def kpCs (J:List Nat):List Cel→Bool
 | []=>true
 | c::cs=>kpC J c&&kpCs J cs
def kpV (J:List Nat):AV→Bool
 | .one c=>kpC J c
 | .agg cs=>kpCs J cs
 | .tup l=>l.all (keepT (outJ J))
 | .junk=>true
def kpVs (J:List Nat):List AV→Bool
 | []=>true
 | v::vs=>kpV J v&&kpVs J vs
def kpO (J:List Nat):AObj→Bool
 | .box cs=>kpCs J cs
 | .arr _ _ _=>true
 | .dead=>true
def kpH (J:List Nat) (hp:List AObj):List Nat→Bool
 | []=>true
 | j::l=>decide (j < hp.length)&&kpO J (hpGet hp j)&&kpH J hp l
theorem kpC_eq (J:List Nat) (c:Cel):kpC J c=c.keep (outJ J):=by
 cases c<;>simp [kpC,Cel.keep,outJ,memN_eq]
theorem kpCs_eq (J:List Nat):∀ cs,kpCs J cs=keepL (outJ J) cs
 | []=>rfl
 | c::cs=>by rw [kpCs,keepL,kpC_eq,kpCs_eq J cs]
theorem kpV_eq (J:List Nat) (v:AV):kpV J v=keepV (outJ J) v:=by
 cases v<;>simp [kpV,keepV,kpC_eq,kpCs_eq]
theorem kpVs_eq (J:List Nat):∀ vs,kpVs J vs=vs.all (keepV (outJ J))
 | []=>rfl
 | v::vs=>by rw [kpVs,List.all_cons,kpV_eq,kpVs_eq J vs]
theorem kpO_eq (J:List Nat) (o:AObj):kpO J o=keepO (outJ J) o:=by
 cases o<;>simp [kpO,keepO,kpCs_eq]
theorem kpH_eq (J:List Nat) (hp:List AObj):∀ l,kpH J hp l=l.all fun j=>decide (j < hp.length)&&keepO (outJ J) (hpGet hp j)
 | []=>rfl
 | j::l=>by rw [kpH,List.all_cons,kpO_eq,kpH_eq J hp l]
def arB (j:Nat) (l:List Nat):AObj→List Nat
 | .box _=>l
 | _=>j::l
def arJ (hp:List AObj):List Nat→List Nat
 | []=>[]
 | j::J=>arB j (arJ hp J) (hpGet hp j)
def kaC (A:List Nat):Cel→Cel
 | .dc d=>.dc d
 | .ref cs=>.ref cs
 | .mpc es=>.mpc es
 | .junk=>.junk
 | .ptr j o=>bif memN j A then .junk else .ptr j o
 | .bld j n=>bif memN j A then .junk else .bld j n
 | .ept j i s o=>bif memN j A then .junk else .ept j i s o
 | .bls j i s o=>bif memN j A then .junk else .bls j i s o
 | .fn f caps=>killC (fun id=>memN id A) (.fn f caps)
def kaCs (A:List Nat):List Cel→List Cel
 | []=>[]
 | c::cs=>kaC A c::kaCs A cs
def kaV (A:List Nat):AV→AV
 | .one c=>.one (kaC A c)
 | .agg cs=>.agg (kaCs A cs)
 | .tup l=>.tup (l.map (killT fun id=>memN id A))
 | .junk=>.junk
def kaS (A:List Nat):List AV→List AV
 | []=>[]
 | v::vs=>kaV A v::kaS A vs
def kaO (A:List Nat):AObj→AObj
 | .box cs=>.box (kaCs A cs)
 | .arr c s es=>.arr c s es
 | .dead=>.dead
def kaH (A:List Nat):List AObj→List AObj
 | []=>[]
 | o::os=>kaO A o::kaH A os
theorem kaC_eq (A:List Nat) (c:Cel):kaC A c=killC (fun id=>memN id A) c:=by
 cases c<;>simp only [kaC,killC,Cel.keep,if_true]
 case ptr j o=>
  by_cases h:memN j A=true
  ·simp [h]
  ·simp [h,(Bool.eq_false_iff.2 h:memN j A=false)]
 case bld j n=>
  by_cases h:memN j A=true
  ·simp [h]
  ·simp [h,(Bool.eq_false_iff.2 h:memN j A=false)]
 case ept j i s o=>
  by_cases h:memN j A=true
  ·simp [h]
  ·simp [h,(Bool.eq_false_iff.2 h:memN j A=false)]
 case bls j i s o=>
  by_cases h:memN j A=true
  ·simp [h]
  ·simp [h,(Bool.eq_false_iff.2 h:memN j A=false)]
theorem kaCs_eq (A:List Nat):∀ cs,kaCs A cs=cs.map (killC fun id=>memN id A)
 | []=>rfl
 | c::cs=>by simp [kaCs,kaC_eq,kaCs_eq A cs]
theorem kaV_eq (A:List Nat) (v:AV):kaV A v=killV (fun id=>memN id A) v:=by
 cases v<;>simp only [kaV,killV,kaC_eq,kaCs_eq]
theorem kaS_eq (A:List Nat):∀ l,kaS A l=l.map (killV fun id=>memN id A)
 | []=>rfl
 | c::cs=>by simp [kaS,kaV_eq,kaS_eq A cs]
theorem kaH_eq (A:List Nat):∀ l,kaH A l=l.map (killO fun id=>memN id A)
 | []=>rfl
 | o::os=>by cases o<;>simp [kaH,kaO,killO,kaCs_eq,kaH_eq A os]
theorem arJ_eq (hp:List AObj):∀ J:List Nat,(fun id=>memN id (arJ hp J))=fun id=>J.contains id&&!isBoxO (hpGet hp id)
 | []=>by funext id;rfl
 | j::J=>by
  funext id
  have ih:memN id (arJ hp J)=(J.contains id&&!isBoxO (hpGet hp id)):=congrFun (arJ_eq hp J) id
  rw [List.contains_cons,arJ]
  by_cases h:id=j
  ·subst h
   cases ho:hpGet hp id with
   | box cs=>rw [arB,ih,ho];simp [isBoxO]
   | _=>simp [arB,memN,nq_eq,isBoxO]
  ·have hb:(id==j)=false:=by simpa using h
   cases ho:hpGet hp j with
   | box cs=>rw [arB,ih,hb,Bool.false_or]
   | _=>simp only [arB,memN,nq_eq,hb,Bool.false_or];exact ih
def afB (J:List Nat) (st:AS) (d:Option Nat) (av:AV) (os:List AObj):List Nat→AS
 | []=>⟨putS st.sl d (renV (jmap J st.hp.length) av),setJ J (os.map (renO (jmap J st.hp.length))) st.hp++(os.drop J.length).map (renO (jmap J st.hp.length))⟩
 | a::A=>⟨putS (kaS (a::A) st.sl) d (renV (jmap J st.hp.length) av),setJ J (os.map (renO (jmap J st.hp.length))) (kaH (a::A) st.hp)++(os.drop J.length).map (renO (jmap J st.hp.length))⟩
theorem afterC_e {J:List Nat} {st:AS} {d:Option Nat} {av:AV} {os:List AObj}:afterC J st d av os=afB J st d av os (arJ st.hp J):=by
 unfold afterC
 rw [← arJ_eq]
 cases h:arJ st.hp J with
 | nil=>
  have hn:∀ id,memN id []=false:=fun _=>rfl
  rw [mapV_none hn,mapO_none hn];rfl
 | cons a A=>rw [afB,kaS_eq,kaH_eq]
theorem afB_n {J:List Nat} {st:AS} {d:Option Nat} {av:AV} {os:List AObj}:afB J st d av os []=⟨putS st.sl d (renV (jmap J st.hp.length) av),setJ J (os.map (renO (jmap J st.hp.length))) st.hp++(os.drop J.length).map (renO (jmap J st.hp.length))⟩:=Eq.trans rfl rfl
theorem afB_c {J A:List Nat} {a:Nat} {st:AS} {d:Option Nat} {av:AV} {os:List AObj}:afB J st d av os (a::A)=⟨putS (kaS (a::A) st.sl) d (renV (jmap J st.hp.length) av),setJ J (os.map (renO (jmap J st.hp.length))) (kaH (a::A) st.hp)++(os.drop J.length).map (renO (jmap J st.hp.length))⟩:=Eq.trans rfl rfl
def evJ (call:CallT) (d:Option Nat) (f:FuncId) (avs:List AV) (st:AS) (J:List Nat):Option AS:=if okJ J st.hp avs then (call f (avs.map (renV (idxN J))) (J.map fun j=>renO (idxN J) (hpGet st.hp j))).map fun r=>afterC J st d r.1 r.2 else none
def evK (d:Option Nat) (st:AS) (J:List Nat):Option (AV × List AObj)→Option AS
 | some (av,os)=>some (afterC J st d av os)
 | none=>none
def evB (call:CallT) (d:Option Nat) (f:FuncId) (avs:List AV) (st:AS) (J:List Nat):Bool→Option AS
 | true=>evK d st J (call f (avs.map (renV (idxN J))) (J.map fun j=>renO (idxN J) (hpGet st.hp j)))
 | false=>none
theorem evCall_e {call:CallT} {d:Option Nat} {f:FuncId} {avs:List AV} {st:AS}:evCall call d f avs st=evJ call d f avs st (reach st.hp 2000 (avs.flatMap idsV) []):=Eq.trans rfl rfl
theorem evJ_e {call:CallT} {d:Option Nat} {f:FuncId} {avs:List AV} {st:AS} (J:List Nat):evJ call d f avs st J=evB call d f avs st J (dstN J&&kpH J st.hp J&&kpVs J avs):=by
 unfold evJ okJ
 rw [dstN_eq,kpH_eq,kpVs_eq]
 cases (pairsOK (fun i j=>i != j) J&&(J.all fun j=>decide (j < st.hp.length)&&keepO (outJ J) (hpGet st.hp j))&&avs.all (keepV (outJ J))) with
 | false=>rfl
 | true=>
  simp only [if_true,evB]
  cases call f (avs.map (renV (idxN J))) (J.map fun j=>renO (idxN J) (hpGet st.hp j))<;>rfl
theorem evJ_1 {call:CallT} {d:Option Nat} {f:FuncId} {avs:List AV} {st:AS} {a:Nat}:evJ call d f avs st [a]=evB call d f avs st [a] (dstN [a]&&kpH [a] st.hp [a]&&kpVs [a] avs):=evJ_e _
theorem evJ_2 {call:CallT} {d:Option Nat} {f:FuncId} {avs:List AV} {st:AS} {a b:Nat}:evJ call d f avs st [a,b]=evB call d f avs st [a,b] (dstN [a,b]&&kpH [a,b] st.hp [a,b]&&kpVs [a,b] avs):=evJ_e _
theorem evB_t {call:CallT} {d:Option Nat} {f:FuncId} {avs:List AV} {st:AS} {J:List Nat}:evB call d f avs st J true=evK d st J (call f (avs.map (renV (idxN J))) (J.map fun j=>renO (idxN J) (hpGet st.hp j))):=Eq.trans rfl rfl
theorem evK_s {d:Option Nat} {st:AS} {J:List Nat} {av:AV} {os:List AObj}:evK d st J (some (av,os))=some (afterC J st d av os):=Eq.trans rfl rfl
attribute [go_sem] memN reach_nil reach_s rcB_f dstN kpC kpCs kpV kpVs kpO kpH arB arJ kaC kaCs kaV kaS kaO kaH afterC_e afB_n afB_c evCall_e evJ_1 evJ_2 evB_t evK_s idsO Nat.reduceLT
section
variable {call:CallT} {G:Glob} {st:AS} {d:Option Nat}
end
attribute [go_sem] Nat.reduceAdd Nat.reduceSub Nat.reduceMul Nat.reduceLeDiff Nat.reduceEqDiff
end
end Go.Proofs.YtmmafhopnkkeeaaGreatDoor
