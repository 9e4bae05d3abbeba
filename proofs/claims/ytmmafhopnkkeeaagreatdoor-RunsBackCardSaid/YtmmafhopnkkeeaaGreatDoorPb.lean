/- Runs as strings, strings as runs. Conditions: none. -/
import Derived.Test.YtmmafhopnkkeeaaGreatDoorQn
import Derived.Test.YtmmafhopnkkeeaaGreatDoorQb
import Derived.Test.YtmmafhopnkkeeaaGreatDoorVa
import Derived.Test.YtmmafhopnkkeeaaGreatDoorRk
namespace Go.Proofs.YtmmafhopnkkeeaaGreatDoor
set_option linter.unusedSimpArgs false
set_option linter.unusedVariables false
set_option maxRecDepth 4000
def jnI (s:List Int):List (List Int)→List Int
 | []=>[]
 | [a]=>a
 | a::b::l=>a++s++jnI s (b::l)
theorem jnI_join (s:List Int):∀ l:List (List Int),Lib.join (l.map (·.map u8)) (s.map u8)=(jnI s l).map u8
 | []=>rfl
 | [a]=>by rw [List.map_cons,List.map_nil,Lib.join_one];rfl
 | a::b::l=>by
  have ih:=jnI_join s (b::l)
  rw [jnI,List.map_append,List.map_append,← ih]
  simp [Lib.join,List.intercalate]
theorem jnI_len (s:List Int) (m:Nat) (hs:s.length≤1):∀ l:List (List Int),(∀ a∈l,a.length≤m)→(jnI s l).length≤l.length * (m+1)
 | [],h=>by simp [jnI]
 | [a],h=>by
  have:=h a (by simp)
  rw [jnI];simp;omega
 | a::b::l,h=>by
  have h1:=h a (by simp)
  have h2:=jnI_len s m hs (b::l) (fun x hx=>h x (List.mem_cons_of_mem _ hx))
  rw [jnI,List.length_append,List.length_append]
  simp only [List.length_cons,Nat.add_mul,Nat.one_mul] at h2 ⊢
  omega
theorem jnI_snoc (s:List Int):∀ (l:List (List Int)) (x:List Int),l≠[]→jnI s (l++[x])=jnI s l++s++x
 | [],x,h=>absurd rfl h
 | [a],x,_=>by simp [jnI]
 | a::b::l,x,_=>by
  have ih:=jnI_snoc s (b::l) x (by simp)
  rw [List.cons_append,List.cons_append,jnI,← List.cons_append,ih,jnI]
  simp
theorem spl_jn (c:Int):∀ ps:List (List Int),ps≠[]→(∀ p∈ps,c∉p)→spl c (jnI [c] ps)=ps
 | [],h,_=>absurd rfl h
 | [a],_,h=>spl_free c a (h a List.mem_cons_self)
 | a::b::l,_,h=>by
  rw [jnI,List.append_assoc,List.singleton_append,spl_app c a _ (h a List.mem_cons_self),spl_jn c (b::l) (by simp) (fun p hp=>h p (List.mem_cons_of_mem _ hp))]
def prt (s:List Int):List (List Int):=if s=[] then [] else spl 32 s
theorem prt_jn (ps:List (List Int)) (h:∀ p∈ps,32∉p) (hn:∀ p∈ps,p≠[]):prt (jnI [32] ps)=ps:=by
 unfold prt
 cases ps with
 | nil=>rfl
 | cons a l=>
  have:jnI [32] (a::l)≠[]:=by
   cases l with
   | nil=>exact hn a List.mem_cons_self
   | cons b l=>rw [jnI];simp
  rw [if_neg this,spl_jn 32 _ (by simp) h]
def txR (r:Run):List Int:=(if r.s=-1 then [45] else dcI r.s)++[43]++dcI r.n
def fmR (l:List Run):List Int:=jnI [32] (l.map txR)
def psW (p:List Int):Option Run:=
 if (ctI 43 p).2.2=true∧((ctI 43 p).1=[45]∨natB 4 (ctI 43 p).1=true)∧natB 4 (ctI 43 p).2.1=true then some ⟨if (ctI 43 p).1=[45] then -1 else valL 0 (ctI 43 p).1,valL 0 (ctI 43 p).2.1⟩ else none
def snR:Option (List Run)→Option Run→Option (List Run)
 | some l,some r=>some (l++[r])
 | _,_=>none
def psL (ps:List (List Int)):Option (List Run):=ps.foldl (fun o p=>snR o (psW p)) (some [])
theorem psL_snoc (ps:List (List Int)) (p:List Int):psL (ps++[p])=snR (psL ps) (psW p):=by
 unfold psL;rw [List.foldl_append];rfl
theorem psL_none {o:List (List Int)}:∀ ps:List (List Int),ps.foldl (fun o p=>snR o (psW p)) none=none
 | []=>rfl
 | p::ps=>by
  rw [List.foldl_cons]
  have:snR none (psW p)=none:=by cases psW p<;>rfl
  rw [this];exact psL_none (o:=o) ps
theorem psL_no {ps rest:List (List Int)} {p:List Int} (h:psW p=none):psL (ps++p::rest)=none:=by
 have e:ps++p::rest=(ps++[p])++rest:=by simp
 rw [e]
 unfold psL
 rw [List.foldl_append,List.foldl_append,List.foldl_cons,h]
 have:∀ o:Option (List Run),snR o none=none:=fun o=>by cases o<;>rfl
 rw [this]
 exact psL_none (o:=[]) rest
theorem psL_len {ps:List (List Int)}:∀ {l:List Run},psL ps=some l→l.length=ps.length:=by
 have key:∀ (ps:List (List Int)) (o l:List Run),ps.foldl (fun o p=>snR o (psW p)) (some o)=some l→l.length=o.length+ps.length:=by
  intro ps
  induction ps with
  | nil=>intro o l h;simp only [List.foldl_nil,Option.some.injEq] at h;subst h;rfl
  | cons p ps ih=>
   intro o l h
   rw [List.foldl_cons] at h
   cases hp:psW p with
   | none=>rw [hp] at h;rw [show snR (some o) none=none from rfl,psL_none (o:=[])] at h;cases h
   | some r=>
    rw [hp] at h
    have:=ih (o++[r]) l h
    simp at this ⊢;omega
 intro l h
 have:=key ps [] l h
 simpa using this
def psR (s:List Int):List Run × Int:=
 if 200000 < s.length then ([],8) else match psL (prt s) with
  | none=>([],7)
  | some l=>if (chk l).2=0 then (l,0) else ([],(chk l).2)
theorem psL_map:∀ (l:List Run) (f:Run→List Int),(∀ r∈l,psW (f r)=some r)→psL (l.map f)=some l:=by
 intro l f
 have key:∀ (l o:List Run),(∀ r∈l,psW (f r)=some r)→(l.map f).foldl (fun o p=>snR o (psW p)) (some o)=some (o++l):=by
  intro l
  induction l with
  | nil=>intro o _;simp
  | cons r l ih=>
   intro o h
   rw [List.map_cons,List.foldl_cons,h r List.mem_cons_self]
   have:=ih (o++[r]) (fun r hr=>h r (List.mem_cons_of_mem _ hr))
   rw [List.append_assoc] at this
   exact this
 intro h
 exact key l [] h
theorem dgL_no (n:Nat) (c:Int) (hc:c < 48):c∉dgL n:=fun h=>by have:=dgL_dgs n c h;omega
theorem dcI_no {n:Int} (hn:0≤n) (c:Int) (hc:c < 48):c∉dcI n:=by
 unfold dcI
 rw [if_neg (by omega)]
 exact dgL_no _ c hc
theorem dcI_len4 {n:Int} (hn:0≤n∧n≤9999):(dcI n).length≤4:=by
 unfold dcI;rw [if_neg (by omega)]
 exact dgL_len 3 n.toNat (by omega)
theorem txR_ps {r:Run} (h:rangeE r.s r.n=0):psW (txR r)=some r∧32∉txR r∧txR r≠[]∧(txR r).length≤9:=by
 have hn:0≤r.n∧r.n≤9999∧-1≤r.s∧r.s≤9999:=by rcases rangeE_ok h with h | ⟨s,n,h⟩<;>omega
 obtain ⟨n1,v1⟩:=dcI_nat hn.1 4 (dcI_len4 ⟨hn.1,hn.2.1⟩)
 have l1:=dcI_len4 ⟨hn.1,hn.2.1⟩
 have b1:=dcI_no hn.1 32 (by omega)
 obtain ⟨s,n⟩:=r
 simp only at *
 unfold psW txR
 simp only
 by_cases hs:s=-1
 ·subst hs
  have e:([45]:List Int)++[43]++dcI n=[45]++43::dcI n:=by simp
  rw [if_pos rfl,e,ctI_app 43 [45] (dcI n) (by simp)]
  refine ⟨?_, ?_,by simp,by simp;omega⟩
  ·rw [if_pos ⟨rfl,.inl rfl,n1⟩]
   simp [v1]
  ·simp [b1]
 ·obtain ⟨n2,v2⟩:=dcI_nat (by omega:0≤s) 4 (dcI_len4 ⟨by omega,hn.2.2.2⟩)
  have l2:=dcI_len4 (n:=s) ⟨by omega,hn.2.2.2⟩
  have b2:=dcI_no (n:=s) (by omega) 32 (by omega)
  have b3:=dcI_no (n:=s) (by omega) 43 (by omega)
  have b4:dcI s≠[45]:=fun e=>dcI_no (n:=s) (by omega) 45 (by omega) (by rw [e];simp)
  have e:dcI s++[43]++dcI n=dcI s++43::dcI n:=by simp
  rw [if_neg hs,e,ctI_app 43 (dcI s) (dcI n) b3]
  refine ⟨?_, ?_,by simp,by simp;omega⟩
  ·rw [if_pos ⟨rfl,.inr n2,n1⟩]
   simp [v1,v2,b4]
  ·simp [b1,b2]
theorem psR_fm {l:List Run} (h:(chk l).2=0):psR (fmR l)=(l,0):=by
 have hr:=chk_rg h
 have hl:=chk_len h
 have k:=fun r hr'=>txR_ps (hr r hr')
 unfold psR fmR
 have hz:=jnI_len [32] 9 (by simp) (l.map txR) (fun a ha=>by
  obtain ⟨r,h1,rfl⟩:=List.mem_map.1 ha
  exact (k r h1).2.2.2)
 rw [List.length_map] at hz
 rw [if_neg (by omega),prt_jn _ (fun p hp=>by
  obtain ⟨r,h1,rfl⟩:=List.mem_map.1 hp
  exact (k r h1).2.1) (fun p hp=>by
  obtain ⟨r,h1,rfl⟩:=List.mem_map.1 hp
  exact (k r h1).2.2.1),psL_map l txR (fun r hr'=>(k r hr').1)]
 simp only
 rw [if_pos h]
theorem jn_byts:∀ ps:List (List Int),(∀ p∈ps,Byts p)→Byts (jnI [32] ps)
 | [],_=>fun b hb=>by cases hb
 | [a],h=>h a List.mem_cons_self
 | a::b::l,h=>by
  intro x hx
  rw [jnI,List.append_assoc,List.singleton_append] at hx
  rcases List.mem_append.1 hx with hx | hx
  ·exact h a List.mem_cons_self x hx
  ·rcases List.mem_cons.1 hx with rfl | hx
   ·omega
   ·exact jn_byts (b::l) (fun p hp=>h p (List.mem_cons_of_mem _ hp)) x hx
theorem txR_byts (r:Run):Byts (txR r):=by
 unfold txR
 intro x hx
 rcases List.mem_append.1 hx with hx | hx
 ·rcases List.mem_append.1 hx with hx | hx
  ·split at hx
   ·simp at hx;omega
   ·exact dcI_byts _ x hx
  ·simp at hx;omega
 ·exact dcI_byts _ x hx
theorem fmR_byts (l:List Run):Byts (fmR l):=jn_byts _ (fun p hp=>by
 obtain ⟨r,_,rfl⟩:=List.mem_map.1 hp
 exact txR_byts r)
end Go.Proofs.YtmmafhopnkkeeaaGreatDoor
