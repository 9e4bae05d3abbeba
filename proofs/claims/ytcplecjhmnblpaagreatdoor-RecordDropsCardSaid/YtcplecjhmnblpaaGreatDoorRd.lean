/- slices.Delete of one attribute, walked. Conditions: as each theorem says. -/
import Derived.Test.YtcplecjhmnblpaaGreatDoorChecked
import Derived.Test.YtcplecjhmnblpaaGreatDoorNc
import Derived.Lib.AppendZerosOnto
import Derived.Laws.NewBlocks
import Derived.Laws.IdiomCopy
import Derived.Deep.LoopGhost
import Derived.Deep.RegionLaw
import Derived.Shelf.RegionOpenPlain
namespace Go.Proofs.YtcplecjhmnblpaaGreatDoor
open Go.Lib Go.RowKit
def zA:List Value:=[.int .i64 0,.string ⟨#[]⟩,.int .i64 0,.int .i64 0,.bool false,.string ⟨#[]⟩,.int .i64 0,.slice none 0 0,.int .i64 0,.int .i64 0,.int .i64 0]
theorem zA_len:zA.length=11:=rfl
theorem zA_1:∀ v∈zA,v.oneCell'=true:=by
 intro v hv
 simp only [zA,List.mem_cons,List.not_mem_nil,or_false] at hv
 rcases hv with rfl | rfl | rfl | rfl | rfl | rfl | rfl | rfl | rfl | rfl | rfl<;>rfl
theorem isSome_sc (b:Nat):∀ (vs:List Value) (o:Nat) (w:World) (t:∀ t,t < vs.length→(w.cell? ⟨b,o+t,none⟩).isSome=true) (q:Nat),(w.cell? ⟨b,q,none⟩).isSome=true→((w.setCells b o vs).cell? ⟨b,q,none⟩).isSome=true
 | [],_,_,_,_,h=>h
 | v::r,o,w,t,q,h=>by
  rw [World.setCells]
  have key:∀ q:Nat,(w.cell? ⟨b,q,none⟩).isSome=true→((w.setCell ⟨b,o,none⟩ v).cell? ⟨b,q,none⟩).isSome=true:=fun q h=>by
   obtain ⟨u,hu⟩:=Option.isSome_iff_exists.mp h
   obtain ⟨u',hu'⟩:=cell?_setCell_some (p:=⟨b,o,none⟩) (x:=v) hu
   rw [hu'];rfl
  refine isSome_sc b r (o+1) _ (fun t' ht=>key _ ?_) q (key q h)
  have:=t (t'+1) (by simpa using ht)
  rwa [show o+(t'+1)=o+1+t' by omega] at this
set_option maxHeartbeats 4000000 in
set_option maxRecDepth 100000 in
theorem delA_c (b n c i:Nat) (cs:List Value) (w:World) (hi:i < n) (hcap:n≤c) (hn47:n+1≤140737488355328)
  (hcl:cs.length=n * 11) (hcs:∀ j v,cs[j]?=some v→w.cell? ⟨b,j,none⟩=some v) (hfz:∀ j,j < n * 11→w.frozen? ⟨b,j,none⟩=false) (h1c:∀ v∈cs,v.oneCell'=true):
  Calls Tryz.prog 82 #[.slice (some ⟨b,0,none⟩) n c,.int .i64 i,.int .i64 ((i:Int)+1)] w fun e w'=>
   e=.returned (.slice (some ⟨b,0,none⟩) (i+(n - (i+1))) c)∧w'=(w.drew.setCells b (i * 11) (cs.drop ((i+1) * 11))).setCells b ((i+(n - (i+1))) * 11) zA:=by
 have mixed:Tryz.prog.follows .mixedOrders=true:=by kernel_rfl
 obtain ⟨i0,hi0,hzs,hz0⟩:∃ i0,Tryz.prog.info? 44=some i0∧i0.size=11∧i0.zero=some (.agg #[.int .i64 0,.string ⟨#[]⟩,.int .i64 0,.int .i64 0,.bool false,.string ⟨#[]⟩,.int .i64 0,.slice none 0 0,.int .i64 0,.int .i64 0,.int .i64 0]):=⟨_,rfl,rfl,rfl⟩
 have hsp:∀ j,j < n * 11→(w.cell? ⟨b,j,none⟩).isSome=true:=fun j hj=>by
  rw [hcs j _ (List.getElem?_eq_getElem (by omega))];rfl
 obtain ⟨news,hnews⟩:∃ news,news=cs.drop ((i+1) * 11):=⟨_,rfl⟩
 have hlen:news.length=(n - (i+1)) * 11:=by rw [hnews,List.length_drop,hcl,Nat.sub_mul]
 have hget:∀ t u,news[t]?=some u→w.cell? ⟨b,(i+1) * 11+t,none⟩=some u:=fun t u h=>hcs _ u (by rwa [hnews,List.getElem?_drop] at h)
 obtain ⟨A,hA,hsrc⟩:∃ A:Addr,(if c=i+1 then (some (⟨b,0,none⟩:Addr)) else some ⟨b,(i+1) * 11,none⟩)=some A∧Hid (∀ t u,news[t]?=some u→w.drew.cell? (A.add t)=some u):=by
  by_cases h:c=i+1
  ·refine ⟨⟨b,0,none⟩,by simp [h],fun t u hu=>?_⟩
   have h9:n - (i+1)=0:=by omega
   have h0:news.length=0:=by rw [hlen,h9,Nat.zero_mul]
   rw [List.length_eq_zero_iff.1 h0] at hu
   simp at hu
  ·refine ⟨⟨b,(i+1) * 11,none⟩,by simp [h],fun t u hu=>?_⟩
   rw [Addr.add_lit]
   exact hget t u hu
 have s1:Hid (news.length=(n - (i+1)) * 11):=hlen
 have s2:Hid (∀ u∈news,u.oneCell'=true):=fun u hu=>h1c u (List.mem_of_mem_drop (by rw [← hnews];exact hu))
 have s3:Hid (∀ t,t < news.length→(w.drew.cell? ⟨b,0+i * 11+t,none⟩).isSome=true∧w.drew.frozen? ⟨b,0+i * 11+t,none⟩=false):=fun t ht=>by
  rw [hlen] at ht
  rw [Nat.zero_add]
  exact ⟨hsp _ (by omega),hfz _ (by omega)⟩
 obtain ⟨W1,hW1⟩:∃ W1,W1=w.drew.setCells b (0+i * 11) news:=⟨_,rfl⟩
 have hzc:(Builtin.zeroCells #[.int .i64 0,.string ⟨#[]⟩,.int .i64 0,.int .i64 0,.bool false,.string ⟨#[]⟩,.int .i64 0,.slice none 0 0,.int .i64 0,.int .i64 0,.int .i64 0] 1).toList=zA:=by kernel_rfl
 have hcl2:∀ ty,(Builtin.clear_ #[24] ty #[.slice (some ⟨b,(i+(n - (i+1))) * 11,none⟩) (n - (i+(n - (i+1)))) (c - (i+(n - (i+1))))]).run Tryz.prog W1=.ok (.tuple #[]) (W1.setCells b ((i+(n - (i+1))) * 11) zA):=fun ty=>by
  have hst:=run_storeCells_cells (P:=Tryz.prog) b ((i+(n - (i+1))) * 11) zA 0 W1
   (by intro j hj;rw [hW1,Nat.zero_add,Nat.add_zero];refine isSome_sc b news (i * 11) w.drew (fun t ht=>hsp _ (by rw [hlen] at ht;omega)) _ (hsp _ (by rw [zA_len] at hj;omega)))
   (by intro j hj;rw [hW1,World.frozen?_setCells];exact hfz _ (by rw [zA_len] at hj;omega))
   zA_1
  have h1:n - (i+(n - (i+1)))=1:=by omega
  rw [h1]
  have hzv:(zeroValue 44).run Tryz.prog W1=.ok (.agg #[.int .i64 0,.string ⟨#[]⟩,.int .i64 0,.int .i64 0,.bool false,.string ⟨#[]⟩,.int .i64 0,.slice none 0 0,.int .i64 0,.int .i64 0,.int .i64 0]) W1:=by simp [zeroValue,typeInfo,hi0,hz0]
  simp only [Nat.add_zero] at hst hzc ⊢
  simp [Builtin.clear_,run_underlying Tryz.underlying24,hzv,Value.cells,hzc,hst]
 have X:Aside (W1=w.drew.setCells b (i * 11) (cs.drop ((i+1) * 11))):=by show W1=_;rw [hW1,hnews,Nat.zero_add]
 have hW:Hid (W1=w.drew.setCells b (0+i * 11) news):=hW1
 have hic:i≤c:=by omega
 have hjc:i+1≤c:=by omega
 have hij:¬ ((i:Int)=(i:Int)+1):=by omega
 have hb1:(0:Int)≤(i:Int)+1:=by omega
 have hb2:(i:Int)≤(i:Int)+1:=by omega
 have hb3:(i:Int)+1≤(n:Int):=by omega
 have htn:((i:Int)+1).toNat=i+1:=by omega
 have hin:i+1≤n:=by omega
 clear hW1 hfz hget hnews hlen hsp hcs
 go_enter Tryz.func82,Tryz.ntmps82
 go_wp2_with fail
 go_region_law_o (refine step_append_room rfl (.tmp 22) (.tmp 25) 24 rfl 44 i0 11 Tryz.underlying24 hi0 hzs b 0 i c (by simp [Act.eval,Act.put]) A (n - (i+1)) (c - (i+1)) news (by simp [Act.eval,Act.put]) s1.out hsrc.out s2.out (by omega) s3.out ?_;rw [← hW.out])
 go_wp2
 go_ret
 exact ⟨rfl,by rw [X.out]⟩
end Go.Proofs.YtcplecjhmnblpaaGreatDoor
