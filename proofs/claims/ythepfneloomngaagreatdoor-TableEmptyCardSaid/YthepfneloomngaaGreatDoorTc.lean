/- Which of two attributes comes first, by the kit's own walk: the world behind the call. Conditions: none. -/
import Derived.Test.YthepfneloomngaaGreatDoorChecked
import Derived.WalkKit
import Derived.Laws.Cover1
import Derived.Deep.RegionHeld3
import Derived.Sort.Grow
import Derived.Deep.Draws
import Derived.Test.YthepfneloomngaaGreatDoorMk
namespace Go.Proofs.YthepfneloomngaaGreatDoor
set_option linter.unusedSimpArgs false
set_option linter.unusedVariables false
open Go.RowKit Go.Sort
theorem U9(a b:Int)(w:World):Calls Tryz.prog 292 #[.int .i64 a,.int .i64 b] w fun e w'=>e=.returned (.int .i64 (Do a b))/\w'=w:=by
 unfold Do
 go_enter Tryz.func292,Tryz.ntmps292
 go_wp2
 all_goals (go_ret;exact⟨rfl,rfl⟩)
theorem aO5{a b:List UInt8}(h1:Op.bytesLess a b=false)(h2:(!a==b)=true):F7 a b=1:=by
 have hne:a≠b:=by simpa using h2
 rcases Iu a b hne with q|q;rw[h1] at q;cases q;unfold F7;rw[if_neg (by rw[h1];simp),if_pos q]
theorem aO6{a b:List UInt8}(h1:Op.bytesLess a b=false)(h2:(!a==b)=false):F7 a b=0:=by
 have he:a=b:=by simpa using h2
 subst he;unfold F7;rw[Nv];rfl
theorem Va(a b:ByteArray)(w:World):Calls Tryz.prog 293 #[.string a,.string b] w fun e w'=>e=.returned (.int .i64 (F7 a.toList b.toList))/\w'=w:=by
 have h0:Op.bytesLess a.toList b.toList=true->F7 a.toList b.toList=-1:=fun h=>by unfold F7;rw[if_pos h]
 have h1:Op.bytesLess a.toList b.toList=false->(!a.toList==b.toList)=true->F7 a.toList b.toList=1:=aO5;have h2:Op.bytesLess a.toList b.toList=false->(!a.toList==b.toList)=false->F7 a.toList b.toList=0:=aO6;generalize F7 a.toList b.toList=r at *
 go_enter Tryz.func293,Tryz.ntmps293
 go_wp2
 go_ret
 exact⟨by rw[h0 (by assumption)];rfl,rfl⟩
 go_ret
 exact⟨by rw[h1 (by assumption) (by assumption)];rfl,rfl⟩
 go_ret
 exact⟨by rw[h2 (by assumption) (by assumption)];rfl,rfl⟩
def Ny:List Int->Int
 |[]=>0
 |e::l=>if e=0 then Ny l else e
theorem Iw:∀(l:List Int) (k:Nat),k<=l.length->(∀j,j<k->l.getD j 0=0)->Ny l=Ny (l.drop k)
 |l,0,_,_=>rfl
 |[],k+1,h,_=>by simp at h
 | e::l,k+1,h,hz=>by
  have h0:e=0:=hz 0 (by omega);rw[Ny,if_pos h0,List.drop_succ_cons];exact Iw l k (by simpa using h) (fun j hj=>hz (j+1) (by omega))
theorem aO7{l:List Int}{k:Nat}(h:k<l.length)(hz:∀j,j<k->l.getD j 0=0)(hk:l.getD k 0≠0):Ny l=l.getD k 0:=by
 rw[Iw l k (by omega) hz];have e:l.drop k=l.getD k 0::l.drop (k+1):=by
  rw[List.drop_eq_getElem_cons h];simp[List.getD,h]
 rw[e,Ny,if_neg hk]
theorem aFp{l:List Int}(hz:∀j,j<l.length->l.getD j 0=0):Ny l=0:=by
 rw[Iw l l.length (Nat.le_refl _) hz];simp[Ny]
theorem aFq(b off len cap:Nat)(zs:List Int)(w:World)(hl:len=zs.length)(hbig:len<=9223372036854775807)(hc:∀j,j<zs.length->w.cell? ⟨b,off+j,none⟩=some (.int .i64 (zs.getD j 0))):
  Calls Tryz.prog 291 #[.slice (some ⟨b,off,none⟩) len cap] w fun e w'=>e=.returned (.int .i64 (Ny zs))/\w'=w:=by
 go_enter Tryz.func291,Tryz.ntmps291
 go_wp2
 go_loop [8] (fun i=>∃k:Nat,k<=len/\i=.int .i64 k/\∀j,j<k->zs.getD j 0=0) (fun i=>len-(intOf i).toNat)
 case atStart=>exact⟨0,Nat.zero_le _,rfl,fun j hj=>by omega⟩
 case round=>
  obtain⟨k,hk,rfl,hz⟩:=hrel;have hcell:k<len->w.cell? ⟨b,off+k,none⟩=some (.int .i64 (zs.getD k 0)):=fun h=>hc k (by omega)
  go_wp2
  have hlt:k<zs.length:=by assumption
  have hne:(zs[k] != 0)=true:=by assumption
  have e:zs.getD k 0=zs[k]:=by simp[List.getD,hlt]
  have:=aO7 hlt hz (by rw[e];simpa using hne);rw[this]
  go_ret
  exact⟨by simp[List.getD,hlt],rfl⟩
  ·go_round
   case rel=>
    have hlt:k<zs.length:=by assumption
    have hne:(zs[k] != 0)=false:=by assumption
    have e:zs.getD k 0=zs[k]:=by simp[List.getD,hlt]
    refine⟨k+1,by omega,by go_num,fun j hj=>?_⟩
    by_cases h:j=k;subst h;rw[e];simpa using hne;exact hz j (by omega)
   case measure=>simp[intOf];omega
  have hge:¬ k<zs.length:=by assumption
  rw[aFp (fun j hj=>hz j (by omega))]
  go_ret
  exact⟨rfl,rfl⟩
theorem aV2(W:World)(o1 o2:Obj)(x0 x1 x2 x3:Int)(T:TypeId)(j:Nat)(hj:j<([x0,x1,x2,x3]:List Int).length):
  (((W.alloc o1).alloc o2).alloc (.cells #[.int .i64 x0,.int .i64 x1,.int .i64 x2,.int .i64 x3] T)).drew.cell? ⟨W.heap.size+1+1,0+j,none⟩=some (.int .i64 (([x0,x1,x2,x3]:List Int).getD j 0)):=by
 have e:W.heap.size+1+1=((W.alloc o1).alloc o2).heap.size:=by
  show _=((W.heap.push o1).push o2).size;rw[Array.size_push,Array.size_push]
 show (((W.alloc o1).alloc o2).alloc (.cells #[.int .i64 x0,.int .i64 x1,.int .i64 x2,.int .i64 x3] T)).cell? ⟨W.heap.size+1+1,0+j,none⟩=_;rw[e,World.cell?_alloc_new,Nat.zero_add]
 match j,hj with
 |0,_=>rfl
 |1,_=>rfl
 |2,_=>rfl
 |3,_=>rfl
theorem aTC(W:World)(o1 o2 o3:Obj):∃q os',(((W.alloc o1).alloc o2).alloc o3).drew=grow (W.drewN q) os':=⟨1,#[o1,o2,o3],by
 simp only[alloc_eq_grow,grow_grow];rfl⟩
theorem J6(t1 d1 f1 t2 d2 f2:Int)(n1 n2:ByteArray)(a3 a4 a5 a7 a8 a9 a10 b3 b4 b5 b7 b8 b9 b10:Value)(W:World):
  Calls Tryz.prog 245 #[.agg #[.int .i64 t1,.string n1,.int .i64 d1,a3,a4,a5,.int .i64 f1,a7,a8,a9,a10],.agg #[.int .i64 t2,.string n2,.int .i64 d2,b3,b4,b5,.int .i64 f2,b7,b8,b9,b10]] W fun e w'=>
   e=.returned (.int .i64 (Ny [Do t1 t2,F7 n1.toList n2.toList,Do f1 f2,Do d1 d2]))/\∃q os',w'=grow (W.drewN q) os':=by
 go_enter Tryz.func245,Tryz.ntmps245
 go_wp2
 go_region_held3 (fun w'=>w'.cell? ⟨W.heap.size,0,none⟩=some (.int .i64 t1)/\w'.cell? ⟨W.heap.size,1,none⟩=some (.string n1)/\w'.cell? ⟨W.heap.size,2,none⟩=some (.int .i64 d1)/\w'.cell? ⟨W.heap.size,6,none⟩=some (.int .i64 f1)/\
   w'.cell? ⟨W.heap.size+1,0,none⟩=some (.int .i64 t2)/\w'.cell? ⟨W.heap.size+1,1,none⟩=some (.string n2)/\w'.cell? ⟨W.heap.size+1,2,none⟩=some (.int .i64 d2)/\w'.cell? ⟨W.heap.size+1,6,none⟩=some (.int .i64 f2)) (go_keep)
  (first
   | (go_at_call 292;refine (U9 _ _ _).mono ?_;rintro e w' ⟨rfl,rfl⟩)
   | (go_at_call 293;refine (Va _ _ _).mono ?_;rintro e w' ⟨rfl,rfl⟩)
   | (go_at_call 291;refine (aFq _ _ _ _ [Do t1 t2,F7 n1.toList n2.toList,Do f1 f2,Do d1 d2] _ ?_ ?_ ?_).mono ?_;(rfl);(decide);(exact aV2 _ _ _ _ _ _ _ _);rintro e w' ⟨rfl,rfl⟩))
 all_goals go_wp2
 all_goals go_ret
 all_goals exact⟨rfl,aTC _ _ _ _⟩
end Go.Proofs.YthepfneloomngaaGreatDoor
