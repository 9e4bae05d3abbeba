/- Part. Conditions: none. -/
import Derived.Test.YtalhnjjchkmfeaaGreatDoorChecked
import Derived.WalkKit
import Derived.Laws.Cover1
import Derived.Deep.RegionHeld3
import Derived.Sort.Grow
import Derived.Deep.Draws
import Derived.Test.YtalhnjjchkmfeaaGreatDoorMk
namespace Go.Proofs.YtalhnjjchkmfeaaGreatDoor
set_option linter.unusedSimpArgs false
set_option linter.unusedVariables false
open Go.RowKit Go.Sort
theorem Ye(a b:Int)(w:World):Calls Tryz.prog 223 #[.int .i64 a,.int .i64 b] w fun e w'=>e=.returned (.int .i64 (Fl a b))/\w'=w:=by
 unfold Fl
 go_enter Tryz.func223,Tryz.ntmps223
 go_wp2
 all_goals (go_ret;exact⟨rfl,rfl⟩)
theorem aQM{a b:List UInt8}(d:Op.bytesLess a b=false)(e:(!a==b)=true):H5 a b=1:=by
 have c:a≠b:=by simpa using e
 rcases Kg a b c with q|q;rw[d] at q;cases q;unfold H5;rw[if_neg (by rw[d];simp),if_pos q]
theorem aQN{a b:List UInt8}(e:Op.bytesLess a b=false)(c:(!a==b)=false):H5 a b=0:=by
 have d:a=b:=by simpa using c
 subst d;unfold H5;rw[Qa];rfl
theorem Yf(a b:ByteArray)(w:World):Calls Tryz.prog 224 #[.string a,.string b] w fun e w'=>e=.returned (.int .i64 (H5 a.toList b.toList))/\w'=w:=by
 have c:Op.bytesLess a.toList b.toList=true->H5 a.toList b.toList=-1:=fun h=>by unfold H5;rw[if_pos h]
 have d:Op.bytesLess a.toList b.toList=false->(!a.toList==b.toList)=true->H5 a.toList b.toList=1:=aQM;have f:Op.bytesLess a.toList b.toList=false->(!a.toList==b.toList)=false->H5 a.toList b.toList=0:=aQN;generalize H5 a.toList b.toList=r at *
 go_enter Tryz.func224,Tryz.ntmps224
 go_wp2
 go_ret
 exact⟨by rw[c (by assumption)];rfl,rfl⟩
 go_ret
 exact⟨by rw[d (by assumption) (by assumption)];rfl,rfl⟩
 go_ret
 exact⟨by rw[f (by assumption) (by assumption)];rfl,rfl⟩
def Qb:List Int->Int
 |[]=>0
 |e::l=>if e=0 then Qb l else e
theorem Kj:∀(l:List Int)(k:Nat),k<=l.length->(∀j,j<k->l.getD j 0=0)->Qb l=Qb (l.drop k)
 |l,0,_,_=>rfl
 |[],k+1,h,_=>by simp at h
 | e::l,k+1,h,a=>by
  have b:e=0:=a 0 (by omega);rw[Qb,if_pos b,List.drop_succ_cons];exact Kj l k (by simpa using h) (fun j c=>a (j+1) (by omega))
theorem aQO{l:List Int}{k:Nat}(h:k<l.length)(b:∀j,j<k->l.getD j 0=0)(a:l.getD k 0≠0):Qb l=l.getD k 0:=by
 rw[Kj l k (by omega) b];have e:l.drop k=l.getD k 0::l.drop (k+1):=by
  rw[List.drop_eq_getElem_cons h];simp[List.getD,h]
 rw[e,Qb,if_neg a]
theorem aHe{l:List Int}(a:∀j,j<l.length->l.getD j 0=0):Qb l=0:=by
 rw[Kj l l.length (Nat.le_refl _) a];simp[Qb]
theorem aHf(b off len cap:Nat)(zs:List Int)(w:World)(p:len=zs.length)(g:len<=9223372036854775807)(m:∀j,j<zs.length->w.cell? ⟨b,off+j,none⟩=some (.int .i64 (zs.getD j 0))):Calls Tryz.prog 222 #[.slice (some ⟨b,off,none⟩) len cap] w fun e w'=>e=.returned (.int .i64 (Qb zs))/\w'=w:=by
 go_enter Tryz.func222,Tryz.ntmps222
 go_wp2
 go_loop [8] (fun i=>∃k:Nat,k<=len/\i=.int .i64 k/\∀j,j<k->zs.getD j 0=0) (fun i=>len-(intOf i).toNat)
 case atStart=>exact⟨0,Nat.zero_le _,rfl,fun j l=>by omega⟩
 case round=>
  obtain⟨k,o,rfl,f⟩:=hrel;have d:k<len->w.cell? ⟨b,off+k,none⟩=some (.int .i64 (zs.getD k 0)):=fun h=>m k (by omega)
  go_wp2
  have a:k<zs.length:=by assumption
  have c:(zs[k] != 0)=true:=by assumption
  have e:zs.getD k 0=zs[k]:=by simp[List.getD,a]
  have:=aQO a f (by rw[e];simpa using c);rw[this]
  go_ret
  exact⟨by simp[List.getD,a],rfl⟩
  ·go_round
   case rel=>
    have a:k<zs.length:=by assumption
    have c:(zs[k] != 0)=false:=by assumption
    have e:zs.getD k 0=zs[k]:=by simp[List.getD,a]
    refine⟨k+1,by omega,by go_num,fun j l=>?_⟩
    by_cases h:j=k;subst h;rw[e];simpa using c;exact f j (by omega)
   case measure=>simp[intOf];omega
  have n:¬ k<zs.length:=by assumption
  rw[aHe (fun j l=>f j (by omega))]
  go_ret
  exact⟨rfl,rfl⟩
theorem aX6(W:World)(a b:Obj)(c d f g:Int)(T:TypeId)(j:Nat)(h:j<([c,d,f,g]:List Int).length):(((W.alloc a).alloc b).alloc (.cells #[.int .i64 c,.int .i64 d,.int .i64 f,.int .i64 g] T)).drew.cell? ⟨W.heap.size+1+1,0+j,none⟩=some (.int .i64 (([c,d,f,g]:List Int).getD j 0)):=by
 have e:W.heap.size+1+1=((W.alloc a).alloc b).heap.size:=by
  show _=((W.heap.push a).push b).size;rw[Array.size_push,Array.size_push]
 show (((W.alloc a).alloc b).alloc (.cells #[.int .i64 c,.int .i64 d,.int .i64 f,.int .i64 g] T)).cell? ⟨W.heap.size+1+1,0+j,none⟩=_;rw[e,World.cell?_alloc_new,Nat.zero_add]
 match j,h with
 |0,_=>rfl
 |1,_=>rfl
 |2,_=>rfl
 |3,_=>rfl
theorem aVq(W:World)(a b c:Obj):∃q os',(((W.alloc a).alloc b).alloc c).drew=grow (W.drewN q) os':=⟨1,#[a,b,c],by
 simp only[alloc_eq_grow,grow_grow];rfl⟩
theorem L8(t1 a c h b d:Int)(f g:ByteArray)(k l m n o p i r s t u v w j:Value)(W:World):
  Calls Tryz.prog 175 #[.agg #[.int .i64 t1,.string f,.int .i64 a,k,l,m,.int .i64 c,n,o,p,i],.agg #[.int .i64 h,.string g,.int .i64 b,r,s,t,.int .i64 d,u,v,w,j]] W fun e w'=>
   e=.returned (.int .i64 (Qb [Fl t1 h,H5 f.toList g.toList,Fl c d,Fl a b]))/\∃q os',w'=grow (W.drewN q) os':=by
 go_enter Tryz.func175,Tryz.ntmps175
 go_wp2
 go_region_held3 (fun w'=>w'.cell? ⟨W.heap.size,0,none⟩=some (.int .i64 t1)/\w'.cell? ⟨W.heap.size,1,none⟩=some (.string f)/\w'.cell? ⟨W.heap.size,2,none⟩=some (.int .i64 a)/\w'.cell? ⟨W.heap.size,6,none⟩=some (.int .i64 c)/\
   w'.cell? ⟨W.heap.size+1,0,none⟩=some (.int .i64 h)/\w'.cell? ⟨W.heap.size+1,1,none⟩=some (.string g)/\w'.cell? ⟨W.heap.size+1,2,none⟩=some (.int .i64 b)/\w'.cell? ⟨W.heap.size+1,6,none⟩=some (.int .i64 d)) (go_keep)
  (first
   | (go_at_call 223;refine (Ye _ _ _).mono ?_;rintro e w' ⟨rfl,rfl⟩)
   | (go_at_call 224;refine (Yf _ _ _).mono ?_;rintro e w' ⟨rfl,rfl⟩)
   | (go_at_call 222;refine (aHf _ _ _ _ [Fl t1 h,H5 f.toList g.toList,Fl c d,Fl a b] _ ?_ ?_ ?_).mono ?_;(rfl);(decide);(exact aX6 _ _ _ _ _ _ _ _);rintro e w' ⟨rfl,rfl⟩))
 all_goals go_wp2
 all_goals go_ret
 all_goals exact⟨rfl,aVq _ _ _ _⟩
