/- Part. Conditions: none. -/
import Derived.Test.YtgdjbbnicgfohabGreatDoorChecked
import Derived.WalkKit
import Derived.Laws.Cover1
import Derived.Deep.RegionHeld3
import Derived.Sort.Grow
import Derived.Deep.Draws
import Derived.Test.YtgdjbbnicgfohabGreatDoorMk
namespace Go.Proofs.YtgdjbbnicgfohabGreatDoor
set_option linter.unusedSimpArgs false
set_option linter.unusedVariables false
open Go.RowKit Go.Sort
theorem Yf(a b:Int)(w:World):Calls Tryz.prog 216 #[.int .i64 a,.int .i64 b] w fun e w'=>e=.returned (.int .i64 (Fe a b))/\w'=w:=by
 unfold Fe
 go_enter Tryz.func216,Tryz.ntmps216
 go_wp2
 all_goals (go_ret;exact⟨rfl,rfl⟩)
theorem aQN{a b:List UInt8}(d:Op.bytesLess a b=false)(e:(!a==b)=true):H3 a b=1:=by
 have c:a≠b:=by simpa using e
 rcases Kh a b c with q|q;rw[d] at q;cases q;unfold H3;rw[if_neg (by rw[d];simp),if_pos q]
theorem aQO{a b:List UInt8}(e:Op.bytesLess a b=false)(c:(!a==b)=false):H3 a b=0:=by
 have d:a=b:=by simpa using c
 subst d;unfold H3;rw[P7];rfl
theorem Yg(a b:ByteArray)(w:World):Calls Tryz.prog 217 #[.string a,.string b] w fun e w'=>e=.returned (.int .i64 (H3 a.toList b.toList))/\w'=w:=by
 have c:Op.bytesLess a.toList b.toList=true->H3 a.toList b.toList=-1:=fun h=>by unfold H3;rw[if_pos h]
 have d:Op.bytesLess a.toList b.toList=false->(!a.toList==b.toList)=true->H3 a.toList b.toList=1:=aQN;have f:Op.bytesLess a.toList b.toList=false->(!a.toList==b.toList)=false->H3 a.toList b.toList=0:=aQO;generalize H3 a.toList b.toList=r at *
 go_enter Tryz.func217,Tryz.ntmps217
 go_wp2
 go_ret
 exact⟨by rw[c (by assumption)];rfl,rfl⟩
 go_ret
 exact⟨by rw[d (by assumption) (by assumption)];rfl,rfl⟩
 go_ret
 exact⟨by rw[f (by assumption) (by assumption)];rfl,rfl⟩
def P8:List Int->Int
 |[]=>0
 |e::l=>if e=0 then P8 l else e
theorem Kk:∀(l:List Int)(k:Nat),k<=l.length->(∀j,j<k->l.getD j 0=0)->P8 l=P8 (l.drop k)
 |l,0,_,_=>rfl
 |[],k+1,h,_=>by simp at h
 | e::l,k+1,h,a=>by
  have b:e=0:=a 0 (by omega);rw[P8,if_pos b,List.drop_succ_cons];exact Kk l k (by simpa using h) (fun j c=>a (j+1) (by omega))
theorem aQP{l:List Int}{k:Nat}(h:k<l.length)(b:∀j,j<k->l.getD j 0=0)(a:l.getD k 0≠0):P8 l=l.getD k 0:=by
 rw[Kk l k (by omega) b];have e:l.drop k=l.getD k 0::l.drop (k+1):=by
  rw[List.drop_eq_getElem_cons h];simp[List.getD,h]
 rw[e,P8,if_neg a]
theorem aG8{l:List Int}(a:∀j,j<l.length->l.getD j 0=0):P8 l=0:=by
 rw[Kk l l.length (Nat.le_refl _) a];simp[P8]
theorem aG9(b off len cap:Nat)(zs:List Int)(w:World)(p:len=zs.length)(g:len<=9223372036854775807)(m:∀j,j<zs.length->w.cell? ⟨b,off+j,none⟩=some (.int .i64 (zs.getD j 0))):Calls Tryz.prog 215 #[.slice (some ⟨b,off,none⟩) len cap] w fun e w'=>e=.returned (.int .i64 (P8 zs))/\w'=w:=by
 go_enter Tryz.func215,Tryz.ntmps215
 go_wp2
 go_loop [8] (fun i=>∃k:Nat,k<=len/\i=.int .i64 k/\∀j,j<k->zs.getD j 0=0) (fun i=>len-(intOf i).toNat)
 case atStart=>exact⟨0,Nat.zero_le _,rfl,fun j l=>by omega⟩
 case round=>
  obtain⟨k,o,rfl,f⟩:=hrel;have d:k<len->w.cell? ⟨b,off+k,none⟩=some (.int .i64 (zs.getD k 0)):=fun h=>m k (by omega)
  go_wp2
  have a:k<zs.length:=by assumption
  have c:(zs[k] != 0)=true:=by assumption
  have e:zs.getD k 0=zs[k]:=by simp[List.getD,a]
  have:=aQP a f (by rw[e];simpa using c);rw[this]
  go_ret
  exact⟨by simp[List.getD,a],rfl⟩
  ·go_round
   case rel=>
    have a:k<zs.length:=by assumption
    have c:(zs[k] != 0)=false:=by assumption
    have e:zs.getD k 0=zs[k]:=by simp[List.getD,a]
    refine⟨k+1,by omega,by go_num,fun j l=>?_⟩
    by_cases h:j=k;subst h;rw[e];simpa using c;exact f j (by omega)
   case measure=>simp[intOf];omega
  have n:¬ k<zs.length:=by assumption
  rw[aG8 (fun j l=>f j (by omega))]
  go_ret
  exact⟨rfl,rfl⟩
theorem aX6(W:World)(a b:Obj)(c d f g:Int)(T:TypeId)(j:Nat)(h:j<([c,d,f,g]:List Int).length):(((W.alloc a).alloc b).alloc (.cells #[.int .i64 c,.int .i64 d,.int .i64 f,.int .i64 g] T)).drew.cell? ⟨W.heap.size+1+1,0+j,none⟩=some (.int .i64 (([c,d,f,g]:List Int).getD j 0)):=by
 have e:W.heap.size+1+1=((W.alloc a).alloc b).heap.size:=by
  show _=((W.heap.push a).push b).size;rw[Array.size_push,Array.size_push]
 show (((W.alloc a).alloc b).alloc (.cells #[.int .i64 c,.int .i64 d,.int .i64 f,.int .i64 g] T)).cell? ⟨W.heap.size+1+1,0+j,none⟩=_;rw[e,World.cell?_alloc_new,Nat.zero_add]
 match j,h with
 |0,_=>rfl
 |1,_=>rfl
 |2,_=>rfl
 |3,_=>rfl
theorem aVu(W:World)(a b c:Obj):∃q os',(((W.alloc a).alloc b).alloc c).drew=grow (W.drewN q) os':=⟨1,#[a,b,c],by
 simp only[alloc_eq_grow,grow_grow];rfl⟩
theorem L7(t1 a c h b d:Int)(f g:ByteArray)(k l m n o p i r s t u v w j:Value)(W:World):
  Calls Tryz.prog 162 #[.agg #[.int .i64 t1,.string f,.int .i64 a,k,l,m,.int .i64 c,n,o,p,i],.agg #[.int .i64 h,.string g,.int .i64 b,r,s,t,.int .i64 d,u,v,w,j]] W fun e w'=>
   e=.returned (.int .i64 (P8 [Fe t1 h,H3 f.toList g.toList,Fe c d,Fe a b]))/\∃q os',w'=grow (W.drewN q) os':=by
 go_enter Tryz.func162,Tryz.ntmps162
 go_wp2
 go_region_held3 (fun w'=>w'.cell? ⟨W.heap.size,0,none⟩=some (.int .i64 t1)/\w'.cell? ⟨W.heap.size,1,none⟩=some (.string f)/\w'.cell? ⟨W.heap.size,2,none⟩=some (.int .i64 a)/\w'.cell? ⟨W.heap.size,6,none⟩=some (.int .i64 c)/\
   w'.cell? ⟨W.heap.size+1,0,none⟩=some (.int .i64 h)/\w'.cell? ⟨W.heap.size+1,1,none⟩=some (.string g)/\w'.cell? ⟨W.heap.size+1,2,none⟩=some (.int .i64 b)/\w'.cell? ⟨W.heap.size+1,6,none⟩=some (.int .i64 d)) (go_keep)
  (first
   | (go_at_call 216;refine (Yf _ _ _).mono ?_;rintro e w' ⟨rfl,rfl⟩)
   | (go_at_call 217;refine (Yg _ _ _).mono ?_;rintro e w' ⟨rfl,rfl⟩)
   | (go_at_call 215;refine (aG9 _ _ _ _ [Fe t1 h,H3 f.toList g.toList,Fe c d,Fe a b] _ ?_ ?_ ?_).mono ?_;(rfl);(decide);(exact aX6 _ _ _ _ _ _ _ _);rintro e w' ⟨rfl,rfl⟩))
 all_goals go_wp2
 all_goals go_ret
 all_goals exact⟨rfl,aVu _ _ _ _⟩
