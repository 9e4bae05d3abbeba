/- The bytes of an attribute, by the reference, and its error. Conditions: none. -/
import Derived.Test.YtcplecjhmnblpaaGreatDoorUb
namespace Go.Proofs.YtcplecjhmnblpaaGreatDoor
set_option linter.unusedSimpArgs false
set_option linter.unusedVariables false
set_option maxRecDepth 4000
section
variable {G:Glob} {bb:Bool}
def yC (b:Int):Cel:=rawC (.int .u8 b)
abbrev yb (l:List Int):AObj:=.box (l.map yC)
theorem kill_yb (p:Nat→Bool) (l:List Int):(l.map yC).map (killC p)=l.map yC:=by rw [List.map_map];rfl
theorem ct_yb (m:Nat) (l:List Int):ctCs m (l.map yC)=l.map yC:=by rw [ctCs_eq,kill_yb]
theorem ids_yb (l:List Int):idsL (l.map yC)=[]:=by
 induction l with
 | nil=>rfl
 | cons b l ih=>rw [List.map_cons,idsL,ih];rfl
theorem kp_yb (J:List Nat) (l:List Int):kpCs J (l.map yC)=true:=by
 induction l with
 | nil=>rfl
 | cons b l ih=>rw [List.map_cons,kpCs,ih];rfl
theorem rn_yb (ρ:Nat→Nat) (l:List Int):(l.map yC).map (renC ρ)=l.map yC:=by
 induction l with
 | nil=>rfl
 | cons b l ih=>rw [List.map_cons,List.map_cons,ih];rfl
theorem keep_yb (p:Nat→Bool) (l:List Int):keepL p (l.map yC)=true:=by
 induction l with
 | nil=>rfl
 | cons b l ih=>rw [List.map_cons,keepL,ih];rfl
theorem put_yb (l:List Int) (k:Nat) (b:Int) (h:k < l.length):putAt (l.map yC) k [.dc (.raw (.int .u8 b))]=(l.set k b).map yC:=by
 unfold putAt
 apply List.ext_getElem?
 intro i
 simp only [List.map_set]
 by_cases h1:i < k
 ·rw [List.append_assoc,List.getElem?_append_left (by simp;omega),List.getElem?_take_of_lt h1,List.getElem?_set_ne (by omega)]
 ·by_cases h2:i=k
  ·subst h2
   rw [List.append_assoc,List.getElem?_append_right (by simp;omega),List.getElem?_set_self (by simpa using h)]
   simp [Nat.min_eq_left (Nat.le_of_lt h)];rfl
  ·rw [List.getElem?_append_right (by simp;omega),List.getElem?_set_ne (by omega),List.getElem?_drop]
   congr 1
   simp;omega
attribute [go_sem] kill_yb ct_yb ids_yb kp_yb rn_yb keep_yb
theorem fvB2_b {d:Option Nat} {st:AS} {id:Nat} {cs:List Cel}:fvB2 d id st (some (.tup [],[.box cs]))=bif keepL (fun _=>true) cs then some (⟨putS st.sl d (.tup []),st.hp.set id (.box cs)⟩,[id],[id]) else none:=Eq.trans rfl rfl
attribute [go_sem] fvB2_b
def putK (l:List Int) (a:Nat) (n:Int):Nat→List Int
 | 0=>l
 | k+1=>(putK l a n k).set (a+k) (shK n k % 256)
theorem putK_len (l:List Int) (a:Nat) (n:Int) (k:Nat):(putK l a n k).length=l.length:=by
 induction k with
 | zero=>rfl
 | succ k ih=>simp [putK,ih]
theorem put_v (l:List Int) (a k:Nat) (n:Int) (h:a+k≤l.length) (hl:l.length≤1000000) (hn:-9223372036854775808≤n∧n≤9223372036854775807):
  EV G (Tb (bs bb)) 179 [.one (.bls 0 0 l.length 1),vi a,vi k,vi n] [yb l]=some (.tup [],[yb (putK l a n k)]):=by
 refine EV_run rfl ?_
 simp (disch:=omega) only [go_sem,h179c]
 rw [EL_loop (fun j=>⟨(.one (.bls 0 0 l.length 1)::vi a::jk 1 (vi (shK n j)::jk 5 (vi k::vi j::jk 12 []))),[yb (putK l a n j)]⟩) k ?_ ?_]
 ·simp (disch:=omega) only [go_sem,h179l0]
 ·rfl
 ·intro j hj
  have h1:=putK_len l a n j
  have h2:=shK_in n hn j
  have h3:=put_yb (putK l a n j) (a+j) (shK n j % 256) (by omega)
  simp (disch:=omega) only [go_sem,h179l0,List.length_map,h1,wu8,Int.reduceToNat,Int.reducePow,fdiv256,shK,putK,h3]
theorem put_n (l:List Int) (a k:Nat) (n:Int) (N:Nat) (hN:l.length=N) (h:a+k≤N) (hl:N≤1000000) (hn:-9223372036854775808≤n∧n≤9223372036854775807):
  EV G (Tb (bs bb)) 179 [.one (.bls 0 0 N 1),vi a,vi k,vi n] [yb l]=some (.tup [],[yb (putK l a n k)]):=by
 subst hN
 exact put_v l a k n h hl hn
theorem put_0 (l:List Int) (n:Int) (N:Nat) (hN:l.length=N) (h:4≤N) (hl:N≤1000000) (hn:-9223372036854775808≤n∧n≤9223372036854775807):EV G (Tb (bs bb)) 179 [.one (.bls 0 0 N 1),vi 0,vi 4,vi n] [yb l]=some (.tup [],[yb (putK l 0 n 4)]):=put_n l 0 4 n N hN h hl hn
theorem put_4 (l:List Int) (a:Int) (n:Int) (N:Nat) (hN:l.length=N) (ha:0≤a) (h:a+4≤N) (hl:N≤1000000) (hn:-9223372036854775808≤n∧n≤9223372036854775807):EV G (Tb (bs bb)) 179 [.one (.bls 0 0 N 1),vi a,vi 4,vi n] [yb l]=some (.tup [],[yb (putK l a.toNat n 4)]):=by
 have:=put_n (G:=G) (bb:=bb) l a.toNat 4 n N hN (by omega) hl hn
 rwa [Int.toNat_of_nonneg ha] at this
theorem put_2 (l:List Int) (a:Int) (n:Int) (N:Nat) (hN:l.length=N) (ha:0≤a) (h:a+2≤N) (hl:N≤1000000) (hn:-9223372036854775808≤n∧n≤9223372036854775807):EV G (Tb (bs bb)) 179 [.one (.bls 0 0 N 1),vi a,vi 2,vi n] [yb l]=some (.tup [],[yb (putK l a.toNat n 2)]):=by
 have:=put_n (G:=G) (bb:=bb) l a.toNat 2 n N hN (by omega) hl hn
 rwa [Int.toNat_of_nonneg ha] at this
theorem put_1 (l:List Int) (a:Int) (n:Int) (N:Nat) (hN:l.length=N) (ha:0≤a) (h:a+1≤N) (hl:N≤1000000) (hn:-9223372036854775808≤n∧n≤9223372036854775807):EV G (Tb (bs bb)) 179 [.one (.bls 0 0 N 1),vi a,vi 1,vi n] [yb l]=some (.tup [],[yb (putK l a.toNat n 1)]):=by
 have:=put_n (G:=G) (bb:=bb) l a.toNat 1 n N hN (by omega) hl hn
 rwa [Int.toNat_of_nonneg ha] at this
def cpL (b:List Int) (k:Nat) (s:List Int):List Int:=b.take k++s++b.drop (k+s.length)
theorem cpL_len {b:List Int} {k:Nat} {s:List Int} (h:k+s.length≤b.length):(cpL b k s).length=b.length:=by simp [cpL];omega
theorem bytesCel_u8 (s:List Int) (hB:Byts s):bytesCel (s.map u8)=s.map yC:=by
 unfold bytesCel
 rw [List.map_map]
 exact List.map_congr_left (fun b hb=>by simp only [Function.comp_apply,yC,u8_nat b (hB b hb)])
theorem cpy_yb (b s:List Int) (k n:Nat) (hB:Byts s) (h:s.length≤n):putAt (b.map yC) k (bytesCel ((s.map u8).take n))=(cpL b k s).map yC:=by
 rw [List.take_of_length_le (by simpa using h),bytesCel_u8 s hB]
 simp [putAt,cpL,List.map_append,List.map_take,List.map_drop]
def zl (n:Nat):List Int:=List.replicate n 0
theorem zl_len (n:Nat):(zl n).length=n:=List.length_replicate
theorem rep_yb (n:Nat):List.replicate n (Cel.dc (.raw (.int .u8 0)))=(zl n).map yC:=by rw [zl,List.map_replicate];rfl
theorem bytesC_yb (l:List Int):bytesC (l.map yC)=some (l.map u8):=by
 induction l with
 | nil=>rfl
 | cons b l ih=>simp only [List.map_cons,yC,rawC,bytesC,u8] at ih ⊢;rw [ih];rfl
theorem takeD_yb (l:List Int) (n:Nat) (h:l.length≤n):(l.map yC).take n=l.map yC:=List.take_of_length_le (by simpa using h)
def hdN (a:Att):Nat:=if a.res=true then 24 else 40
def bdy (a:Att):List Int:=if a.res=true then a.va else (encV a.rs).1
def atN (a:Att):Nat:=(hdN a+a.nm.length+7) / 8 * 8
def szN (a:Att):Nat:=(atN a+(bdy a).length+7) / 8 * 8
def put6 (a:Att):List Int:=putK (putK (putK (putK (putK (putK (zl (szN a)) 0 a.ty 4) 4 (szN a) 4) 9 a.nm.length 1) 10 (hdN a) 2) 12 a.fl 2) 14 a.id 2
def put7 (a:Att):List Int:=if a.res=true then putK (putK (put6 a) 16 (bdy a).length 4) 20 (atN a) 4
 else putK (putK (putK (putK (putK (putK (putK (put6 a) 8 1 1) 16 a.fi 4) 20 (a.fi+lenW a.rs - 1) 4) 24 (atN a) 2) 28 a.al 4) 32 a.sz 4) 36 a.vd 4
def encB (a:Att):List Int:=cpL (cpL (put7 a) (hdN a) a.nm) (atN a) (bdy a)
structure Att.Bd (a:Att):Prop where
 nm:Byts a.nm
 va:Byts a.va
 nl:a.nm.length≤1000
 vl:a.va.length≤1000
 rl:a.rs.length≤1000
 ty:-1000000000000≤a.ty∧a.ty≤1000000000000
 id:-1000000000000≤a.id∧a.id≤1000000000000
 fl:-1000000000000≤a.fl∧a.fl≤1000000000000
 fi:-1000000000000≤a.fi∧a.fi≤1000000000000
 al:-1000000000000≤a.al∧a.al≤1000000000000
 sz:-1000000000000≤a.sz∧a.sz≤1000000000000
 vd:-1000000000000≤a.vd∧a.vd≤1000000000000
 lw:-1000000000000≤lenW a.rs∧lenW a.rs≤1000000000000
theorem encV_byts (l:List Run):Byts (encV l).1∧(encV l).1.length≤5 * 64+1:=by
 unfold encV
 by_cases c:errsE [l]=0
 ·have hc:(chk l).2=0:=by rw [errs1] at c;exact c
  have hr:=runs_in hc
  have hlen:=chk_len hc
  obtain ⟨g1,g2,g3⟩:=encK_ok l (fun r hr'=>(hr r hr').1) l.length (Nat.le_refl _)
  rw [encK_all] at g1 g3
  rw [if_neg (by simpa using c)]
  refine ⟨fun b hb=>?_,by simp;omega⟩
  rcases List.mem_append.1 hb with hb | hb
  ·exact g3 b hb
  ·have:=List.mem_singleton.1 hb;omega
 ·rw [if_pos c]
  exact ⟨byts_nil,by simp⟩
end
section
variable {G:Glob} {bb:Bool}
theorem bytesC_r (l:List Int) (n:Nat) (h:l.length≤n):bytesC ((l.map yC).take n)=some (l.map u8):=by rw [takeD_yb l n h,bytesC_yb]
theorem put6_len (a:Att):(put6 a).length=szN a:=by simp only [put6,putK_len,zl_len]
set_option maxHeartbeats 4000000 in
theorem encoded_t (a:Att) (h:a.Bd) (hr:a.res=true):EV G (Tb (bs bb)) 129 [a.v] []=some (sv (encB a),[]):=by
 refine EV_run rfl ?_
 obtain ⟨hnm,hva,hnl,hvl,hrl,hty,hid,hfl,hfi,hal,hsz,hvd,hlw⟩:=h
 have eh:hdN a=24:=by simp [hdN,hr]
 have eb:bdy a=a.va:=by simp [bdy,hr]
 have eA:al8 (24+(a.nm.length:Int))=((atN a:Nat):Int):=by simp only [al8,atN,eh];omega
 have eN:al8 (((atN a:Nat):Int)+(a.va.length:Int))=((szN a:Nat):Int):=by simp only [al8,szN,eb];omega
 have hA:24+a.nm.length≤atN a∧atN a≤2000:=by simp only [atN,eh];omega
 have hN:atN a+a.va.length≤szN a∧szN a≤4000:=by simp only [szN,eb];omega
 unfold encB put7
 rw [if_pos hr]
 have h6:=put6_len a
 unfold put6 at h6 ⊢
 rw [eh,eb] at *
 generalize atN a=A at *
 generalize szN a=N at *
 have hc1:=cpy_yb (putK (putK (putK (putK (putK (putK (putK (putK (zl N) 0 a.ty 4) 4 N 4) 9 a.nm.length 1) 10 24 2) 12 a.fl 2) 14 a.id 2) 16 a.va.length 4) 20 A 4) a.nm 24 (N - 24) hnm (by omega)
 have hc2:=cpy_yb (cpL (putK (putK (putK (putK (putK (putK (putK (putK (zl N) 0 a.ty 4) 4 N 4) 9 a.nm.length 1) 10 24 2) 12 a.fl 2) 14 a.id 2) 16 a.va.length 4) 20 A 4) 24 a.nm) a.va A (N - A) hva (by omega)
 have hl1:(cpL (putK (putK (putK (putK (putK (putK (putK (putK (zl N) 0 a.ty 4) 4 N 4) 9 a.nm.length 1) 10 24 2) 12 a.fl 2) 14 a.id 2) 16 a.va.length 4) 20 A 4) 24 a.nm).length=N:=by
  rw [cpL_len (by simp only [putK_len,zl_len];omega)];simp only [putK_len,zl_len]
 have hl2:=cpL_len (b:=cpL (putK (putK (putK (putK (putK (putK (putK (putK (zl N) 0 a.ty 4) 4 N 4) 9 a.nm.length 1) 10 24 2) 12 a.fl 2) 14 a.id 2) 16 a.va.length 4) 20 A 4) 24 a.nm) (k:=A) (s:=a.va) (by omega)
 rw [hl1] at hl2
 have e3:(A+(N - A)≤N)=True:=eq_true (by omega)
 simp (disch:=first | omega | (simp only [List.length_map,putK_len,zl_len]<;>omega)) only [go_sem,h129c,hr,head_v,aligned_v,eA,eN,rep_yb,List.length_map,put_0,put_1,put_2,put_4,Int.reduceToNat,Int.toNat_natCast,putK_len,zl_len,hc1,hc2,hl1,e3,if_true,bytesC_r,List.drop_zero,Option.toList_some,Option.toList_none,List.cons_append,List.nil_append]
set_option maxHeartbeats 4000000 in
theorem encoded_f (a:Att) (h:a.Bd) (hr:a.res=false):EV G (Tb (bs bb)) 129 [a.v] []=some (sv (encB a),[]):=by
 refine EV_run rfl ?_
 obtain ⟨hnm,hva,hnl,hvl,hrl,hty,hid,hfl,hfi,hal,hsz,hvd,hlw⟩:=h
 have hr':¬ a.res=true:=by rw [hr];decide
 have eh:hdN a=40:=by simp [hdN,hr]
 have eb:bdy a=(encV a.rs).1:=by simp [bdy,hr]
 obtain ⟨hby,hbl⟩:=encV_byts a.rs
 have q1:=encode_v (G:=G) (B:=bs bb) a.rs
 have q2:=clusters8_v (G:=G) (bb:=bb) a (by omega)
 simp only [Att.v,Att.c,hr] at q2
 have eA:al8 (40+(a.nm.length:Int))=((atN a:Nat):Int):=by simp only [al8,atN,eh];omega
 have eN:al8 (((atN a:Nat):Int)+((encV a.rs).1.length:Int))=((szN a:Nat):Int):=by simp only [al8,szN,eb];omega
 have hA:40+a.nm.length≤atN a∧atN a≤2000:=by simp only [atN,eh];omega
 have hN:atN a+(encV a.rs).1.length≤szN a∧szN a≤4000:=by simp only [szN,eb];omega
 unfold encB put7
 rw [if_neg hr']
 have h6:=put6_len a
 unfold put6 at h6 ⊢
 rw [eh,eb] at *
 generalize atN a=A at *
 generalize szN a=N at *
 generalize (encV a.rs).1=C at *
 have hc1:=cpy_yb (putK (putK (putK (putK (putK (putK (putK (putK (putK (putK (putK (putK (putK (zl N) 0 a.ty 4) 4 N 4) 9 a.nm.length 1) 10 40 2) 12 a.fl 2) 14 a.id 2) 8 1 1) 16 a.fi 4) 20 (a.fi+lenW a.rs - 1) 4) 24 A 2) 28 a.al 4) 32 a.sz 4) 36 a.vd 4) a.nm 40 (N - 40) hnm (by omega)
 have hl1:(cpL (putK (putK (putK (putK (putK (putK (putK (putK (putK (putK (putK (putK (putK (zl N) 0 a.ty 4) 4 N 4) 9 a.nm.length 1) 10 40 2) 12 a.fl 2) 14 a.id 2) 8 1 1) 16 a.fi 4) 20 (a.fi+lenW a.rs - 1) 4) 24 A 2) 28 a.al 4) 32 a.sz 4) 36 a.vd 4) 40 a.nm).length=N:=by
  rw [cpL_len (by simp only [putK_len,zl_len];omega)];simp only [putK_len,zl_len]
 have hc2:=cpy_yb (cpL (putK (putK (putK (putK (putK (putK (putK (putK (putK (putK (putK (putK (putK (zl N) 0 a.ty 4) 4 N 4) 9 a.nm.length 1) 10 40 2) 12 a.fl 2) 14 a.id 2) 8 1 1) 16 a.fi 4) 20 (a.fi+lenW a.rs - 1) 4) 24 A 2) 28 a.al 4) 32 a.sz 4) 36 a.vd 4) 40 a.nm) C A (N - A) hby (by omega)
 have hl2:=cpL_len (b:=cpL (putK (putK (putK (putK (putK (putK (putK (putK (putK (putK (putK (putK (putK (zl N) 0 a.ty 4) 4 N 4) 9 a.nm.length 1) 10 40 2) 12 a.fl 2) 14 a.id 2) 8 1 1) 16 a.fi 4) 20 (a.fi+lenW a.rs - 1) 4) 24 A 2) 28 a.al 4) 32 a.sz 4) 36 a.vd 4) 40 a.nm) (k:=A) (s:=C) (by omega)
 rw [hl1] at hl2
 have e3:(A+(N - A)≤N)=True:=eq_true (by omega)
 simp (disch:=first | omega | (simp only [List.length_map,putK_len,zl_len]<;>omega)) only [go_sem,h129c,hr,head_v,aligned_v,eA,eN,q1,q2,rep_yb,List.length_map,put_0,put_1,put_2,put_4,Int.reduceToNat,Int.toNat_natCast,putK_len,zl_len,hc1,hc2,hl1,e3,if_true,bytesC_r,List.drop_zero,Option.toList_some,Option.toList_none,List.cons_append,List.nil_append]
theorem encoded_v (a:Att) (h:a.Bd):EV G (Tb (bs bb)) 129 [a.v] []=some (sv (encB a),[]):=by
 cases hr:a.res with
 | true=>exact encoded_t a h hr
 | false=>exact encoded_f a h hr
theorem encB_len (a:Att) (h:a.Bd):(encB a).length=szN a:=by
 have hbl:(bdy a).length≤1000:=by
  unfold bdy
  split
  ·exact h.vl
  ·have:=(encV_byts a.rs).2;omega
 have h7:(put7 a).length=szN a:=by
  unfold put7
  split<;>simp only [putK_len,put6_len]
 have hA:hdN a+a.nm.length≤atN a:=by unfold atN;omega
 have hN:atN a+(bdy a).length≤szN a:=by unfold szN;omega
 have h8:(cpL (put7 a) (hdN a) a.nm).length=szN a:=by rw [cpL_len (by omega),h7]
 rw [encB,cpL_len (by omega),h8]
end
section
variable {G:Glob} {bb:Bool}
def rsdE (a:Att):Int:=if a.rs=[]∧a.fi=0∧a.al=0∧a.sz=0∧a.vd=0 then (if a.va.length > 400 then 8 else 0) else 3
def othE (a:Att):Int:=
 if a.ty∈rtys then 20 else if a.va≠[] then 3 else if ¬(0≤a.fi∧a.fi≤4096) then 2 else if (chk a.rs).2≠0 then (chk a.rs).2
 else if a.fi > 0∧a.rs=[] then 17 else if a.fi+lenW a.rs > 4096 then 8 else if a.fi > 0∧(a.al≠0∨a.sz≠0∨a.vd≠0) then 3
 else if ¬((0≤a.al∧a.al≤1048576)∧(0≤a.sz∧a.sz≤1048576)∧(0≤a.vd∧a.vd≤1048576)) then 2 else if a.vd > a.sz then 9 else 0
def sthE (a:Att):Int:=if a.res=true then rsdE a else othE a
def errA (a:Att):Int:=
 if a.ty∉tys then 15 else if nmB a.nm=false then 4 else if ¬((0≤a.id∧a.id≤65535)∧(0≤a.fl∧a.fl≤7)) then 2
 else if sthE a≠0 then sthE a else if szN a > 440 then 16 else 0
structure Att.W (a:Att):Prop where
 nm:Byts a.nm
 va:Byts a.va
 nl:a.nm.length≤100000
 vl:a.va.length≤100000
 rl:a.rs.length≤100000
theorem rs0 (l:List Run):((l.length:Int)=0)=(l=[]):=by
 apply propext
 rw [← List.length_eq_zero_iff];omega
theorem rsdErr_v (a:Att):EV G (Tb (bs bb)) 127 [a.v] []=some (vi (rsdE a),[]):=by
 refine EV_run rfl ?_
 unfold rsdE
 have e4:((a.va.length:Int)≤400)=(a.va.length≤400):=by apply propext;omega
 by_cases c1:a.rs=[]
 ·by_cases c2:a.fi=0
  ·by_cases c3:a.al=0
   ·by_cases c4:a.sz=0
    ·by_cases c5:a.vd=0
     ·rw [if_pos ⟨c1,c2,c3,c4,c5⟩]
      by_cases c6:a.va.length≤400
      ·rw [if_neg (by omega)]
       simp (disch:=omega) only [go_sem,h127c,List.length_map,rs0,eq_true c1,c2,c3,c4,c5,unless8_v,first8_2,eq_true c6]
       rfl
      ·rw [if_pos (by omega)]
       simp (disch:=omega) only [go_sem,h127c,List.length_map,rs0,eq_true c1,c2,c3,c4,c5,unless8_v,first8_2,e4,c6]
       rfl
     ·rw [if_neg (fun h=>c5 h.2.2.2.2)]
      simp (disch:=omega) only [go_sem,h127c,List.length_map,rs0,eq_true c1,c2,c3,c4,c5,unless8_v,first8_2]
      simp [firstE]
    ·rw [if_neg (fun h=>c4 h.2.2.2.1)]
     simp (disch:=omega) only [go_sem,h127c,List.length_map,rs0,eq_true c1,c2,c3,c4,unless8_v,first8_2]
     simp [firstE]
   ·rw [if_neg (fun h=>c3 h.2.2.1)]
    simp (disch:=omega) only [go_sem,h127c,List.length_map,rs0,eq_true c1,c2,c3,unless8_v,first8_2]
    simp [firstE]
  ·rw [if_neg (fun h=>c2 h.2.1)]
   simp (disch:=omega) only [go_sem,h127c,List.length_map,rs0,eq_true c1,c2,unless8_v,first8_2]
   simp [firstE]
 ·rw [if_neg (fun h=>c1 h.1)]
  simp (disch:=omega) only [go_sem,h127c,List.length_map,rs0,c1,unless8_v,first8_2]
  simp [firstE]
theorem firstE_0 (l:List Int):firstE (0::l)=firstE l:=rfl
theorem firstE_n (e:Int) (l:List Int) (h:e≠0):firstE (e::l)=e:=by rw [firstE,if_neg h]
theorem firstE_nil:firstE []=0:=rfl
def un (b:Bool) (e:Int):Int:=if b=true then 0 else e
theorem un_t (e:Int):un true e=0:=rfl
theorem un_f (e:Int):un false e=e:=rfl
theorem unless8_u (b:Bool) (e:Int):EV G (Tb (bs bb)) 118 [vb b,vi e] []=some (vi (un b e),[]):=unless8_v b e
theorem len0 (l:List Run):(0 < (l.length:Int))=(l≠[]):=by
 apply propext
 have:=@List.length_eq_zero_iff _ l
 constructor
 ·intro h e;rw [this.2 e] at h;omega
 ·intro h;have:l.length≠0:=fun e=>h (this.1 e);omega
def oth2 (a:Att):Int:=firstE [un (!decide (a.fi > 0)||decide (a.rs≠[])) 17,un (decide (a.fi+lenW a.rs≤4096)) 8,un (!decide (a.fi > 0)||!(decide (a.al≠0)||(decide (a.sz≠0)||decide (a.vd≠0)))) 3,
 un (decide (0≤a.al∧a.al≤1048576)&&(decide (0≤a.sz∧a.sz≤1048576)&&decide (0≤a.vd∧a.vd≤1048576))) 2,un (decide (a.vd≤a.sz)) 9]
theorem un_ite {b:Bool} {p:Prop} [Decidable p] {e:Int} (h:p↔¬ b=true):un b e=if p then e else 0:=by
 unfold un
 by_cases hb:b=true
 ·rw [if_pos hb,if_neg (fun hp=>h.1 hp hb)]
 ·rw [if_neg hb,if_pos (h.2 hb)]
theorem firstE_if {p:Prop} [Decidable p] {e:Int} {l:List Int} (he:e≠0):firstE ((if p then e else 0)::l)=if p then e else firstE l:=by
 by_cases h:p
 ·rw [if_pos h,if_pos h,firstE_n e l he]
 ·rw [if_neg h,if_neg h,firstE_0]
theorem oth2_eq (a:Att):oth2 a=if a.fi > 0∧a.rs=[] then 17 else if a.fi+lenW a.rs > 4096 then 8 else if a.fi > 0∧(a.al≠0∨a.sz≠0∨a.vd≠0) then 3
 else if ¬((0≤a.al∧a.al≤1048576)∧(0≤a.sz∧a.sz≤1048576)∧(0≤a.vd∧a.vd≤1048576)) then 2 else if a.vd > a.sz then 9 else 0:=by
 unfold oth2
 rw [un_ite (p:=a.fi > 0∧a.rs=[]) (by simp),un_ite (p:=a.fi+lenW a.rs > 4096) (by simp),un_ite (p:=a.fi > 0∧(a.al≠0∨a.sz≠0∨a.vd≠0)) (by simp only [Bool.or_eq_true,Bool.not_eq_true',Bool.or_eq_false_iff,decide_eq_true_eq,decide_eq_false_iff_not];omega),
  un_ite (p:=¬((0≤a.al∧a.al≤1048576)∧(0≤a.sz∧a.sz≤1048576)∧(0≤a.vd∧a.vd≤1048576))) (by simp only [Bool.and_eq_true,decide_eq_true_eq]),un_ite (p:=a.vd > a.sz) (by simp)]
 rw [firstE_if (by decide),firstE_if (by decide),firstE_if (by decide),firstE_if (by decide),firstE_if (by decide),firstE_nil]
theorem othE_eq (a:Att):othE a=if a.ty∈rtys then 20 else if a.va≠[] then 3 else if ¬(0≤a.fi∧a.fi≤4096) then 2 else if (chk a.rs).2≠0 then (chk a.rs).2 else oth2 a:=by
 rw [oth2_eq];rfl
set_option maxHeartbeats 2000000 in
theorem othErr_v (a:Att) (hW:a.W) (ht:a.ty∈tys):EV G (Tb (bs bb)) 128 [a.v] []=some (vi (othE a),[]):=by
 refine EV_run rfl ?_
 rw [othE_eq]
 have em:=mpGet_ty a.ty
 rw [if_pos ht] at em
 have ev:=str_inj hW.va byts_nil
 have q1:=check_v (G:=G) (B:=bs bb) a.rs
 have q2:=clusters8_v (G:=G) (bb:=bb) a (by have:=hW.rl;omega)
 by_cases c1:a.ty∈rtys
 ·rw [if_pos c1]
  rw [decide_eq_true c1] at em
  simp (disch:=omega) only [go_sem,h128c,types_v,em,str_nil,ev,unless8_u,un_t,un_f,firstE_0,firstE_n,firstE_nil,within8_v,first8_3]
 ·rw [if_neg c1]
  rw [decide_eq_false c1] at em
  by_cases c2:a.va=[]
  ·rw [if_neg (by simpa using c2)]
   replace c2:=eq_true c2
   by_cases c3:0≤a.fi∧a.fi≤4096
   ·rw [if_neg (fun h=>h c3)]
    have c3':=eq_true c3
    by_cases c4:(chk a.rs).2=0
    ·rw [if_neg (fun h=>h c4)]
     have hF:=chk_fine c4
     have hl:=lenW_eq a.rs (fun r hr=>(hF.el r hr).2.2) (by have:=hF.sum;omega)
     have hl2:=lenR_nonneg a.rs (fun r hr=>(hF.el r hr).2.2)
     have hl3:=hF.sum
     rw [← hl] at hl2 hl3
     have fin:∀ L,L=[un (!decide (a.fi > 0)||decide (a.rs≠[])) 17,un (decide (a.fi+lenW a.rs≤4096)) 8,un (!decide (a.fi > 0)||!(decide (a.al≠0)||(decide (a.sz≠0)||decide (a.vd≠0)))) 3,
       un (decide (0≤a.al∧a.al≤1048576)&&(decide (0≤a.sz∧a.sz≤1048576)&&decide (0≤a.vd∧a.vd≤1048576))) 2,un (decide (a.vd≤a.sz)) 9]→firstE L=oth2 a:=fun L h=>by rw [h];rfl
     by_cases c5:a.fi > 0
     ·by_cases c6:a.al=0
      ·have c8:0≤a.al∧a.al≤1048576:=by omega
       by_cases c7:a.sz=0
       ·have c9:0≤a.sz∧a.sz≤1048576:=by omega
        simp (disch:=omega) only [go_sem,h128c,types_v,em,str_nil,ev,unless8_u,un_t,un_f,firstE_0,firstE_n,firstE_nil,within8_v,first8_3,c2,c3',q1,c4,eq_true c5,eq_true c6,eq_true c8,eq_true c7,eq_true c9,List.length_map,len0]
        simp (disch:=omega) only [go_sem,q2,unless8_u,first8_5,len0,un_t,un_f,eq_true c5,eq_true c6,eq_true c8,eq_true c7,eq_true c9]
        rw [fin _ (by simp [un,c5,c6,c8,c7,c9])]
       ·by_cases c9:0≤a.sz∧a.sz≤1048576
        ·simp (disch:=omega) only [go_sem,h128c,types_v,em,str_nil,ev,unless8_u,un_t,un_f,firstE_0,firstE_n,firstE_nil,within8_v,first8_3,c2,c3',q1,c4,eq_true c5,eq_true c6,eq_true c8,c7,eq_true c9,List.length_map,len0]
         simp (disch:=omega) only [go_sem,q2,unless8_u,first8_5,len0,un_t,un_f,eq_true c5,eq_true c6,eq_true c8,c7,eq_true c9]
         rw [fin _ (by simp [un,c5,c6,c8,c7,c9])]
        ·simp (disch:=omega) only [go_sem,h128c,types_v,em,str_nil,ev,unless8_u,un_t,un_f,firstE_0,firstE_n,firstE_nil,within8_v,first8_3,c2,c3',q1,c4,eq_true c5,eq_true c6,eq_true c8,c7,c9,List.length_map,len0]
         simp (disch:=omega) only [go_sem,q2,unless8_u,first8_5,len0,un_t,un_f,eq_true c5,eq_true c6,eq_true c8,c7,c9]
         rw [fin _ (by simp [un,c5,c6,c8,c7,c9])]
      ·by_cases c8:0≤a.al∧a.al≤1048576
       ·by_cases c9:0≤a.sz∧a.sz≤1048576
        ·simp (disch:=omega) only [go_sem,h128c,types_v,em,str_nil,ev,unless8_u,un_t,un_f,firstE_0,firstE_n,firstE_nil,within8_v,first8_3,c2,c3',q1,c4,eq_true c5,c6,eq_true c8,eq_true c9,List.length_map,len0]
         simp (disch:=omega) only [go_sem,q2,unless8_u,first8_5,len0,un_t,un_f,eq_true c5,c6,eq_true c8,eq_true c9]
         rw [fin _ (by simp [un,c5,c6,c8,c9])]
        ·simp (disch:=omega) only [go_sem,h128c,types_v,em,str_nil,ev,unless8_u,un_t,un_f,firstE_0,firstE_n,firstE_nil,within8_v,first8_3,c2,c3',q1,c4,eq_true c5,c6,eq_true c8,c9,List.length_map,len0]
         simp (disch:=omega) only [go_sem,q2,unless8_u,first8_5,len0,un_t,un_f,eq_true c5,c6,eq_true c8,c9]
         rw [fin _ (by simp [un,c5,c6,c8,c9])]
       ·simp (disch:=omega) only [go_sem,h128c,types_v,em,str_nil,ev,unless8_u,un_t,un_f,firstE_0,firstE_n,firstE_nil,within8_v,first8_3,c2,c3',q1,c4,eq_true c5,c6,c8,List.length_map,len0]
        simp (disch:=omega) only [go_sem,q2,unless8_u,first8_5,len0,un_t,un_f,eq_true c5,c6,c8]
        rw [fin _ (by simp [un,c5,c6,c8])]
     ·by_cases c6:a.al=0
      ·have c8:0≤a.al∧a.al≤1048576:=by omega
       by_cases c7:a.sz=0
       ·have c9:0≤a.sz∧a.sz≤1048576:=by omega
        simp (disch:=omega) only [go_sem,h128c,types_v,em,str_nil,ev,unless8_u,un_t,un_f,firstE_0,firstE_n,firstE_nil,within8_v,first8_3,c2,c3',q1,c4,c5,eq_true c6,eq_true c8,eq_true c7,eq_true c9,List.length_map,len0]
        simp (disch:=omega) only [go_sem,q2,unless8_u,first8_5,len0,un_t,un_f,c5,eq_true c6,eq_true c8,eq_true c7,eq_true c9]
        rw [fin _ (by simp [un,c5,c6,c8,c7,c9])]
       ·by_cases c9:0≤a.sz∧a.sz≤1048576
        ·simp (disch:=omega) only [go_sem,h128c,types_v,em,str_nil,ev,unless8_u,un_t,un_f,firstE_0,firstE_n,firstE_nil,within8_v,first8_3,c2,c3',q1,c4,c5,eq_true c6,eq_true c8,c7,eq_true c9,List.length_map,len0]
         simp (disch:=omega) only [go_sem,q2,unless8_u,first8_5,len0,un_t,un_f,c5,eq_true c6,eq_true c8,c7,eq_true c9]
         rw [fin _ (by simp [un,c5,c6,c8,c7,c9])]
        ·simp (disch:=omega) only [go_sem,h128c,types_v,em,str_nil,ev,unless8_u,un_t,un_f,firstE_0,firstE_n,firstE_nil,within8_v,first8_3,c2,c3',q1,c4,c5,eq_true c6,eq_true c8,c7,c9,List.length_map,len0]
         simp (disch:=omega) only [go_sem,q2,unless8_u,first8_5,len0,un_t,un_f,c5,eq_true c6,eq_true c8,c7,c9]
         rw [fin _ (by simp [un,c5,c6,c8,c7,c9])]
      ·by_cases c8:0≤a.al∧a.al≤1048576
       ·by_cases c9:0≤a.sz∧a.sz≤1048576
        ·simp (disch:=omega) only [go_sem,h128c,types_v,em,str_nil,ev,unless8_u,un_t,un_f,firstE_0,firstE_n,firstE_nil,within8_v,first8_3,c2,c3',q1,c4,c5,c6,eq_true c8,eq_true c9,List.length_map,len0]
         simp (disch:=omega) only [go_sem,q2,unless8_u,first8_5,len0,un_t,un_f,c5,c6,eq_true c8,eq_true c9]
         rw [fin _ (by simp [un,c5,c6,c8,c9])]
        ·simp (disch:=omega) only [go_sem,h128c,types_v,em,str_nil,ev,unless8_u,un_t,un_f,firstE_0,firstE_n,firstE_nil,within8_v,first8_3,c2,c3',q1,c4,c5,c6,eq_true c8,c9,List.length_map,len0]
         simp (disch:=omega) only [go_sem,q2,unless8_u,first8_5,len0,un_t,un_f,c5,c6,eq_true c8,c9]
         rw [fin _ (by simp [un,c5,c6,c8,c9])]
       ·simp (disch:=omega) only [go_sem,h128c,types_v,em,str_nil,ev,unless8_u,un_t,un_f,firstE_0,firstE_n,firstE_nil,within8_v,first8_3,c2,c3',q1,c4,c5,c6,c8,List.length_map,len0]
        simp (disch:=omega) only [go_sem,q2,unless8_u,first8_5,len0,un_t,un_f,c5,c6,c8]
        rw [fin _ (by simp [un,c5,c6,c8])]
    ·rw [if_pos c4]
     simp (disch:=omega) only [go_sem,h128c,types_v,em,str_nil,ev,unless8_u,un_t,un_f,firstE_0,firstE_n,firstE_nil,within8_v,first8_3,c2,c3',q1,c4]
   ·rw [if_pos c3]
    simp (disch:=omega) only [go_sem,h128c,types_v,em,str_nil,ev,unless8_u,un_t,un_f,firstE_0,firstE_n,firstE_nil,within8_v,first8_3,c2,c3]
  ·rw [if_pos c2]
   simp (disch:=omega) only [go_sem,h128c,types_v,em,str_nil,ev,unless8_u,un_t,un_f,firstE_0,firstE_n,firstE_nil,within8_v,first8_3,c2]
end
section
variable {G:Glob} {bb:Bool}
theorem tys_bd {n:Int} (h:n∈tys):0≤n∧n≤200:=by
 simp only [tys,List.mem_cons,List.not_mem_nil,or_false] at h;omega
theorem nmB_len {l:List Int} (h:nmB l=true):l.length≤32:=by
 unfold nmB at h
 rcases of_decide_eq_true h with h | h
 ·subst h;simp
 ·exact h.2.1
theorem chk_bd {l:List Run} (h:(chk l).2=0):l.length≤64∧0≤lenW l∧lenW l≤100000000:=by
 have hF:=chk_fine h
 have hl:=lenW_eq l (fun r hr=>(hF.el r hr).2.2) (by have:=hF.sum;omega)
 have hl2:=lenR_nonneg l (fun r hr=>(hF.el r hr).2.2)
 have hl3:=hF.sum
 exact ⟨chk_len h,by omega,by omega⟩
theorem othE_0 {a:Att} (h:othE a=0):a.ty∉rtys∧a.va=[]∧(0≤a.fi∧a.fi≤4096)∧(chk a.rs).2=0∧¬(a.fi > 0∧a.rs=[])∧a.fi+lenW a.rs≤4096∧¬(a.fi > 0∧(a.al≠0∨a.sz≠0∨a.vd≠0))∧
  ((0≤a.al∧a.al≤1048576)∧(0≤a.sz∧a.sz≤1048576)∧(0≤a.vd∧a.vd≤1048576))∧a.vd≤a.sz:=by
 unfold othE at h
 split at h
 ·omega
 rename_i h1
 split at h
 ·omega
 rename_i h2
 split at h
 ·omega
 rename_i h3
 split at h
 ·rename_i h4;exact absurd h h4
 rename_i h4
 split at h
 ·omega
 rename_i h5
 split at h
 ·omega
 rename_i h6
 split at h
 ·omega
 rename_i h7
 split at h
 ·omega
 rename_i h8
 split at h
 ·omega
 rename_i h9
 exact ⟨h1,Classical.not_not.1 h2,Classical.not_not.1 h3,Classical.not_not.1 h4,h5,by omega,h7,Classical.not_not.1 h8,by omega⟩
theorem rsdE_0 {a:Att} (h:rsdE a=0):a.rs=[]∧a.fi=0∧a.al=0∧a.sz=0∧a.vd=0∧a.va.length≤400:=by
 unfold rsdE at h
 split at h
 ·rename_i h1
  split at h
  ·omega
  ·obtain ⟨h1,h2,h3,h4,h5⟩:=h1
   exact ⟨h1,h2,h3,h4,h5,by omega⟩
 ·omega
theorem Att.bd {a:Att} (hW:a.W) (h1:a.ty∈tys) (h2:nmB a.nm=true) (h3:(0≤a.id∧a.id≤65535)∧(0≤a.fl∧a.fl≤7)) (h4:sthE a=0):a.Bd:=by
 have g1:=tys_bd h1
 have g2:=nmB_len h2
 unfold sthE at h4
 split at h4
 ·obtain ⟨q1,q2,q3,q4,q5,q6⟩:=rsdE_0 h4
  have:lenW a.rs=0:=by rw [q1];rfl
  exact ⟨hW.nm,hW.va,by omega,by omega,by rw [q1];simp,by omega,by omega,by omega,by omega,by omega,by omega,by omega,by omega⟩
 ·obtain ⟨q1,q2,q3,q4,q5,q6,q7,q8,q9⟩:=othE_0 h4
  obtain ⟨c1,c2,c3⟩:=chk_bd q4
  exact ⟨hW.nm,hW.va,by omega,by rw [q2];simp,by omega,by omega,by omega,by omega,by omega,by omega,by omega,by omega,by omega⟩
theorem checkA_v (a:Att) (hW:a.W):EV G (Tb (bs bb)) 72 [a.v] []=some (vi (errA a),[]):=by
 refine EV_run rfl ?_
 have q1:=isType_v (G:=G) (bb:=bb) a.ty
 have q2:=nameErr_v (G:=G) (bb:=bb) a.nm hW.nm (by have:=hW.nl;omega)
 unfold errA
 by_cases c1:a.ty∈tys
 ·rw [if_neg (fun h=>h c1)]
  rw [decide_eq_true c1] at q1
  cases c2:nmB a.nm with
  | false=>
   rw [c2] at q2
   rw [if_pos rfl]
   by_cases d1:0≤a.id∧a.id≤65535
   ·simp (disch:=omega) only [go_sem,h72c,q1,q2,unless8_u,un_t,un_f,firstE_0,firstE_n,firstE_nil,within8_v,first8_3,eq_true d1]
   ·simp (disch:=omega) only [go_sem,h72c,q1,q2,unless8_u,un_t,un_f,firstE_0,firstE_n,firstE_nil,within8_v,first8_3,d1]
  | true=>
   rw [c2] at q2
   rw [if_neg (by decide)]
   by_cases d1:0≤a.id∧a.id≤65535
   ·by_cases d2:0≤a.fl∧a.fl≤7
    ·rw [if_neg (fun h=>h ⟨d1,d2⟩)]
     have hbd:=fun h=>Att.bd hW c1 c2 ⟨d1,d2⟩ h
     have q5 (h):=encoded_v (G:=G) (bb:=bb) a (hbd h)
     have q6 (h):=encB_len a (hbd h)
     cases c3:a.res with
     | true=>
      have q4:=rsdErr_v (G:=G) (bb:=bb) a
      simp only [sthE,c3,if_true] at q5 q6 ⊢
      simp only [Att.v,Att.c,c3] at q4 q5
      by_cases c4:rsdE a=0
      ·have e6:((szN a:Int)≤440)=(szN a≤440):=by apply propext;omega
       by_cases c5:szN a≤440
       ·rw [if_neg (fun h=>h c4),if_neg (by omega)]
        simp (disch:=omega) only [go_sem,h72c,q1,q2,unless8_u,un_t,un_f,firstE_0,firstE_n,firstE_nil,within8_v,first8_3,eq_true d1,eq_true d2,q4,c4,q5 c4,q6 c4,c3,eq_true c5,e6]
       ·rw [if_neg (fun h=>h c4),if_pos (by omega)]
        simp (disch:=omega) only [go_sem,h72c,q1,q2,unless8_u,un_t,un_f,firstE_0,firstE_n,firstE_nil,within8_v,first8_3,eq_true d1,eq_true d2,q4,c4,q5 c4,q6 c4,c3,c5,e6]
      ·rw [if_pos c4]
       simp (disch:=omega) only [go_sem,h72c,q1,q2,unless8_u,un_t,un_f,firstE_0,firstE_n,firstE_nil,within8_v,first8_3,eq_true d1,eq_true d2,q4,c4,c3]
     | false=>
      have q4:=othErr_v (G:=G) (bb:=bb) a hW c1
      simp only [sthE,c3,if_false,Bool.false_eq_true] at q5 q6 ⊢
      simp only [Att.v,Att.c,c3] at q4 q5
      by_cases c4:othE a=0
      ·have e6:((szN a:Int)≤440)=(szN a≤440):=by apply propext;omega
       by_cases c5:szN a≤440
       ·rw [if_neg (fun h=>h c4),if_neg (by omega)]
        simp (disch:=omega) only [go_sem,h72c,q1,q2,unless8_u,un_t,un_f,firstE_0,firstE_n,firstE_nil,within8_v,first8_3,eq_true d1,eq_true d2,q4,c4,q5 c4,q6 c4,c3,eq_true c5,e6]
       ·rw [if_neg (fun h=>h c4),if_pos (by omega)]
        simp (disch:=omega) only [go_sem,h72c,q1,q2,unless8_u,un_t,un_f,firstE_0,firstE_n,firstE_nil,within8_v,first8_3,eq_true d1,eq_true d2,q4,c4,q5 c4,q6 c4,c3,c5,e6]
      ·rw [if_pos c4]
       simp (disch:=omega) only [go_sem,h72c,q1,q2,unless8_u,un_t,un_f,firstE_0,firstE_n,firstE_nil,within8_v,first8_3,eq_true d1,eq_true d2,q4,c4,c3]
    ·rw [if_pos (fun h=>d2 h.2)]
     simp (disch:=omega) only [go_sem,h72c,q1,q2,unless8_u,un_t,un_f,firstE_0,firstE_n,firstE_nil,within8_v,first8_3,eq_true d1,d2]
   ·rw [if_pos (fun h=>d1 h.1)]
    simp (disch:=omega) only [go_sem,h72c,q1,q2,unless8_u,un_t,un_f,firstE_0,firstE_n,firstE_nil,within8_v,first8_3,d1]
 ·rw [if_pos c1]
  rw [decide_eq_false c1] at q1
  by_cases d1:0≤a.id∧a.id≤65535
  ·simp (disch:=omega) only [go_sem,h72c,q1,q2,unless8_u,un_t,un_f,firstE_0,firstE_n,firstE_nil,within8_v,first8_3,eq_true d1]
  ·simp (disch:=omega) only [go_sem,h72c,q1,q2,unless8_u,un_t,un_f,firstE_0,firstE_n,firstE_nil,within8_v,first8_3,d1]
end
section
variable {G:Glob} {bb:Bool}
end
section
variable {G:Glob} {bb:Bool}
def fil8 (l:List Int):List Int:=l++List.replicate ((l.length+7) / 8 * 8 - l.length) 0
def rf1 (a:Att):List Int:=sgK (if a.res=true then 0 else 1) 1++sgK a.nm.length 1++sgK (hdN a) 2++sgK a.fl 2++sgK a.id 2
def rf2 (a:Att):List Int:=if a.res=true then rf1 a++sgK a.va.length 4++sgK (atN a) 4
 else rf1 a++sgK a.fi 4++sgK ((a.fi+lenW a.rs - 1) % 4294967296) 4++sgK (atN a) 2++List.replicate 2 0++sgK a.al 4++sgK a.sz 4++sgK a.vd 4
def rfb (a:Att):List Int:=if a.res=true then a.va else (encL a.rs).1++[0]
def rf3 (a:Att):List Int:=fil8 (rf2 a++a.nm++List.replicate (atN a - hdN a - a.nm.length) 0++rfb a)
def rfE (a:Att):List Int:=sgK a.ty 4++sgK (szN a) 4++rf3 a
structure Att.Ok (a:Att):Prop where
 w:a.W
 ty:a.ty∈tys
 nm:nmB a.nm=true
 rg:(0≤a.id∧a.id≤65535)∧(0≤a.fl∧a.fl≤7)
 e:sthE a=0
theorem encL_len {l:List Run} (h:(chk l).2=0):(encL l).1.length≤320:=by
 obtain ⟨g1,g2,g3⟩:=encK_ok l (fun r hr'=>(runs_in h r hr').1) l.length (Nat.le_refl _)
 rw [encK_all] at g1
 have:=chk_len h
 omega
end
end Go.Proofs.YtcplecjhmnblpaaGreatDoor
