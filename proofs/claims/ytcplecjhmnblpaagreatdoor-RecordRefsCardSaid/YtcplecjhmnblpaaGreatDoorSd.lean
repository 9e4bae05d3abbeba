/- Blocks of records: both ways; a record with one more attribute. Conditions: as each theorem says. -/
import Derived.Test.YtcplecjhmnblpaaGreatDoorUw
import Derived.Test.YtcplecjhmnblpaaGreatDoorTy
namespace Go.Proofs.YtcplecjhmnblpaaGreatDoor
set_option linter.unusedSimpArgs false
set_option linter.unusedVariables false
set_option maxRecDepth 4000
section
variable {G:Glob} {bb:Bool}
end
section
variable {G:Glob} {bb:Bool}
theorem encA_ok {a:Att} (hW:a.W) (h:errA a=0):encA a=rfE a∧(rfE a).length=szN a∧szN a≤440∧szN a % 8=0:=by
 have hO:=errA_ok hW h
 have hd:=hO.dc
 refine ⟨by unfold encA;rw [if_pos h,enc_eq hd],by rw [← enc_eq hd,encB_len a hd.bd], ?_,(at_ok a).2.2.2.1⟩
 have:=encA_len hW
 unfold encA at this
 rw [if_pos h,encB_len a hd.bd] at this
 exact this
theorem decPV_enc {a:Att} (hW:a.W) (h:errA a=0):decPV (rfE a)=(a,0):=by
 obtain ⟨e1,e2,e3,e4⟩:=encA_ok hW h
 have hd:=(errA_ok hW h).dc
 have e:=dec1_enc hd
 unfold decPV
 rw [if_neg (by omega),e]
 simp only
 rw [if_neg (fun g=>g.elim (fun g=>by cases g) (fun g=>g (enc_eq hd))),if_neg (fun g=>g h)]
end
section
variable {G:Glob} {bb:Bool}
end
section
variable {G:Glob} {bb:Bool}
theorem gt_cp {b s:List Int} {k:Nat} (h:k+s.length≤b.length) (j:Nat):(cpL b k s).getD j 0=if k≤j∧j < k+s.length then s.getD (j - k) 0 else b.getD j 0:=by
 unfold cpL
 simp only [List.getD_eq_getElem?_getD]
 split
 ·rename_i hj
  rw [List.append_assoc,List.getElem?_append_right (by rw [List.length_take];omega),List.length_take,Nat.min_eq_left (by omega),List.getElem?_append_left (by omega)]
 ·rename_i hj
  by_cases h1:j < k
  ·rw [List.append_assoc,List.getElem?_append_left (by rw [List.length_take];omega),List.getElem?_take_of_lt h1]
  ·rw [List.getElem?_append_right (by rw [List.length_append,List.length_take];omega),List.getElem?_drop,List.length_append,List.length_take,Nat.min_eq_left (by omega)]
   congr 2;omega
theorem ext_gt {a b:List Int} (hl:a.length=b.length) (h:∀ j,j < a.length→a.getD j 0=b.getD j 0):a=b:=by
 refine List.ext_getElem hl (fun j p q=>?_)
 have:=h j p
 simpa [List.getD_eq_getElem?_getD,p,q] using this
theorem gtc {s:List Int} {a b:Nat} (h:a=b):s.getD a 0=s.getD b 0:=by rw [h]
theorem gt_cut (s:List Int) (a n j:Nat) (hj:j < n):((s.drop a).take n).getD j 0=s.getD (a+j) 0:=by
 simp only [List.getD_eq_getElem?_getD,List.getElem?_take_of_lt hj,List.getElem?_drop]
theorem gt_zl (n j:Nat):(zl n).getD j 0=0:=by
 simp only [zl,List.getD_eq_getElem?_getD,List.getElem?_replicate];split<;>rfl
theorem gt_2 (n:Int) (j:Nat) (h:j < 2):(sgK n 2).getD j 0=if j=0 then n % 256 else n / 256 % 256:=by
 rcases j with _ | _ | j
 ·rfl
 ·rfl
 ·omega
theorem gt_app {a b:List Int} (j:Nat):(a++b).getD j 0=if j < a.length then a.getD j 0 else b.getD (j - a.length) 0:=by
 simp only [List.getD_eq_getElem?_getD]
 split
 ·rw [List.getElem?_append_left (by assumption)]
 ·rw [List.getElem?_append_right (by omega)]
abbrev cut2 (s:List Int) (a:Nat):List Int:=(s.drop a).take 2
theorem cut2_len {s:List Int} {a:Nat} (h:a+2≤s.length):(cut2 s a).length=2:=by rw [List.length_take,List.length_drop];omega
def ptP (s:List Int) (n:Int):Nat→List Int
 | 0=>cpL s 40 (sgK n 2)
 | i+1=>cpL (cpL (ptP s n i) (42+2 * i) (cut2 (ptP s n i) (64 * i+62))) (64 * i+62) (sgK n 2)
def ptG (s:List Int) (n:Int) (i j:Nat):Int:=
 if j=40 then n % 256 else if j=41 then n / 256 % 256 else if 42≤j∧j < 42+2 * i then s.getD (64 * ((j - 42) / 2)+62+(j - 42) % 2) 0
 else if j % 64=62∧j / 64 < i then n % 256 else if j % 64=63∧j / 64 < i then n / 256 % 256 else s.getD j 0
theorem ptP_len {s:List Int} {n:Int} (hs:s.length=512):∀ i,i≤8→(ptP s n i).length=512
 | 0,_=>by rw [ptP,cpL_len (by rw [sgK_len];omega),hs]
 | i+1,h=>by
  have:=ptP_len (n:=n) hs i (by omega)
  have c:=cut2_len (s:=ptP s n i) (a:=64 * i+62) (by omega)
  have l1:(cpL (ptP s n i) (42+2 * i) (cut2 (ptP s n i) (64 * i+62))).length=512:=by rw [cpL_len (by omega),this]
  rw [ptP,cpL_len (by rw [sgK_len];omega),l1]
theorem ptP_g {s:List Int} {n:Int} (hs:s.length=512):∀ i,i≤8→∀ j,(ptP s n i).getD j 0=ptG s n i j
 | 0,_,j=>by
  rw [ptP,gt_cp (by rw [sgK_len];omega),sgK_len]
  unfold ptG
  split
  ·rename_i h
   rw [gt_2 _ _ (by omega)]
   by_cases h1:j=40
   ·rw [if_pos (by omega),if_pos h1]
   ·rw [if_neg (by omega),if_neg h1,if_pos (by omega)]
  ·rw [if_neg (by omega),if_neg (by omega),if_neg (by omega),if_neg (by omega),if_neg (by omega)]
 | i+1,h,j=>by
  have hl:=ptP_len (n:=n) hs i (by omega)
  have ih:=ptP_g (n:=n) hs i (by omega)
  have c:=cut2_len (s:=ptP s n i) (a:=64 * i+62) (by omega)
  have l1:(cpL (ptP s n i) (42+2 * i) (cut2 (ptP s n i) (64 * i+62))).length=512:=by rw [cpL_len (by omega),hl]
  rw [ptP,gt_cp (by rw [sgK_len];omega),sgK_len]
  split
  ·rename_i h1
   rw [gt_2 _ _ (by omega)]
   unfold ptG
   by_cases h2:j=64 * i+62
   ·rw [if_pos (by omega),if_neg (by omega),if_neg (by omega),if_neg (by omega),if_pos (by omega)]
   ·rw [if_neg (by omega),if_neg (by omega),if_neg (by omega),if_neg (by omega),if_neg (by omega),if_pos (by omega)]
  ·rename_i h1
   rw [gt_cp (by omega),c]
   split
   ·rename_i h2
    rw [gt_cut _ _ _ _ (by omega),ih]
    unfold ptG
    rw [if_neg (by omega),if_neg (by omega),if_neg (by omega),if_neg (by omega),if_neg (by omega),if_neg (by omega),if_neg (by omega),if_pos (by omega)]
    exact gtc (by omega)
   ·rename_i h2
    rw [ih]
    unfold ptG
    repeat' split
    all_goals first | rfl | (exfalso;omega)
def opP (s:List Int):Nat→List Int
 | 0=>s
 | i+1=>cpL (opP s i) (64 * i+62) (cut2 (opP s i) (42+2 * i))
def opG (s:List Int) (i j:Nat):Int:=if 62≤j % 64∧j / 64 < i then s.getD (42+2 * (j / 64)+(j % 64 - 62)) 0 else s.getD j 0
theorem opP_g {s:List Int} (hs:s.length=512):∀ i,i≤8→(opP s i).length=512∧∀ j,(opP s i).getD j 0=opG s i j
 | 0,_=>⟨hs,fun j=>by unfold opG;rw [if_neg (by omega)];rfl⟩
 | i+1,h=>by
  obtain ⟨l1,g1⟩:=opP_g hs i (by omega)
  have c:=cut2_len (s:=opP s i) (a:=42+2 * i) (by omega)
  refine ⟨by rw [opP,cpL_len (by omega),l1],fun j=>?_⟩
  rw [opP,gt_cp (by omega),c]
  split
  ·rw [gt_cut _ _ _ _ (by omega),g1]
   unfold opG
   rw [if_neg (by omega),if_pos (by omega)]
   exact gtc (by omega)
  ·rw [g1]
   unfold opG
   repeat' split
   all_goals first | rfl | (exfalso;omega)
def opn (s:List Int):List Int:=cpL (opP s 8) 40 (zl 18)
theorem opn_len {s:List Int} (hs:s.length=512):(opn s).length=512:=by
 rw [opn,cpL_len (by rw [zl_len,(opP_g hs 8 (by omega)).1];omega),(opP_g hs 8 (by omega)).1]
theorem opn_g {s:List Int} (hs:s.length=512) (j:Nat):(opn s).getD j 0=if 40≤j∧j < 58 then 0 else opG s 8 j:=by
 rw [opn,gt_cp (by rw [zl_len,(opP_g hs 8 (by omega)).1];omega),zl_len,gt_zl,(opP_g hs 8 (by omega)).2]
def usnB (s:List Int):Int:=gL s 40 2
def entire (s:List Int):Prop:=usnB s≠0∧∀ i,i < 8→cut2 s (64 * i+62)=cut2 s 40
theorem cut2_gt {s:List Int} {a:Nat} (h:a+2≤s.length):cut2 s a=[s.getD a 0,s.getD (a+1) 0]:=by
 refine ext_gt (cut2_len h) (fun j hj=>?_)
 rw [cut2_len h] at hj
 rw [gt_cut _ _ _ _ hj]
 rcases j with _ | _ | j
 ·rfl
 ·rfl
 ·omega
theorem gv_2 {s:List Int} {a:Nat} (h:a+2≤s.length):gL s a 2=s.getD a 0+256 * s.getD (a+1) 0:=by
 unfold gL
 rw [show (s.drop a).take 2=cut2 s a from rfl,cut2_gt h]
 simp [gv]
theorem gt_by {s:List Int} (hB:Byts s) (j:Nat):0≤s.getD j 0∧s.getD j 0≤255:=by
 simp only [List.getD_eq_getElem?_getD]
 by_cases h:j < s.length
 ·rw [List.getElem?_eq_getElem h];exact hB _ (List.getElem_mem h)
 ·rw [List.getElem?_eq_none (by omega)];simp
theorem opn_prot {s:List Int} {n:Int} (hs:s.length=512) (hz:∀ j,40≤j→j < 58→s.getD j 0=0) (hn:1≤n∧n≤65535):opn (ptP s n 8)=s∧entire (ptP s n 8)∧usnB (ptP s n 8)=n:=by
 have l1:=ptP_len (n:=n) hs 8 (by omega)
 have g:=ptP_g (n:=n) hs 8 (by omega)
 have e0:(ptP s n 8).getD 40 0=n % 256:=by rw [g];rfl
 have e1:(ptP s n 8).getD 41 0=n / 256 % 256:=by rw [g];rfl
 have hu:usnB (ptP s n 8)=n:=by
  unfold usnB
  rw [gv_2 (by omega),e0,e1];omega
 refine ⟨ext_gt (by rw [opn_len l1,hs]) (fun j hj=>?_),⟨by omega,fun i hi=>?_⟩,hu⟩
 ·rw [opn_len l1] at hj
  clear e0 e1 hu hn
  rw [opn_g l1]
  split
  ·rename_i h;rw [hz j h.1 h.2]
  ·unfold opG
   split
   ·rw [g];unfold ptG
    rw [if_neg (by omega),if_neg (by omega),if_pos (by omega)]
    exact gtc (by omega)
   ·rw [g];unfold ptG
    rw [if_neg (by omega),if_neg (by omega),if_neg (by omega),if_neg (by omega),if_neg (by omega)]
 ·rw [cut2_gt (by omega),cut2_gt (by omega),e0,e1,g,g]
  clear e0 e1 g l1 hu hn hz
  unfold ptG
  rw [if_neg (by omega),if_neg (by omega),if_neg (by omega),if_pos (by omega),if_neg (by omega),if_neg (by omega),if_neg (by omega),if_neg (by omega),if_pos (by omega)]
end
section
variable {G:Glob} {bb:Bool}
structure Rec where
 sq:Int
 li:Int
 fl:Int
 br:Int
 bq:Int
 nx:Int
 ls:Int
 ats:List Att
abbrev Rec.c (r:Rec):List Cel:=[.dc (ci r.sq),.dc (ci r.li),.dc (ci r.fl),.dc (ci r.br),.dc (ci r.bq),.dc (ci r.nx),.dc (ci r.ls),.dc (.slc (r.ats.map Att.e))]
abbrev Rec.v (r:Rec):AV:=.agg r.c
abbrev Rec.t (r:Rec):TV:=.agg r.c
def Rec.nil:Rec:=⟨0,0,0,0,0,0,0,[]⟩
structure Rec.W (r:Rec):Prop where
 at':∀ a∈r.ats,a.W
 ln:r.ats.length≤900
abbrev rcv (p:Rec × Int):AV:=.tup [p.1.t,.one (.dc (ci p.2))]
def refE (a b:Int):Int:=if (0≤a∧a≤95)∧(1≤b∧b≤65535) then 0 else 2
def basE (a b:Int):Int:=if a=0∧b=0 then 0 else refE a b
def usedB (f:Int):Bool:=decide (f % 2=1)
def needA (l:List Att):Int:=(l.map fun a=>((encA a).length:Int)).sum
def numB (r:Rec):Bool:=decide (1≤r.sq∧r.sq≤65535)&&(decide (0≤r.li∧r.li≤65535)&&(decide (0≤r.fl∧r.fl≤3)&&(decide (0≤r.nx∧r.nx≤65535)&&decide (0≤r.ls∧r.ls≤2147483647))))
def empB (r:Rec):Bool:=decide (r.fl=0)&&(decide (r.ats=[])&&(decide (r.li=0)&&(decide (r.br=0∧r.bq=0)&&decide (r.nx=0))))
def hdE (r:Rec):Int:=firstE [un (numB r) 2,basE r.br r.bq,un (usedB r.fl||empB r) 3]
noncomputable def gtI (r:Rec):Int:=idxV (fun a=>decide (r.nx≤a.id)) r.ats
noncomputable def chkV (r:Rec):Int × Int:=if hdE r≠0 then (0,hdE r) else if (ordV r.ats).2≠0 then ordV r.ats else if 0≤gtI r then (gtI r,9) else (0,un (decide (needA r.ats≤440)) 16)
noncomputable def recE (r:Rec):Int:=(chkV r).2
def setId (a:Att) (i:Int):Att:=⟨a.ty,a.nm,i,a.fl,a.res,a.va,a.fi,a.rs,a.al,a.sz,a.vd⟩
def hasB (r:Rec) (a:Att):Bool:=!decide (a.ty=48)&&r.ats.any fun b=>keyB a b
noncomputable def putE1 (r:Rec):Int:=firstE [recE r,un (usedB r.fl) 20,un (decide (r.nx < 65535)) 16]
def putE2 (r:Rec) (a:Att):Int:=firstE [errA (setId a r.nx),un (!hasB r a) 5,un (decide (r.ats.length < 32)) 8]
def putO (r:Rec) (a:Att):Rec:=⟨r.sq,r.li,r.fl,r.br,r.bq,r.nx+1,r.ls,srtA (r.ats++[setId a r.nx])⟩
noncomputable def putV (r:Rec) (a:Att):Rec × Int:=if putE1 r≠0 then (.nil,putE1 r) else if putE2 r a≠0 then (.nil,putE2 r a) else if needA (putO r a).ats≤440 then (putO r a,0) else (.nil,16)
def setAts (r:Rec) (l:List Att):Rec:=⟨r.sq,r.li,r.fl,r.br,r.bq,r.nx,r.ls,l⟩
def nxtN (n:Int):Int:=n % 65535+1
def frdO (r:Rec):Rec:=⟨nxtN r.sq,0,0,0,0,0,r.ls,[]⟩
noncomputable def frdV (r:Rec):Rec × Int:=if firstE [recE r,un (usedB r.fl) 20]≠0 then (.nil,firstE [recE r,un (usedB r.fl) 20]) else (frdO r,0)
def newE (q f a b:Int):Int:=firstE [un (decide (1≤q∧q≤65535)&&(decide (f=1)||decide (f=3))) 2,basE a b]
def newV (q f a b:Int):Rec × Int:=if newE q f a b≠0 then (.nil,newE q f a b) else (⟨q,0,f,a,b,0,0,[]⟩,0)
def rhd (r:Rec) (u:Int):List Int:=[70,73,76,69]++(zl 4++(sgK r.ls 4++(zl 4++(sgK r.sq 2++(sgK r.li 2++(sgK 64 2++(sgK r.fl 2++(sgK u 4++(sgK 512 4++(sgK r.br 4++(sgK r.bq 2++sgK r.nx 2)))))))))))
def ffs:List Int:=[255,255,255,255]
def blkL (r:Rec) (u:Int) (at':List Int):List Int:=rhd r u++(zl 24++(at'++(ffs++zl (444 - at'.length))))
def attsB (r:Rec):List Int:=(r.ats.map encA).flatten
noncomputable def encE (r:Rec) (u:Int):Int:=firstE [recE r,un (decide (1≤u∧u≤65535)) 2]
def encO (r:Rec) (u:Int):List Int:=ptP (blkL r (68+(attsB r).length) (attsB r)) u 8
noncomputable def encV' (r:Rec) (u:Int):List Int × Int:=if encE r u≠0 then ([],encE r u) else (encO r u,0)
def segN (s:List Int):Nat:=(gL s 4 4).toNat
def segX (s:List Int):Prop:=segN s % 8≠0∨segN s < 24∨s.length < segN s+4
instance (s:List Int):Decidable (segX s):=by unfold segX;infer_instance
def segF:Nat→List Int→Option (List (List Int))
 | 0,_=>none
 | k+1,s=>if s.take 4=ffs then some [] else if s.length < 24 then none else if segX s then none else (segF k (s.drop (segN s))).map (s.take (segN s)::·)
def segs (s:List Int):Option (List (List Int)):=segF (s.length+1) s
def recO (o:List Int) (l:List Att):Rec:=⟨gL o 16 2,gL o 18 2,gL o 22 2,gL o 32 4,gL o 36 2,gL o 38 2,gL o 8 4,l⟩
noncomputable def datL:List (List Int)→List Att × Int
 | []=>([],0)
 | p::t=>if (decPV p).2≠0 then ([],(decPV p).2) else if (datL t).2≠0 then ([],(datL t).2) else ((decPV p).1::(datL t).1,0)
noncomputable def decO (s:List Int) (ps:List (List Int)):Rec × Int × Int:=if blkL (recO (opn s) []) (68+ps.flatten.length) ps.flatten≠opn s then (.nil,0,3) else if (datL ps).2≠0 then (.nil,0,(datL ps).2) else
 if recE (recO (opn s) (datL ps).1)≠0 then (.nil,0,recE (recO (opn s) (datL ps).1)) else (recO (opn s) (datL ps).1,usnB s,0)
open Classical in
noncomputable def decB (s:List Int):Rec × Int × Int:=if s.length≠512 then (.nil,0,10) else if ¬ entire s then (.nil,0,31) else match segs ((opn s).drop 64) with
 | none=>(.nil,0,3)
 | some ps=>decO s ps
end
section
variable {G:Glob} {bb:Bool}
theorem ordV_0 {l:List Att} (h:(ordV l).2=0):l.length≤32∧∀ k,k < l.length→ordE l k=0:=by
 unfold ordV at h
 split at h
 ·exact absurd h (by decide)
 ·rename_i c
  refine ⟨by omega, ?_⟩
  obtain ⟨hk,hp,hn⟩:=ix_spec (fun k=>ordE l k≠0) l.length
  generalize ix (fun k=>ordE l k≠0) l.length=m at *
  split at h
  ·rename_i hm
   rcases hp with hp | ⟨_,hp⟩
   ·omega
   ·exact absurd h hp
  ·rename_i hm
   exact fun k hk'=>Classical.not_not.1 (hn k (by omega))
theorem ordV_sng {l:List Att} (h:(ordV l).2=0):∀ k,k < l.length→sngE l k=0:=by
 intro k hk
 have h1:=(ordV_0 h).2 k hk
 by_cases h0:k=0
 ·subst h0
  unfold ordE at h1
  rwa [if_pos rfl] at h1
 ·exact (ordE_0 h0 hk h1).1
structure Rec.Ok (r:Rec):Prop where
 nb:numB r=true
 be:basE r.br r.bq=0
 us:(usedB r.fl||empB r)=true
 od:(ordV r.ats).2=0
 gt:gtI r < 0
 nd:needA r.ats≤440
theorem firstE3 {a b c:Int} (h:firstE [a,b,c]=0):a=0∧b=0∧c=0:=by
 by_cases h1:a=0
 ·subst h1
  rw [firstE_0] at h
  by_cases h2:b=0
  ·subst h2
   rw [firstE_0] at h
   by_cases h3:c=0
   ·exact ⟨rfl,rfl,h3⟩
   ·rw [firstE_n _ _ h3] at h;exact absurd h h3
  ·rw [firstE_n _ _ h2] at h;exact absurd h h2
 ·rw [firstE_n _ _ h1] at h;exact absurd h h1
theorem firstE2 {a b:Int} (h:firstE [a,b]=0):a=0∧b=0:=by
 by_cases h1:a=0
 ·subst h1
  rw [firstE_0] at h
  by_cases h2:b=0
  ·exact ⟨rfl,h2⟩
  ·rw [firstE_n _ _ h2] at h;exact absurd h h2
 ·rw [firstE_n _ _ h1] at h;exact absurd h h1
theorem un_0 {b:Bool} {e:Int} (he:e≠0) (h:un b e=0):b=true:=by
 cases b with
 | true=>rfl
 | false=>exact absurd h he
theorem recE_ok {r:Rec} (h:recE r=0):r.Ok:=by
 unfold recE chkV at h
 split at h
 ·rename_i c;exact absurd h c
 ·rename_i c
  obtain ⟨h1,h2,h3⟩:=firstE3 (Classical.not_not.1 c)
  split at h
  ·rename_i d;exact absurd h d
  ·rename_i d
   split at h
   ·exact absurd h (show ¬ (9:Int)=0 by decide)
   ·rename_i g
    exact ⟨un_0 (by decide) h1,h2,un_0 (by decide) h3,Classical.not_not.1 d,by omega,of_decide_eq_true (un_0 (by decide) h)⟩
theorem Rec.Ok.num {r:Rec} (h:r.Ok):(1≤r.sq∧r.sq≤65535)∧(0≤r.li∧r.li≤65535)∧(0≤r.fl∧r.fl≤3)∧(0≤r.nx∧r.nx≤65535)∧(0≤r.ls∧r.ls≤2147483647):=by
 have:=h.nb
 simpa only [numB,Bool.and_eq_true,decide_eq_true_eq] using this
theorem Rec.Ok.base {r:Rec} (h:r.Ok):(0≤r.br∧r.br≤95)∧(0≤r.bq∧r.bq≤65535):=by
 have:=h.be
 unfold basE refE at this
 split at this
 ·omega
 ·split at this
  ·omega
  ·exact absurd this (by decide)
theorem Rec.Ok.errs {r:Rec} (h:r.Ok):(∀ a∈r.ats,errA a=0)∧(r.ats.map Att.id).Nodup:=(sng_iff r.ats).1 (ordV_sng h.od)
theorem Rec.Ok.ln {r:Rec} (h:r.Ok):r.ats.length≤32:=(ordV_0 h.od).1
theorem encA_sh {a:Att} (hW:a.W) (h:errA a=0):Byts (encA a)∧(encA a).length=szN a∧24≤szN a∧szN a≤440∧szN a % 8=0∧(encA a).take 4=sgK a.ty 4∧gL (encA a) 4 4=szN a:=by
 obtain ⟨e1,e2,e3,e4⟩:=encA_ok hW h
 have hd:=(errA_ok hW h).dc
 have h24:24≤szN a:=by
  have o:=at_ok a
  have:24≤hdN a:=by unfold hdN;split<;>omega
  omega
 have e5:∃ t,rfE a=sgK a.ty 4++(sgK (szN a) 4++t):=by
  unfold rfE
  exact ⟨_,List.append_assoc ..⟩
 obtain ⟨t,e5⟩:=e5
 refine ⟨by rw [e1];exact rfE_byts hd,by rw [e1,e2],h24,e3,e4, ?_, ?_⟩
 ·rw [e1,e5,List.take_left' (sgK_len _ _)]
 ·rw [e1,e5,gL_skip _ _ _ _ (by rw [sgK_len];omega),sgK_len,Nat.sub_self,gL_head _ _ _ (sgK_len _ _),gv4 _ (by omega)]
theorem attsB_len (l:List Att):(((l.map encA).flatten.length:Nat):Int)=needA l:=by
 induction l with
 | nil=>rfl
 | cons a l ih=>
  unfold needA at ih ⊢
  simp only [List.map_cons,List.flatten_cons,List.length_append,List.sum_cons]
  omega
theorem attsB_le {r:Rec} (h:r.Ok):(attsB r).length≤440:=by
 have h1:=attsB_len r.ats
 have h2:=h.nd
 unfold attsB
 omega
theorem byts_flat {l:List (List Int)} (h:∀ p∈l,Byts p):Byts l.flatten:=fun x hx=>by
 obtain ⟨p,hp,hx⟩:=List.mem_flatten.1 hx
 exact h p hp x hx
def pbl (r:Rec) (at':List Int):List Int:=cpL (putK (putK (putK (putK (putK (putK (putK (putK (putK (putK (cpL (zl 512) 0 [70,73,76,69]) 8 r.ls 4) 16 r.sq 2) 18 r.li 2) 20 64 2) 22 r.fl 2) 24 (68+(at'.length:Int)) 4) 28 512 4) 32 r.br 4) 36 r.bq 2) 38 r.nx 2) 64 (at'++ffs)
set_option maxHeartbeats 1000000 in
theorem pbl_eq (r:Rec) (at':List Int) (h:at'.length≤444):pbl r at'=blkL r (68+(at'.length:Int)) at':=by
 have eN:512=4+(4+(4+(4+(2+(2+(2+(2+(4+(4+(4+(2+(2+(24+((at'.length+4)+(444 - at'.length))))))))))))))):=by omega
 have eZ:zl 512=zl 4++(zl 4++(zl 4++(zl 4++(zl 2++(zl 2++(zl 2++(zl 2++(zl 4++(zl 4++(zl 4++(zl 2++(zl 2++(zl 24++(zl (at'.length+4)++zl (444 - at'.length))))))))))))))):=by
  conv=>lhs;rw [eN]
  simp only [zl_add]
 unfold pbl blkL rhd
 rw [eZ,cpL_at _ _ _ _ rfl (by rw [zl_len];rfl)]
 simp (disch:=first | omega | (simp only [zl_len,sgK_len,List.length_cons,List.length_nil]<;>omega) | fail) only [putK_skip,putK_head,zl_len,sgK_len,Nat.reduceSub,Nat.sub_self,List.length_cons,List.length_nil,Nat.reduceAdd]
 simp (disch:=first | omega | (simp only [zl_len,sgK_len,List.length_cons,List.length_nil,List.length_append,ffs]<;>omega) | fail) only [cpL_skip,cpL_at,zl_len,sgK_len,Nat.reduceSub,Nat.sub_self,List.length_cons,List.length_nil,Nat.reduceAdd]
 simp only [List.append_assoc]
theorem rhd_len (r:Rec) (u:Int):(rhd r u).length=40:=by
 simp only [rhd,List.length_append,zl_len,sgK_len,List.length_cons,List.length_nil,Nat.reduceAdd]
theorem blk_len (r:Rec) (u:Int) (at':List Int) (h:at'.length≤444):(blkL r u at').length=512:=by
 simp only [blkL,List.length_append,rhd_len,zl_len,ffs,List.length_cons,List.length_nil]
 omega
theorem blk_z (r:Rec) (u:Int) (at':List Int) (j:Nat) (h1:40≤j) (h2:j < 58):(blkL r u at').getD j 0=0:=by
 unfold blkL
 rw [gt_app,rhd_len,if_neg (by omega),gt_app,zl_len,if_pos (by omega),gt_zl]
theorem blk_drop (r:Rec) (u:Int) (at':List Int):(blkL r u at').drop 64=at'++(ffs++zl (444 - at'.length)):=by
 unfold blkL
 rw [← List.append_assoc,List.drop_left' (by rw [List.length_append,rhd_len,zl_len])]
theorem byts_zl (n:Nat):Byts (zl n):=fun x hx=>by
 have:=List.eq_of_mem_replicate hx
 omega
theorem byts_sg (n:Int):∀ k,Byts (sgK n k)
 | 0=>fun x hx=>by cases hx
 | k+1=>by
  rw [sgK]
  refine byts_app (byts_sg n k) (fun x hx=>?_)
  have:=List.mem_singleton.1 hx
  omega
theorem byts_ff:Byts ffs:=fun x hx=>by
 simp [ffs] at hx
 omega
theorem blk_byts (r:Rec) (u:Int) (at':List Int) (h:Byts at'):Byts (blkL r u at'):=by
 unfold blkL rhd
 refine byts_app ?_ (byts_app (byts_zl _) (byts_app h (byts_app byts_ff (byts_zl _))))
 refine byts_app (fun x hx=>?_) ?_
 ·simp at hx
  omega
 ·exact byts_app (byts_zl _) (byts_app (byts_sg _ _) (byts_app (byts_zl _) (byts_app (byts_sg _ _) (byts_app (byts_sg _ _) (byts_app (byts_sg _ _) (byts_app (byts_sg _ _) (byts_app (byts_sg _ _) (byts_app (byts_sg _ _) (byts_app (byts_sg _ _) (byts_app (byts_sg _ _) (byts_sg _ _)))))))))))
set_option maxHeartbeats 1000000 in
theorem blk_gL (r:Rec) (u:Int) (at':List Int):gL (blkL r u at') 8 4=gv (sgK r.ls 4)∧gL (blkL r u at') 16 2=gv (sgK r.sq 2)∧gL (blkL r u at') 18 2=gv (sgK r.li 2)∧gL (blkL r u at') 22 2=gv (sgK r.fl 2)∧gL (blkL r u at') 24 4=gv (sgK u 4)∧
  gL (blkL r u at') 32 4=gv (sgK r.br 4)∧gL (blkL r u at') 36 2=gv (sgK r.bq 2)∧gL (blkL r u at') 38 2=gv (sgK r.nx 2):=by
 unfold blkL rhd
 simp only [List.append_assoc]
 refine ⟨?_, ?_, ?_, ?_, ?_, ?_, ?_, ?_⟩
 all_goals simp (disch:=first | omega | (simp only [zl_len,sgK_len,List.length_cons,List.length_nil]<;>omega) | fail) only [gL_skip,gL_head,zl_len,sgK_len,Nat.reduceSub,Nat.sub_self,List.length_cons,List.length_nil,Nat.reduceAdd]
theorem recO_blk {r:Rec} (h:r.Ok) (u:Int) (at':List Int) (l:List Att):recO (blkL r u at') l=setAts r l:=by
 obtain ⟨n1,n2,n3,n4,n5⟩:=h.num
 obtain ⟨n6,n7⟩:=h.base
 obtain ⟨b1,b2,b3,b4,b5,b6,b7,b8⟩:=blk_gL r u at'
 unfold recO setAts
 rw [b1,b2,b3,b4,b6,b7,b8,gv4 _ (by omega),gv2 _ (by omega),gv2 _ (by omega),gv2 _ (by omega),gv4 _ (by omega),gv2 _ (by omega),gv2 _ (by omega)]
theorem segF_le:∀ (k m:Nat) (s:List Int),s.length < k→k≤m→segF m s=segF k s
 | 0,m,s,h,_=>by omega
 | k+1,0,s,_,h=>by omega
 | k+1,m+1,s,h,hm=>by
  unfold segF
  split
  ·rfl
  ·split
   ·rfl
   ·split
    ·rfl
    ·rename_i c1 c2 c3
     unfold segX at c3
     rw [segF_le k m _ (by rw [List.length_drop];omega) (by omega)]
theorem segs_eq (s:List Int):segs s=if s.take 4=ffs then some [] else if s.length < 24 then none else if segX s then none else (segs (s.drop (segN s))).map (s.take (segN s)::·):=by
 show segF (s.length+1) s=_
 rw [segF]
 split
 ·rfl
 ·split
  ·rfl
  ·split
   ·rfl
   ·rename_i c1 c2 c3
    unfold segX at c3
    rw [segs,segF_le ((s.drop (segN s)).length+1) s.length _ (by omega) (by rw [List.length_drop];omega)]
theorem tys_ff {n:Int} (h:n∈tys):sgK n 4≠ffs:=by
 intro e
 have h1:gv (sgK n 4)=gv ffs:=by rw [e]
 have h2:0≤n∧n≤192:=by
  simp only [tys,List.mem_cons,List.not_mem_nil,or_false] at h
  omega
 rw [gv4 _ (by omega)] at h1
 simp only [gv,ffs] at h1
 omega
theorem segs_enc (z:List Int):∀ l:List Att,(∀ a∈l,a.W∧errA a=0)→segs ((l.map encA).flatten++(ffs++z))=some (l.map encA)
 | [],_=>by
  rw [segs_eq,if_pos (by rfl)]
  rfl
 | a::l,h=>by
  obtain ⟨hW,he⟩:=h a List.mem_cons_self
  obtain ⟨e1,e2,e3,e4,e5,e6,e7⟩:=encA_sh hW he
  have ih:=segs_enc z l (fun b hb=>h b (List.mem_cons_of_mem _ hb))
  rw [List.map_cons,List.flatten_cons,List.append_assoc]
  have ht:4≤((l.map encA).flatten++(ffs++z)).length:=by
   simp only [List.length_append,ffs,List.length_cons,List.length_nil]
   omega
  generalize (l.map encA).flatten++(ffs++z)=t at *
  have hty:=(errA_ok hW he).ty
  have n1:segN (encA a++t)=szN a:=by
   have g:gL (encA a++t) 4 4=gL (encA a) 4 4:=by
    unfold gL
    rw [List.drop_append_of_le_length (by omega),List.take_append_of_le_length (by rw [List.length_drop];omega)]
   unfold segN
   rw [g,e7]
   omega
  have hlen:(encA a++t).length=szN a+t.length:=by rw [List.length_append,e2]
  rw [segs_eq,if_neg,if_neg,if_neg,n1,List.drop_left' e2,ih,List.take_left' e2]
  ·rfl
  ·unfold segX
   rw [n1]
   omega
  ·omega
  ·rw [List.take_append_of_le_length (by omega),e6]
   exact tys_ff hty
theorem datL_enc:∀ l:List Att,(∀ a∈l,a.W∧errA a=0)→datL (l.map encA)=(l,0)
 | [],_=>rfl
 | a::l,h=>by
  obtain ⟨hW,he⟩:=h a List.mem_cons_self
  have ih:=datL_enc l (fun b hb=>h b (List.mem_cons_of_mem _ hb))
  have e:decPV (encA a)=(a,0):=by rw [(encA_ok hW he).1,decPV_enc hW he]
  rw [List.map_cons,datL,e,ih]
  rfl
end
section
variable {G:Glob} {bb:Bool}
theorem dec_enc' {r:Rec} (hW:r.W) (h:recE r=0) {u:Int} (hu:1≤u∧u≤65535):decB (encO r u)=(r,u,0)∧(encO r u).length=512∧Byts (encO r u):=by
 have hO:=recE_ok h
 have hla:=attsB_le hO
 have hv:∀ a∈r.ats,a.W∧errA a=0:=fun a ha=>⟨hW.at' a ha,hO.errs.1 a ha⟩
 have hba:Byts (attsB r):=byts_flat (fun p hp=>by
  obtain ⟨a,ha,rfl⟩:=List.mem_map.1 hp
  exact (encA_sh (hv a ha).1 (hv a ha).2).1)
 have hl:=blk_len r (68+(attsB r).length) (attsB r) (by omega)
 obtain ⟨q1,q2,q3⟩:=opn_prot (n:=u) hl (fun j a c=>blk_z _ _ _ j a c) hu
 have q4:(encO r u).length=512:=ptP_len hl 8 (by omega)
 have hB:Byts (encO r u):=by
  intro x hx
  obtain ⟨j,hj,rfl⟩:=List.mem_iff_getElem.1 hx
  have e:(encO r u)[j]=(encO r u).getD j 0:=by simp [List.getD_eq_getElem?_getD,hj]
  have hb:=blk_byts r (68+(attsB r).length) (attsB r) hba
  rw [e]
  unfold encO
  rw [ptP_g hl 8 (by omega)]
  unfold ptG
  repeat' split
  all_goals first | omega | exact gt_by hb _
 refine ⟨?_,q4,hB⟩
 have hb:attsB r=(r.ats.map encA).flatten:=rfl
 unfold decB
 have g1:opn (encO r u)=blkL r (68+(attsB r).length) (attsB r):=q1
 have g3:usnB (encO r u)=u:=q3
 have g2:entire (encO r u):=q2
 rw [if_neg (not_not_intro q4),if_neg (not_not_intro g2),g1,blk_drop,hb,segs_enc _ _ hv]
 simp only
 unfold decO
 rw [g1,g3,recO_blk hO,recO_blk hO,datL_enc _ hv,← hb]
 rw [if_neg (not_not_intro (by rfl))]
 simp only
 have e:setAts r r.ats=r:=rfl
 rw [e,h]
 rw [if_neg (fun c=>c rfl),if_neg (fun c=>c rfl)]
theorem idxV_neg {p:Att→Bool} {l:List Att}:idxV p l < 0↔∀ a∈l,p a=false:=by
 unfold idxV
 obtain ⟨hk,hp,hn⟩:=ix_spec (fun k=>p (l.getD k Att.nil)=true) l.length
 generalize ix (fun k=>p (l.getD k Att.nil)=true) l.length=m at *
 constructor
 ·intro h a ha
  split at h
  ·rename_i e
   obtain ⟨j,hj,rfl⟩:=List.mem_iff_getElem.1 ha
   have:=hn j (by omega)
   rw [getDA _ _ hj] at this
   simpa using this
  ·omega
 ·intro h
  rcases hp with e | ⟨hm,hp⟩
  ·rw [if_pos e];decide
  ·rw [getDA _ _ hm] at hp
   rw [h _ (List.getElem_mem hm)] at hp
   cases hp
theorem put_srt {r:Rec} {a:Att} (hO:r.Ok) (ha:errA (setId a r.nx)=0) (hl:r.ats.length < 32):srtE (r.ats++[setId a r.nx])=0:=by
 have hg:=idxV_neg.1 hO.gt
 refine srtE_of (by rw [List.length_append,List.length_singleton];omega) ((sng_iff _).2 ⟨fun b hb=>?_, ?_⟩)
 ·rcases List.mem_append.1 hb with hb | hb
  ·exact hO.errs.1 b hb
  ·rw [List.mem_singleton.1 hb];exact ha
 ·rw [List.map_append,List.nodup_append]
  refine ⟨hO.errs.2,by simp,fun x hx y hy=>?_⟩
  obtain ⟨b,hb,rfl⟩:=List.mem_map.1 hx
  have hy':y=r.nx:=by simpa [setId] using hy
  have:=hg b hb
  simp only [decide_eq_false_iff_not] at this
  omega
end
end Go.Proofs.YtcplecjhmnblpaaGreatDoor
