/- Part. Conditions: none. -/
import Derived.Test.YtalhnjjchkmfeabGreatDoorMf
import Derived.Test.YtalhnjjchkmfeabGreatDoorCards
import Derived.Test.YtalhnjjchkmfeabGreatDoorTie
import Derived.ProofKit
import Derived.MakeChecks
import Derived.Stop.LaidErr
import Derived.Deep.DeepHandedRow
import Derived.Lib.LaidTab
import Derived.LaidMore
import Derived.LaidHandle
import Derived.LaidLaws
import Derived.Lay
import Derived.Shelf.Vars
import Derived.Test.YtalhnjjchkmfeabGreatDoorRows
import Derived.Test.YtalhnjjchkmfeabGreatDoorQp
import Derived.Test.YtalhnjjchkmfeabGreatDoorSo
import Derived.Test.YtalhnjjchkmfeabGreatDoorVq
import Derived.Test.YtalhnjjchkmfeabGreatDoorSu
import Derived.Test.YtalhnjjchkmfeabGreatDoorPa
import Derived.Test.YtalhnjjchkmfeabGreatDoorTy
namespace Go.Proofs.YtalhnjjchkmfeabGreatDoor
set_option maxHeartbeats 8000000
set_option linter.unusedSimpArgs false
set_option linter.unusedVariables false
set_option maxRecDepth 4000
section
variable {G:aE}{bb:Bool}
open Go.ChangeShapes Go.WideShapes Go.ChangeAt Go.RowKit
theorem Tryz.own:ownKnob Tryz.prog.godebug=none:=by kernel_rfl
theorem Tryz.laidOut:laidOutB Tryz.prog=true:=by kernel_rfl
theorem kA:Tryz.prog.cellsOf 3=1:=by kernel_rfl
theorem aRt:Tryz.prog.cellsOf 4=1:=by kernel_rfl
theorem aIp:Tryz.prog.cellsOf 9=1:=by kernel_rfl
theorem aMR:Tryz.prog.cellsOf 38=1:=by kernel_rfl
theorem aMS:Tryz.prog.cellsOf 58=11:=by kernel_rfl
theorem aMT:Tryz.prog.cellsOf 91=2:=by kernel_rfl
def qP(i:Int):Prop:=-9223372036854775808<=i/\i<=9223372036854775807
theorem aIq{m:Nat}{i:L DC}(h:jW Tryz.prog (m+4) 38 i):∃l:L aV,i=[.slc (l.map aV.e)]/\∀r∈l,qP r.s/\qP r.n:=by
 rw[jW,Tryz.underlying38] at h;obtain⟨es,rfl,_,p⟩:=h;have g:∀es:L (L DC),(∀d∈es,jW Tryz.prog (m+3) 91 d)->∃l:L aV,es=l.map aV.e/\∀r∈l,qP r.s/\qP r.n:=by
  intro es
  induction es with
  |nil=>intro _;exact⟨[],rfl,by simp⟩
  |cons d es q=>
   intro h;obtain⟨l,rfl,c⟩:=q (fun d o=>h d (aZB _ o))
   obtain⟨a,b,rfl,j,k⟩:=aA2 Tryz.underlying91 Tryz.underlying3 Tryz.underlying3 rfl rfl kA kA aMT (h d aZt);exact⟨⟨a,b⟩::l,rfl,fun r f=>by
    rcases bAl.1 f with rfl | f
    ·exact⟨j,k⟩
    ·exact c r f⟩
 obtain⟨l,rfl,c⟩:=g es p;exact⟨l,rfl,c⟩
theorem Vc{m:Nat}{x:DC}(h:jW Tryz.prog (m+1) 9 [x]):∃l:L Int,x=.raw (.string (fF l))/\aH l:=by
 rw[jW,Tryz.underlying9] at h;obtain⟨s,a,_⟩:=h;obtain⟨l,b,rfl⟩:=Z9 s;injection a with a _
 exact⟨l,a,b⟩
theorem nF{m:Nat}{x:DC}(h:jW Tryz.prog (m+1) 3 [x]):∃i:Int,x=ci i/\qP i:=by
 obtain⟨i,a,b⟩:=K3 Tryz.underlying3 h;injection a with a _;exact⟨i,a,Ck b⟩
theorem aRu{m:Nat}{x:DC}(h:jW Tryz.prog (m+1) 4 [x]):∃b:Bool,x=.raw (.bool b):=by
 rw[jW,Tryz.underlying4] at h;obtain⟨b,a⟩:=h;injection a with a _
 exact⟨b,a⟩
structure aK.In (a:aK):Prop where
 ty:qP a.ty
 id:qP a.id
 fl:qP a.fl
 fi:qP a.fi
 al:qP a.al
 sz:qP a.sz
 vd:qP a.vd
 nm:aH a.nm
 va:aH a.va
 rs:∀r∈a.rs,qP r.s/\qP r.n
def aK.d(a:aK):L DC:=[ci a.ty,.raw (.string (fF a.nm)),ci a.id,ci a.fl,.raw (.bool a.res),.raw (.string (fF a.va)),ci a.fi,.slc (a.rs.map aV.e),ci a.al,ci a.sz,ci a.vd]
theorem aMU{m:Nat}{p:L DC}(h:jW Tryz.prog (m+5) 58 p):∃a:aK,p=a.d/\a.In:=by
 rw[jW,Tryz.underlying58] at h;obtain⟨t,hf⟩:=h;rw[aMS] at t
 match p,t with
 |[c,e,f,g,i,j,k,l,n,o,b],_=>
  have D:jW Tryz.prog (m+4) 3 [c]:=by
   have h:jW Tryz.prog (m+4) 3 (([c,e,f,g,i,j,k,l,n,o,b].drop 0).take (Tryz.prog.cellsOf 3)):=hf 0 _ rfl;rw[kA] at h;exact h
  have E:jW Tryz.prog (m+4) 9 [e]:=by
   have h:jW Tryz.prog (m+4) 9 (([c,e,f,g,i,j,k,l,n,o,b].drop 1).take (Tryz.prog.cellsOf 9)):=hf 1 _ rfl;rw[aIp] at h;exact h
  have F:jW Tryz.prog (m+4) 3 [f]:=by
   have h:jW Tryz.prog (m+4) 3 (([c,e,f,g,i,j,k,l,n,o,b].drop 2).take (Tryz.prog.cellsOf 3)):=hf 2 _ rfl;rw[kA] at h;exact h
  have h3:jW Tryz.prog (m+4) 3 [g]:=by
   have h:jW Tryz.prog (m+4) 3 (([c,e,f,g,i,j,k,l,n,o,b].drop 3).take (Tryz.prog.cellsOf 3)):=hf 3 _ rfl;rw[kA] at h;exact h
  have h4:jW Tryz.prog (m+4) 4 [i]:=by
   have h:jW Tryz.prog (m+4) 4 (([c,e,f,g,i,j,k,l,n,o,b].drop 4).take (Tryz.prog.cellsOf 4)):=hf 4 _ rfl;rw[aRt] at h;exact h
  have h5:jW Tryz.prog (m+4) 9 [j]:=by
   have h:jW Tryz.prog (m+4) 9 (([c,e,f,g,i,j,k,l,n,o,b].drop 5).take (Tryz.prog.cellsOf 9)):=hf 5 _ rfl;rw[aIp] at h;exact h
  have h6:jW Tryz.prog (m+4) 3 [k]:=by
   have h:jW Tryz.prog (m+4) 3 (([c,e,f,g,i,j,k,l,n,o,b].drop 6).take (Tryz.prog.cellsOf 3)):=hf 6 _ rfl;rw[kA] at h;exact h
  have h7:jW Tryz.prog (m+4) 38 [l]:=by
   have h:jW Tryz.prog (m+4) 38 (([c,e,f,g,i,j,k,l,n,o,b].drop 7).take (Tryz.prog.cellsOf 38)):=hf 7 _ rfl;rw[aMR] at h;exact h
  have h8:jW Tryz.prog (m+4) 3 [n]:=by
   have h:jW Tryz.prog (m+4) 3 (([c,e,f,g,i,j,k,l,n,o,b].drop 8).take (Tryz.prog.cellsOf 3)):=hf 8 _ rfl;rw[kA] at h;exact h
  have h9:jW Tryz.prog (m+4) 3 [o]:=by
   have h:jW Tryz.prog (m+4) 3 (([c,e,f,g,i,j,k,l,n,o,b].drop 9).take (Tryz.prog.cellsOf 3)):=hf 9 _ rfl;rw[kA] at h;exact h
  have h10:jW Tryz.prog (m+4) 3 [b]:=by
   have h:jW Tryz.prog (m+4) 3 (([c,e,f,g,i,j,k,l,n,o,b].drop 10).take (Tryz.prog.cellsOf 3)):=hf 10 _ rfl;rw[kA] at h;exact h
  obtain⟨I,rfl,u⟩:=nF D;obtain⟨J,rfl,v⟩:=Vc E;obtain⟨K,rfl,w⟩:=nF F;obtain⟨M,rfl,x⟩:=nF h3;obtain⟨N,rfl⟩:=aRu h4;obtain⟨O,rfl,y⟩:=Vc h5;obtain⟨P,rfl,z⟩:=nF h6;obtain⟨Q,r,A⟩:=aIq h7;obtain⟨R,rfl,B⟩:=nF h8;obtain⟨S,rfl,C⟩:=nF h9;obtain⟨s,rfl,q⟩:=nF h10;injection r with r _;subst r;exact⟨⟨I,J,K,M,N,O,P,Q,R,S,s⟩,rfl,⟨u,w,x,z,B,C,q,v,y,A⟩⟩
theorem aIr{m:Nat}{av:AV}(h:okA Tryz.prog (m+6) 24 av):∃l:L aK,av=vl (l.map aK.e)/\(∀a∈l,a.In)/\l.length<=9223372036854775807:=by
 obtain⟨es,rfl,n,k⟩:=aDk Tryz.underlying24 h;have c:es.length<=9223372036854775807:=Nat.le_trans n (by unfold maxLen;omega);have g:∀es:L (L DC),(∀d∈es,jW Tryz.prog (m+5) 58 d)->∃l:L aK,es=l.map aK.e/\∀a∈l,a.In:=by
  intro es
  induction es with
  |nil=>intro _;exact⟨[],rfl,by simp⟩
  |cons d es o=>
   intro h;obtain⟨l,rfl,b⟩:=o (fun d j=>h d (aZB _ j))
   obtain⟨a,rfl,i⟩:=aMU (h d aZt);exact⟨a::l,rfl,fun r f=>by
    rcases bAl.1 f with rfl | f
    ·exact i
    ·exact b r f⟩
 obtain⟨l,rfl,b⟩:=g es k;exact⟨l,rfl,b,by simpa using c⟩
theorem aRv:Tryz.prog.cellsOf 24=1:=by kernel_rfl
theorem aIs:Tryz.prog.cellsOf 23=2:=by kernel_rfl
theorem aRw:Tryz.prog.cellsOf 26=8:=by kernel_rfl
theorem aIt{m:Nat}{c:L DC}(h:jW Tryz.prog (m+6) 24 c):∃l:L aK,c=[.slc (l.map aK.e)]/\(∀a∈l,a.In)/\l.length<=9223372036854775807:=by
 match c with
 |[x]=>
  obtain⟨l,b,d,h3⟩:=aIr (av:=.one (.dc x)) (m:=m) ⟨by kernel_rfl,h⟩;injection b with b
  injection b with b
  exact⟨l,by rw[b],d,h3⟩
 |[]=>rw[jW,Tryz.underlying24] at h;obtain⟨es,b,_⟩:=h;cases b
 |_::_::_=>rw[jW,Tryz.underlying24] at h;obtain⟨es,b,_⟩:=h;cases b
structure cI.In (r:cI):Prop where
 sq:qP r.sq
 li:qP r.li
 fl:qP r.fl
 br:qP r.br
 bq:qP r.bq
 nx:qP r.nx
 ls:qP r.ls
 at':∀a∈r.ats,a.In
 ln:r.ats.length<=9223372036854775807
theorem aMV{m:Nat}{o:L DC}(h:jW Tryz.prog (m+7) 26 o):∃r:cI,o=[ci r.sq,ci r.li,ci r.fl,ci r.br,ci r.bq,ci r.nx,ci r.ls,.slc (r.ats.map aK.e)]/\r.In:=by
 rw[jW,Tryz.underlying26] at h;obtain⟨t,hf⟩:=h;rw[aRw] at t
 match o,t with
 |[c,d,f,g,i,j,k,n],_=>
  have u:jW Tryz.prog (m+6) 3 [c]:=by
   have h:jW Tryz.prog (m+6) 3 (([c,d,f,g,i,j,k,n].drop 0).take (Tryz.prog.cellsOf 3)):=hf 0 _ rfl;rw[kA] at h;exact h
  have v:jW Tryz.prog (m+6) 3 [d]:=by
   have h:jW Tryz.prog (m+6) 3 (([c,d,f,g,i,j,k,n].drop 1).take (Tryz.prog.cellsOf 3)):=hf 1 _ rfl;rw[kA] at h;exact h
  have w:jW Tryz.prog (m+6) 3 [f]:=by
   have h:jW Tryz.prog (m+6) 3 (([c,d,f,g,i,j,k,n].drop 2).take (Tryz.prog.cellsOf 3)):=hf 2 _ rfl;rw[kA] at h;exact h
  have h3:jW Tryz.prog (m+6) 23 [g,i]:=by
   have h:jW Tryz.prog (m+6) 23 (([c,d,f,g,i,j,k,n].drop 3).take (Tryz.prog.cellsOf 23)):=hf 3 _ rfl;rw[aIs] at h;exact h
  have h4:jW Tryz.prog (m+6) 3 [j]:=by
   have h:jW Tryz.prog (m+6) 3 (([c,d,f,g,i,j,k,n].drop 5).take (Tryz.prog.cellsOf 3)):=hf 4 _ rfl;rw[kA] at h;exact h
  have h5:jW Tryz.prog (m+6) 3 [k]:=by
   have h:jW Tryz.prog (m+6) 3 (([c,d,f,g,i,j,k,n].drop 6).take (Tryz.prog.cellsOf 3)):=hf 5 _ rfl;rw[kA] at h;exact h
  have h6:jW Tryz.prog (m+6) 24 [n]:=by
   have h:jW Tryz.prog (m+6) 24 (([c,d,f,g,i,j,k,n].drop 7).take (Tryz.prog.cellsOf 24)):=hf 6 _ rfl;rw[aRv] at h;exact h
  obtain⟨x,rfl,C⟩:=nF (m:=m+5) u;obtain⟨y,rfl,D⟩:=nF (m:=m+5) v;obtain⟨z,rfl,E⟩:=nF (m:=m+5) w;obtain⟨a,b,p,M,N⟩:=aA2 (m:=m+4) Tryz.underlying23 Tryz.underlying3 Tryz.underlying3 rfl rfl kA kA aIs h3;injection p with p q;injection q with q _;subst p;subst q;obtain⟨A,rfl,F⟩:=nF (m:=m+5) h4;obtain⟨B,rfl,I⟩:=nF (m:=m+5) h5;obtain⟨l,s,J,K⟩:=aIt (m:=m) h6;injection s with s _;subst s;exact⟨⟨x,y,z,a,b,A,B,l⟩,rfl,C,D,E,M,N,F,I,J,K⟩
theorem aMW{m:Nat}{av:AV}(h:okA Tryz.prog (m+7) 26 av):∃r:cI,av=r.v/\r.In:=by
 obtain⟨b,rfl,a⟩:=aIo (by kernel_rfl) h;obtain⟨r,rfl,h3⟩:=aMV a;exact⟨r,rfl,h3⟩
theorem Lu{H:Type}{enc:TypeId×Value->H}{P:Program}{w:World}{e:Nat}{F:Nat->Bool}{f:Bool}{c:Nat}{t:TypeId}{i j:Field}{cs:L Value}{a b:Int}{p:L MemPlace} (B:P.underlying t=some (.struct #[i,j])) (s:P.underlying i.type=some (.int .i64)) (z:P.underlying j.type=some (.int .i64)) (D:i.offset=0) (E:j.offset=1) (o:P.cellsOf i.type=1) (q:P.cellsOf j.type=1) (r:P.cellsOf t=2) (h:DataW.trod enc P w e F f c t cs=some (.agg [.lit (.int .i64 a),.lit (.int .i64 b)],p)):cs=[.int .i64 a,.int .i64 b]:=by
 cases c with
 |zero=>simp[DataW.trod] at h
 |succ c=>
  simp only[DataW.trod,B,r] at h;split at h;rename_i A;obtain⟨I,d,n⟩:=Option.map_eq_some_iff.1 h
  match cs,A with
  |[x,y],_=>
   simp only[aZ8,List.mapM_nil,D,E,o,q,aZW,bAC,bAt,bAg,List.take_nil] at d;obtain⟨u,C,d⟩:=aZT.1 d;obtain⟨vs,k,d⟩:=aZT.1 d;obtain⟨v,k,g⟩:=aZT.1 k;obtain⟨n0,l,rfl,_⟩:=DataW.trod_int s C;obtain⟨n1,m,rfl,_⟩:=DataW.trod_int z k;simp at g d;subst g;subst d;simp at n l m;obtain⟨⟨rfl,rfl⟩,_⟩:=n;rw[l,m]
  cases h
theorem lF{W:World}{c:String}{a b:Int}{e:L (String×DataW Unit)}{g:Nat}(m:Tryz.prog.globalNamed c=some g)(j:(Tryz.prog.globals[g]?).map (·.type)=some 162) (h:laidMet Tryz.prog ((c,.agg [.lit (.int .i64 a),.lit (.int .i64 b)])::e) W):W.var? Tryz.prog c=some #[.int .i64 a,.int .i64 b]:=by
 obtain⟨o,⟨n,r,cs,k,p,q,f,i,d,l,_,_⟩,_⟩:=h;obtain rfl:=Option.some.inj (m.symm.trans f);obtain rfl:=Option.some.inj (j.symm.trans i);have:=Lu Tryz.underlying162 Tryz.underlying3 Tryz.underlying3 rfl rfl kA kA (by kernel_rfl) l;rw[d];congr 1;rw[<- bAz];exact this
theorem nK{W:World}{f:String}{a b:Int}{g:Nat}(c:W.var? Tryz.prog f=some #[.int .i64 a,.int .i64 b])(h:Tryz.prog.globalNamed f=some g):(∀γ,RC (jE W) γ (.ref [ci a,ci b]) (.pointer (some ⟨g,0,none⟩)))/\∃o,jE W g=some o/\∃vs t z,o=.cells vs t z/\vs.size=[ci a,ci b].length:=by
 refine⟨fun γ=>.ref _ g 0 (fun j=>.int .i64 ([a,b].getD j 0)) (fun j d e=>?_) (fun j d e=>?_),?_⟩
 match j with
 |0=>injection e with e;subst e;exact .raw _ rfl
 |1=>injection e with e;subst e;exact .raw _ rfl
 |j+2=>simp at e
 match j with
 |0=>have:=World.var?_cell h c 0;exact (show W.cell? ⟨g,0,none⟩=some (.int .i64 a) by simpa using this)
 |1=>have:=World.var?_cell h c 1;exact (show W.cell? ⟨g,1,none⟩=some (.int .i64 b) by simpa using this)
 |j+2=>simp at e
 unfold World.var? at c;rw[h,aZs] at c;unfold jE;cases i:W.heap[g]? with
 |none=>rw[i] at c;cases c
 |some o=>
  rw[i] at c;cases o with
  |cells vs t z=>
   simp only[Option.some.injEq] at c;exact⟨_,rfl,_,_,_,rfl,by rw[c];rfl⟩
  |_=>simp at c
theorem Tryz.g_ls:Tryz.prog.globalNamed "depository/record.fieldLSN"=some 6:=by kernel_rfl
theorem Tryz.g_sq:Tryz.prog.globalNamed "depository/record.fieldSequence"=some 0:=by kernel_rfl
theorem Tryz.g_li:Tryz.prog.globalNamed "depository/record.fieldLinks"=some 1:=by kernel_rfl
theorem Tryz.g_fi:Tryz.prog.globalNamed "depository/record.fieldFirst"=some 7:=by kernel_rfl
theorem Tryz.g_fl:Tryz.prog.globalNamed "depository/record.fieldFlags"=some 2:=by kernel_rfl
theorem Tryz.g_en:Tryz.prog.globalNamed "depository/record.fieldEnd"=some 8:=by kernel_rfl
theorem Tryz.g_si:Tryz.prog.globalNamed "depository/record.fieldSize"=some 9:=by kernel_rfl
theorem Tryz.g_ba:Tryz.prog.globalNamed "depository/record.fieldBase"=some 3:=by kernel_rfl
theorem Tryz.g_bo:Tryz.prog.globalNamed "depository/record.fieldBaseOf"=some 4:=by kernel_rfl
theorem Tryz.g_nx:Tryz.prog.globalNamed "depository/record.fieldNext"=some 5:=by kernel_rfl
def GF:aE:=fun g=>
 if g=6 then some [ci 8,ci 4] else
 if g=0 then some [ci 16,ci 2] else
 if g=1 then some [ci 18,ci 2] else
 if g=7 then some [ci 20,ci 2] else
 if g=2 then some [ci 22,ci 2] else
 if g=8 then some [ci 24,ci 4] else
 if g=9 then some [ci 28,ci 4] else
 if g=3 then some [ci 32,ci 4] else
 if g=4 then some [ci 36,ci 2] else
 if g=5 then some [ci 38,ci 2] else
 none
theorem aVM:G9 GF:=⟨rfl,rfl,rfl,rfl,rfl,rfl,rfl,rfl,rfl,rfl⟩
theorem aVN{W:World}(h:laidMetH Tryz.prog Rows.tableWritesRow.laid W):fZ (jE W) GF:=by
 rw[MakeChecks.laidMetH_plain _ _ _ (by kernel_rfl)] at h;have h:=laidMet.tail h;have v:=nK (lF (a:=8) (b:=4) Tryz.g_ls (by kernel_rfl) h) Tryz.g_ls;have h:=laidMet.tail h;have y:=nK (lF (a:=16) (b:=2) Tryz.g_sq (by kernel_rfl) h) Tryz.g_sq;have h:=laidMet.tail h;have u:=nK (lF (a:=18) (b:=2) Tryz.g_li (by kernel_rfl) h) Tryz.g_li;have h:=laidMet.tail h;have s:=nK (lF (a:=20) (b:=2) Tryz.g_fi (by kernel_rfl) h) Tryz.g_fi;have h:=laidMet.tail h;have t:=nK (lF (a:=22) (b:=2) Tryz.g_fl (by kernel_rfl) h) Tryz.g_fl;have h:=laidMet.tail h;have r:=nK (lF (a:=24) (b:=4) Tryz.g_en (by kernel_rfl) h) Tryz.g_en;have h:=laidMet.tail h;have x:=nK (lF (a:=28) (b:=4) Tryz.g_si (by kernel_rfl) h) Tryz.g_si;have h:=laidMet.tail h;have p:=nK (lF (a:=32) (b:=4) Tryz.g_ba (by kernel_rfl) h) Tryz.g_ba;have h:=laidMet.tail h;have q:=nK (lF (a:=36) (b:=2) Tryz.g_bo (by kernel_rfl) h) Tryz.g_bo;have h:=laidMet.tail h;have w:=nK (lF (a:=38) (b:=2) Tryz.g_nx (by kernel_rfl) h) Tryz.g_nx;have h:=laidMet.tail h;refine⟨fun g cs c γ=>?_,fun g cs c=>?_⟩
 unfold GF at c;by_cases l:g=6;rw[if_pos l] at c;injection c with c
 subst c;subst l;exact v.1 γ;rw[if_neg l] at c;by_cases o:g=0;rw[if_pos o] at c;injection c with c
 subst c;subst o;exact y.1 γ;rw[if_neg o] at c;by_cases k:g=1;rw[if_pos k] at c;injection c with c
 subst c;subst k;exact u.1 γ;rw[if_neg k] at c;by_cases i:g=7;rw[if_pos i] at c;injection c with c
 subst c;subst i;exact s.1 γ;rw[if_neg i] at c;by_cases j:g=2;rw[if_pos j] at c;injection c with c
 subst c;subst j;exact t.1 γ;rw[if_neg j] at c;by_cases f:g=8;rw[if_pos f] at c;injection c with c
 subst c;subst f;exact r.1 γ;rw[if_neg f] at c;by_cases n:g=9;rw[if_pos n] at c;injection c with c
 subst c;subst n;exact x.1 γ;rw[if_neg n] at c;by_cases d:g=3;rw[if_pos d] at c;injection c with c
 subst c;subst d;exact p.1 γ;rw[if_neg d] at c;by_cases e:g=4;rw[if_pos e] at c;injection c with c
 subst c;subst e;exact q.1 γ;rw[if_neg e] at c;by_cases m:g=5;rw[if_pos m] at c;injection c with c
 subst c;subst m;exact w.1 γ;rw[if_neg m] at c;cases c;unfold GF at c;by_cases l:g=6;rw[if_pos l] at c;injection c with c
 subst c;subst l;exact v.2;rw[if_neg l] at c;by_cases o:g=0;rw[if_pos o] at c;injection c with c
 subst c;subst o;exact y.2;rw[if_neg o] at c;by_cases k:g=1;rw[if_pos k] at c;injection c with c
 subst c;subst k;exact u.2;rw[if_neg k] at c;by_cases i:g=7;rw[if_pos i] at c;injection c with c
 subst c;subst i;exact s.2;rw[if_neg i] at c;by_cases j:g=2;rw[if_pos j] at c;injection c with c
 subst c;subst j;exact t.2;rw[if_neg j] at c;by_cases f:g=8;rw[if_pos f] at c;injection c with c
 subst c;subst f;exact r.2;rw[if_neg f] at c;by_cases n:g=9;rw[if_pos n] at c;injection c with c
 subst c;subst n;exact x.2;rw[if_neg n] at c;by_cases d:g=3;rw[if_pos d] at c;injection c with c
 subst c;subst d;exact p.2;rw[if_neg d] at c;by_cases e:g=4;rw[if_pos e] at c;injection c with c
 subst c;subst e;exact q.2;rw[if_neg e] at c;by_cases m:g=5;rw[if_pos m] at c;injection c with c
 subst c;subst m;exact w.2;rw[if_neg m] at c;cases c
section
variable {H:Type}{enc:TypeId×Value->H}
theorem K4{a:Assume}{C:Checked}{os:Os}{f:FuncId}{fn:Func}{s:ChangeSpec}{m:L PathCond}{c n h l:Bool}{X:World->Array Value->Prop} (N:∀(w w':World)(b:Array Value),w.heap=w'.heap->X w b->X w' b) (K:ownKnob C.prog.godebug=none) (o:os.Started) (q:C.prog.inits.idxOf? f=none) (E:C.prog.funcs[f]?=some fn) (p:∃ (w:World) (d:Tape) (i:Input),w.os=os/\(w.forCall d i).Shaped C.prog/\i.vars=[]/\Input.okWide C.prog (w.forCall d i) .any w.heap.size f i/\ ((s.pre enc C.prog fn m c (w.forCall d i).memory i.args/\X (w.forCall d i).memory i.args)/\sizedMet enc C.prog fn (OpenSpec.ofChange s) c (w.forCall d i).memory i.args)/\a.holds C.prog (lone (Frame.enter C.prog f i.args .normal) [] (w.forCall d i))) (k:∀ (W:World) (r:Nat) (b:Array Value) (A D:L (DataW H)) (g:L MemPlace),(∀ (j:Nat) t v,fn.params[j]?=some t->b[j]?=some v->Value.okWide C.prog W .any r t v)-> DataW.Whole enc C.prog fn.params.toList s.vars c W b.toList A D g-> X W b->W.ShapedOpen C.prog->
   Calls C.prog f b W fun e M=>∃ v,e=.returned v/\s.post enc C.prog fn c n h l W b v M):
  ReturnsInHanded a C os f .any (fun w b=>(s.pre enc C.prog fn m c w b/\X w b)/\sizedMet enc C.prog fn (OpenSpec.ofChange s) c w b) (s.post enc C.prog fn c n h l):=by
 refine returnsInHanded_of_calls K o q p ?_;intro w d i _ I _ F x z;obtain⟨_,_,_,B,u,_,_,_,_,y⟩:=F;have e:B=fn:=Option.some.inj (u.symm.trans E);subst e;obtain⟨⟨⟨A,D,g,P,R⟩,Q⟩,S⟩:=x;have J:=DataW.Whole.of_heap (w':=w.forCall d i) (by rfl) P;refine (k (w.forCall d i) w.heap.size i.args A D g y J (N _ _ _ (by rfl) Q) I).mono fun e M ⟨v,O,hp⟩=>?_
 subst O;exact ChangeSpec.post_blind hp
end
theorem aVO{G:aE}:EV G (Tb (dX G true)) 4 [] []=some (vb true,[]):=jO rfl rfl
theorem aIu{m:Nat}{av:AV}(h:okA Tryz.prog (m+1) 9 av):∃l:L Int,av=sv l/\aH l/\l.length<=9223372036854775807:=by
 obtain⟨s,rfl,a⟩:=Yc Tryz.underlying9 h;obtain⟨l,b,rfl⟩:=Z9 s;rw[aC] at a;exact⟨l,rfl,b,by unfold maxLen at a;omega⟩
theorem aIv{m:Nat}{av:AV}(h:okA Tryz.prog (m+1) 3 av):∃i:Int,av=vi i/\qP i:=by
 obtain⟨d,rfl,a⟩:=Qk (by kernel_rfl) h;obtain⟨i,rfl,b⟩:=nF a;exact⟨i,rfl,b⟩
abbrev aRx:Value:=.agg #[.int .i64 0,.int .i64 0,.int .i64 0,.int .i64 0,.int .i64 0,.int .i64 0,.int .i64 0,.slice none 0 0]
end
section
open Go
set_option maxRecDepth 100000
theorem Fp:false=Rows.tableWritesRow.goesBy Tryz.pinned.checked.prog:=by kernel_rfl
end
section
variable {G:aE}{bb:Bool}
noncomputable def vwV(s:L Int):(Bt×L aV×Int)×Int:=if nX s=0 then (((aX s).1,(lI s).rs,(qO s:Int)),0) else ((nB,[],0),nX s)
abbrev aXO(p:(Bt×L aV×Int)×Int):AV:=.tup [.agg [.dc (ci p.1.1.cl),.dc (ci p.1.1.tb),.dc (ci p.1.1.mi),.dc (ci p.1.1.lg),.dc (ci p.1.1.lc),.dc (ci p.1.1.se),.dc (.slc (p.1.2.1.map aV.e)),.dc (ci p.1.2.2)],tE p.2]
noncomputable def By(s:L Int)(C:L Int)(n:Nat):L Int:=kI s (C.getD (2*n) 0).toNat (C.getD (2*n+1) 0).toNat
def miB(s:L Int)(x:Bt)(n:Nat):L Int:=kI s (x.mi.toNat+2*n) (x.mi.toNat+2*n+1)
end
section
variable {G:aE}{bb:Bool}
theorem Ht(s t:L Int)(a:Nat)(h:a+t.length<=s.length)(b:s.length<=1000000):EV G (Tb (bs bb)) 70 [sv s,vi a,sv t] []=some (sv (gI s a t),[]):=by
 refine aA rfl ?_;have e:((a:Int)+(t.length:Int)).toNat=a+t.length:=by omega
 unfold gI;simp (disch:=first|omega|(simp only[aZa,aZb,aZc,aY9,aB,aZg,aZd,aZh,aC,aP]<;>omega)|fail) only[go_sem,h70c,aC,aZy,Int.toNat_zero,aZW,e,aZd,aZh]
theorem aRy(s:L Int)(n:Int)(b:s.length=512)(i:0<=n/\n<=9223372036854775807):EV G (Tb (bs bb)) 121 [sv s,vi n] []=some (sv (nI s n 8),[]):=by
 refine aA rfl ?_;have c:=mH (G:=G) (bb:=bb) n i;simp (disch:=first|omega|(simp only[aZa,aZb,aZc,aY9,aB,aZg,aZd,aZh,aC,aP]<;>omega)|fail) only[go_sem,h121c,c]
 rw[aQ (fun k=>⟨(sv (Co s n k).2::vi n::jk 3 (sv (Co s n k).1::vi ((k:Int)+1)::jk 25 [])),[]⟩) 8 ?_ ?_]
 obtain⟨j,l,_,_⟩:=aAu (n:=n) b 8 (by omega);have a:EV G (Tb (bs bb)) 70 [sv (Co s n 8).2,vi 40,sv (Co s n 8).1] []=some (sv (gI (Co s n 8).2 40 (Co s n 8).1),[]):=Ht (G:=G) (bb:=bb) (Co s n 8).2 (Co s n 8).1 40 (by omega) (by omega);rw[aLQ b] at a;simp (disch:=first|omega|(simp only[aZa,aZb,aZc,aY9,aB,aZg,aZd,aZh,aC,aP]<;>omega)|fail) only[go_sem,h121l0,a]
 rfl;intro k o;obtain⟨j,l,_,_⟩:=aAu (n:=n) b k (by omega);have h:Co s n (k+1)=((Co s n k).1++gY (Co s n k).2 (64*k+62),gI (Co s n k).2 (64*k+62) (bJ n 2)):=rfl;rw[h];have a:=Ht (G:=G) (bb:=bb) (Co s n k).2 (bJ n 2) (64*k+62) (by rw[aB];omega) (by omega);have e:((k:Int)+1)*64-2=((64*k+62:Nat):Int):=by omega
 have p:64*k+62+2<=512:=by omega
 generalize 64*k+62=m at *;have f:((m:Int)+2).toNat=m+2:=by omega
 generalize Co s n k=z at *;obtain⟨q,d⟩:=z;dsimp only at *;have g:(d.take (m+2)).drop m=gY d m:=by rw[bAn,bAy]
 simp (disch:=first|omega|(simp only[aZa,aZb,aZc,aY9,aB,aZg,aZd,aZh,aC,aP]<;>omega)|fail) only[go_sem,h121l0,e,c,a,f,g,aZy]
theorem aIw{s:L Int}(c:aH s){a b:Nat}(e:a+2<=s.length)(f:b+2<=s.length):gL s a 2=gL s b 2↔gY s a=gY s b:=by
 rw[aHf e,aHf f,qV e,qV f];have j:=qW c a;have k:=qW c (a+1);have h3:=qW c b;have h4:=qW c (b+1);constructor;intro h;have g:s.getD a 0=s.getD b 0:=by omega
 have i:s.getD (a+1) 0=s.getD (b+1) 0:=by omega
 rw[g,i];intro h;injection h with h d
 injection d with d _
 rw[h,d]
open Classical in
theorem aMX(s:L Int)(r:s.length=512)(d:aH s):EV G (Tb (bs bb)) 66 [sv s] []=some (if jY s then .tup [.one (.dc (.raw (.string (fF (eU s))))),.one (.dc (.raw (.bool true)))] else .tup [.one (.dc (.raw (.string (fF [])))),.one (.dc (.raw (.bool false)))],[]):=by
 refine aA rfl ?_;have E:EV G (Tb (bs bb)) 67 [sv s,vi 40,vi 2] []=some (vi (gS s),[]):=cY (G:=G) (bb:=bb) s d 40 2 (by omega) (by omega) (by omega);have I:EV G (Tb (bs bb)) 119 [vi 18] []=some (sv (zl 18),[]):=mI (G:=G) (bb:=bb) 18 (by decide);have F:EV G (Tb (bs bb)) 70 [sv s,vi 40,sv (zl 18)] []=some (sv (Xi s 0),[]):=Ht (G:=G) (bb:=bb) s (zl 18) 40 (by rw[aP];omega) (by omega);have l:jY s↔∀i,i<8->¬ (gS s=0\/gL s (64*i+62) 2≠gS s):=by
  unfold jY gS;constructor;rintro⟨b,B⟩ i o h;rcases h with h|h
  exact b h;exact h ((aIw d (by omega) (by omega)).2 (B i o));intro h;refine⟨fun A=>h 0 (by decide) (.inl A),fun i o=>?_⟩
  exact (aIw d (by omega) (by omega)).1 (Classical.byContradiction fun b=>h i o (.inr b))
 simp (disch:=first|omega|(simp only[aZa,aZb,aZc,aY9,aB,aZg,aZd,aZh,aC,aP]<;>omega)|fail) only[go_sem,h66c,E,I,F]
 rw[dP (fun k=>⟨(sv s::jk 3 (vi (gS s)::sv (Xi s k)::vi ((k:Int)+1)::jk 35 [])),[]⟩) (fun i=>gS s=0\/gL s (64*i+62) 2≠gS s) 8 ?_ ?_]
 rotate_left
 rfl;intro k D e;have b:=e k (aZe _);have f:¬ gS s=0:=fun h=>b (.inl h)
 have q:gL s (64*k+62) 2=gS s:=Classical.byContradiction fun h=>b (.inr h)
 clear b e l;have n:EV G (Tb (bs bb)) 67 [sv s,vi ((64*k+62:Nat):Int),vi 2] []=some (vi (gL s (64*k+62) 2),[]):=cY (G:=G) (bb:=bb) s d (64*k+62) 2 (by omega) (by omega) (by omega);rw[q] at n;have K:=(aHe r k (by omega)).1;have J:=lD (s:=s) (a:=42+2*k) (by omega);have t:=Ht (G:=G) (bb:=bb) (Xi s k) (gY s (42+2*k)) (64*k+62) (by omega) (by omega);have C:Xi s (k+1)=gI (Xi s k) (64*k+62) (gY s (42+2*k)):=rfl;rw[<- C] at t;have j:((k:Int)+1)*64-2=((64*k+62:Nat):Int):=by omega
 have u:40+2*((k:Int)+1)=((42+2*k:Nat):Int):=by omega
 have v:(s.take (42+2*k+2)).drop (42+2*k)=gY s (42+2*k):=by rw[bAn,bAy]
 have M:42+2*k+2<=512:=by omega
 generalize gS s=w at *;generalize 64*k+62=m at *;generalize 42+2*k=c at *;have x:((c:Int)+2).toNat=c+2:=by omega
 generalize gY s c=y at *;generalize Xi s (k+1)=N at *;generalize Xi s k=z at *;simp (disch:=first|omega|(simp only[aZa,aZb,aZc,aY9,aB,aZg,aZd,aZh,aC,aP]<;>omega)|fail) only[go_sem,h66l0,j,u,n,t,f,v,x,aZy]
 obtain⟨D,hp,e⟩:=bI (fun i=>gS s=0\/gL s (64*i+62) 2≠gS s) 8
 generalize ix (fun i=>gS s=0\/gL s (64*i+62) 2≠gS s) 8=k at *
 rcases hp with rfl|⟨p,hp⟩;rw[if_pos (l.2 e),<- aLR r];simp (disch:=first|omega|(simp only[aZa,aZb,aZc,aY9,aB,aZg,aZd,aZh,aC,aP]<;>omega)|fail) only[go_sem,h66l0]
 rw[if_neg (fun h=>l.1 h k p hp)]
 clear e l;have n:EV G (Tb (bs bb)) 67 [sv s,vi ((64*k+62:Nat):Int),vi 2] []=some (vi (gL s (64*k+62) 2),[]):=cY (G:=G) (bb:=bb) s d (64*k+62) 2 (by omega) (by omega) (by omega);have j:((k:Int)+1)*64-2=((64*k+62:Nat):Int):=by omega
 generalize gL s (64*k+62) 2=g at *;generalize gS s=w at *;generalize 64*k+62=m at *;by_cases f:w=0
 ·simp (disch:=first|omega|(simp only[aZa,aZb,aZc,aY9,aB,aZg,aZd,aZh,aC,aP]<;>omega)|fail) only[go_sem,h66l0,j,eq_true f]
  all_goals rfl
 ·have q:¬ g=w:=by rcases hp with h|h;exact absurd h f;exact h
  simp (disch:=first|omega|(simp only[aZa,aZb,aZc,aY9,aB,aZg,aZd,aZh,aC,aP]<;>omega)|fail) only[go_sem,h66l0,j,n,f,q]
  all_goals rfl
end
section
variable {G:aE}{bb:Bool}
structure aXP (r:cI) (u:Int):Prop where
 ls:0<=r.ls/\r.ls<=9223372036854775807
 sq:0<=r.sq/\r.sq<=9223372036854775807
 li:0<=r.li/\r.li<=9223372036854775807
 fl:0<=r.fl/\r.fl<=9223372036854775807
 br:0<=r.br/\r.br<=9223372036854775807
 bq:0<=r.bq/\r.bq<=9223372036854775807
 nx:0<=r.nx/\r.nx<=9223372036854775807
 us:0<=u/\u<=9223372036854775807
abbrev fds(r:cI)(u:Int):AV:=.agg [.dc (ci r.ls),.dc (ci r.sq),.dc (ci r.li),.dc (ci r.fl),.dc (ci u),.dc (ci r.br),.dc (ci r.bq),.dc (ci r.nx)]
theorem Vd(r:cI)(u:Int)(a:aXP r u)(b:L Int)(g:b.length<=444)(n:Int)(o:0<=n/\n<=9223372036854775807):EV G (Tb (kS bb)) 68 [fds r u,sv b,vi n] []=some (sv (nI (iT r u b) n 8),[]):=by
 refine aA rfl ?_;have B:EV G (Tb (kS bb)) 119 [vi 4] []=some (sv (zl 4),[]):=up (mI (G:=G) (bb:=bb) 4 (by decide));have f:EV G (Tb (kS bb)) 119 [vi 24] []=some (sv (zl 24),[]):=up (mI (G:=G) (bb:=bb) 24 (by decide));have C:EV G (Tb (kS bb)) 119 [vi ((444-b.length:Nat):Int)] []=some (sv (zl (444-b.length)),[]):=up (mI (G:=G) (bb:=bb) (444-b.length) (by omega));have q:=up (qT (G:=G) (bb:=bb) r.ls a.ls);have s:=up (mH (G:=G) (bb:=bb) r.sq a.sq);have t:=up (mH (G:=G) (bb:=bb) r.li a.li);have v:=up (mH (G:=G) (bb:=bb) 64 (by decide));have w:=up (mH (G:=G) (bb:=bb) r.fl a.fl);have x:=up (qT (G:=G) (bb:=bb) u a.us);have y:=up (qT (G:=G) (bb:=bb) 512 (by decide));have z:=up (qT (G:=G) (bb:=bb) r.br a.br);have A:=up (mH (G:=G) (bb:=bb) r.bq a.bq);have d:=up (mH (G:=G) (bb:=bb) r.nx a.nx);have p:=up (aRy (G:=G) (bb:=bb) (iT r u b) n (A5 r u b g) o);obtain⟨H,c⟩:∃H:L Int,H=[70,73,76,69]:=⟨_,rfl⟩;have i:(⟨#[70,73,76,69]⟩:ByteArray)=fF H:=by rw[c];rfl
 have e:H.length=4:=by rw[c];rfl
 have j:(⟨#[255,255,255,255]⟩:ByteArray)=fF sL:=rfl;have h:sL.length=4:=rfl;have D:=A5 r u b g;have m:fF (H++(zl 4++(bJ r.ls 4++(zl 4++(bJ r.sq 2++(bJ r.li 2++(bJ 64 2++(bJ r.fl 2++(bJ u 4++(bJ 512 4++(bJ r.br 4++(bJ r.bq 2++(bJ r.nx 2++(zl 24++(b++(sL++zl (444-b.length)))))))))))))))))=fF (iT r u b):=by
  rw[c];unfold iT rhd;simp only[aZr]
 have k:(64:Int)-((H++(zl 4++(bJ r.ls 4++(zl 4++(bJ r.sq 2++(bJ r.li 2++(bJ 64 2++(bJ r.fl 2++(bJ u 4++(bJ 512 4++(bJ r.br 4++(bJ r.bq 2++bJ r.nx 2)))))))))))).length:Int)=24:=by
  simp only[aZa,aB,aP,e];omega
 have l:(512:Int)-((H++(zl 4++(bJ r.ls 4++(zl 4++(bJ r.sq 2++(bJ r.li 2++(bJ 64 2++(bJ r.fl 2++(bJ u 4++(bJ 512 4++(bJ r.br 4++(bJ r.bq 2++(bJ r.nx 2++(zl 24++(b++sL))))))))))))))).length:Int)=((444-b.length:Nat):Int):=by
  simp only[aZa,aB,aP,e,h];omega
 clear c;generalize iT r u b=X at *;simp (maxSteps:=2000000) (disch:=first|omega|(simp only[aZa,aZb,aZc,aY9,aB,aZg,aZd,aZh,aC,aP,e,h]<;>omega)|fail) only[go_sem,h68c,B,f,C,q,s,t,v,w,x,y,z,A,d,p,i,j,k,l,aZr,m,aC]
theorem aA3(r:cI)(m:r.W)(h:dR r=0)(n:Int)(p:0<=n/\n<=9223372036854775807):EV G (Tb (kS bb)) 27 [r.v,vi n] []=some (sv (kW r n),[]):=by
 refine aA rfl ?_;have a:=oZ h;have i:=J7 a;have o:=a.ln;simp (disch:=omega) only[go_sem,h27c];rw[aQ (fun k=>⟨(jk 1 (vi n::.one (.ptr 0 0)::jk 2 (sv (((r.ats.take k).map fJ).flatten)::vi k::jk 39 []))),[.box r.c]⟩) r.ats.length ?_ ?_]
 obtain⟨n1,t,u,w,y⟩:=a.num;obtain⟨z,A⟩:=a.base;have q:=Vd (G:=G) (bb:=bb) r (68+(gV r).length) ⟨by omega,by omega,by omega,by omega,by omega,by omega,by omega,by omega⟩ (gV r) (by omega) n p;have e:((r.ats.take r.ats.length).map fJ).flatten=gV r:=by rw[aZO];rfl
 have j:(64:Int)+((gV r).length:Int)+4=68+((gV r).length:Int):=by omega
 rw[e];unfold kW;generalize gV r=b at *;simp (maxSteps:=2000000) (disch:=first|omega|(simp only[aZa,aZb,aZc,aY9,aB,aZg,aZd,aZh,aC,aP]<;>omega)|fail) only[go_sem,h27l0,aY9,j,q,aC]
 rfl;intro k g;have f:=a.errs.1 _ (aZk g);have d:=m.at' _ (aZk g);have q:=up (Jt (G:=G) (bb:=bb) r.ats[k] (mJ d f));rw[<- (D7 d f).1] at q;have e:((r.ats.take (k+1)).map fJ).flatten=((r.ats.take k).map fJ).flatten++fJ r.ats[k]:=by
  rw[aZ5 g,aZQ,List.flatten_append];simp
 have s:(((r.ats.take k).map fJ).flatten).length+(fJ r.ats[k]).length<=440:=by
  rw[<- aZa,<- e];have:r.ats=r.ats.take (k+1)++r.ats.drop (k+1):=(bAc _ _).symm;have l:gV r=((r.ats.take (k+1)).map fJ).flatten++((r.ats.drop (k+1)).map fJ).flatten:=by
   unfold gV
   conv=>lhs;rw[this]
   rw[aZQ,List.flatten_append]
  rw[l,aZa] at i;omega
 rw[e];generalize ((r.ats.take k).map fJ).flatten=C at *;generalize fJ r.ats[k]=E at *;have ix:=ixA r.ats k g;generalize r.ats[k]=x at *;simp (maxSteps:=2000000) (disch:=first|omega|(simp only[aZa,aZb,aZc,aY9,aB,aZg,aZd,aZh,aC,aP]<;>omega)|fail) only[go_sem,h27l0,aY9,ix,aK.e,q,aC]
end
section
variable {G:aE}{bb:Bool}
abbrev LR:L Nat:=[0,1,1,1,0,0,0]
abbrev rv9:L lK:=[.cell 2 true 9,.tmp 3]
abbrev K5(s o:L Int)(c:L DC)(u:Int)(b:Nat)(a:L (L Int)):AS:=
 ⟨(sv s::jk 1 (.one (.ptr 0 0)::jk 1 (sv o::jk 1 (.one (.ptr 1 0)::vi u::.one (.bld 2 a.length)::vi b::jk 152 [])))),[.box z9,.box (oR c),.arr 0 1 (a.map qF)]⟩
theorem aIx(o:L Int)(a n:Nat):(o.take (a+n)).drop a=(o.drop a).take n:=by rw[bAn,bAy]
theorem aMZ(o:L Int)(a i k:Nat):gL (o.drop a) i k=gL o (a+i) k:=by unfold gL;rw[aZ6]
theorem Ve(s o:L Int)(t:L DC)(u:Int)(R:o.length=512)(p:aH o)(X:HC):∀(k at':Nat)(a:L (L Int)),512-at'<k->at'<=512->a.length+(512-at')<=1000-> (∀w,sM k (o.drop at')=some w->qL false rv9 0 (sqK (EV G (Tb (lP G bb))) G (.trm LR X) (Bg 0 (EL (EV G (Tb (lP G bb))) G h25l0 LR 3 (K5 s o t u at' a))))=qL false rv9 0 (EC (EV G (Tb (lP G bb))) G X (K5 s o t u (at'+w.flatten.length) (a++w))))/\ (sM k (o.drop at')=none->qL false rv9 0 (sqK (EV G (Tb (lP G bb))) G (.trm LR X) (Bg 0 (EL (EV G (Tb (lP G bb))) G h25l0 LR 3 (K5 s o t u at' a))))=some (dcv (.nil,0,3),[])\/ ∃ b r,508 < b/\b<=512/\r.length<=1000/\qL false rv9 0 (sqK (EV G (Tb (lP G bb))) G (.trm LR X) (Bg 0 (EL (EV G (Tb (lP G bb))) G h25l0 LR 3 (K5 s o t u at' a))))=qL false rv9 0 (EC (EV G (Tb (lP G bb))) G X (K5 s o t u b r)))
 |0,at',a,h,_,_=>by omega
 | k+1,at',a,h,M,hA=>by
  have E:gG 1 (a.map qF)=true:=jP (f:=qF) (fun _=>rfl) _
  have N:(a.map qF).take a.length=a.map qF:=aZI (by rw[aY9];exact aZe _);have m:(o.drop at').length=512 - at':=by rw[aZh,R]
  rw[zY,sM];by_cases c0:at'+4<=512
  ·have c:(at':Int)+4<=512:=by omega
   have B:((at':Int)+4).toNat=at'+4:=by omega
   have D:(o.take (at'+4)).drop at'=(o.drop at').take 4:=aIx o at' 4;have v:(fF ((o.drop at').take 4)=⟨#[255,255,255,255]⟩)=((o.drop at').take 4=sL):=dA (fun x Y=>p x (aZM (aZA Y))) Hk
   by_cases z:(o.drop at').take 4=sL
   ·refine⟨fun w hp=>?_,fun hp=>?_⟩
    ·rw[if_pos z] at hp;injection hp with hp
     subst hp;rw[eq_true z] at v;rw[aZ9,List.flatten_nil,aZc,aZY];simp (disch:=first | omega | (simp only[aZa,aZb,aZc,aY9,aB,aZg,aZd,aZh,aC,aP]<;>omega) | fail) only[go_sem,h25l0,eq_true c,B,D,v,aZy,aY9]
     all_goals rfl
    ·rw[if_pos z] at hp;cases hp
   ·rw[if_neg z];rw[eq_false z] at v;by_cases c2:at'+8<=512
    ·have i:(at':Int)+8<=512:=by omega
     have q:EV G (Tb (lP G bb)) 67 [sv o,vi ((at':Int)+4),vi 4] []=some (vi (gL o (at'+4) 4),[]):=by
      have:=sO (up (cY (G:=G) (bb:=bb) o p (at'+4) 4 (by omega) (by omega) (by omega)));rw[aZ3] at this;exact this
     have V:=Bn p (at'+4) 4 (by omega) (by omega);have Q:gL o (at'+4) 4=(pZ (o.drop at'):Int):=by unfold pZ;rw[aMZ];omega
     rw[Q] at q;have I:Ff (o.drop at')↔pZ (o.drop at') % 8≠0\/pZ (o.drop at') < 24\/(o.drop at').length < pZ (o.drop at')+4:=Iff.rfl;have W:(pZ (o.drop at'):Int)<=4294967295:=by omega
     clear V Q;generalize pZ (o.drop at')=n at *;have C:((n:Int).tmod 8)=((n % 8:Nat):Int):=rfl;by_cases F:n % 8≠0\/n < 24\/(o.drop at').length < n+4
     ·have j:∀ {x:Option (L (L Int))},(if (o.drop at').length < 24 then none else if Ff (o.drop at') then none else x)=none:=fun {x}=>by
       split
       ·rfl
       ·rw[if_pos (I.2 F)]
      refine⟨fun w hp=>?_,fun _=>.inl ?_⟩
      ·rw[j] at hp;cases hp
      ·rw[m] at F;clear I j;by_cases Z:n % 8=0
       ·have g:(n:Int).tmod 8=0:=by rw[C,Z];rfl
        clear C;by_cases x2:n < 24
        ·have l:(n:Int) < 24:=by omega
         simp (disch:=first | omega | (simp only[aZa,aZb,aZc,aY9,aB,aZg,aZd,aZh,aC,aP]<;>omega) | fail) only[go_sem,h25l0,eq_true c,eq_true i,B,D,v,q,eq_true g,eq_true l,aZy,aY9,cI.nil]
         all_goals rfl
        ·have l:¬ (n:Int) < 24:=by omega
         have A:512 < (at':Int)+n+4:=by omega
         simp (disch:=first | omega | (simp only[aZa,aZb,aZc,aY9,aB,aZg,aZd,aZh,aC,aP]<;>omega) | fail) only[go_sem,h25l0,eq_true c,eq_true i,B,D,v,q,eq_true g,l,eq_true A,aZy,aY9,cI.nil]
         all_goals rfl
       ·have g:¬ (n:Int).tmod 8=0:=by rw[C];omega
        clear C;simp (disch:=first | omega | (simp only[aZa,aZb,aZc,aY9,aB,aZg,aZd,aZh,aC,aP]<;>omega) | fail) only[go_sem,h25l0,eq_true c,eq_true i,B,D,v,q,g,aZy,aY9,cI.nil]
        all_goals rfl
     ·have U:512 - (at'+n) < k:=by omega
      have d:¬ (o.drop at').length < 24:=by omega
      rw[if_neg d,if_neg (fun x=>F (I.1 x))]
      rw[m] at F;have O:=Ve s o t u R p X k (at'+n) (a++[(o.drop at').take n]) U (by omega) (by rw[aZa];simp;omega);have g:(n:Int).tmod 8=0:=by rw[C];omega
      clear C I;have l:¬ (n:Int) < 24:=by omega
      have A:¬ 512 < (at':Int)+n+4:=by omega
      have S:((at':Int)+n).toNat=at'+n:=by omega
      have K:(o.take (at'+n)).drop at'=(o.drop at').take n:=aIx o at' n;have y:fnK (EV G (Tb (lP G bb))) G h25l0 LR 3 (EC (EV G (Tb (lP G bb))) G h25l0 (K5 s o t u at' a))=EL (EV G (Tb (lP G bb))) G h25l0 LR 3 (K5 s o t u (at'+n) (a++[(o.drop at').take n])):=by
       refine aHt ?_;unfold K5;rw[aZa,aZQ,aZ3];simp (disch:=first | omega | (simp only[aZa,aZb,aZc,aY9,aB,aZg,aZd,aZh,aC,aP]<;>omega) | fail) only[go_sem,h25l0,eq_true c,eq_true i,B,D,v,q,eq_true g,l,A,S,K,aZy,aY9,E,N,aZe,aZl,aZm,aZb,aZc]
      have J:o.drop (at'+n)=(o.drop at').drop n:=by rw[aZ6]
      rw[J] at O;rw[y];clear y;refine⟨fun w hp=>?_,fun hp=>?_⟩
      ·obtain⟨P,T,rfl⟩:=Option.map_eq_some_iff.1 hp;have:=O.1 P (by rw[<- T]);rw[this];have el:at'+n+P.flatten.length=at'+((o.drop at').take n::P).flatten.length:=by
        rw[aZ7,aZa,aZd,m];omega
       rw[el];simp only[aZr,List.singleton_append]
      ·exact O.2 (by simpa using hp)
    ·have i:¬ (at':Int)+8<=512:=by omega
     have d:(o.drop at').length < 24:=by omega
     rw[if_pos d];refine⟨fun w hp=>(by cases hp),fun _=>.inl ?_⟩
     have g:(0:Int).tmod 8=0:=rfl;simp (disch:=first | omega | (simp only[aZa,aZb,aZc,aY9,aB,aZg,aZd,aZh,aC,aP]<;>omega) | fail) only[go_sem,h25l0,eq_true c,i,B,D,v,g,aZy,aY9,cI.nil]
     all_goals rfl
  ·have c:¬ (at':Int)+4<=512:=by omega
   have z:¬ (o.drop at').take 4=sL:=fun h=>by
    have:=congrArg List.length h;rw[aZd,m] at this;have e:sL.length=4:=rfl;omega
   have d:(o.drop at').length < 24:=by omega
   rw[if_neg z,if_pos d];refine⟨fun w hp=>(by cases hp),fun _=>.inr ⟨at',a,by omega,M,by omega, ?_⟩⟩
   simp (disch:=first | omega | (simp only[aZa,aZb,aZc,aY9,aB,aZg,aZd,aZh,aC,aP]<;>omega) | fail) only[go_sem,h25l0,c,aZy,aY9]
   all_goals rfl
end
section
variable {G:aE}{bb:Bool}
def sH:HC->HC
 |.gh _ a=>a
 |c=>c
def oP:HC:=sT (sB (sB (sH (sB (sB (sB (sB (sB (sB (sB h25c))))))))))
def Ql:HC:=sB (sH (sB (sB oP)))
abbrev fd8(o:L Int):L DC:=[ci (gL o 8 4),ci (gL o 16 2),ci (gL o 18 2),ci (gL o 22 2),ci (gL o 24 4),ci (gL o 32 4),ci (gL o 36 2),ci (gL o 38 2)]
theorem aM0(s o:L Int)(d:L DC)(u:Int)(b:Nat)(e:508<b/\b<=512)(a:L (L Int)):qL false rv9 0 (EC (EV G (Tb (lP G bb))) G oP (K5 s o d u b a))=some (aQ4 3,[]):=by
 have c:512<(b:Int)+4:=by omega
 simp (disch:=first|omega|(simp only[aZa,aZb,aZc,aY9,aB,aZg,aZd,aZh,aC,aP]<;>omega)|fail) only[go_sem,oP,sT,sB,sH,h25c,eq_true c]
theorem aM1(o:List Int)(u:Int)(a:List (List Int))(K:a.length<=1000)(b:∀k (g:k<a.length),EV G (Tb (lP G bb)) 69 [sv a[k]] []=some (rtv (bO a[k]),[])) (l:EV G (Tb (lP G bb)) 23 [(dV o (iN a).1).v] []=some (vi (dR (dV o (iN a).1)),[])) {st:AS} (y:st=⟨(jk 2 (.one (.ptr 0 0)::jk 4 (vi u::.one (.bld 2 a.length)::jk 2 (.one (.ptr 3 0)::vi (0:Nat)::jk 149 [])))),[.box z9,.box (oR (fd8 o)),.arr 0 1 (a.map qF),.box (r9 o++[.bld 4 0]),.arr 0 11 []]⟩):qL false rv9 0 (sqK (EV G (Tb (lP G bb))) G Ql (Bg 2 (EL (EV G (Tb (lP G bb))) G h25l1 [2,4,0,2,0] 5 st)))=some (dcv (U3 o u (iN a)),[]):=by
 have h:∀k (g:k<a.length),(a.map qF)[k]?=some (qF a[k]):=fun k g=>by rw[aZj,aZi g];rfl
 have q:∀k (g:k<a.length),a.getD k []=a[k]:=fun k g=>by simp[List.getD,g]
 rw[dP (fun k=>⟨(jk 2 (.one (.ptr 0 0)::jk 4 (vi u::.one (.bld 2 a.length)::jk 2 (.one (.ptr 3 0)::vi k::jk 149 [])))),[.box z9,.box (oR (fd8 o)),.arr 0 1 (a.map qF),.box (r9 o++[.bld 4 ((a.take k).map fun p=>(bO p).1.e).length]),.arr 0 11 ((a.take k).map fun p=>(bO p).1.e)]⟩) (fun k=>(bO (a.getD k [])).2≠0) a.length ?_ ?_]
 rotate_left
 rw[y];rfl;intro k g n;have D:=Classical.not_not.1 (n k (aZe _));rw[q k g] at D;have t:=b k g;have e:=h k g;have N:((a.take k).map fun p=>(bO p).1.e).length<=1000:=by rw[aY9,aZd];omega
 have s:gG 11 ((a.take k).map fun p=>(bO p).1.e)=true:=jP (f:=fun p=>(bO p).1.e) (fun _=>rfl) _
 have F:(a.take (k+1)).map (fun p=>(bO p).1.e)=(a.take k).map (fun p=>(bO p).1.e)++[(bO a[k]).1.e]:=by
  rw[aZ5 g,aZQ,aZl,aZm]
 rw[F];clear l b h q y n F;have B:((a.take k).map fun p=>(bO p).1.e).take ((a.take k).map fun p=>(bO p).1.e).length=(a.take k).map fun p=>(bO p).1.e:=aZO
 generalize (a.take k).map (fun p=>(bO p).1.e)=C at *
 generalize bO a[k]=d at *;obtain⟨x,z⟩:=d;dsimp only at D t ⊢;subst D;generalize a[k]=p at *;rw[aZa];simp (disch:=omega) only[go_sem,h25l1,aY9,e,t,aK.e,s,B,aZb,aZc,aZe,aZp,aZn,aZ0];obtain⟨g,hp,n⟩:=bI (fun k=>(bO (a.getD k [])).2≠0) a.length
 generalize ix (fun k=>(bO (a.getD k [])).2≠0) a.length=k at *
 rcases hp with rfl|⟨i,hp⟩
 have r:=Kr a (fun p hp=>by
  obtain⟨j,A,rfl⟩:=List.mem_iff_getElem.1 hp;have:=Classical.not_not.1 (n j A);rwa[q j A] at this)
 have E:(a.take a.length).map (fun p=>(bO p).1.e)=(a.map fun p=>(bO p).1).map aK.e:=by rw[aZO,aZG];rfl
 have m:((a.map fun p=>(bO p).1).map aK.e).length=a.length:=by simp
 have I:((a.map fun p=>(bO p).1).map aK.e).take a.length=(a.map fun p=>(bO p).1).map aK.e:=aZI (by omega)
 rw[E,m];rw[r] at l ⊢;unfold U3;rw[if_neg (not_not_intro rfl)];dsimp only at l ⊢;clear b h q y r E n;generalize (a.map fun p=>(bO p).1)=L at *
 by_cases w:dR (dV o L)=0;rw[if_neg (not_not_intro w)];rw[w] at l;simp only[dV,cI.v,cI.c] at l;generalize J:L.map aK.e=M at *;simp (disch:=omega) only[go_sem,Ql,oP,sT,sB,sH,h25c,h25l1,aY9,l,m,I,aZe,aZp,aZn];simp only[dcv,dV,cI.c,J,aZp,aZn];rw[if_pos w,rN];generalize dR (dV o L)=O at *;simp only[dV,cI.v,cI.c] at l;generalize L.map aK.e=M at *;simp (disch:=omega) only[go_sem,Ql,oP,sT,sB,sH,h25c,h25l1,aY9,l,w,m,I,aZe,aZp,aZn];have r:=Ks a k i (fun j A=>Classical.not_not.1 (n j A)) hp
 rw[q k i] at hp r;rw[r];unfold U3;dsimp only;rw[if_pos hp,rN];have t:=b k i;have e:=h k i;clear b h q y r n l;generalize (a.take k).map (fun p=>(bO p).1.e)=C at *
 generalize bO a[k]=d at *;obtain⟨x,z⟩:=d;dsimp only at hp t ⊢;generalize a[k]=p at *;simp (disch:=omega) only[go_sem,Ql,oP,sT,sB,sH,h25c,h25l1,aY9,e,t,aK.e,hp,aZp,aZn]
theorem aRz{b:L Int}(c:b.length=512)(a:aH b)(n:Int):aH (nI b n 8):=by
 intro x f;obtain⟨j,d,rfl⟩:=List.mem_iff_getElem.1 f;have e:(nI b n 8)[j]=(nI b n 8).getD j 0:=by simp[aZo,d]
 rw[e,M7 c 8 (by omega)];unfold ptG
 repeat' split
 all_goals first|omega|exact qW a _
theorem aM2(s o:L Int)(E:aH s)(P:o.length=512)(a:aH o)(u:Int)(Q:0<=u/\u<=65535)(b:L (L Int))(p:b.length<=1000)(fl:L Int)(hf:fl.length<=444)(n:aH fl)(i:o.take (64+fl.length)=o.take 64++fl) (g:∀k (O:k<b.length),EV G (Tb (lP G bb)) 69 [sv b[k]] []=some (rtv (bO b[k]),[])) (K:EV G (Tb (lP G bb)) 23 [(dV o (iN b).1).v] []=some (vi (dR (dV o (iN b).1)),[])) (d:cI×Int×Int)
  (e:d=if gL o 24 4=68+fl.length/\nI (iT (dV o []) (gL o 24 4) fl) u 8=s then U3 o u (iN b) else (.nil,0,3)):
  qL false rv9 0 (EC (EV G (Tb (lP G bb))) G oP (K5 s o (fd8 o) u (64+fl.length) b))=some (dcv d,[]):=by
 have x:=Bn a 16 2 (by omega) (by omega);have y:=Bn a 18 2 (by omega) (by omega);have z:=Bn a 22 2 (by omega) (by omega);have A:=Bn a 32 4 (by omega) (by omega);have B:=Bn a 36 2 (by omega) (by omega);have C:=Bn a 38 2 (by omega) (by omega);have D:=Bn a 8 4 (by omega) (by omega);have M:=Bn a 24 4 (by omega) (by omega);have r:=sO (Vd (G:=G) (bb:=bb) (dV o []) (gL o 24 4) ⟨by simp only[dV];omega,by simp only[dV];omega,by simp only[dV];omega,by simp only[dV];omega,by simp only[dV];omega,by simp only[dV];omega,by simp only[dV];omega,by omega⟩ fl hf u (by omega));have t:(o.take (64+fl.length)).drop 64=fl:=by rw[i,List.drop_left' (by rw[aZd];omega)]
 have m:¬ 512<(68+fl.length:Int):=by omega
 have w:((64:Int)+(fl.length:Int)).toNat=64+fl.length:=by omega
 have c:(64:Int)+(fl.length:Int)+4=68+(fl.length:Int):=by omega
 have J:(64:Int)+(fl.length:Int)<=512:=by omega
 have q:=aM1 (G:=G) (bb:=bb) o u b p g K rfl;have I:=aRz (A5 (dV o []) (gL o 24 4) fl hf) (D8 (dV o []) (gL o 24 4) fl n) u;generalize nI (iT (dV o []) (gL o 24 4) fl) u 8=Y at *;simp only[dV] at r;have l:=dA I E;clear x y z A B C D i;generalize N:fl.length=F at *;by_cases f:gL o 24 4=68+F;by_cases j:Y=s;rw[if_pos ⟨f,j⟩] at e;subst e;rw[eq_true j] at l;simp (maxSteps:=2000000) (disch:=first|omega|(simp only[aZa,aZb,aZc,aY9,aB,aZg,aZd,aZh,aC,aP]<;>omega)|fail) only[go_sem,oP,sT,sB,sH,h25c,oR,aZl,aZm,aZ3,c,m,eq_true f,t,w,Int.reduceToNat,r,l,I8]
 exact q;rw[if_neg (fun h=>j h.2)] at e
 subst e;rw[eq_false j] at l;rw[rN];simp (maxSteps:=2000000) (disch:=first|omega|(simp only[aZa,aZb,aZc,aY9,aB,aZg,aZd,aZh,aC,aP]<;>omega)|fail) only[go_sem,oP,sT,sB,sH,h25c,oR,aZl,aZm,aZ3,c,m,eq_true f,t,w,Int.reduceToNat,r,l,I8]
 rw[if_neg (fun h=>f h.1)] at e
 subst e;rw[rN];simp (maxSteps:=2000000) (disch:=first|omega|(simp only[aZa,aZb,aZc,aY9,aB,aZg,aZd,aZh,aC,aP]<;>omega)|fail) only[go_sem,oP,sT,sB,sH,h25c,oR,aZl,aZm,aZ3,c,m,f,Int.reduceToNat]
theorem Hu(s:L Int)(l:aH s)(W:s.length<=9223372036854775807):EV G (Tb (lP G bb)) 25 [sv s] []=some (dcv (cE s),[]):=by
 refine aA rfl ?_;unfold cE;by_cases g:s.length=512;rw[if_neg (not_not_intro g)];have t:=sO (up (aMX (G:=G) (bb:=bb) s g l));by_cases o:jY s;rw[if_neg (not_not_intro o)];rw[if_pos o] at t;have A:=qU g;have a:=J8 g l;have X:=Xp g l o;have C:EV G (Tb (lP G bb)) 67 [sv s,vi 40,vi 2] []=some (vi (gS s),[]):=sO (up (cY (G:=G) (bb:=bb) s l 40 2 (by omega) (by omega) (by omega)));have D:EV G (Tb (lP G bb)) 67 [sv (eU s),vi 16,vi 2] []=some (vi (gL (eU s) 16 2),[]):=sO (up (cY (G:=G) (bb:=bb) (eU s) a 16 2 (by omega) (by omega) (by omega)));have E:EV G (Tb (lP G bb)) 67 [sv (eU s),vi 18,vi 2] []=some (vi (gL (eU s) 18 2),[]):=sO (up (cY (G:=G) (bb:=bb) (eU s) a 18 2 (by omega) (by omega) (by omega)));have F:EV G (Tb (lP G bb)) 67 [sv (eU s),vi 22,vi 2] []=some (vi (gL (eU s) 22 2),[]):=sO (up (cY (G:=G) (bb:=bb) (eU s) a 22 2 (by omega) (by omega) (by omega)));have I:EV G (Tb (lP G bb)) 67 [sv (eU s),vi 32,vi 4] []=some (vi (gL (eU s) 32 4),[]):=sO (up (cY (G:=G) (bb:=bb) (eU s) a 32 4 (by omega) (by omega) (by omega)));have J:EV G (Tb (lP G bb)) 67 [sv (eU s),vi 36,vi 2] []=some (vi (gL (eU s) 36 2),[]):=sO (up (cY (G:=G) (bb:=bb) (eU s) a 36 2 (by omega) (by omega) (by omega)));have K:EV G (Tb (lP G bb)) 67 [sv (eU s),vi 38,vi 2] []=some (vi (gL (eU s) 38 2),[]):=sO (up (cY (G:=G) (bb:=bb) (eU s) a 38 2 (by omega) (by omega) (by omega)));have M:EV G (Tb (lP G bb)) 67 [sv (eU s),vi 8,vi 4] []=some (vi (gL (eU s) 8 4),[]):=sO (up (cY (G:=G) (bb:=bb) (eU s) a 8 4 (by omega) (by omega) (by omega)));have N:EV G (Tb (lP G bb)) 67 [sv (eU s),vi 24,vi 4] []=some (vi (gL (eU s) 24 4),[]):=sO (up (cY (G:=G) (bb:=bb) (eU s) a 24 4 (by omega) (by omega) (by omega)));have j:=Ve (G:=G) (bb:=bb) s (eU s) (fd8 (eU s)) (gS s) A a oP 449 64 [] (by decide) (by decide) (by decide);have i:Ah ((eU s).drop 64)=sM 449 ((eU s).drop 64):=by
  unfold Ah;rw[aZh,A]
 cases r:Ah ((eU s).drop 64) with
 |none=>
  dsimp only;rw[rN];have f:=j.2 (by rw[<- i];exact r);have z:qL false rv9 0 (sqK (EV G (Tb (lP G bb))) G (.trm LR oP) (Bg 0 (EL (EV G (Tb (lP G bb))) G h25l0 LR 3 (K5 s (eU s) (fd8 (eU s)) (gS s) 64 []))))=some (aQ4 3,[]):=by
   rcases f with f|⟨b,B,v,w,V,f⟩;rw[f,rN];rw[f,aM0 _ _ _ _ _ ⟨v,w⟩]
  clear j f;generalize gS s=u at *;simp (maxSteps:=2000000) (disch:=omega) only[go_sem,h25c,aC,g,t,C,D,E,F,I,J,K,M,N];exact z
 |some e=>
  dsimp only;obtain⟨O,y,h3,h4⟩:=Xq g l r;obtain⟨S,Q,T,U⟩:=P3 _ _ _ (show sM 449 ((eU s).drop 64)=some e by rw[<- i];exact r);have f:=j.1 e (by rw[<- i];exact r);have p:=aQA g l r;have m:∀ k (f:k < e.length),EV G (Tb (lP G bb)) 69 [sv e[k]] []=some (rtv (bO e[k]),[]):=fun k f=>by
   obtain⟨v,w,_⟩:=O _ (aZk f);rw[aQq v w];exact sO (up (Xg (G:=G) (bb:=bb) e[k] v w))
  have R:=sO (P5 (G:=G) (bb:=bb) (dV (eU s) (iN e).1) p);have q:(eU s).take (64+e.flatten.length)=(eU s).take 64++e.flatten:=by
   rw[List.take_add,Q]
  have n:=aHp g l o e.flatten y;have P:=aM2 (G:=G) (bb:=bb) s (eU s) l A a (gS s) (by omega) e (by omega) e.flatten y h4 q m R (Ua s e) (by
   unfold Ua;by_cases c:iT (dV (eU s) []) (68+(e.flatten.length:Int)) e.flatten=eU s
   ·rw[if_neg (not_not_intro c),if_pos (n.1 c)];rfl
   ·rw[if_pos c,if_neg (fun h=>c (n.2 h))])
  rw[aZn] at f;rw[P] at f;clear j P i O y h3 h4 S Q T U m R q n p;generalize Ua s e=d at *;generalize gS s=u at *;simp (maxSteps:=2000000) (disch:=omega) only[go_sem,h25c,aC,g,t,C,D,E,F,I,J,K,M,N];exact f
 rw[if_pos o];rw[if_neg o] at t;rw[rN];simp (disch:=omega) only[go_sem,h25c,aC,g,t];rw[if_pos g];have x:¬ (s.length:Int)=512:=by omega
 rw[rN];simp (disch:=omega) only[go_sem,h25c,aC,x]
end
section
variable {G:aE}{bb:Bool}
theorem Qm(u:Int):1<=oF u/\oF u<=65535:=by unfold oF;omega
theorem aA4{r:cI}{n:Int}(h:dR r=0)(e:0<=n/\n<=2147483647):dR (lT r n)=0:=by
 have a:=oZ h;have b:tN (lT r n)=true:=by
  have:=a.num;unfold tN lT;simp only[aZq,decide_eq_true_eq];exact⟨this.1,this.2.1,this.2.2.1,this.2.2.2.1,e⟩
 have c:T9 (lT r n)=0:=by
  have f:(hZ (lT r n).fl||J6 (lT r n))=true:=a.us
  unfold T9;rw[b,f];show aT [0,Bj r.br r.bq,0]=0;rw[a.be];rfl
 have d:Nb (lT r n)=Nb r:=rfl;unfold dR qN;rw[if_neg (not_not_intro c)];show (if (oD r.ats).2≠0 then oD r.ats else if 0<=Nb (lT r n) then (Nb (lT r n),9) else (0,un (decide (dE r.ats<=440)) 16)).2=0
 rw[if_neg (not_not_intro a.od),d,if_neg (by have:=a.gt;omega),decide_eq_true a.nd];rfl
theorem aNT{s:L Int}{r:cI}{n:Int}:Xo s r n=if (cE s).2.2≠0 then ([],(cE s).2.2) else if dR r≠0 then ([],dR r) else if ¬ (0<=n/\n<=2147483647) then ([],2) else if n<(cE s).1.ls then ([],9) else if r.sq≠(cE s).1.sq/\r.sq≠oF (cE s).1.sq then ([],13) else (kW (lT r n) (oF (cE s).2.1),0):=by
 unfold Xo rwE;by_cases b:(cE s).2.2=0;rw[if_neg (not_not_intro b),b,bD];by_cases a:dR r=0;rw[if_neg (not_not_intro a),a];have f:aT [(0:Int)]=0:=rfl;rw[f,if_neg (not_not_intro rfl)];by_cases c:0<=n/\n<=2147483647;rw[if_neg (not_not_intro c),decide_eq_true c,gA,bD];by_cases e:n<(cE s).1.ls;rw[if_pos e,decide_eq_false (by omega),gQ,bA _ _ (by decide),if_pos (by decide)];rw[if_neg e,decide_eq_true (by omega),gA,bD];by_cases d:r.sq≠(cE s).1.sq/\r.sq≠oF (cE s).1.sq;rw[if_pos d,decide_eq_false d.1,decide_eq_false d.2];rfl;have g:(decide (r.sq=(cE s).1.sq)||decide (r.sq=oF (cE s).1.sq))=true:=by
  rw[Bool.or_eq_true,decide_eq_true_eq,decide_eq_true_eq];by_cases k:r.sq=(cE s).1.sq;exact .inl k;exact .inr (Classical.byContradiction fun h=>d ⟨k,h⟩)
 rw[if_neg d,g,gA,f,if_neg (not_not_intro rfl)];unfold Ag aHk;rw[aA4 a c,decide_eq_true (Qm _),gA];rfl;rw[if_pos c,decide_eq_false c,gQ,bA _ _ (by decide),if_pos (by decide)];rw[if_pos a];rw[bA _ _ a,if_pos a,if_pos a];rw[if_pos b,bA _ _ b,if_pos b,if_pos b]
theorem aM3(C:G9 G)(s:L Int)(B:aH s)(K:s.length<=9223372036854775807)(r:cI)(x:r.W)(n:Int):EV G (Tb (lP G bb)) 58 [sv s,r.v,vi n] []=some (bkv (Xo s r n),[]):=by
 refine aA rfl ?_;have i:=Ef (G:=G) (bb:=bb) C s B K;have j:=sO (qX (G:=G) (bb:=bb) r x);have w:=sO (pI (G:=G) (bb:=bb) n 0 2147483647);have f:=fun b e=>sO (pJ (G:=G) (bb:=bb) b e)
 have l:=fun a b=>sO (Ka (G:=G) (bb:=bb) a b)
 have m:=fun a b c=>sO (Kb (G:=G) (bb:=bb) a b c)
 have D:=Xr B;unfold Xo rwE;generalize cE s=p at *;obtain⟨o,u,e⟩:=p;dsimp only at i D ⊢;by_cases g:aT [e,dR r]=0;rw[if_neg (not_not_intro g)];obtain⟨N,O⟩:=aAw g;have J:=oZ O;rcases D with⟨F,_⟩|⟨_,I,h3,h4⟩
 exact absurd N F;have t:=oZ I;have n1:=t.num.1;have Q:=J.num.1;have q:=sO (aAD (G:=G) (bb:=bb) o.sq (by omega));have E:=sO (aAD (G:=G) (bb:=bb) u (by omega));have z:(lT r n).W:=⟨x.at',x.ln⟩;have A:=sO (U2 (G:=G) (bb:=bb) C (lT r n) z (oF u));have P:(n≥o.ls)=(o.ls<=n):=rfl;have es:(decide (r.sq=o.sq)||decide (r.sq=oF o.sq))=if r.sq=o.sq then true else decide (r.sq=oF o.sq):=by
  by_cases h:r.sq=o.sq<;>simp[h]
 generalize Ag (lT r n) (oF u)=y at *;obtain⟨R,S⟩:=y;simp only[lT,cI.u,cI.c,aZp,aZn] at A;generalize dR r=M at *;by_cases k:r.sq=o.sq;rw[if_pos k] at es;rw[es];by_cases d:aT [un (decide (0<=n/\n<=2147483647)) 2,un (decide (o.ls<=n)) 9,un true 13]=0
 ·rw[if_neg (not_not_intro d)];simp (disch:=omega) only[go_sem,h58c,i,j,w,f,l,m,q,E,A,eq_true g,eq_true d,eq_true k,aZp,aZn];all_goals rfl
 ·rw[if_pos d];simp (disch:=omega) only[go_sem,h58c,i,j,w,f,l,m,q,eq_true g,d,eq_true k,aZp,aZn];all_goals rfl
 rw[if_neg k] at es;rw[es];by_cases d:aT [un (decide (0<=n/\n<=2147483647)) 2,un (decide (o.ls<=n)) 9,un (decide (r.sq=oF o.sq)) 13]=0
 ·rw[if_neg (not_not_intro d)];simp (disch:=omega) only[go_sem,h58c,i,j,w,f,l,m,q,E,A,eq_true g,eq_true d,k,aZp,aZn];all_goals rfl
 ·rw[if_pos d];simp (disch:=omega) only[go_sem,h58c,i,j,w,f,l,m,q,eq_true g,d,k,aZp,aZn];all_goals rfl
 ·rw[if_pos g];generalize dR r=M at *;simp (disch:=omega) only[go_sem,h58c,i,j,l,g,aZp,aZn];all_goals rfl
theorem aM4(s:L Int)(z:aH s)(I:s.length<=9223372036854775807)(r:cI)(m:r.W)(n:Int):EV G (Tb (lP G bb)) 28 [sv s,r.v,vi n] []=some (bkv (Xo s r n),[]):=by
 refine aA rfl ?_;have a:=Hu (G:=G) (bb:=bb) s z I;have b:=sO (P5 (G:=G) (bb:=bb) r m);have w:=sO (sN (G:=G) (bb:=bb) n 0 2147483647);have B:=sO (Nh (G:=G) (bb:=bb) r m);have A:=Xr z;rw[aNT];generalize cE s=p at *;obtain⟨o,u,e⟩:=p;dsimp only at a A ⊢;by_cases g:e=0;rw[if_neg (not_not_intro g)];rcases A with⟨E,_⟩|⟨_,F,h3,h4⟩
 exact absurd g E;subst g;have q:=oZ F;have n1:=q.num.1;have C:=sO (aHx (G:=G) (bb:=bb) o.sq (by omega));have D:=sO (aHx (G:=G) (bb:=bb) u (by omega));have f:fF []=⟨#[]⟩:=rfl;by_cases h:dR r=0;rw[if_neg (not_not_intro h)];rw[h] at b;by_cases i:0<=n/\n<=2147483647;rw[if_neg (not_not_intro i)];rw[decide_eq_true i] at w;by_cases d:n<o.ls
 ·rw[if_pos d];simp (disch:=omega) only[go_sem,h28c,a,b,w,eq_true d,aZp,aZn,f];all_goals rfl
 rw[if_neg d];by_cases j:r.sq≠o.sq/\r.sq≠oF o.sq
 ·rw[if_pos j];have k:¬ r.sq=o.sq:=j.1;have l:¬ r.sq=oF o.sq:=j.2;simp (disch:=omega) only[go_sem,h28c,a,b,w,d,k,l,C,aZp,aZn,f];all_goals rfl
 rw[if_neg j];have t:(lT r n).W:=⟨m.at',m.ln⟩;have x:=sO (aA3 (G:=G) (bb:=bb) (lT r n) t (aA4 h i) (oF u) (by have:=Qm u;omega));generalize kW (lT r n) (oF u)=y at *;simp only[lT,cI.v,cI.c] at x;by_cases k:r.sq=o.sq
 ·simp (disch:=omega) only[go_sem,h28c,a,b,w,d,eq_true k,B,D,x,aZp,aZn];all_goals rfl
 ·have l:r.sq=oF o.sq:=Classical.byContradiction fun l=>j ⟨k,l⟩
  simp (disch:=omega) only[go_sem,h28c,a,b,w,d,k,eq_true l,C,B,D,x,aZp,aZn];all_goals rfl
 ·rw[if_pos i];rw[decide_eq_false i] at w;simp (disch:=omega) only[go_sem,h28c,a,b,w,aZp,aZn,f];all_goals rfl
 ·rw[if_pos h];generalize dR r=J at *;simp (disch:=omega) only[go_sem,h28c,a,b,h,aZp,aZn,f];all_goals rfl
 ·rw[if_pos g];have f:fF []=⟨#[]⟩:=rfl;simp (disch:=omega) only[go_sem,h28c,a,g,aZp,aZn,f];all_goals rfl
end
section
variable {G:aE}{bb:Bool}
theorem aRA{s:L Int}{r:cI}{n:Int}(h:(Xo s r n).2=0):dR r=0/\(0<=n/\n<=2147483647)/\(cE s).2.2=0/\Xo s r n=(kW (lT r n) (oF (cE s).2.1),0):=by
 rw[aNT] at h ⊢;split at h;rename_i c;exact absurd h c;rename_i a;split at h;rename_i c;exact absurd h c;rename_i b;split at h;exact absurd h (show ¬ (2:Int)=0 by decide);rename_i d;split at h;exact absurd h (show ¬ (9:Int)=0 by decide);rename_i e;split at h;exact absurd h (show ¬ (13:Int)=0 by decide);rename_i f;rw[if_neg a,if_neg b,if_neg d,if_neg e,if_neg f];exact⟨Classical.not_not.1 b,Classical.not_not.1 d,Classical.not_not.1 a,rfl⟩
