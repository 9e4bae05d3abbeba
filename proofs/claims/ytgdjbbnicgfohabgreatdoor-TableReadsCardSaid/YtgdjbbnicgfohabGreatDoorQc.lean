/- Part. Conditions: none. -/
import Derived.Test.YtgdjbbnicgfohabGreatDoorMf
import Derived.Test.YtgdjbbnicgfohabGreatDoorCards
import Derived.Test.YtgdjbbnicgfohabGreatDoorTie
import Derived.ProofKit
import Derived.MakeChecks
import Derived.Stop.LaidErr
import Derived.Deep.DeepHandedRow
import Derived.Lib.LaidTab
import Derived.LaidMore
import Derived.LaidHandle
import Derived.LaidLaws
import Derived.Lay
import Derived.Shelf.Vars
import Derived.Test.YtgdjbbnicgfohabGreatDoorRows
import Derived.Test.YtgdjbbnicgfohabGreatDoorQo
import Derived.Test.YtgdjbbnicgfohabGreatDoorSo
import Derived.Test.YtgdjbbnicgfohabGreatDoorVq
import Derived.Test.YtgdjbbnicgfohabGreatDoorSu
import Derived.Test.YtgdjbbnicgfohabGreatDoorPa
import Derived.Test.YtgdjbbnicgfohabGreatDoorTy
namespace Go.Proofs.YtgdjbbnicgfohabGreatDoor
set_option maxHeartbeats 32000000
set_option linter.unusedSimpArgs false
set_option linter.unusedVariables false
set_option maxRecDepth 4000
section
variable {G:aF}{bb:Bool}
open Go.ChangeShapes Go.WideShapes Go.ChangeAt Go.RowKit
theorem Tryz.own:ownKnob Tryz.prog.godebug=none:=by kernel_rfl
theorem Tryz.laidOut:laidOutB Tryz.prog=true:=by kernel_rfl
theorem Ra:Tryz.prog.cellsOf 3=1:=by kernel_rfl
def aYf(i:Int):Prop:=-9223372036854775808<=i/\i<=9223372036854775807
theorem aIZ{m:Nat}{x:DC}(h:Fx Tryz.prog (m+1) 3 [x]):∃i:Int,x=ci i/\aYf i:=by
 obtain⟨i,a,b⟩:=aIY Tryz.underlying3 h;injection a with a _;exact⟨i,a,Zj b⟩
def aJ.d(a:aJ):L DC:=[ci a.ty,.raw (.string (dO a.nm)),ci a.id,ci a.fl,.raw (.bool a.res),.raw (.string (dO a.va)),ci a.fi,.slc (a.rs.map aW.e),ci a.al,ci a.sz,ci a.vd]
theorem Mi{H:Type}{enc:TypeId×Value->H}{P:Program}{w:World}{e:Nat}{F:Nat->Bool}{f:Bool}{c:Nat}{t:TypeId}{i j:Field}{cs:L Value}{a b:Int}{p:L MemPlace} (B:P.underlying t=some (.struct #[i,j])) (s:P.underlying i.type=some (.int .i64)) (z:P.underlying j.type=some (.int .i64)) (D:i.offset=0) (E:j.offset=1) (o:P.cellsOf i.type=1) (q:P.cellsOf j.type=1) (r:P.cellsOf t=2) (h:DataW.trod enc P w e F f c t cs=some (.agg [.lit (.int .i64 a),.lit (.int .i64 b)],p)):cs=[.int .i64 a,.int .i64 b]:=by
 cases c with
 |zero=>simp[DataW.trod] at h
 |succ c=>
  simp only[DataW.trod,B,r] at h;split at h;rename_i A;obtain⟨K,d,n⟩:=Option.map_eq_some_iff.1 h
  match cs,A with
  |[x,y],_=>
   simp only[bAz,List.mapM_nil,D,E,o,q,bAr,bBa,bA4,bAQ,List.take_nil] at d;obtain⟨u,C,d⟩:=bAl.1 d;obtain⟨vs,k,d⟩:=bAl.1 d;obtain⟨v,k,g⟩:=bAl.1 k;obtain⟨I,l,rfl,_⟩:=DataW.trod_int s C;obtain⟨J,m,rfl,_⟩:=DataW.trod_int z k;simp at g d;subst g;subst d;simp at n l m;obtain⟨⟨rfl,rfl⟩,_⟩:=n;rw[l,m]
  cases h
theorem kY{W:World}{c:String}{a b:Int}{e:L (String×DataW Unit)}{g:Nat}(m:Tryz.prog.globalNamed c=some g)(j:(Tryz.prog.globals[g]?).map (·.type)=some 171) (h:laidMet Tryz.prog ((c,.agg [.lit (.int .i64 a),.lit (.int .i64 b)])::e) W):W.var? Tryz.prog c=some #[.int .i64 a,.int .i64 b]:=by
 obtain⟨o,⟨n,r,cs,k,p,q,f,i,d,l,_,_⟩,_⟩:=h;obtain rfl:=Option.some.inj (m.symm.trans f);obtain rfl:=Option.some.inj (j.symm.trans i);have:=Mi Tryz.underlying171 Tryz.underlying3 Tryz.underlying3 rfl rfl Ra Ra (by kernel_rfl) l;rw[d];congr 1;rw[<- bA3];exact this
theorem nE{W:World}{f:String}{a b:Int}{g:Nat}(c:W.var? Tryz.prog f=some #[.int .i64 a,.int .i64 b])(h:Tryz.prog.globalNamed f=some g):(∀γ,RC (iX W) γ (.ref [ci a,ci b]) (.pointer (some ⟨g,0,none⟩)))/\∃o,iX W g=some o/\∃vs t z,o=.cells vs t z/\vs.size=[ci a,ci b].length:=by
 refine⟨fun γ=>.ref _ g 0 (fun j=>.int .i64 ([a,b].getD j 0)) (fun j d e=>?_) (fun j d e=>?_),?_⟩
 match j with
 |0=>injection e with e;subst e;exact .raw _ rfl
 |1=>injection e with e;subst e;exact .raw _ rfl
 |j+2=>simp at e
 match j with
 |0=>have:=World.var?_cell h c 0;exact (show W.cell? ⟨g,0,none⟩=some (.int .i64 a) by simpa using this)
 |1=>have:=World.var?_cell h c 1;exact (show W.cell? ⟨g,1,none⟩=some (.int .i64 b) by simpa using this)
 |j+2=>simp at e
 unfold World.var? at c;rw[h,aZR] at c;unfold iX;cases i:W.heap[g]? with
 |none=>rw[i] at c;cases c
 |some o=>
  rw[i] at c;cases o with
  |cells vs t z=>
   simp only[Option.some.injEq] at c;exact⟨_,rfl,_,_,_,rfl,by rw[c];rfl⟩
  |_=>simp at c
theorem Tryz.g_ls:Tryz.prog.globalNamed "depository/record.fieldLSN"=some 6:=by kernel_rfl
theorem Tryz.g_sq:Tryz.prog.globalNamed "depository/record.fieldSequence"=some 0:=by kernel_rfl
theorem Tryz.g_li:Tryz.prog.globalNamed "depository/record.fieldLinks"=some 1:=by kernel_rfl
theorem Tryz.g_fi:Tryz.prog.globalNamed "depository/record.fieldFirst"=some 7:=by kernel_rfl
theorem Tryz.g_fl:Tryz.prog.globalNamed "depository/record.fieldFlags"=some 2:=by kernel_rfl
theorem Tryz.g_en:Tryz.prog.globalNamed "depository/record.fieldEnd"=some 8:=by kernel_rfl
theorem Tryz.g_si:Tryz.prog.globalNamed "depository/record.fieldSize"=some 9:=by kernel_rfl
theorem Tryz.g_ba:Tryz.prog.globalNamed "depository/record.fieldBase"=some 3:=by kernel_rfl
theorem Tryz.g_bo:Tryz.prog.globalNamed "depository/record.fieldBaseOf"=some 4:=by kernel_rfl
theorem Tryz.g_nx:Tryz.prog.globalNamed "depository/record.fieldNext"=some 5:=by kernel_rfl
def GF:aF:=fun g=>
 if g=6 then some [ci 8,ci 4] else
 if g=0 then some [ci 16,ci 2] else
 if g=1 then some [ci 18,ci 2] else
 if g=7 then some [ci 20,ci 2] else
 if g=2 then some [ci 22,ci 2] else
 if g=8 then some [ci 24,ci 4] else
 if g=9 then some [ci 28,ci 4] else
 if g=3 then some [ci 32,ci 4] else
 if g=4 then some [ci 36,ci 2] else
 if g=5 then some [ci 38,ci 2] else
 none
theorem aWg:G9 GF:=⟨rfl,rfl,rfl,rfl,rfl,rfl,rfl,rfl,rfl,rfl⟩
theorem aWh{W:World}(h:laidMetH Tryz.prog Rows.tableReadsRow.laid W):fZ (iX W) GF:=by
 rw[MakeChecks.laidMetH_plain _ _ _ (by kernel_rfl)] at h;have h:=laidMet.tail h;have v:=nE (kY (a:=8) (b:=4) Tryz.g_ls (by kernel_rfl) h) Tryz.g_ls;have h:=laidMet.tail h;have y:=nE (kY (a:=16) (b:=2) Tryz.g_sq (by kernel_rfl) h) Tryz.g_sq;have h:=laidMet.tail h;have u:=nE (kY (a:=18) (b:=2) Tryz.g_li (by kernel_rfl) h) Tryz.g_li;have h:=laidMet.tail h;have s:=nE (kY (a:=20) (b:=2) Tryz.g_fi (by kernel_rfl) h) Tryz.g_fi;have h:=laidMet.tail h;have t:=nE (kY (a:=22) (b:=2) Tryz.g_fl (by kernel_rfl) h) Tryz.g_fl;have h:=laidMet.tail h;have r:=nE (kY (a:=24) (b:=4) Tryz.g_en (by kernel_rfl) h) Tryz.g_en;have h:=laidMet.tail h;have x:=nE (kY (a:=28) (b:=4) Tryz.g_si (by kernel_rfl) h) Tryz.g_si;have h:=laidMet.tail h;have p:=nE (kY (a:=32) (b:=4) Tryz.g_ba (by kernel_rfl) h) Tryz.g_ba;have h:=laidMet.tail h;have q:=nE (kY (a:=36) (b:=2) Tryz.g_bo (by kernel_rfl) h) Tryz.g_bo;have h:=laidMet.tail h;have w:=nE (kY (a:=38) (b:=2) Tryz.g_nx (by kernel_rfl) h) Tryz.g_nx;have h:=laidMet.tail h;refine⟨fun g cs c γ=>?_,fun g cs c=>?_⟩
 unfold GF at c;by_cases l:g=6;rw[if_pos l] at c;injection c with c
 subst c;subst l;exact v.1 γ;rw[if_neg l] at c;by_cases o:g=0;rw[if_pos o] at c;injection c with c
 subst c;subst o;exact y.1 γ;rw[if_neg o] at c;by_cases k:g=1;rw[if_pos k] at c;injection c with c
 subst c;subst k;exact u.1 γ;rw[if_neg k] at c;by_cases i:g=7;rw[if_pos i] at c;injection c with c
 subst c;subst i;exact s.1 γ;rw[if_neg i] at c;by_cases j:g=2;rw[if_pos j] at c;injection c with c
 subst c;subst j;exact t.1 γ;rw[if_neg j] at c;by_cases f:g=8;rw[if_pos f] at c;injection c with c
 subst c;subst f;exact r.1 γ;rw[if_neg f] at c;by_cases n:g=9;rw[if_pos n] at c;injection c with c
 subst c;subst n;exact x.1 γ;rw[if_neg n] at c;by_cases d:g=3;rw[if_pos d] at c;injection c with c
 subst c;subst d;exact p.1 γ;rw[if_neg d] at c;by_cases e:g=4;rw[if_pos e] at c;injection c with c
 subst c;subst e;exact q.1 γ;rw[if_neg e] at c;by_cases m:g=5;rw[if_pos m] at c;injection c with c
 subst c;subst m;exact w.1 γ;rw[if_neg m] at c;cases c;unfold GF at c;by_cases l:g=6;rw[if_pos l] at c;injection c with c
 subst c;subst l;exact v.2;rw[if_neg l] at c;by_cases o:g=0;rw[if_pos o] at c;injection c with c
 subst c;subst o;exact y.2;rw[if_neg o] at c;by_cases k:g=1;rw[if_pos k] at c;injection c with c
 subst c;subst k;exact u.2;rw[if_neg k] at c;by_cases i:g=7;rw[if_pos i] at c;injection c with c
 subst c;subst i;exact s.2;rw[if_neg i] at c;by_cases j:g=2;rw[if_pos j] at c;injection c with c
 subst c;subst j;exact t.2;rw[if_neg j] at c;by_cases f:g=8;rw[if_pos f] at c;injection c with c
 subst c;subst f;exact r.2;rw[if_neg f] at c;by_cases n:g=9;rw[if_pos n] at c;injection c with c
 subst c;subst n;exact x.2;rw[if_neg n] at c;by_cases d:g=3;rw[if_pos d] at c;injection c with c
 subst c;subst d;exact p.2;rw[if_neg d] at c;by_cases e:g=4;rw[if_pos e] at c;injection c with c
 subst c;subst e;exact q.2;rw[if_neg e] at c;by_cases m:g=5;rw[if_pos m] at c;injection c with c
 subst c;subst m;exact w.2;rw[if_neg m] at c;cases c
section
variable {H:Type}{enc:TypeId×Value->H}
theorem Lp{a:Assume}{C:Checked}{os:Os}{f:FuncId}{fn:Func}{s:ChangeSpec}{m:L PathCond}{c n h l:Bool}{X:World->Array Value->Prop} (N:∀(w w':World)(b:Array Value),w.heap=w'.heap->X w b->X w' b) (K:ownKnob C.prog.godebug=none) (o:os.Started) (q:C.prog.inits.idxOf? f=none) (E:C.prog.funcs[f]?=some fn) (p:∃ (w:World) (d:Tape) (i:Input),w.os=os/\(w.forCall d i).Shaped C.prog/\i.vars=[]/\Input.okWide C.prog (w.forCall d i) .any w.heap.size f i/\ ((s.pre enc C.prog fn m c (w.forCall d i).memory i.args/\X (w.forCall d i).memory i.args)/\sizedMet enc C.prog fn (OpenSpec.ofChange s) c (w.forCall d i).memory i.args)/\a.holds C.prog (lone (Frame.enter C.prog f i.args .normal) [] (w.forCall d i))) (k:∀ (W:World) (r:Nat) (b:Array Value) (A D:L (DataW H)) (g:L MemPlace),(∀ (j:Nat) t v,fn.params[j]?=some t->b[j]?=some v->Value.okWide C.prog W .any r t v)-> DataW.Whole enc C.prog fn.params.toList s.vars c W b.toList A D g-> X W b->W.ShapedOpen C.prog->
   Calls C.prog f b W fun e M=>∃ v,e=.returned v/\s.post enc C.prog fn c n h l W b v M):
  ReturnsInHanded a C os f .any (fun w b=>(s.pre enc C.prog fn m c w b/\X w b)/\sizedMet enc C.prog fn (OpenSpec.ofChange s) c w b) (s.post enc C.prog fn c n h l):=by
 refine returnsInHanded_of_calls K o q p ?_;intro w d i _ I _ F x z;obtain⟨_,_,_,B,u,_,_,_,_,y⟩:=F;have e:B=fn:=Option.some.inj (u.symm.trans E);subst e;obtain⟨⟨⟨A,D,g,P,R⟩,Q⟩,S⟩:=x;have J:=DataW.Whole.of_heap (w':=w.forCall d i) (by rfl) P;refine (k (w.forCall d i) w.heap.size i.args A D g y J (N _ _ _ (by rfl) Q) I).mono fun e M ⟨v,O,hp⟩=>?_
 subst O;exact ChangeSpec.post_blind hp
end
theorem aWi{G:aF}:EV G (Tb (eL G true)) 4 [] []=some (vb true,[]):=jF rfl rfl
theorem aI0{m:Nat}{a:AV}(h:okA Tryz.prog (m+1) 9 a):∃l:L Int,a=sv l/\aI l/\l.length<=9223372036854775807:=by
 obtain⟨s,rfl,b⟩:=Zh Tryz.underlying9 h;obtain⟨l,c,rfl⟩:=aLI s;rw[aC] at b;exact⟨l,rfl,c,by unfold maxLen at b;omega⟩
end
section
open Go
set_option maxRecDepth 100000
theorem Hg:false=Rows.tableReadsRow.goesBy Tryz.pinned.checked.prog:=by kernel_rfl
end
section
variable {G:aF}{bb:Bool}
theorem aI1{a:aJ}:(jC a=true)=(a.ty=128/\a.nm=[]):=by
 unfold jC;simp
theorem Wd{B:aO}(r:cK)(h:r.ats.length<=1000000):EV G (Tb B) 53 [r.v] []=some (vi (jA jC r.ats),[]):=by
 refine aB rfl ?_;simp (maxSteps:=2000000) (disch:=omega) only[go_sem,h53c];unfold jA;rw[dE (fun k=>⟨(jk 1 (.one (.ptr 0 0)::jk 1 (vi k::jk 24 []))),[.box r.c]⟩) (fun k=>jC (r.ats.getD k aJ.nil)=true) r.ats.length ?_ ?_]
 rotate_left
 rfl;intro k d f;have h3:=f k (aZE _);rw[fJ r.ats k d,aI1] at h3;have e:=La r.ats[k].nm;have a:(k:Int)<r.ats.length:=by omega
 by_cases c:r.ats[k].ty=128;have g:¬ r.ats[k].nm=[]:=fun q=>h3 ⟨c,q⟩
 simp (maxSteps:=2000000) (disch:=omega) only[go_sem,h53l0,aZA,ixA,aJ.e,eq_true c,e,g,a];simp (maxSteps:=2000000) (disch:=omega) only[go_sem,h53l0,aZA,ixA,aJ.e,c,a];obtain⟨d,hp,f⟩:=bD (fun k=>jC (r.ats.getD k aJ.nil)=true) r.ats.length
 generalize ix (fun k=>jC (r.ats.getD k aJ.nil)=true) r.ats.length=k at *
 rcases hp with rfl|⟨a,hp⟩;rw[if_pos rfl];simp (maxSteps:=2000000) (disch:=omega) only[go_sem,h53l0,aZA];rw[if_neg (by omega)];rw[fJ r.ats k a,aI1] at hp;have e:=La r.ats[k].nm;have b:(k:Int)<r.ats.length:=by omega
 simp (maxSteps:=2000000) (disch:=omega) only[go_sem,h53l0,aZA,ixA,aJ.e,eq_true hp.1,e,eq_true hp.2,b]
theorem aBI{B:aO}(s:L Int)(a n:Nat)(h:(a+n)*256<=s.length)(g:s.length<=200000):EV G (Tb B) 52 [sv s,vi a,vi n] []=some (sv ((s.drop (a*256)).take (n*256)),[]):=by
 have e:((a*256:Nat):Int)=(a:Int)*256:=by omega
 have f:(((a+n)*256:Nat):Int)=((a:Int)+n)*256:=by omega
 have c:((a:Int)*256).toNat=a*256:=by omega
 have d:(((a:Int)+n)*256).toNat=(a+n)*256:=by omega
 have b:(a+n)*256-a*256=n*256:=by omega
 refine aB rfl ?_;simp (maxSteps:=2000000) (disch:=omega) only[go_sem,h52c,aC,c,d,b];rw[bAS,b]
theorem aBJ{B:aO}(s:L Int)(a:Nat)(h:a*256+256<=s.length)(b:s.length<=200000):EV G (Tb B) 52 [sv s,vi a,vi 1] []=some (sv (He s a),[]):=aBI s a 1 (by omega) b
theorem aWj(s:L Int)(a:Nat)(h:a*256+512<=s.length):Bc s a (a+1)=(s.drop (a*256)).take (2*256):=by
 unfold Bc He;have e:(a+1)*256=a*256+256:=by omega
 rw[e,<- bAE,show 2*256=256+256 from rfl,List.take_add]
theorem Rb{B:aO}(s:L Int)(a:Nat)(h:a*256+512<=s.length)(b:s.length<=200000):EV G (Tb B) 52 [sv s,vi a,vi 2] []=some (sv (Bc s a (a+1)),[]):=by
 rw[aWj s a h];exact aBI s a 2 (by omega) b
def rnE(x:Bt)(l:L aW):Int:=if (l.any fun r=>decide (r.s=-1))=true then 14 else if (l.any fun r=>decide (r.s+r.n > x.cl))=true then 37 else clE x (tO l)
theorem aI2{p:aW->Bool}(l:L aW)(k:Nat)(a:k<l.length):(l.take (k+1)).any p=((l.take k).any p||p l[k]):=by
 rw[List.take_add_one,List.any_append,aZJ a];simp
theorem aNr(x:Bt)(C:L Int):tV x C=decide (ix (fun k=>C.getD k 0∈0::(x.cl-1)::C.take k\/x.mi<=C.getD k 0/\C.getD k 0<=x.mi+8-1) C.length<C.length):=by
 obtain⟨b,hp,d⟩:=bD (fun k=>C.getD k 0∈0::(x.cl-1)::C.take k\/x.mi<=C.getD k 0/\C.getD k 0<=x.mi+8-1) C.length
 generalize ix (fun k=>C.getD k 0∈0::(x.cl-1)::C.take k\/x.mi<=C.getD k 0/\C.getD k 0<=x.mi+8-1) C.length=K at *
 unfold tV;rcases hp with rfl|⟨a,c⟩
 rw[decide_eq_false (Nat.lt_irrefl _),decide_eq_false];rintro⟨k,b,q⟩;exact d k b q;rw[decide_eq_true a,decide_eq_true ⟨K,a,c⟩]
theorem aNs(x:Bt)(C:L Int):clE x C=if tV x C=true then 13 else if C.length % 2≠0\/¬ (32<=C.length/\C.length<=192) then 2 else if C.getD 0 0≠x.tb\/C.getD 1 0≠x.tb+1 then 9 else 0:=by
 unfold clE;cases tV x C with
 |true=>rfl
 |false=>
  rw[aZ6,eB,aV,if_neg (by decide)];by_cases a:C.length % 2=0;by_cases h3:16<=C.length / 2/\C.length / 2<=96;rw[decide_eq_true a,decide_eq_true h3,aZ8,eB,aV,if_neg (by omega),decide_eq_true (show 2<=C.length by omega),aZ8];by_cases h4:C.getD 0 0=x.tb/\C.getD 1 0=x.tb+1;rw[decide_eq_true h4,eB,if_neg (by omega)];rfl;rw[decide_eq_false h4,if_pos (by omega)];rfl;rw[decide_eq_false h3,Bool.and_false,fF,aY _ _ (by decide),if_pos (by omega)];rw[decide_eq_false a,bAi,fF,aY _ _ (by decide),if_pos (.inl a)]
theorem aR1{B:aO}(x:Bt)(l:L aW)(hx:(-1000000<=x.mi/\x.mi<=1000000)/\(2<=x.cl/\x.cl<=1000000)/\(-1000000<=x.tb/\x.tb<=1000000))(Q:sO l)(N:∀q∈l,(-1<=q.s/\q.s<=1000)/\(0<=q.n/\q.n<=4096))(D:cC l<=4096):EV G (Tb B) 54 [x.v,cQ l] []=some (vi (rnE x l),[]):=by
 have hln:=Q.len;have qc:=Ke (G:=G) (B:=B) l Q;refine aB rfl ?_;simp (maxSteps:=2000000) (disch:=omega) only[go_sem,h54c];rw[dE (fun k=>⟨(jk 1 (cQ l::.one (.ptr 0 0)::jk 2 (vb ((l.take k).any fun r=>decide (r.s+r.n > x.cl))::vi k::jk 99 []))),[x.o]⟩) (fun k=>(l.getD k ⟨0,0⟩).s=-1) l.length ?_ ?_]
 rotate_left
 rfl;intro k g p;have h3:=p k (aZE _);rw[jT l k g] at h3;have h4:=N _ (aZK g);have a:(k:Int)<l.length:=by omega
 rw[aI2 l k g];generalize (l.take k).any (fun r=>decide (r.s+r.n > x.cl))=A
 cases A;by_cases c:l[k].s+l[k].n > x.cl;simp (maxSteps:=2000000) (disch:=omega) only[go_sem,h54l0,aZA,aW.e,h3,a,eq_true c];simp (maxSteps:=2000000) (disch:=omega) only[go_sem,h54l0,aZA,aW.e,h3,a,c];simp (maxSteps:=2000000) (disch:=omega) only[go_sem,h54l0,aZA,aW.e,h3,a]
 have V:(l.any fun r=>decide (r.s=-1))=decide (ix (fun k=>(l.getD k ⟨0,0⟩).s=-1) l.length < l.length):=by
  obtain⟨g,hp,p⟩:=bD (fun k=>(l.getD k ⟨0,0⟩).s=-1) l.length
  generalize ix (fun k=>(l.getD k ⟨0,0⟩).s=-1) l.length=K at *
  rcases hp with rfl | ⟨h1,h2⟩
  ·rw[decide_eq_false (Nat.lt_irrefl _),bAM];intro q M Z;obtain⟨j,R,rfl⟩:=List.getElem_of_mem M;have:=p j R;rw[jT l j R] at this;exact this (of_decide_eq_true Z)
  ·rw[decide_eq_true h1,List.any_eq_true];rw[jT l K h1] at h2;exact⟨_,aZK h1,decide_eq_true h2⟩
 unfold rnE;rw[V];obtain⟨g,hp,p⟩:=bD (fun k=>(l.getD k ⟨0,0⟩).s=-1) l.length
 generalize ix (fun k=>(l.getD k ⟨0,0⟩).s=-1) l.length=K at *
 rcases hp with rfl|⟨a,hp⟩
 rotate_left
 rw[if_pos (decide_eq_true a)];rw[jT l K a] at hp;have b:(K:Int)<l.length:=by omega
 simp (maxSteps:=2000000) (disch:=omega) only[go_sem,h54l0,aZA,aW.e,eq_true hp,b];rw[decide_eq_false (Nat.lt_irrefl _),if_neg (by decide),bAj];cases hE:l.any fun r=>decide (r.s+r.n > x.cl) with
 |true=>
  rw[if_pos rfl];simp (maxSteps:=2000000) (disch:=omega) only[go_sem,h54l0,aZA]
 |false=>
  rw[if_neg (by decide),aNs,aNr];have Y:=Au l (fun r h=>(N r h).2.1)
  have E:∀ c∈tO l,-1<=c/\c<=10000:=fun c D=>by
   obtain⟨q,M,D⟩:=List.mem_flatMap.1 D;have:=N q M;unfold At at D;obtain⟨k,g,rfl⟩:=List.mem_map.1 D;have g:=List.mem_range.1 g;split<;>omega
  generalize tO l=C at *;have S:∀k,el (C.take k)=(el C).take k:=fun k=>bAp
  have d:((el C).all fun e=>decide (e.length=1))=true:=bAW.2 (fun e he=>by obtain⟨n,_,rfl⟩:=List.mem_map.1 he;rfl)
  simp (maxSteps:=2000000) (disch:=omega) only[go_sem,h54l0,aZA,qc];rw[dE (fun k=>⟨(jk 2 (.one (.ptr 0 0)::jk 4 (vl (el C)::vi k::jk 97 []))),[x.o]⟩) (fun k=>C.getD k 0∈0::(x.cl-1)::C.take k\/x.mi<=C.getD k 0/\C.getD k 0<=x.mi+8-1) C.length ?_ ?_]
  rotate_left
  rfl;intro k g p;have h3:=p k (aZE _);have hm:=E _ (aZK g);rw[cE C k g] at h3;have t:¬ C[k]=0:=fun q=>h3 (.inl (by rw[q];exact aZV))
  have y:¬ C[k]=x.cl-1:=fun q=>h3 (.inl (by rw[q];exact aZ2 _ aZV))
  have z:¬ C[k]∈C.take k:=fun q=>h3 (.inl (aZ2 _ (aZ2 _ q)))
  have I:Er C[k] 1 x.mi 8=false:=decide_eq_false (fun q=>h3 (.inr (by omega)))
  have i:=Tt (G:=G) (B:=B) (C.take k) C[k] (by rw[aZF];omega);have m:=Eg (G:=G) (B:=B) C[k] 1 x.mi 8 (by omega) (by omega) (by omega) (by omega);rw[decide_eq_false z,S k] at i;rw[I] at m;have a:(k:Int)<C.length:=by omega
  have f:k<=C.length:=by omega
  simp (maxSteps:=2000000) (disch:=omega) only[go_sem,h54l1,aZA,tL,d,i,m,t,y,a,f];obtain⟨g,hp,p⟩:=bD (fun k=>C.getD k 0∈0::(x.cl-1)::C.take k\/x.mi<=C.getD k 0/\C.getD k 0<=x.mi+8-1) C.length
  generalize ix (fun k=>C.getD k 0∈0::(x.cl-1)::C.take k\/x.mi<=C.getD k 0/\C.getD k 0<=x.mi+8-1) C.length=K at *
  rcases hp with rfl|⟨a,hp⟩
  rotate_left
  rw[if_pos a];have hm:=E _ (aZK a);rw[cE C K a] at hp;have i:=Tt (G:=G) (B:=B) (C.take K) C[K] (by rw[aZF];omega);have m:=Eg (G:=G) (B:=B) C[K] 1 x.mi 8 (by omega) (by omega) (by omega) (by omega);rw[S K] at i;have b:(K:Int)<C.length:=by omega
  have f:K<=C.length:=by omega
  by_cases z:C[K]∈C.take K;rw[decide_eq_true z] at i;simp (maxSteps:=2000000) (disch:=omega) only[go_sem,h54l1,aZA,tL,d,i,m,b,f];rw[decide_eq_false z] at i;by_cases t:C[K]=0;simp (maxSteps:=2000000) (disch:=omega) only[go_sem,h54l1,aZA,tL,d,i,m,b,f,eq_true t];by_cases y:C[K]=x.cl-1;simp (maxSteps:=2000000) (disch:=omega) only[go_sem,h54l1,aZA,tL,d,i,m,b,f,t,eq_true y]
  have I:Er C[K] 1 x.mi 8=true:=decide_eq_true (by
   rcases hp with q | q
   ·rcases bAL.1 q with q | q
    ·exact absurd q t
    ·rcases bAL.1 q with q | q
     ·exact absurd q y
     ·exact absurd q z
   ·omega)
  rw[I] at m;simp (maxSteps:=2000000) (disch:=omega) only[go_sem,h54l1,aZA,tL,d,i,m,b,f,t,y];rw[if_neg (Nat.lt_irrefl _)];have w:=bN (G:=G) (B:=B) C.length 32 192;by_cases T:C.length % 2=0;have u:(C.length:Int).tmod 2=0:=by rw[bBd (by omega)];omega
  by_cases U:32<=C.length/\C.length<=192;rw[decide_eq_true (show 32<=(C.length:Int)/\(C.length:Int)<=192 by omega)] at w;have r0:¬ (¬ C.length % 2=0\/¬ (32<=C.length/\C.length<=192)):=by omega
  rw[if_neg r0];have W:C.getD 0 0=C[0]:=cE C 0 (by omega);have X:C.getD 1 0=C[1]:=cE C 1 (by omega);have O:0<C.length:=by omega
  have P:1<C.length:=by omega
  rw[W,X];by_cases F:C[0]=x.tb;by_cases J:C[1]=x.tb+1;rw[if_neg (by omega)];simp (maxSteps:=2000000) (disch:=omega) only[go_sem,h54l1,aZA,tL,w,eq_true u,eq_true F,eq_true J,O,P];rw[if_pos (.inr J)];simp (maxSteps:=2000000) (disch:=omega) only[go_sem,h54l1,aZA,tL,w,eq_true u,eq_true F,J,O,P];rw[if_pos (.inl F)];simp (maxSteps:=2000000) (disch:=omega) only[go_sem,h54l1,aZA,tL,w,eq_true u,F,O,P];rw[decide_eq_false (show ¬ (32<=(C.length:Int)/\(C.length:Int)<=192) by omega)] at w;rw[if_pos (.inr U)];simp (maxSteps:=2000000) (disch:=omega) only[go_sem,h54l1,aZA,tL,w,eq_true u];have u:¬ (C.length:Int).tmod 2=0:=by rw[bBd (by omega)];omega
  rw[if_pos (.inl T)];simp (maxSteps:=2000000) (disch:=omega) only[go_sem,h54l1,aZA,tL,w,u]
end
section
variable {G:aF}{bb:Bool}
theorem Ih(s t:L Int)(a:Nat)(h:a+t.length<=s.length)(b:s.length<=1000000):EV G (Tb (bs bb)) 124 [sv s,vi a,sv t] []=some (sv (iZ s a t),[]):=by
 refine aB rfl ?_;have e:((a:Int)+(t.length:Int)).toNat=a+t.length:=by omega
 unfold iZ;simp (disch:=first|omega|(simp only[aZB,aZC,aZD,aZA,aA,aZI,aZF,aZL,aC,aS]<;>omega)|fail) only[go_sem,h124c,aC,bAd,Int.toNat_zero,bAr,e,aZF,aZL]
theorem aR2(s:L Int)(n:Int)(b:s.length=512)(i:0<=n/\n<=9223372036854775807):EV G (Tb (bs bb)) 127 [sv s,vi n] []=some (sv (nC s n 8),[]):=by
 refine aB rfl ?_;have c:=mC (G:=G) (bb:=bb) n i;simp (disch:=first|omega|(simp only[aZB,aZC,aZD,aZA,aA,aZI,aZF,aZL,aC,aS]<;>omega)|fail) only[go_sem,h127c,c]
 rw[aR (fun k=>⟨(sv (Cr s n k).2::vi n::jk 3 (sv (Cr s n k).1::vi ((k:Int)+1)::jk 25 [])),[]⟩) 8 ?_ ?_]
 obtain⟨j,l,_,_⟩:=aBe (n:=n) b 8 (by omega);have a:EV G (Tb (bs bb)) 124 [sv (Cr s n 8).2,vi 40,sv (Cr s n 8).1] []=some (sv (iZ (Cr s n 8).2 40 (Cr s n 8).1),[]):=Ih (G:=G) (bb:=bb) (Cr s n 8).2 (Cr s n 8).1 40 (by omega) (by omega);rw[aMh b] at a;simp (disch:=first|omega|(simp only[aZB,aZC,aZD,aZA,aA,aZI,aZF,aZL,aC,aS]<;>omega)|fail) only[go_sem,h127l0,a]
 rfl;intro k o;obtain⟨j,l,_,_⟩:=aBe (n:=n) b k (by omega);have h:Cr s n (k+1)=((Cr s n k).1++gZ (Cr s n k).2 (64*k+62),iZ (Cr s n k).2 (64*k+62) (bI n 2)):=rfl;rw[h];have a:=Ih (G:=G) (bb:=bb) (Cr s n k).2 (bI n 2) (64*k+62) (by rw[aA];omega) (by omega);have e:((k:Int)+1)*64-2=((64*k+62:Nat):Int):=by omega
 have p:64*k+62+2<=512:=by omega
 generalize 64*k+62=m at *;have f:((m:Int)+2).toNat=m+2:=by omega
 generalize Cr s n k=z at *;obtain⟨q,d⟩:=z;dsimp only at *;have g:(d.take (m+2)).drop m=gZ d m:=by rw[bAS,bA2]
 simp (disch:=first|omega|(simp only[aZB,aZC,aZD,aZA,aA,aZI,aZF,aZL,aC,aS]<;>omega)|fail) only[go_sem,h127l0,e,c,a,f,g,bAd]
theorem aI3{s:L Int}(c:aI s){a b:Nat}(e:a+2<=s.length)(f:b+2<=s.length):gL s a 2=gL s b 2↔gZ s a=gZ s b:=by
 rw[aHI e,aHI f,qL e,qL f];have j:=qM c a;have k:=qM c (a+1);have h3:=qM c b;have h4:=qM c (b+1);constructor;intro h;have g:s.getD a 0=s.getD b 0:=by omega
 have i:s.getD (a+1) 0=s.getD (b+1) 0:=by omega
 rw[g,i];intro h;injection h with h d
 injection d with d _
 rw[h,d]
open Classical in
theorem aNt(s:L Int)(r:s.length=512)(d:aI s):EV G (Tb (bs bb)) 84 [sv s] []=some (if jP s then .tup [.one (.dc (.raw (.string (dO (eU s))))),.one (.dc (.raw (.bool true)))] else .tup [.one (.dc (.raw (.string (dO [])))),.one (.dc (.raw (.bool false)))],[]):=by
 refine aB rfl ?_;have E:EV G (Tb (bs bb)) 85 [sv s,vi 40,vi 2] []=some (vi (gS s),[]):=cW (G:=G) (bb:=bb) s d 40 2 (by omega) (by omega) (by omega);have I:EV G (Tb (bs bb)) 125 [vi 18] []=some (sv (zl 18),[]):=mD (G:=G) (bb:=bb) 18 (by decide);have F:EV G (Tb (bs bb)) 124 [sv s,vi 40,sv (zl 18)] []=some (sv (Yr s 0),[]):=Ih (G:=G) (bb:=bb) s (zl 18) 40 (by rw[aS];omega) (by omega);have l:jP s↔∀i,i<8->¬ (gS s=0\/gL s (64*i+62) 2≠gS s):=by
  unfold jP gS;constructor;rintro⟨b,B⟩ i o h;rcases h with h|h
  exact b h;exact h ((aI3 d (by omega) (by omega)).2 (B i o));intro h;refine⟨fun A=>h 0 (by decide) (.inl A),fun i o=>?_⟩
  exact (aI3 d (by omega) (by omega)).1 (Classical.byContradiction fun b=>h i o (.inr b))
 simp (disch:=first|omega|(simp only[aZB,aZC,aZD,aZA,aA,aZI,aZF,aZL,aC,aS]<;>omega)|fail) only[go_sem,h84c,E,I,F]
 rw[dE (fun k=>⟨(sv s::jk 3 (vi (gS s)::sv (Yr s k)::vi ((k:Int)+1)::jk 35 [])),[]⟩) (fun i=>gS s=0\/gL s (64*i+62) 2≠gS s) 8 ?_ ?_]
 rotate_left
 rfl;intro k D e;have b:=e k (aZE _);have f:¬ gS s=0:=fun h=>b (.inl h)
 have q:gL s (64*k+62) 2=gS s:=Classical.byContradiction fun h=>b (.inr h)
 clear b e l;have n:EV G (Tb (bs bb)) 85 [sv s,vi ((64*k+62:Nat):Int),vi 2] []=some (vi (gL s (64*k+62) 2),[]):=cW (G:=G) (bb:=bb) s d (64*k+62) 2 (by omega) (by omega) (by omega);rw[q] at n;have K:=(aHH r k (by omega)).1;have J:=kW (s:=s) (a:=42+2*k) (by omega);have t:=Ih (G:=G) (bb:=bb) (Yr s k) (gZ s (42+2*k)) (64*k+62) (by omega) (by omega);have C:Yr s (k+1)=iZ (Yr s k) (64*k+62) (gZ s (42+2*k)):=rfl;rw[<- C] at t;have j:((k:Int)+1)*64-2=((64*k+62:Nat):Int):=by omega
 have u:40+2*((k:Int)+1)=((42+2*k:Nat):Int):=by omega
 have v:(s.take (42+2*k+2)).drop (42+2*k)=gZ s (42+2*k):=by rw[bAS,bA2]
 have M:42+2*k+2<=512:=by omega
 generalize gS s=w at *;generalize 64*k+62=m at *;generalize 42+2*k=c at *;have x:((c:Int)+2).toNat=c+2:=by omega
 generalize gZ s c=y at *;generalize Yr s (k+1)=N at *;generalize Yr s k=z at *;simp (disch:=first|omega|(simp only[aZB,aZC,aZD,aZA,aA,aZI,aZF,aZL,aC,aS]<;>omega)|fail) only[go_sem,h84l0,j,u,n,t,f,v,x,bAd]
 obtain⟨D,hp,e⟩:=bD (fun i=>gS s=0\/gL s (64*i+62) 2≠gS s) 8
 generalize ix (fun i=>gS s=0\/gL s (64*i+62) 2≠gS s) 8=k at *
 rcases hp with rfl|⟨p,hp⟩;rw[if_pos (l.2 e),<- aMi r];simp (disch:=first|omega|(simp only[aZB,aZC,aZD,aZA,aA,aZI,aZF,aZL,aC,aS]<;>omega)|fail) only[go_sem,h84l0]
 rw[if_neg (fun h=>l.1 h k p hp)]
 clear e l;have n:EV G (Tb (bs bb)) 85 [sv s,vi ((64*k+62:Nat):Int),vi 2] []=some (vi (gL s (64*k+62) 2),[]):=cW (G:=G) (bb:=bb) s d (64*k+62) 2 (by omega) (by omega) (by omega);have j:((k:Int)+1)*64-2=((64*k+62:Nat):Int):=by omega
 generalize gL s (64*k+62) 2=g at *;generalize gS s=w at *;generalize 64*k+62=m at *;by_cases f:w=0
 ·simp (disch:=first|omega|(simp only[aZB,aZC,aZD,aZA,aA,aZI,aZF,aZL,aC,aS]<;>omega)|fail) only[go_sem,h84l0,j,eq_true f]
  all_goals rfl
 ·have q:¬ g=w:=by rcases hp with h|h;exact absurd h f;exact h
  simp (disch:=first|omega|(simp only[aZB,aZC,aZD,aZA,aA,aZI,aZF,aZL,aC,aS]<;>omega)|fail) only[go_sem,h84l0,j,n,f,q]
  all_goals rfl
end
section
variable {G:aF}{bb:Bool}
structure aYg (r:cK) (u:Int):Prop where
 ls:0<=r.ls/\r.ls<=9223372036854775807
 sq:0<=r.sq/\r.sq<=9223372036854775807
 li:0<=r.li/\r.li<=9223372036854775807
 fl:0<=r.fl/\r.fl<=9223372036854775807
 br:0<=r.br/\r.br<=9223372036854775807
 bq:0<=r.bq/\r.bq<=9223372036854775807
 nx:0<=r.nx/\r.nx<=9223372036854775807
 us:0<=u/\u<=9223372036854775807
abbrev fds(r:cK)(u:Int):AV:=.agg [.dc (ci r.ls),.dc (ci r.sq),.dc (ci r.li),.dc (ci r.fl),.dc (ci u),.dc (ci r.br),.dc (ci r.bq),.dc (ci r.nx)]
theorem aI4(r:cK)(u:Int)(a:aYg r u)(b:L Int)(g:b.length<=444)(n:Int)(o:0<=n/\n<=9223372036854775807):EV G (Tb (lA bb)) 86 [fds r u,sv b,vi n] []=some (sv (nC (iN r u b) n 8),[]):=by
 refine aB rfl ?_;have B:EV G (Tb (lA bb)) 125 [vi 4] []=some (sv (zl 4),[]):=up (mD (G:=G) (bb:=bb) 4 (by decide));have f:EV G (Tb (lA bb)) 125 [vi 24] []=some (sv (zl 24),[]):=up (mD (G:=G) (bb:=bb) 24 (by decide));have C:EV G (Tb (lA bb)) 125 [vi ((444-b.length:Nat):Int)] []=some (sv (zl (444-b.length)),[]):=up (mD (G:=G) (bb:=bb) (444-b.length) (by omega));have q:=up (qJ (G:=G) (bb:=bb) r.ls a.ls);have s:=up (mC (G:=G) (bb:=bb) r.sq a.sq);have t:=up (mC (G:=G) (bb:=bb) r.li a.li);have v:=up (mC (G:=G) (bb:=bb) 64 (by decide));have w:=up (mC (G:=G) (bb:=bb) r.fl a.fl);have x:=up (qJ (G:=G) (bb:=bb) u a.us);have y:=up (qJ (G:=G) (bb:=bb) 512 (by decide));have z:=up (qJ (G:=G) (bb:=bb) r.br a.br);have A:=up (mC (G:=G) (bb:=bb) r.bq a.bq);have d:=up (mC (G:=G) (bb:=bb) r.nx a.nx);have p:=up (aR2 (G:=G) (bb:=bb) (iN r u b) n (A5 r u b g) o);obtain⟨H,c⟩:∃H:L Int,H=[70,73,76,69]:=⟨_,rfl⟩;have i:(⟨#[70,73,76,69]⟩:ByteArray)=dO H:=by rw[c];rfl
 have e:H.length=4:=by rw[c];rfl
 have j:(⟨#[255,255,255,255]⟩:ByteArray)=dO rU:=rfl;have h:rU.length=4:=rfl;have D:=A5 r u b g;have m:dO (H++(zl 4++(bI r.ls 4++(zl 4++(bI r.sq 2++(bI r.li 2++(bI 64 2++(bI r.fl 2++(bI u 4++(bI 512 4++(bI r.br 4++(bI r.bq 2++(bI r.nx 2++(zl 24++(b++(rU++zl (444-b.length)))))))))))))))))=dO (iN r u b):=by
  rw[c];unfold iN rhd;simp only[aZS]
 have k:(64:Int)-((H++(zl 4++(bI r.ls 4++(zl 4++(bI r.sq 2++(bI r.li 2++(bI 64 2++(bI r.fl 2++(bI u 4++(bI 512 4++(bI r.br 4++(bI r.bq 2++bI r.nx 2)))))))))))).length:Int)=24:=by
  simp only[aZB,aA,aS,e];omega
 have l:(512:Int)-((H++(zl 4++(bI r.ls 4++(zl 4++(bI r.sq 2++(bI r.li 2++(bI 64 2++(bI r.fl 2++(bI u 4++(bI 512 4++(bI r.br 4++(bI r.bq 2++(bI r.nx 2++(zl 24++(b++rU))))))))))))))).length:Int)=((444-b.length:Nat):Int):=by
  simp only[aZB,aA,aS,e,h];omega
 clear c;generalize iN r u b=X at *;simp (maxSteps:=2000000) (disch:=first|omega|(simp only[aZB,aZC,aZD,aZA,aA,aZI,aZF,aZL,aC,aS,e,h]<;>omega)|fail) only[go_sem,h86c,B,f,C,q,s,t,v,w,x,y,z,A,d,p,i,j,k,l,aZS,m,aC]
end
section
variable {G:aF}{bb:Bool}
abbrev LR:L Nat:=[0,1,1,1,0,0,0]
abbrev rv9:L lC:=[.cell 2 true 9,.tmp 3]
abbrev Lq(s o:L Int)(c:L DC)(u:Int)(b:Nat)(a:L (L Int)):AS:=
 ⟨(sv s::jk 1 (.one (.ptr 0 0)::jk 1 (sv o::jk 1 (.one (.ptr 1 0)::vi u::.one (.bld 2 a.length)::vi b::jk 152 [])))),[.box z9,.box (kP c),.arr 0 1 (a.map pV)]⟩
theorem aI5(o:L Int)(a n:Nat):(o.take (a+n)).drop a=(o.drop a).take n:=by rw[bAS,bA2]
theorem aNv(o:L Int)(a i k:Nat):gL (o.drop a) i k=gL o (a+i) k:=by unfold gL;rw[bAE]
theorem We(s o:L Int)(t:L DC)(u:Int)(R:o.length=512)(p:aI o)(X:HC):∀(k at':Nat)(a:L (L Int)),512-at'<k->at'<=512->a.length+(512-at')<=1000-> (∀w,rV k (o.drop at')=some w->qC false rv9 0 (sqK (EV G (Tb (lP G bb))) G (.trm LR X) (Bk 0 (EL (EV G (Tb (lP G bb))) G h51l0 LR 3 (Lq s o t u at' a))))=qC false rv9 0 (EC (EV G (Tb (lP G bb))) G X (Lq s o t u (at'+w.flatten.length) (a++w))))/\ (rV k (o.drop at')=none->qC false rv9 0 (sqK (EV G (Tb (lP G bb))) G (.trm LR X) (Bk 0 (EL (EV G (Tb (lP G bb))) G h51l0 LR 3 (Lq s o t u at' a))))=some (Y7 (.nil,0,3),[])\/ ∃ b r,508 < b/\b<=512/\r.length<=1000/\qC false rv9 0 (sqK (EV G (Tb (lP G bb))) G (.trm LR X) (Bk 0 (EL (EV G (Tb (lP G bb))) G h51l0 LR 3 (Lq s o t u at' a))))=qC false rv9 0 (EC (EV G (Tb (lP G bb))) G X (Lq s o t u b r)))
 |0,at',a,h,_,_=>by omega
 | k+1,at',a,h,M,hA=>by
  have E:gG 1 (a.map pV)=true:=jG (f:=pV) (fun _=>rfl) _
  have N:(a.map pV).take a.length=a.map pV:=bAc (by rw[aZA];exact aZE _);have m:(o.drop at').length=512 - at':=by rw[aZL,R]
  rw[Po,rV];by_cases c0:at'+4<=512
  ·have c:(at':Int)+4<=512:=by omega
   have B:((at':Int)+4).toNat=at'+4:=by omega
   have D:(o.take (at'+4)).drop at'=(o.drop at').take 4:=aI5 o at' 4;have v:(dO ((o.drop at').take 4)=⟨#[255,255,255,255]⟩)=((o.drop at').take 4=rU):=cR (fun x Y=>p x (bAb (aZ0 Y))) H7
   by_cases z:(o.drop at').take 4=rU
   ·refine⟨fun w hp=>?_,fun hp=>?_⟩
    ·rw[if_pos z] at hp;injection hp with hp
     subst hp;rw[eq_true z] at v;rw[bAx,List.flatten_nil,aZD,bAo];simp (disch:=first | omega | (simp only[aZB,aZC,aZD,aZA,aA,aZI,aZF,aZL,aC,aS]<;>omega) | fail) only[go_sem,h51l0,eq_true c,B,D,v,bAd,aZA]
     all_goals rfl
    ·rw[if_pos z] at hp;cases hp
   ·rw[if_neg z];rw[eq_false z] at v;by_cases c2:at'+8<=512
    ·have i:(at':Int)+8<=512:=by omega
     have q:EV G (Tb (lP G bb)) 85 [sv o,vi ((at':Int)+4),vi 4] []=some (vi (gL o (at'+4) 4),[]):=by
      have:=Fn (up (cW (G:=G) (bb:=bb) o p (at'+4) 4 (by omega) (by omega) (by omega)));rw[bAu] at this;exact this
     have V:=Br p (at'+4) 4 (by omega) (by omega);have Q:gL o (at'+4) 4=(pP (o.drop at'):Int):=by unfold pP;rw[aNv];omega
     rw[Q] at q;have I:Fm (o.drop at')↔pP (o.drop at') % 8≠0\/pP (o.drop at') < 24\/(o.drop at').length < pP (o.drop at')+4:=Iff.rfl;have W:(pP (o.drop at'):Int)<=4294967295:=by omega
     clear V Q;generalize pP (o.drop at')=n at *;have C:((n:Int).tmod 8)=((n % 8:Nat):Int):=rfl;by_cases F:n % 8≠0\/n < 24\/(o.drop at').length < n+4
     ·have j:∀ {x:Option (L (L Int))},(if (o.drop at').length < 24 then none else if Fm (o.drop at') then none else x)=none:=fun {x}=>by
       split
       ·rfl
       ·rw[if_pos (I.2 F)]
      refine⟨fun w hp=>?_,fun _=>.inl ?_⟩
      ·rw[j] at hp;cases hp
      ·rw[m] at F;clear I j;by_cases Z:n % 8=0
       ·have g:(n:Int).tmod 8=0:=by rw[C,Z];rfl
        clear C;by_cases x2:n < 24
        ·have l:(n:Int) < 24:=by omega
         simp (disch:=first | omega | (simp only[aZB,aZC,aZD,aZA,aA,aZI,aZF,aZL,aC,aS]<;>omega) | fail) only[go_sem,h51l0,eq_true c,eq_true i,B,D,v,q,eq_true g,eq_true l,bAd,aZA,cK.nil]
         all_goals rfl
        ·have l:¬ (n:Int) < 24:=by omega
         have A:512 < (at':Int)+n+4:=by omega
         simp (disch:=first | omega | (simp only[aZB,aZC,aZD,aZA,aA,aZI,aZF,aZL,aC,aS]<;>omega) | fail) only[go_sem,h51l0,eq_true c,eq_true i,B,D,v,q,eq_true g,l,eq_true A,bAd,aZA,cK.nil]
         all_goals rfl
       ·have g:¬ (n:Int).tmod 8=0:=by rw[C];omega
        clear C;simp (disch:=first | omega | (simp only[aZB,aZC,aZD,aZA,aA,aZI,aZF,aZL,aC,aS]<;>omega) | fail) only[go_sem,h51l0,eq_true c,eq_true i,B,D,v,q,g,bAd,aZA,cK.nil]
        all_goals rfl
     ·have U:512 - (at'+n) < k:=by omega
      have d:¬ (o.drop at').length < 24:=by omega
      rw[if_neg d,if_neg (fun x=>F (I.1 x))]
      rw[m] at F;have O:=We s o t u R p X k (at'+n) (a++[(o.drop at').take n]) U (by omega) (by rw[aZB];simp;omega);have g:(n:Int).tmod 8=0:=by rw[C];omega
      clear C I;have l:¬ (n:Int) < 24:=by omega
      have A:¬ 512 < (at':Int)+n+4:=by omega
      have S:((at':Int)+n).toNat=at'+n:=by omega
      have K:(o.take (at'+n)).drop at'=(o.drop at').take n:=aI5 o at' n;have y:fnK (EV G (Tb (lP G bb))) G h51l0 LR 3 (EC (EV G (Tb (lP G bb))) G h51l0 (Lq s o t u at' a))=EL (EV G (Tb (lP G bb))) G h51l0 LR 3 (Lq s o t u (at'+n) (a++[(o.drop at').take n])):=by
       refine aHY ?_;unfold Lq;rw[aZB,bAh,bAu];simp (disch:=first | omega | (simp only[aZB,aZC,aZD,aZA,aA,aZI,aZF,aZL,aC,aS]<;>omega) | fail) only[go_sem,h51l0,eq_true c,eq_true i,B,D,v,q,eq_true g,l,A,S,K,bAd,aZA,E,N,aZE,aZM,aZN,aZC,aZD]
      have J:o.drop (at'+n)=(o.drop at').drop n:=by rw[bAE]
      rw[J] at O;rw[y];clear y;refine⟨fun w hp=>?_,fun hp=>?_⟩
      ·obtain⟨P,T,rfl⟩:=Option.map_eq_some_iff.1 hp;have:=O.1 P (by rw[<- T]);rw[this];have el:at'+n+P.flatten.length=at'+((o.drop at').take n::P).flatten.length:=by
        rw[bAw,aZB,aZF,m];omega
       rw[el];simp only[aZS,List.singleton_append]
      ·exact O.2 (by simpa using hp)
    ·have i:¬ (at':Int)+8<=512:=by omega
     have d:(o.drop at').length < 24:=by omega
     rw[if_pos d];refine⟨fun w hp=>(by cases hp),fun _=>.inl ?_⟩
     have g:(0:Int).tmod 8=0:=rfl;simp (disch:=first | omega | (simp only[aZB,aZC,aZD,aZA,aA,aZI,aZF,aZL,aC,aS]<;>omega) | fail) only[go_sem,h51l0,eq_true c,i,B,D,v,g,bAd,aZA,cK.nil]
     all_goals rfl
  ·have c:¬ (at':Int)+4<=512:=by omega
   have z:¬ (o.drop at').take 4=rU:=fun h=>by
    have:=congrArg List.length h;rw[aZF,m] at this;have e:rU.length=4:=rfl;omega
   have d:(o.drop at').length < 24:=by omega
   rw[if_neg z,if_pos d];refine⟨fun w hp=>(by cases hp),fun _=>.inr ⟨at',a,by omega,M,by omega, ?_⟩⟩
   simp (disch:=first | omega | (simp only[aZB,aZC,aZD,aZA,aA,aZI,aZF,aZL,aC,aS]<;>omega) | fail) only[go_sem,h51l0,c,bAd,aZA]
   all_goals rfl
end
section
variable {G:aF}{bb:Bool}
def sH:HC->HC
 |.gh _ a=>a
 |c=>c
def nY:HC:=sT (sB (sB (sH (sB (sB (sB (sB (sB (sB (sB h51c))))))))))
def Rc:HC:=sB (sH (sB (sB nY)))
abbrev fd8(o:L Int):L DC:=[ci (gL o 8 4),ci (gL o 16 2),ci (gL o 18 2),ci (gL o 22 2),ci (gL o 24 4),ci (gL o 32 4),ci (gL o 36 2),ci (gL o 38 2)]
theorem aNw(s o:L Int)(d:L DC)(u:Int)(b:Nat)(e:508<b/\b<=512)(a:L (L Int)):qC false rv9 0 (EC (EV G (Tb (lP G bb))) G nY (Lq s o d u b a))=some (aRF 3,[]):=by
 have c:512<(b:Int)+4:=by omega
 simp (disch:=first|omega|(simp only[aZB,aZC,aZD,aZA,aA,aZI,aZF,aZL,aC,aS]<;>omega)|fail) only[go_sem,nY,sT,sB,sH,h51c,eq_true c]
theorem aNx(o:List Int)(u:Int)(a:List (List Int))(K:a.length<=1000)(b:∀k (g:k<a.length),EV G (Tb (lP G bb)) 87 [sv a[k]] []=some (rtv (bL a[k]),[])) (l:EV G (Tb (lP G bb)) 88 [(dX o (iJ a).1).v] []=some (vi (gJ (dX o (iJ a).1)),[])) {st:AS} (y:st=⟨(jk 2 (.one (.ptr 0 0)::jk 4 (vi u::.one (.bld 2 a.length)::jk 2 (.one (.ptr 3 0)::vi (0:Nat)::jk 149 [])))),[.box z9,.box (kP (fd8 o)),.arr 0 1 (a.map pV),.box (r9 o++[.bld 4 0]),.arr 0 11 []]⟩):qC false rv9 0 (sqK (EV G (Tb (lP G bb))) G Rc (Bk 2 (EL (EV G (Tb (lP G bb))) G h51l1 [2,4,0,2,0] 5 st)))=some (Y7 (V3 o u (iJ a)),[]):=by
 have h:∀k (g:k<a.length),(a.map pV)[k]?=some (pV a[k]):=fun k g=>by rw[aZH,aZJ g];rfl
 have q:∀k (g:k<a.length),a.getD k []=a[k]:=fun k g=>by simp[List.getD,g]
 rw[dE (fun k=>⟨(jk 2 (.one (.ptr 0 0)::jk 4 (vi u::.one (.bld 2 a.length)::jk 2 (.one (.ptr 3 0)::vi k::jk 149 [])))),[.box z9,.box (kP (fd8 o)),.arr 0 1 (a.map pV),.box (r9 o++[.bld 4 ((a.take k).map fun p=>(bL p).1.e).length]),.arr 0 11 ((a.take k).map fun p=>(bL p).1.e)]⟩) (fun k=>(bL (a.getD k [])).2≠0) a.length ?_ ?_]
 rotate_left
 rw[y];rfl;intro k g n;have D:=Classical.not_not.1 (n k (aZE _));rw[q k g] at D;have t:=b k g;have e:=h k g;have N:((a.take k).map fun p=>(bL p).1.e).length<=1000:=by rw[aZA,aZF];omega
 have s:gG 11 ((a.take k).map fun p=>(bL p).1.e)=true:=jG (f:=fun p=>(bL p).1.e) (fun _=>rfl) _
 have F:(a.take (k+1)).map (fun p=>(bL p).1.e)=(a.take k).map (fun p=>(bL p).1.e)++[(bL a[k]).1.e]:=by
  rw[bAA g,bAh,aZM,aZN]
 rw[F];clear l b h q y n F;have B:((a.take k).map fun p=>(bL p).1.e).take ((a.take k).map fun p=>(bL p).1.e).length=(a.take k).map fun p=>(bL p).1.e:=bAj
 generalize (a.take k).map (fun p=>(bL p).1.e)=C at *
 generalize bL a[k]=d at *;obtain⟨x,z⟩:=d;dsimp only at D t ⊢;subst D;generalize a[k]=p at *;rw[aZB];simp (disch:=omega) only[go_sem,h51l1,aZA,e,t,aJ.e,s,B,aZC,aZD,aZE,aZT,aZP,bAn];obtain⟨g,hp,n⟩:=bD (fun k=>(bL (a.getD k [])).2≠0) a.length
 generalize ix (fun k=>(bL (a.getD k [])).2≠0) a.length=k at *
 rcases hp with rfl|⟨i,hp⟩
 have r:=Lc a (fun p hp=>by
  obtain⟨j,A,rfl⟩:=List.mem_iff_getElem.1 hp;have:=Classical.not_not.1 (n j A);rwa[q j A] at this)
 have E:(a.take a.length).map (fun p=>(bL p).1.e)=(a.map fun p=>(bL p).1).map aJ.e:=by rw[bAj,aZ4];rfl
 have m:((a.map fun p=>(bL p).1).map aJ.e).length=a.length:=by simp
 have I:((a.map fun p=>(bL p).1).map aJ.e).take a.length=(a.map fun p=>(bL p).1).map aJ.e:=bAc (by omega)
 rw[E,m];rw[r] at l ⊢;unfold V3;rw[if_neg (not_not_intro rfl)];dsimp only at l ⊢;clear b h q y r E n;generalize (a.map fun p=>(bL p).1)=L at *
 by_cases w:gJ (dX o L)=0;rw[if_neg (not_not_intro w)];rw[w] at l;simp only[dX,cK.v,cK.c] at l;generalize J:L.map aJ.e=M at *;simp (disch:=omega) only[go_sem,Rc,nY,sT,sB,sH,h51c,h51l1,aZA,l,m,I,aZE,aZT,aZP];simp only[Y7,dX,cK.c,J,aZT,aZP];rw[if_pos w,qZ];generalize gJ (dX o L)=O at *;simp only[dX,cK.v,cK.c] at l;generalize L.map aJ.e=M at *;simp (disch:=omega) only[go_sem,Rc,nY,sT,sB,sH,h51c,h51l1,aZA,l,w,m,I,aZE,aZT,aZP];have r:=Ld a k i (fun j A=>Classical.not_not.1 (n j A)) hp
 rw[q k i] at hp r;rw[r];unfold V3;dsimp only;rw[if_pos hp,qZ];have t:=b k i;have e:=h k i;clear b h q y r n l;generalize (a.take k).map (fun p=>(bL p).1.e)=C at *
 generalize bL a[k]=d at *;obtain⟨x,z⟩:=d;dsimp only at hp t ⊢;generalize a[k]=p at *;simp (disch:=omega) only[go_sem,Rc,nY,sT,sB,sH,h51c,h51l1,aZA,e,t,aJ.e,hp,aZT,aZP]
theorem aR3{b:L Int}(c:b.length=512)(a:aI b)(n:Int):aI (nC b n 8):=by
 intro x f;obtain⟨j,d,rfl⟩:=List.mem_iff_getElem.1 f;have e:(nC b n 8)[j]=(nC b n 8).getD j 0:=by simp[aZO,d]
 rw[e,N0 c 8 (by omega)];unfold ptG
 repeat' split
 all_goals first|omega|exact qM a _
theorem aNy(s o:L Int)(E:aI s)(P:o.length=512)(a:aI o)(u:Int)(Q:0<=u/\u<=65535)(b:L (L Int))(p:b.length<=1000)(fl:L Int)(hf:fl.length<=444)(n:aI fl)(i:o.take (64+fl.length)=o.take 64++fl) (g:∀k (O:k<b.length),EV G (Tb (lP G bb)) 87 [sv b[k]] []=some (rtv (bL b[k]),[])) (K:EV G (Tb (lP G bb)) 88 [(dX o (iJ b).1).v] []=some (vi (gJ (dX o (iJ b).1)),[])) (d:cK×Int×Int)
  (e:d=if gL o 24 4=68+fl.length/\nC (iN (dX o []) (gL o 24 4) fl) u 8=s then V3 o u (iJ b) else (.nil,0,3)):
  qC false rv9 0 (EC (EV G (Tb (lP G bb))) G nY (Lq s o (fd8 o) u (64+fl.length) b))=some (Y7 d,[]):=by
 have x:=Br a 16 2 (by omega) (by omega);have y:=Br a 18 2 (by omega) (by omega);have z:=Br a 22 2 (by omega) (by omega);have A:=Br a 32 4 (by omega) (by omega);have B:=Br a 36 2 (by omega) (by omega);have C:=Br a 38 2 (by omega) (by omega);have D:=Br a 8 4 (by omega) (by omega);have M:=Br a 24 4 (by omega) (by omega);have r:=Fn (aI4 (G:=G) (bb:=bb) (dX o []) (gL o 24 4) ⟨by simp only[dX];omega,by simp only[dX];omega,by simp only[dX];omega,by simp only[dX];omega,by simp only[dX];omega,by simp only[dX];omega,by simp only[dX];omega,by omega⟩ fl hf u (by omega));have t:(o.take (64+fl.length)).drop 64=fl:=by rw[i,List.drop_left' (by rw[aZF];omega)]
 have m:¬ 512<(68+fl.length:Int):=by omega
 have w:((64:Int)+(fl.length:Int)).toNat=64+fl.length:=by omega
 have c:(64:Int)+(fl.length:Int)+4=68+(fl.length:Int):=by omega
 have J:(64:Int)+(fl.length:Int)<=512:=by omega
 have q:=aNx (G:=G) (bb:=bb) o u b p g K rfl;have I:=aR3 (A5 (dX o []) (gL o 24 4) fl hf) (Eb (dX o []) (gL o 24 4) fl n) u;generalize nC (iN (dX o []) (gL o 24 4) fl) u 8=Y at *;simp only[dX] at r;have l:=cR I E;clear x y z A B C D i;generalize N:fl.length=F at *;by_cases f:gL o 24 4=68+F;by_cases j:Y=s;rw[if_pos ⟨f,j⟩] at e;subst e;rw[eq_true j] at l;simp (maxSteps:=2000000) (disch:=first|omega|(simp only[aZB,aZC,aZD,aZA,aA,aZI,aZF,aZL,aC,aS]<;>omega)|fail) only[go_sem,nY,sT,sB,sH,h51c,kP,aZM,aZN,bAu,c,m,eq_true f,t,w,Int.reduceToNat,r,l,Js]
 exact q;rw[if_neg (fun h=>j h.2)] at e
 subst e;rw[eq_false j] at l;rw[qZ];simp (maxSteps:=2000000) (disch:=first|omega|(simp only[aZB,aZC,aZD,aZA,aA,aZI,aZF,aZL,aC,aS]<;>omega)|fail) only[go_sem,nY,sT,sB,sH,h51c,kP,aZM,aZN,bAu,c,m,eq_true f,t,w,Int.reduceToNat,r,l,Js]
 rw[if_neg (fun h=>f h.1)] at e
 subst e;rw[qZ];simp (maxSteps:=2000000) (disch:=first|omega|(simp only[aZB,aZC,aZD,aZA,aA,aZI,aZF,aZL,aC,aS]<;>omega)|fail) only[go_sem,nY,sT,sB,sH,h51c,kP,aZM,aZN,bAu,c,m,f,Int.reduceToNat]
theorem Ii(s:L Int)(l:aI s)(W:s.length<=9223372036854775807):EV G (Tb (lP G bb)) 51 [sv s] []=some (Y7 (dQ s),[]):=by
 refine aB rfl ?_;unfold dQ;by_cases g:s.length=512;rw[if_neg (not_not_intro g)];have t:=Fn (up (aNt (G:=G) (bb:=bb) s g l));by_cases o:jP s;rw[if_neg (not_not_intro o)];rw[if_pos o] at t;have A:=qK g;have a:=Kz g l;have X:=Yy g l o;have C:EV G (Tb (lP G bb)) 85 [sv s,vi 40,vi 2] []=some (vi (gS s),[]):=Fn (up (cW (G:=G) (bb:=bb) s l 40 2 (by omega) (by omega) (by omega)));have D:EV G (Tb (lP G bb)) 85 [sv (eU s),vi 16,vi 2] []=some (vi (gL (eU s) 16 2),[]):=Fn (up (cW (G:=G) (bb:=bb) (eU s) a 16 2 (by omega) (by omega) (by omega)));have E:EV G (Tb (lP G bb)) 85 [sv (eU s),vi 18,vi 2] []=some (vi (gL (eU s) 18 2),[]):=Fn (up (cW (G:=G) (bb:=bb) (eU s) a 18 2 (by omega) (by omega) (by omega)));have F:EV G (Tb (lP G bb)) 85 [sv (eU s),vi 22,vi 2] []=some (vi (gL (eU s) 22 2),[]):=Fn (up (cW (G:=G) (bb:=bb) (eU s) a 22 2 (by omega) (by omega) (by omega)));have I:EV G (Tb (lP G bb)) 85 [sv (eU s),vi 32,vi 4] []=some (vi (gL (eU s) 32 4),[]):=Fn (up (cW (G:=G) (bb:=bb) (eU s) a 32 4 (by omega) (by omega) (by omega)));have J:EV G (Tb (lP G bb)) 85 [sv (eU s),vi 36,vi 2] []=some (vi (gL (eU s) 36 2),[]):=Fn (up (cW (G:=G) (bb:=bb) (eU s) a 36 2 (by omega) (by omega) (by omega)));have K:EV G (Tb (lP G bb)) 85 [sv (eU s),vi 38,vi 2] []=some (vi (gL (eU s) 38 2),[]):=Fn (up (cW (G:=G) (bb:=bb) (eU s) a 38 2 (by omega) (by omega) (by omega)));have M:EV G (Tb (lP G bb)) 85 [sv (eU s),vi 8,vi 4] []=some (vi (gL (eU s) 8 4),[]):=Fn (up (cW (G:=G) (bb:=bb) (eU s) a 8 4 (by omega) (by omega) (by omega)));have N:EV G (Tb (lP G bb)) 85 [sv (eU s),vi 24,vi 4] []=some (vi (gL (eU s) 24 4),[]):=Fn (up (cW (G:=G) (bb:=bb) (eU s) a 24 4 (by omega) (by omega) (by omega)));have j:=We (G:=G) (bb:=bb) s (eU s) (fd8 (eU s)) (gS s) A a nY 449 64 [] (by decide) (by decide) (by decide);have i:Ad ((eU s).drop 64)=rV 449 ((eU s).drop 64):=by
  unfold Ad;rw[aZL,A]
 cases r:Ad ((eU s).drop 64) with
 |none=>
  dsimp only;rw[qZ];have f:=j.2 (by rw[<- i];exact r);have z:qC false rv9 0 (sqK (EV G (Tb (lP G bb))) G (.trm LR nY) (Bk 0 (EL (EV G (Tb (lP G bb))) G h51l0 LR 3 (Lq s (eU s) (fd8 (eU s)) (gS s) 64 []))))=some (aRF 3,[]):=by
   rcases f with f|⟨b,B,v,w,V,f⟩;rw[f,qZ];rw[f,aNw _ _ _ _ _ ⟨v,w⟩]
  clear j f;generalize gS s=u at *;simp (maxSteps:=2000000) (disch:=omega) only[go_sem,h51c,aC,g,t,C,D,E,F,I,J,K,M,N];exact z
 |some e=>
  dsimp only;obtain⟨O,y,h3,h4⟩:=Yz g l r;obtain⟨S,Q,T,U⟩:=Qq _ _ _ (show rV 449 ((eU s).drop 64)=some e by rw[<- i];exact r);have f:=j.1 e (by rw[<- i];exact r);have p:=aQ7 g l r;have m:∀ k (f:k < e.length),EV G (Tb (lP G bb)) 87 [sv e[k]] []=some (rtv (bL e[k]),[]):=fun k f=>by
   obtain⟨v,w,_⟩:=O _ (aZK f);rw[aQX v w];exact Fn (up (Yp (G:=G) (bb:=bb) e[k] v w))
  have R:=Fn (aMB (G:=G) (bb:=bb) (dX (eU s) (iJ e).1) p);have q:(eU s).take (64+e.flatten.length)=(eU s).take 64++e.flatten:=by
   rw[List.take_add,Q]
  have n:=aHR g l o e.flatten y;have P:=aNy (G:=G) (bb:=bb) s (eU s) l A a (gS s) (by omega) e (by omega) e.flatten y h4 q m R (U5 s e) (by
   unfold U5;by_cases c:iN (dX (eU s) []) (68+(e.flatten.length:Int)) e.flatten=eU s
   ·rw[if_neg (not_not_intro c),if_pos (n.1 c)];rfl
   ·rw[if_pos c,if_neg (fun h=>c (n.2 h))])
  rw[aZP] at f;rw[P] at f;clear j P i O y h3 h4 S Q T U m R q n p;generalize U5 s e=d at *;generalize gS s=u at *;simp (maxSteps:=2000000) (disch:=omega) only[go_sem,h51c,aC,g,t,C,D,E,F,I,J,K,M,N];exact f
 rw[if_pos o];rw[if_neg o] at t;rw[qZ];simp (disch:=omega) only[go_sem,h51c,aC,g,t];rw[if_pos g];have x:¬ (s.length:Int)=512:=by omega
 rw[qZ];simp (disch:=omega) only[go_sem,h51c,aC,x]
end
section
variable {G:aF}{bb:Bool}
def hCR:HF:={ h55 with own:=false }
def tb5:FuncId->Option HF:=fun f=>if f=55 then some hCR else if f=28 then some h28 else if f=27 then some h27 else if f=10 then some h10 else if f=12 then some h12 else if f=13 then some h13 else if f=15 then some h15 else none
noncomputable def T5(G:aF)(b:Bool):HT:=⟨tb5,EV G (Tb (eL G b))⟩
theorem aWl{b:Bool}:Xr Tryz.prog (T5 G b):=by
 intro f h hf;change tb5 f=some h at hf;unfold tb5 at hf;split at hf;rename_i e;subst e;injection hf with hf;subst hf;exact⟨by kernel_rfl,_,Tryz.func55,Tryz.ntmps55,h55_ok,aPm⟩
 split at hf;rename_i e;subst e;injection hf with hf;subst hf;exact⟨by kernel_rfl,_,Tryz.func28,Tryz.ntmps28,h28_ok,aPl⟩
 split at hf;rename_i e;subst e;injection hf with hf;subst hf;exact⟨by kernel_rfl,_,Tryz.func27,Tryz.ntmps27,h27_ok,aPk⟩
 split at hf;rename_i e;subst e;injection hf with hf;subst hf;exact⟨by kernel_rfl,_,Tryz.func10,Tryz.ntmps10,h10_ok,aPg⟩
 split at hf;rename_i e;subst e;injection hf with hf;subst hf;exact⟨by kernel_rfl,_,Tryz.func12,Tryz.ntmps12,h12_ok,aPh⟩
 split at hf;rename_i e;subst e;injection hf with hf;subst hf;exact⟨by kernel_rfl,_,Tryz.func13,Tryz.ntmps13,h13_ok,aPi⟩
 split at hf;rename_i e;subst e;injection hf with hf;subst hf;exact⟨by kernel_rfl,_,Tryz.func15,Tryz.ntmps15,h15_ok,aPj⟩
 cases hf
theorem t5{b:Bool}{f:FuncId}{a:L AV}{hp:L aD}{r:AV×L aD}(h:EV G (Tb (eL G b)) f a hp=some r)(c:tb5 f=none:=by decide):EV G (T5 G b) f a hp=some r:=jF c h
theorem aNz{b:Bool}(j:b=true->QC Tryz.prog G 4 [] (.one (.dc (.raw (.bool true))))):cH Tryz.prog G (EV G (T5 G b)):=by
 intro f a hp d i h c e;obtain⟨n,g⟩:=jZ h;refine uS aWl ?_ n f a hp d i g c e;intro f a hp d i h c e;obtain⟨n,g⟩:=jZ h;exact uS (aAF (eL G b)) (aIq j) n f a hp d i g c e
end
section
variable {G:aF}{bb:Bool}
noncomputable def vwV(s:L Int):(Bt×L aW×Int)×Int:=if nW s=0 then (((bB s).1,(mW s).rs,(oT s:Int)),0) else ((nB,[],0),nW s)
abbrev aYi(p:(Bt×L aW×Int)×Int):AV:=.tup [.agg [.dc (ci p.1.1.cl),.dc (ci p.1.1.tb),.dc (ci p.1.1.mi),.dc (ci p.1.1.lg),.dc (ci p.1.1.lc),.dc (ci p.1.1.se),.dc (.slc (p.1.2.1.map aW.e)),.dc (ci p.1.2.2)],tE p.2]
noncomputable def Wk(s:L Int)(C:L Int)(n:Nat):L Int:=Bc s (C.getD (2*n) 0).toNat (C.getD (2*n+1) 0).toNat
def miB(s:L Int)(x:Bt)(n:Nat):L Int:=Bc s (x.mi.toNat+2*n) (x.mi.toNat+2*n+1)
end
section
variable {G:aF}{bb:Bool}
theorem aBK(l:L aW)(a:l.length<=1000000):EV G (T5 G bb) 55 [cQ l] []=some (cQ l,[]):=by
 refine aB (h:=hCR) rfl ?_;simp only[hCR];simp (maxSteps:=2000000) (disch:=omega) only[go_sem,h55c,aZA]
theorem aR4{s:L Int}(b:(bB s).2.2=0)(c:(mN s).2.2=0)(h3:¬ jA jC (mN s).1.ats<0)(h4:(mW s).res=false)(h5:(mW s).fi=0):nW s=rnE (bB s).1 (mW s).rs:=by
 have a:nQ s=Ej (bB s).1 (mW s):=by
  unfold nQ;rw[if_neg (not_not_intro b),if_neg (not_not_intro c),if_neg h3]
 unfold nW rnE;rw[a];unfold Ej Q2 jU;rw[h4,decide_eq_true h5,aZ6,aZ8,eB,aV];generalize (mW s).rs.any (fun r=>decide (r.s=-1))=A
 generalize (mW s).rs.any (fun r=>decide (r.s+r.n > (bB s).1.cl))=E
 generalize clE (bB s).1 (tO (mW s).rs)=C;cases A;cases E<;>rfl;rfl
theorem aR5{s:L Int}(c:(bB s).2.2=0)(d:(mN s).2.2=0)(h3:¬ jA jC (mN s).1.ats<0)(h4:(mW s).res=true\/¬ (mW s).fi=0):nW s=15:=by
 have a:nQ s=Ej (bB s).1 (mW s):=by
  unfold nQ;rw[if_neg (not_not_intro c),if_neg (not_not_intro d),if_neg h3]
 have b:Ej (bB s).1 (mW s)=15:=by
  unfold Ej;have:(!(mW s).res&&decide ((mW s).fi=0))=false:=by
   rcases h4 with h|h;rw[h];rfl;rw[decide_eq_false h,Bool.and_false]
  rw[this,fF,aY _ _ (by decide)]
 unfold nW;rw[a,b,if_pos (by decide)]
theorem Rd(s:L Int)(U:aI s)(hl:s.length<=200000):EV G (T5 G bb) 28 [sv s] []=some (aYi (vwV s),[]):=by
 have q:=t5 (b:=bb) (aDO (G:=G) (B:=eL G bb) s U hl);by_cases k:(bB s).2.2=0;have b:=Ib k;have b2:=b.cl;have b3:=b.n;have b4:=b.tb;have b5:=b.mi;have cT:=t5 (b:=bb) (Rb (G:=G) (B:=eL G bb) s (bB s).1.tb.toNat (by omega) hl);have p:=t5 (b:=bb) (Rb (G:=G) (B:=eL G bb) s (bB s).1.mi.toNat (by omega) hl);rw[show (((bB s).1.tb.toNat:Nat):Int)=(bB s).1.tb by omega] at cT;rw[show (((bB s).1.mi.toNat:Nat):Int)=(bB s).1.mi by omega] at p;change EV G (T5 G bb) _ _ _=some (sv (Mg s (bB s).1),[]) at cT;change EV G (T5 G bb) _ _ _=some (sv (Q1 s (bB s).1),[]) at p;have dT:=t5 (upT (Ii (G:=G) (bb:=bb) (Mg s (bB s).1) (kD U _ _) (by unfold Mg;rw[Bf (by omega) (by omega)];omega)));have dM:=t5 (upT (Ii (G:=G) (bb:=bb) (Q1 s (bB s).1) (kD U _ _) (by unfold Q1;rw[Bf (by omega) (by omega)];omega)));have m:mN s=Rh (Mg s (bB s).1) (Q1 s (bB s).1):=rfl;unfold Rh at m;have R:=Q3 s U;have oK:=@V6 s;have oA:=@Lg s U;have c:=@aR5 s k;have d:=@aR4 s k;have f:∀l:L aW,sO l->(∀q∈l,(-1<=q.s/\q.s<=1000)/\(0<=q.n/\q.n<=4096))->cC l<=4096->EV G (T5 G bb) 54 [(bB s).1.v,cQ l] []=some (vi (rnE (bB s).1 l),[]):=fun l a1 a2 a3=>
  t5 (aR1 (G:=G) (B:=eL G bb) (bB s).1 l ⟨by omega,by omega,by omega⟩ a1 a2 a3)
 by_cases g:(dQ (Mg s (bB s).1)).2.2=0;rw[if_pos g] at m;rw[m] at R oK oA c d;have C:mW s=(dQ (Mg s (bB s).1)).1.ats.getD (jA jC (dQ (Mg s (bB s).1)).1.ats).toNat aJ.nil:=by unfold mW;rw[m]
 have y:jA jC (dQ (Mg s (bB s).1)).1.ats < 0->nW s=6:=fun hi=>by
  unfold nW nQ;rw[m,if_neg (not_not_intro k),if_neg (not_not_intro g),if_pos hi,if_pos (by decide)]
 have X:vwV s=if nW s=0 then (((bB s).1,(mW s).rs,(oT s:Int)),0) else ((nB,[],0),nW s):=rfl
 have t:=t5 (b:=bb) (Wd (G:=G) (B:=eL G bb) (dQ (Mg s (bB s).1)).1 (by have:=R.1.ln;omega));replace oA:=oA g;replace c:=c g;replace d:=d g;have M:oT s=(tO (mW s).rs).length / 2:=rfl;clear m;rw[X];clear X R;generalize dQ (Mg s (bB s).1)=P at *;generalize dQ (Q1 s (bB s).1)=Q at *;generalize Mg s (bB s).1=ST at *;generalize Q1 s (bB s).1=SM at *;generalize nW s=E at *;generalize oT s=Y at *;generalize mW s=A at *;obtain⟨r,u,e⟩:=P;obtain⟨O,u',e'⟩:=Q;generalize bB s=V at *;obtain⟨x,a,w⟩:=V;simp only at k g oA oK c d f t y C;subst k;by_cases h3:jA jC r.ats<0;have y:=y h3;subst y;rw[if_neg (by decide)];generalize jA jC r.ats=I at *;refine aB rfl ?_;simp (maxSteps:=2000000) (disch:=omega) only[go_sem,h28c,q,cT,p,dT,dM,eq_true g,t,h3,Bt.cs,aZT,aZP];rfl;obtain⟨K,F,k1,W,_⟩:=oK h3;obtain⟨T,z⟩:=oA h3;obtain⟨J,c2,S⟩:=Bg (qO T z);replace c:=c h3;replace d:=d h3;have hw:gQ A.rs=cC A.rs:=Yc (qO T z);have N:=Au A.rs (fun r h=>(S r h).2.1)
 have cp:=aBK (G:=G) (bb:=bb) A.rs (by have:=J.len;omega);have lq:=t5 (b:=bb) (rM (G:=G) (B:=eL G bb) A.rs (by have:=J.len;omega));have dv:(gQ A.rs).tdiv 2=(Y:Int):=by rw[M,hw,<- N,bBf (by omega)];omega
 replace f:=f A.rs J S c2;clear C y oK oA;have D:r.ats[K].e=A.e:=by rw[<- W]
 generalize jA jC r.ats=I at *;subst k1;have i:¬ (K:Int)<0:=by omega
 have j:(K:Int)<r.ats.length:=by omega
 clear W;by_cases h4:A.res=true;have c:=c (.inl h4);subst c;rw[if_neg (by decide)];refine aB rfl ?_;simp (maxSteps:=2000000) (disch:=omega) only[go_sem,h28c,q,cT,p,dT,dM,eq_true g,t,i,j,F,aZA,ixA,D,h4,Bt.cs,aZT,aZP];rfl;have h4:A.res=false:=by simpa using h4
 by_cases h5:A.fi=0;have d:=d h4 h5;subst d;generalize rnE x A.rs=Z at *;by_cases h6:Z=0
 ·subst h6;rw[if_pos rfl];refine aB rfl ?_;simp (maxSteps:=2000000) (disch:=omega) only[go_sem,h28c,q,cT,p,dT,dM,eq_true g,t,i,j,F,aZA,ixA,D,h4,eq_true h5,f,cp,lq,dv,Bt.cs,aZT,aZP];try rfl
 rw[if_neg h6];refine aB rfl ?_;simp (maxSteps:=2000000) (disch:=omega) only[go_sem,h28c,q,cT,p,dT,dM,eq_true g,t,i,j,F,aZA,ixA,D,h4,eq_true h5,f,h6,Bt.cs,aZT,aZP];rfl;have c:=c (.inr h5);subst c;rw[if_neg (by decide)];refine aB rfl ?_;simp (maxSteps:=2000000) (disch:=omega) only[go_sem,h28c,q,cT,p,dT,dM,eq_true g,t,i,j,F,aZA,ixA,D,h4,h5,Bt.cs,aZT,aZP];rfl;rw[if_neg g] at m;by_cases o:(dQ (Q1 s (bB s).1)).2.2=0;rw[if_pos o] at m;rw[m] at R oK oA c d;have C:mW s=(dQ (Q1 s (bB s).1)).1.ats.getD (jA jC (dQ (Q1 s (bB s).1)).1.ats).toNat aJ.nil:=by unfold mW;rw[m]
 have y:jA jC (dQ (Q1 s (bB s).1)).1.ats < 0->nW s=6:=fun hi=>by
  unfold nW nQ;rw[m,if_neg (not_not_intro k),if_neg (not_not_intro o),if_pos hi,if_pos (by decide)]
 have X:vwV s=if nW s=0 then (((bB s).1,(mW s).rs,(oT s:Int)),0) else ((nB,[],0),nW s):=rfl
 have t:=t5 (b:=bb) (Wd (G:=G) (B:=eL G bb) (dQ (Q1 s (bB s).1)).1 (by have:=R.1.ln;omega));replace oA:=oA o;replace c:=c o;replace d:=d o;have M:oT s=(tO (mW s).rs).length / 2:=rfl;clear m;rw[X];clear X R;generalize dQ (Mg s (bB s).1)=P at *;generalize dQ (Q1 s (bB s).1)=Q at *;generalize Mg s (bB s).1=ST at *;generalize Q1 s (bB s).1=SM at *;generalize nW s=E at *;generalize oT s=Y at *;generalize mW s=A at *;obtain⟨r,u,e⟩:=P;obtain⟨O,u',e'⟩:=Q;generalize bB s=V at *;obtain⟨x,a,w⟩:=V;simp only at k g o oA oK c d f t y C;subst k;by_cases h3:jA jC O.ats<0;have y:=y h3;subst y;rw[if_neg (by decide)];generalize jA jC O.ats=I at *;refine aB rfl ?_;simp (maxSteps:=2000000) (disch:=omega) only[go_sem,h28c,q,cT,p,dT,dM,g,eq_true o,t,h3,Bt.cs,aZT,aZP];rfl;obtain⟨K,F,k1,W,_⟩:=oK h3;obtain⟨T,z⟩:=oA h3;obtain⟨J,c2,S⟩:=Bg (qO T z);replace c:=c h3;replace d:=d h3;have hw:gQ A.rs=cC A.rs:=Yc (qO T z);have N:=Au A.rs (fun r h=>(S r h).2.1)
 have cp:=aBK (G:=G) (bb:=bb) A.rs (by have:=J.len;omega);have lq:=t5 (b:=bb) (rM (G:=G) (B:=eL G bb) A.rs (by have:=J.len;omega));have dv:(gQ A.rs).tdiv 2=(Y:Int):=by rw[M,hw,<- N,bBf (by omega)];omega
 replace f:=f A.rs J S c2;clear C y oK oA;have D:O.ats[K].e=A.e:=by rw[<- W]
 generalize jA jC O.ats=I at *;subst k1;have i:¬ (K:Int)<0:=by omega
 have j:(K:Int)<O.ats.length:=by omega
 clear W;by_cases h4:A.res=true;have c:=c (.inl h4);subst c;rw[if_neg (by decide)];refine aB rfl ?_;simp (maxSteps:=2000000) (disch:=omega) only[go_sem,h28c,q,cT,p,dT,dM,g,eq_true o,t,i,j,F,aZA,ixA,D,h4,Bt.cs,aZT,aZP];rfl;have h4:A.res=false:=by simpa using h4
 by_cases h5:A.fi=0;have d:=d h4 h5;subst d;generalize rnE x A.rs=Z at *;by_cases h6:Z=0
 ·subst h6;rw[if_pos rfl];refine aB rfl ?_;simp (maxSteps:=2000000) (disch:=omega) only[go_sem,h28c,q,cT,p,dT,dM,g,eq_true o,t,i,j,F,aZA,ixA,D,h4,eq_true h5,f,cp,lq,dv,Bt.cs,aZT,aZP];try rfl
 rw[if_neg h6];refine aB rfl ?_;simp (maxSteps:=2000000) (disch:=omega) only[go_sem,h28c,q,cT,p,dT,dM,g,eq_true o,t,i,j,F,aZA,ixA,D,h4,eq_true h5,f,h6,Bt.cs,aZT,aZP];rfl;have c:=c (.inr h5);subst c;rw[if_neg (by decide)];refine aB rfl ?_;simp (maxSteps:=2000000) (disch:=omega) only[go_sem,h28c,q,cT,p,dT,dM,g,eq_true o,t,i,j,F,aZA,ixA,D,h4,h5,Bt.cs,aZT,aZP];rfl;rw[if_neg o] at m;have eE:nW s=(dQ (Mg s (bB s).1)).2.2:=by
  unfold nW nQ;rw[m,if_neg (not_not_intro k),if_pos g,if_pos g]
 unfold vwV;rw[eE,if_neg g];clear R oK oA c d f eE;generalize dQ (Mg s (bB s).1)=P at *;generalize dQ (Q1 s (bB s).1)=Q at *;generalize Mg s (bB s).1=ST at *;generalize Q1 s (bB s).1=SM at *;obtain⟨r,u,e⟩:=P;obtain⟨O,u',e'⟩:=Q;generalize bB s=V at *;obtain⟨x,a,w⟩:=V;simp only at k g o;subst k;refine aB rfl ?_;simp (maxSteps:=2000000) (disch:=omega) only[go_sem,h28c,q,cT,p,dT,dM,g,o,Bt.cs,aZT,aZP];rfl;have e:nW s=(bB s).2.2:=by
  unfold nW nQ;rw[if_pos k,if_pos k]
 unfold vwV;rw[e,if_neg k];generalize bB s=V at *;obtain⟨x,a,e⟩:=V;refine aB rfl ?_;simp (maxSteps:=2000000) (disch:=omega) only[go_sem,h28c,q,k,Bt.cs];rfl
