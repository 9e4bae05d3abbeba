/- The law of boot records. Conditions: as the theorem says. -/
import Derived.Test.YthepfneloomngaaGreatDoorMf
import Derived.Test.YthepfneloomngaaGreatDoorCards
import Derived.Test.YthepfneloomngaaGreatDoorTie
import Derived.ProofKit
import Derived.MakeChecks
import Derived.Stop.LaidErr
import Derived.Deep.DeepHandedRow
import Derived.Lib.LaidTab
import Derived.LaidMore
import Derived.LaidHandle
import Derived.LaidLaws
import Derived.Lay
import Derived.Shelf.Vars
import Derived.Test.YthepfneloomngaaGreatDoorRows
import Derived.Test.YthepfneloomngaaGreatDoorPl
namespace Go.Proofs.YthepfneloomngaaGreatDoor
set_option linter.unusedSimpArgs false
set_option linter.unusedVariables false
set_option maxRecDepth 4000
section
variable {G:aF} {bb:Bool}
open Go.ChangeShapes Go.WideShapes Go.ChangeAt Go.RowKit
theorem Tryz.own:ownKnob Tryz.prog.godebug=none:=by kernel_rfl
theorem Tryz.laidOut:laidOutB Tryz.prog=true:=by kernel_rfl
theorem sN:Tryz.prog.cellsOf 3=1:=by kernel_rfl
def aUM(i:Int):Prop:=-9223372036854775808<=i/\i<=9223372036854775807
theorem Co{m:Nat}{x:DC}(h:qY Tryz.prog (m+1) 3 [x]):∃ i:Int,x=ci i/\aUM i:=by
 obtain⟨i,h1,h2⟩:=aFM Tryz.underlying3 h;injection h1 with h1 _;exact⟨i,h1,Uj h2⟩
def aK.d(a:aK):List DC:=[ci a.ty,.raw (.string (dO a.nm)),ci a.id,ci a.fl,.raw (.bool a.res),.raw (.string (dO a.va)),ci a.fi,.slc (a.rs.map bF.e),ci a.al,ci a.sz,ci a.vd]
theorem Io{H:Type}{enc:TypeId × Value->H}{P:Program}{w:World}{base:Nat}{sp:Nat->Bool}{held:Bool}{fuel:Nat}{t:TypeId}{f0 f1:Field}{cs:List Value}{a b:Int}{p:List MemPlace}
  (ht:P.underlying t=some (.struct #[f0,f1])) (h0:P.underlying f0.type=some (.int .i64)) (h1:P.underlying f1.type=some (.int .i64)) (o0:f0.offset=0) (o1:f1.offset=1)
  (c0:P.cellsOf f0.type=1) (c1:P.cellsOf f1.type=1) (ct:P.cellsOf t=2)
  (h:DataW.trod enc P w base sp held fuel t cs=some (.agg [.lit (.int .i64 a),.lit (.int .i64 b)],p)):cs=[.int .i64 a,.int .i64 b]:=by
 cases fuel with
 | zero=>simp[DataW.trod] at h
 | succ fuel=>
  simp only[DataW.trod,ht,ct] at h;split at h
  ·rename_i hl;obtain⟨xs,hm,hx⟩:=Option.map_eq_some_iff.1 h
   match cs,hl with
   | [x,y],_=>
    simp only[aW9,List.mapM_nil,o0,o1,c0,c1,aW7,aXJ,aXO,aXq,List.take_nil] at hm;obtain⟨u,hu,hm⟩:=aW5.1 hm;obtain⟨vs,hv,hm⟩:=aW5.1 hm;obtain⟨v,hv,hm2⟩:=aW5.1 hv;obtain⟨n0,e0,rfl,_⟩:=DataW.trod_int h0 hu;obtain⟨n1,e1,rfl,_⟩:=DataW.trod_int h1 hv;simp at hm2 hm;subst hm2;subst hm;simp at hx e0 e1;obtain⟨⟨rfl,rfl⟩,_⟩:=hx;rw[e0,e1]
  ·cases h
theorem jR{W:World}{name:String}{a b:Int}{rest:List (String × DataW Unit)}{g:Nat}(hg:Tryz.prog.globalNamed name=some g)(hty:(Tryz.prog.globals[g]?).map (·.type)=some 239)
  (h:laidMet Tryz.prog ((name,.agg [.lit (.int .i64 a),.lit (.int .i64 b)])::rest) W):W.var? Tryz.prog name=some #[.int .i64 a,.int .i64 b]:=by
 obtain⟨ps,⟨g',t',cs,fuel,p,q,hg',ht',hvar,hd,_,_⟩,_⟩:=h;obtain rfl:=Option.some.inj (hg.symm.trans hg');obtain rfl:=Option.some.inj (hty.symm.trans ht');have:=Io Tryz.underlying239 Tryz.underlying3 Tryz.underlying3 rfl rfl sN sN (by kernel_rfl) hd;rw[hvar];congr 1;rw[<- aXC];exact this
theorem lO{W:World}{name:String}{a b:Int}{g:Nat}(hv:W.var? Tryz.prog name=some #[.int .i64 a,.int .i64 b])(hg:Tryz.prog.globalNamed name=some g):
  (∀ γ,RC (gG W) γ (.ref [ci a,ci b]) (.pointer (some ⟨g,0,none⟩)))/\∃ o,gG W g=some o/\∃ vs t z,o=.cells vs t z/\vs.size=[ci a,ci b].length:=by
 refine⟨fun γ=>.ref _ g 0 (fun j=>.int .i64 ([a,b].getD j 0)) (fun j d hd=>?_) (fun j d hd=>?_), ?_⟩
 ·match j with
  | 0=>injection hd with hd;subst hd;exact .raw _ rfl
  | 1=>injection hd with hd;subst hd;exact .raw _ rfl
  | j+2=>simp at hd
 ·match j with
  | 0=>have:=World.var?_cell hg hv 0;exact (show W.cell? ⟨g,0,none⟩=some (.int .i64 a) by simpa using this)
  | 1=>have:=World.var?_cell hg hv 1;exact (show W.cell? ⟨g,1,none⟩=some (.int .i64 b) by simpa using this)
  | j+2=>simp at hd
 ·unfold World.var? at hv;rw[hg,aWr] at hv;unfold gG;cases ho:W.heap[g]? with
  | none=>rw[ho] at hv;cases hv
  | some o=>
   rw[ho] at hv;cases o with
   | cells vs t z=>
    simp only[Option.some.injEq] at hv;exact⟨_,rfl,_,_,_,rfl,by rw[hv];rfl⟩
   | _=>simp at hv
theorem Tryz.g_ls:Tryz.prog.globalNamed "depository/record.fieldLSN"=some 6:=by kernel_rfl
theorem Tryz.g_sq:Tryz.prog.globalNamed "depository/record.fieldSequence"=some 0:=by kernel_rfl
theorem Tryz.g_li:Tryz.prog.globalNamed "depository/record.fieldLinks"=some 1:=by kernel_rfl
theorem Tryz.g_fi:Tryz.prog.globalNamed "depository/record.fieldFirst"=some 7:=by kernel_rfl
theorem Tryz.g_fl:Tryz.prog.globalNamed "depository/record.fieldFlags"=some 2:=by kernel_rfl
theorem Tryz.g_en:Tryz.prog.globalNamed "depository/record.fieldEnd"=some 8:=by kernel_rfl
theorem Tryz.g_si:Tryz.prog.globalNamed "depository/record.fieldSize"=some 9:=by kernel_rfl
theorem Tryz.g_ba:Tryz.prog.globalNamed "depository/record.fieldBase"=some 3:=by kernel_rfl
theorem Tryz.g_bo:Tryz.prog.globalNamed "depository/record.fieldBaseOf"=some 4:=by kernel_rfl
theorem Tryz.g_nx:Tryz.prog.globalNamed "depository/record.fieldNext"=some 5:=by kernel_rfl
def GF:aF:=fun g=>
 if g=6 then some [ci 8,ci 4] else
 if g=0 then some [ci 16,ci 2] else
 if g=1 then some [ci 18,ci 2] else
 if g=7 then some [ci 20,ci 2] else
 if g=2 then some [ci 22,ci 2] else
 if g=8 then some [ci 24,ci 4] else
 if g=9 then some [ci 28,ci 4] else
 if g=3 then some [ci 32,ci 4] else
 if g=4 then some [ci 36,ci 2] else
 if g=5 then some [ci 38,ci 2] else
 none
theorem aUN:G9 GF:=⟨rfl,rfl,rfl,rfl,rfl,rfl,rfl,rfl,rfl,rfl⟩
theorem aK3{W:World}(h:laidMetH Tryz.prog Rows.tableBootsRow.laid W):dS (gG W) GF:=by
 rw[MakeChecks.laidMetH_plain _ _ _ (by kernel_rfl)] at h;have h:=laidMet.tail h;have v_ls:=lO (jR (a:=8) (b:=4) Tryz.g_ls (by kernel_rfl) h) Tryz.g_ls;have h:=laidMet.tail h;have v_sq:=lO (jR (a:=16) (b:=2) Tryz.g_sq (by kernel_rfl) h) Tryz.g_sq;have h:=laidMet.tail h;have v_li:=lO (jR (a:=18) (b:=2) Tryz.g_li (by kernel_rfl) h) Tryz.g_li;have h:=laidMet.tail h;have v_fi:=lO (jR (a:=20) (b:=2) Tryz.g_fi (by kernel_rfl) h) Tryz.g_fi;have h:=laidMet.tail h;have v_fl:=lO (jR (a:=22) (b:=2) Tryz.g_fl (by kernel_rfl) h) Tryz.g_fl;have h:=laidMet.tail h;have v_en:=lO (jR (a:=24) (b:=4) Tryz.g_en (by kernel_rfl) h) Tryz.g_en;have h:=laidMet.tail h;have v_si:=lO (jR (a:=28) (b:=4) Tryz.g_si (by kernel_rfl) h) Tryz.g_si;have h:=laidMet.tail h;have v_ba:=lO (jR (a:=32) (b:=4) Tryz.g_ba (by kernel_rfl) h) Tryz.g_ba;have h:=laidMet.tail h;have v_bo:=lO (jR (a:=36) (b:=2) Tryz.g_bo (by kernel_rfl) h) Tryz.g_bo;have h:=laidMet.tail h;have v_nx:=lO (jR (a:=38) (b:=2) Tryz.g_nx (by kernel_rfl) h) Tryz.g_nx;have h:=laidMet.tail h;refine⟨fun g cs hg γ=>?_,fun g cs hg=>?_⟩
 ·unfold GF at hg;by_cases c_ls:g=6
  ·rw[if_pos c_ls] at hg;injection hg with hg
   subst hg;subst c_ls;exact v_ls.1 γ
  rw[if_neg c_ls] at hg;by_cases c_sq:g=0
  ·rw[if_pos c_sq] at hg;injection hg with hg
   subst hg;subst c_sq;exact v_sq.1 γ
  rw[if_neg c_sq] at hg;by_cases c_li:g=1
  ·rw[if_pos c_li] at hg;injection hg with hg
   subst hg;subst c_li;exact v_li.1 γ
  rw[if_neg c_li] at hg;by_cases c_fi:g=7
  ·rw[if_pos c_fi] at hg;injection hg with hg
   subst hg;subst c_fi;exact v_fi.1 γ
  rw[if_neg c_fi] at hg;by_cases c_fl:g=2
  ·rw[if_pos c_fl] at hg;injection hg with hg
   subst hg;subst c_fl;exact v_fl.1 γ
  rw[if_neg c_fl] at hg;by_cases c_en:g=8
  ·rw[if_pos c_en] at hg;injection hg with hg
   subst hg;subst c_en;exact v_en.1 γ
  rw[if_neg c_en] at hg;by_cases c_si:g=9
  ·rw[if_pos c_si] at hg;injection hg with hg
   subst hg;subst c_si;exact v_si.1 γ
  rw[if_neg c_si] at hg;by_cases c_ba:g=3
  ·rw[if_pos c_ba] at hg;injection hg with hg
   subst hg;subst c_ba;exact v_ba.1 γ
  rw[if_neg c_ba] at hg;by_cases c_bo:g=4
  ·rw[if_pos c_bo] at hg;injection hg with hg
   subst hg;subst c_bo;exact v_bo.1 γ
  rw[if_neg c_bo] at hg;by_cases c_nx:g=5
  ·rw[if_pos c_nx] at hg;injection hg with hg
   subst hg;subst c_nx;exact v_nx.1 γ
  rw[if_neg c_nx] at hg;cases hg
 ·unfold GF at hg;by_cases c_ls:g=6
  ·rw[if_pos c_ls] at hg;injection hg with hg
   subst hg;subst c_ls;exact v_ls.2
  rw[if_neg c_ls] at hg;by_cases c_sq:g=0
  ·rw[if_pos c_sq] at hg;injection hg with hg
   subst hg;subst c_sq;exact v_sq.2
  rw[if_neg c_sq] at hg;by_cases c_li:g=1
  ·rw[if_pos c_li] at hg;injection hg with hg
   subst hg;subst c_li;exact v_li.2
  rw[if_neg c_li] at hg;by_cases c_fi:g=7
  ·rw[if_pos c_fi] at hg;injection hg with hg
   subst hg;subst c_fi;exact v_fi.2
  rw[if_neg c_fi] at hg;by_cases c_fl:g=2
  ·rw[if_pos c_fl] at hg;injection hg with hg
   subst hg;subst c_fl;exact v_fl.2
  rw[if_neg c_fl] at hg;by_cases c_en:g=8
  ·rw[if_pos c_en] at hg;injection hg with hg
   subst hg;subst c_en;exact v_en.2
  rw[if_neg c_en] at hg;by_cases c_si:g=9
  ·rw[if_pos c_si] at hg;injection hg with hg
   subst hg;subst c_si;exact v_si.2
  rw[if_neg c_si] at hg;by_cases c_ba:g=3
  ·rw[if_pos c_ba] at hg;injection hg with hg
   subst hg;subst c_ba;exact v_ba.2
  rw[if_neg c_ba] at hg;by_cases c_bo:g=4
  ·rw[if_pos c_bo] at hg;injection hg with hg
   subst hg;subst c_bo;exact v_bo.2
  rw[if_neg c_bo] at hg;by_cases c_nx:g=5
  ·rw[if_pos c_nx] at hg;injection hg with hg
   subst hg;subst c_nx;exact v_nx.2
  rw[if_neg c_nx] at hg;cases hg
section
variable {H:Type} {enc:TypeId × Value->H}
theorem sO{a:Assume}{C:Checked}{os:Os}{f:FuncId}{fn:Func}{s:ChangeSpec}{conds:List PathCond}{apart fresh handsOn again:Bool}{X:World->Array Value->Prop}
  (hX:∀ (w w':World) (args:Array Value),w.heap=w'.heap->X w args->X w' args)
  (own:ownKnob C.prog.godebug=none) (started:os.Started) (noInit:C.prog.inits.idxOf? f=none) (hfn:C.prog.funcs[f]?=some fn)
  (witness:∃ (w:World) (tape:Tape) (i:Input),w.os=os/\(w.forCall tape i).Shaped C.prog/\i.vars=[]/\Input.okWide C.prog (w.forCall tape i) .any w.heap.size f i/\
   ((s.pre enc C.prog fn conds apart (w.forCall tape i).memory i.args/\X (w.forCall tape i).memory i.args)/\sizedMet enc C.prog fn (OpenSpec.ofChange s) apart (w.forCall tape i).memory i.args)/\a.holds C.prog (lone (Frame.enter C.prog f i.args .normal) [] (w.forCall tape i)))
  (contract:∀ (W:World) (base:Nat) (args:Array Value) (ds gs:List (DataW H)) (before:List MemPlace),
   (∀ (j:Nat) t v,fn.params[j]?=some t->args[j]?=some v->Value.okWide C.prog W .any base t v)->
   DataW.Whole enc C.prog fn.params.toList s.vars apart W args.toList ds gs before->
   X W args->W.ShapedOpen C.prog->
   Calls C.prog f args W fun e W'=>∃ v,e=.returned v/\s.post enc C.prog fn apart fresh handsOn again W args v W'):
  ReturnsInHanded a C os f .any (fun w args=>(s.pre enc C.prog fn conds apart w args/\X w args)/\sizedMet enc C.prog fn (OpenSpec.ofChange s) apart w args) (s.post enc C.prog fn apart fresh handsOn again):=by
 refine returnsInHanded_of_calls own started noInit witness ?_;intro w tape i _ hsh _ hok hpre hholds;obtain⟨_,_,_,fn',hfn',_,_,_,_,hval⟩:=hok;have e:fn'=fn:=Option.some.inj (hfn'.symm.trans hfn);subst e;obtain⟨⟨⟨ds,gs,before,hw,hc⟩,hx⟩,hz⟩:=hpre;have hw':=DataW.Whole.of_heap (w':=w.forCall tape i) (by rfl) hw;refine (contract (w.forCall tape i) w.heap.size i.args ds gs before hval hw' (hX _ _ _ (by rfl) hx) hsh).mono fun e W' ⟨v,he,hp⟩=>?_
 subst he;exact ChangeSpec.post_blind hp
end
theorem aFN:cB Tryz.prog GF (eI GF true):=aFg fun _=>aAV aUN
theorem aSA{f:FuncId}{args:List AV}{r:AV}(h:EV GF (Tb (eI GF true)) f args []=some (r,[])):QC Tryz.prog GF f args r:=Oj (Ol (eI GF true)) aFN h
theorem aK4{G:aF}:EV G (Tb (eI G true)) 11 [] []=some (vb true,[]):=iI rfl rfl
theorem aOF:Tryz.prog.cellsOf 23=6:=by kernel_rfl
theorem aFO{m:Nat}{ds:List DC}(h:qY Tryz.prog (m+2) 23 ds):∃ x:Bt,ds=[ci x.cl,ci x.tb,ci x.mi,ci x.lg,ci x.lc,ci x.se]:=by
 rw[qY,Tryz.underlying23] at h;obtain⟨hl,hf⟩:=h;rw[aOF] at hl
 match ds,hl with
 | [x0,x1,x2,x3,x4,x5],_=>
  have h0:qY Tryz.prog (m+1) 3 [x0]:=by
   have h:qY Tryz.prog (m+1) 3 (([x0,x1,x2,x3,x4,x5].drop 0).take (Tryz.prog.cellsOf 3)):=hf 0 _ rfl;rw[sN] at h;exact h
  have h1:qY Tryz.prog (m+1) 3 [x1]:=by
   have h:qY Tryz.prog (m+1) 3 (([x0,x1,x2,x3,x4,x5].drop 1).take (Tryz.prog.cellsOf 3)):=hf 1 _ rfl;rw[sN] at h;exact h
  have h2:qY Tryz.prog (m+1) 3 [x2]:=by
   have h:qY Tryz.prog (m+1) 3 (([x0,x1,x2,x3,x4,x5].drop 2).take (Tryz.prog.cellsOf 3)):=hf 2 _ rfl;rw[sN] at h;exact h
  have h3:qY Tryz.prog (m+1) 3 [x3]:=by
   have h:qY Tryz.prog (m+1) 3 (([x0,x1,x2,x3,x4,x5].drop 3).take (Tryz.prog.cellsOf 3)):=hf 3 _ rfl;rw[sN] at h;exact h
  have h4:qY Tryz.prog (m+1) 3 [x4]:=by
   have h:qY Tryz.prog (m+1) 3 (([x0,x1,x2,x3,x4,x5].drop 4).take (Tryz.prog.cellsOf 3)):=hf 4 _ rfl;rw[sN] at h;exact h
  have h5:qY Tryz.prog (m+1) 3 [x5]:=by
   have h:qY Tryz.prog (m+1) 3 (([x0,x1,x2,x3,x4,x5].drop 5).take (Tryz.prog.cellsOf 3)):=hf 5 _ rfl;rw[sN] at h;exact h
  obtain⟨i0,rfl,_⟩:=Co h0;obtain⟨i1,rfl,_⟩:=Co h1;obtain⟨i2,rfl,_⟩:=Co h2;obtain⟨i3,rfl,_⟩:=Co h3;obtain⟨i4,rfl,_⟩:=Co h4;obtain⟨i5,rfl,_⟩:=Co h5;exact⟨⟨i0,i1,i2,i3,i4,i5⟩,rfl⟩
theorem Rc{m:Nat}{av:AV}(h:okA Tryz.prog (m+2) 23 av):∃ x:Bt,av=x.v:=by
 obtain⟨ds,rfl,h2⟩:=aFL (by kernel_rfl) h;obtain⟨x,rfl⟩:=aFO h2;exact⟨x,rfl⟩
theorem Rd{m:Nat}{av:AV}(h:okA Tryz.prog (m+1) 9 av):∃ l:List Int,av=sv l/\aL l/\l.length<=9223372036854775807:=by
 obtain⟨s,rfl,hs⟩:=Ui Tryz.underlying9 h;obtain⟨l,h1,rfl⟩:=aIo s;rw[aC] at hs;exact⟨l,rfl,h1,by unfold maxLen at hs;omega⟩
abbrev X0:Value:=.agg #[.int .i64 0,.int .i64 0,.int .i64 0,.int .i64 0,.int .i64 0,.int .i64 0]
end
section
open Go
set_option maxRecDepth 100000
theorem Dz:false=Rows.tableBootsRow.goesBy Tryz.pinned.checked.prog:=by kernel_rfl
end
section
variable {G:aF} {B:aO}
set_option maxHeartbeats 2000000 in
theorem aJ8(hf:∀ x:Bt,EV G (Tb B) 69 [.one (.ptr 0 0)] [x.o]=some (.one (.bls 1 0 6 1),[x.o,.box ptB]))(hR:B 170 [.one (.dc (.raw (.string ⟨#[0]⟩))),vi 28] []=some (sv (zl 28),[]))
  (hA:EV G (Tb B) 11 [] []=some (vb true,[])) (x:Bt) (s:List Int) (hB:aL s):EV G (Tb B) 3 [x.v,sv s] []=some (vb true,[]):=by
 by_cases hl:(s.length:Int) > 100
 ·refine aA rfl ?_;simp (disch:=omega) only[go_sem,h3c,hA,aC,hl,aWS]
 have c:=lW (G:=G) (B:=B) x;have e:=J3 (G:=G) x (hf x) hR;have d:=tL (G:=G) (B:=B) hf s hB (by omega);have p:=Hr (G:=G) (B:=B) s hB (by omega);have r:=Cb (G:=G) (B:=B) x;rw[Et s hB] at d;generalize Hq s=D at d p;obtain⟨y,n⟩:=D;by_cases h:fH x=0
 ·have hx:∀ n∈x.fs,0<=n/\n<=4294967295:=fun n hn=>by have:=tN h n hn;omega
  have b:=Cg (G:=G) (B:=B) x hx;have d2:=tL (G:=G) (B:=B) hf x.bs (mQ x) (by rw[qN];omega);rw[T1 x h] at d2;rw[if_pos h] at e;rw[h] at c r e;generalize x.bs=X at b d2 e;refine aA rfl ?_;simp (maxSteps:=2000000) (disch:=omega) only[go_sem,h3c,hA,aC,eq_false hl,c,e,d,p,r,b,d2,aWS,aWO]
 ·rw[if_neg h] at e;refine aA rfl ?_;simp (maxSteps:=2000000) (disch:=omega) only[go_sem,h3c,hA,aC,eq_false hl,c,e,d,p,r,h,aWS,aWO];rfl
end
end Go.Proofs.YthepfneloomngaaGreatDoor
