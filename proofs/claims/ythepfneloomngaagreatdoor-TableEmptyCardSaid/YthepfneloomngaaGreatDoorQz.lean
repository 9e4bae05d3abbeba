/- The disk with an empty table, by the reference; law of empty tables. Conditions: as each theorem says. -/
import Derived.Test.YthepfneloomngaaGreatDoorMf
import Derived.Test.YthepfneloomngaaGreatDoorCards
import Derived.Test.YthepfneloomngaaGreatDoorTie
import Derived.ProofKit
import Derived.MakeChecks
import Derived.Stop.LaidErr
import Derived.Deep.DeepHandedRow
import Derived.Lib.LaidTab
import Derived.LaidMore
import Derived.LaidHandle
import Derived.LaidLaws
import Derived.Lay
import Derived.Shelf.Vars
import Derived.Test.YthepfneloomngaaGreatDoorRows
import Derived.Test.YthepfneloomngaaGreatDoorPa
import Derived.Test.YthepfneloomngaaGreatDoorSu
import Derived.Test.YthepfneloomngaaGreatDoorUw
import Derived.Test.YthepfneloomngaaGreatDoorUm
import Derived.Test.YthepfneloomngaaGreatDoorTu
import Derived.Test.YthepfneloomngaaGreatDoorQp
namespace Go.Proofs.YthepfneloomngaaGreatDoor
set_option linter.unusedSimpArgs false
set_option linter.unusedVariables false
set_option maxRecDepth 4000
section
variable {G:aE}{bb:Bool}
open Go.ChangeShapes Go.WideShapes Go.ChangeAt Go.RowKit
theorem Tryz.own:ownKnob Tryz.prog.godebug=none:=by kernel_rfl
theorem Tryz.laidOut:laidOutB Tryz.prog=true:=by kernel_rfl
theorem uA:Tryz.prog.cellsOf 3=1:=by kernel_rfl
def aUg(i:Int):Prop:=-9223372036854775808<=i/\i<=9223372036854775807
theorem Aq{m:Nat}{x:DC}(h:tZ Tryz.prog (m+1) 3 [x]):∃i:Int,x=ci i/\aUg i:=by
 obtain⟨i,h1,h2⟩:=aGS Tryz.underlying3 h;injection h1 with h1 _;exact⟨i,h1,V3 h2⟩
def aJ.d(a:aJ):List DC:=[ci a.ty,.raw (.string (dL a.nm)),ci a.id,ci a.fl,.raw (.bool a.res),.raw (.string (dL a.va)),ci a.fi,.slc (a.rs.map aY.e),ci a.al,ci a.sz,ci a.vd]
theorem Kd{H:Type}{enc:TypeId×Value->H}{P:Program}{w:World}{base:Nat}{sp:Nat->Bool}{held:Bool}{fuel:Nat}{t:TypeId}{f0 f1:Field}{cs:List Value}{a b:Int}{p:List MemPlace}
  (ht:P.underlying t=some (.struct #[f0,f1])) (h0:P.underlying f0.type=some (.int .i64)) (h1:P.underlying f1.type=some (.int .i64)) (o0:f0.offset=0) (o1:f1.offset=1)
  (c0:P.cellsOf f0.type=1) (c1:P.cellsOf f1.type=1) (ct:P.cellsOf t=2)
  (h:DataW.trod enc P w base sp held fuel t cs=some (.agg [.lit (.int .i64 a),.lit (.int .i64 b)],p)):cs=[.int .i64 a,.int .i64 b]:=by
 cases fuel with
 |zero=>simp[DataW.trod] at h
 |succ fuel=>
  simp only[DataW.trod,ht,ct] at h;split at h;rename_i hl;obtain⟨xs,hm,hx⟩:=Option.map_eq_some_iff.1 h
  match cs,hl with
  |[x,y],_=>
   simp only[aYw,List.mapM_nil,o0,o1,c0,c1,aYq,aY7,aZb,aYQ,List.take_nil] at hm;obtain⟨u,hu,hm⟩:=aYu.1 hm;obtain⟨vs,hv,hm⟩:=aYu.1 hm;obtain⟨v,hv,hm2⟩:=aYu.1 hv;obtain⟨n0,e0,rfl,_⟩:=DataW.trod_int h0 hu;obtain⟨n1,e1,rfl,_⟩:=DataW.trod_int h1 hv;simp at hm2 hm;subst hm2;subst hm;simp at hx e0 e1;obtain⟨⟨rfl,rfl⟩,_⟩:=hx;rw[e0,e1]
  cases h
theorem kB{W:World}{name:String}{a b:Int}{rest:List (String×DataW Unit)}{g:Nat}(hg:Tryz.prog.globalNamed name=some g)(hty:(Tryz.prog.globals[g]?).map (·.type)=some 239)
  (h:laidMet Tryz.prog ((name,.agg [.lit (.int .i64 a),.lit (.int .i64 b)])::rest) W):W.var? Tryz.prog name=some #[.int .i64 a,.int .i64 b]:=by
 obtain⟨ps,⟨g',t',cs,fuel,p,q,hg',ht',hvar,hd,_,_⟩,_⟩:=h;obtain rfl:=Option.some.inj (hg.symm.trans hg');obtain rfl:=Option.some.inj (hty.symm.trans ht');have:=Kd Tryz.underlying239 Tryz.underlying3 Tryz.underlying3 rfl rfl uA uA (by kernel_rfl) hd;rw[hvar];congr 1;rw[<- aY0];exact this
theorem mB{W:World}{name:String}{a b:Int}{g:Nat}(hv:W.var? Tryz.prog name=some #[.int .i64 a,.int .i64 b])(hg:Tryz.prog.globalNamed name=some g):
  (∀γ,RC (iB W) γ (.ref [ci a,ci b]) (.pointer (some ⟨g,0,none⟩)))/\∃o,iB W g=some o/\∃vs t z,o=.cells vs t z/\vs.size=[ci a,ci b].length:=by
 refine⟨fun γ=>.ref _ g 0 (fun j=>.int .i64 ([a,b].getD j 0)) (fun j d hd=>?_) (fun j d hd=>?_),?_⟩
 match j with
 |0=>injection hd with hd;subst hd;exact .raw _ rfl
 |1=>injection hd with hd;subst hd;exact .raw _ rfl
 |j+2=>simp at hd
 match j with
 |0=>have:=World.var?_cell hg hv 0;exact (show W.cell? ⟨g,0,none⟩=some (.int .i64 a) by simpa using this)
 |1=>have:=World.var?_cell hg hv 1;exact (show W.cell? ⟨g,1,none⟩=some (.int .i64 b) by simpa using this)
 |j+2=>simp at hd
 unfold World.var? at hv;rw[hg,aXP] at hv;unfold iB;cases ho:W.heap[g]? with
 |none=>rw[ho] at hv;cases hv
 |some o=>
  rw[ho] at hv;cases o with
  |cells vs t z=>
   simp only[Option.some.injEq] at hv;exact⟨_,rfl,_,_,_,rfl,by rw[hv];rfl⟩
  |_=>simp at hv
theorem Tryz.g_ls:Tryz.prog.globalNamed "depository/record.fieldLSN"=some 6:=by kernel_rfl
theorem Tryz.g_sq:Tryz.prog.globalNamed "depository/record.fieldSequence"=some 0:=by kernel_rfl
theorem Tryz.g_li:Tryz.prog.globalNamed "depository/record.fieldLinks"=some 1:=by kernel_rfl
theorem Tryz.g_fi:Tryz.prog.globalNamed "depository/record.fieldFirst"=some 7:=by kernel_rfl
theorem Tryz.g_fl:Tryz.prog.globalNamed "depository/record.fieldFlags"=some 2:=by kernel_rfl
theorem Tryz.g_en:Tryz.prog.globalNamed "depository/record.fieldEnd"=some 8:=by kernel_rfl
theorem Tryz.g_si:Tryz.prog.globalNamed "depository/record.fieldSize"=some 9:=by kernel_rfl
theorem Tryz.g_ba:Tryz.prog.globalNamed "depository/record.fieldBase"=some 3:=by kernel_rfl
theorem Tryz.g_bo:Tryz.prog.globalNamed "depository/record.fieldBaseOf"=some 4:=by kernel_rfl
theorem Tryz.g_nx:Tryz.prog.globalNamed "depository/record.fieldNext"=some 5:=by kernel_rfl
def GF:aE:=fun g=>
 if g=6 then some [ci 8,ci 4] else
 if g=0 then some [ci 16,ci 2] else
 if g=1 then some [ci 18,ci 2] else
 if g=7 then some [ci 20,ci 2] else
 if g=2 then some [ci 22,ci 2] else
 if g=8 then some [ci 24,ci 4] else
 if g=9 then some [ci 28,ci 4] else
 if g=3 then some [ci 32,ci 4] else
 if g=4 then some [ci 36,ci 2] else
 if g=5 then some [ci 38,ci 2] else
 none
theorem aUh:G9 GF:=⟨rfl,rfl,rfl,rfl,rfl,rfl,rfl,rfl,rfl,rfl⟩
theorem aUi{W:World}(h:laidMetH Tryz.prog Rows.tableBootsRow.laid W):eU (iB W) GF:=by
 rw[MakeChecks.laidMetH_plain _ _ _ (by kernel_rfl)] at h;have h:=laidMet.tail h;have v_ls:=mB (kB (a:=8) (b:=4) Tryz.g_ls (by kernel_rfl) h) Tryz.g_ls;have h:=laidMet.tail h;have v_sq:=mB (kB (a:=16) (b:=2) Tryz.g_sq (by kernel_rfl) h) Tryz.g_sq;have h:=laidMet.tail h;have v_li:=mB (kB (a:=18) (b:=2) Tryz.g_li (by kernel_rfl) h) Tryz.g_li;have h:=laidMet.tail h;have v_fi:=mB (kB (a:=20) (b:=2) Tryz.g_fi (by kernel_rfl) h) Tryz.g_fi;have h:=laidMet.tail h;have v_fl:=mB (kB (a:=22) (b:=2) Tryz.g_fl (by kernel_rfl) h) Tryz.g_fl;have h:=laidMet.tail h;have v_en:=mB (kB (a:=24) (b:=4) Tryz.g_en (by kernel_rfl) h) Tryz.g_en;have h:=laidMet.tail h;have v_si:=mB (kB (a:=28) (b:=4) Tryz.g_si (by kernel_rfl) h) Tryz.g_si;have h:=laidMet.tail h;have v_ba:=mB (kB (a:=32) (b:=4) Tryz.g_ba (by kernel_rfl) h) Tryz.g_ba;have h:=laidMet.tail h;have v_bo:=mB (kB (a:=36) (b:=2) Tryz.g_bo (by kernel_rfl) h) Tryz.g_bo;have h:=laidMet.tail h;have v_nx:=mB (kB (a:=38) (b:=2) Tryz.g_nx (by kernel_rfl) h) Tryz.g_nx;have h:=laidMet.tail h;refine⟨fun g cs hg γ=>?_,fun g cs hg=>?_⟩
 unfold GF at hg;by_cases c_ls:g=6;rw[if_pos c_ls] at hg;injection hg with hg
 subst hg;subst c_ls;exact v_ls.1 γ;rw[if_neg c_ls] at hg;by_cases c_sq:g=0;rw[if_pos c_sq] at hg;injection hg with hg
 subst hg;subst c_sq;exact v_sq.1 γ;rw[if_neg c_sq] at hg;by_cases c_li:g=1;rw[if_pos c_li] at hg;injection hg with hg
 subst hg;subst c_li;exact v_li.1 γ;rw[if_neg c_li] at hg;by_cases c_fi:g=7;rw[if_pos c_fi] at hg;injection hg with hg
 subst hg;subst c_fi;exact v_fi.1 γ;rw[if_neg c_fi] at hg;by_cases c_fl:g=2;rw[if_pos c_fl] at hg;injection hg with hg
 subst hg;subst c_fl;exact v_fl.1 γ;rw[if_neg c_fl] at hg;by_cases c_en:g=8;rw[if_pos c_en] at hg;injection hg with hg
 subst hg;subst c_en;exact v_en.1 γ;rw[if_neg c_en] at hg;by_cases c_si:g=9;rw[if_pos c_si] at hg;injection hg with hg
 subst hg;subst c_si;exact v_si.1 γ;rw[if_neg c_si] at hg;by_cases c_ba:g=3;rw[if_pos c_ba] at hg;injection hg with hg
 subst hg;subst c_ba;exact v_ba.1 γ;rw[if_neg c_ba] at hg;by_cases c_bo:g=4;rw[if_pos c_bo] at hg;injection hg with hg
 subst hg;subst c_bo;exact v_bo.1 γ;rw[if_neg c_bo] at hg;by_cases c_nx:g=5;rw[if_pos c_nx] at hg;injection hg with hg
 subst hg;subst c_nx;exact v_nx.1 γ;rw[if_neg c_nx] at hg;cases hg;unfold GF at hg;by_cases c_ls:g=6;rw[if_pos c_ls] at hg;injection hg with hg
 subst hg;subst c_ls;exact v_ls.2;rw[if_neg c_ls] at hg;by_cases c_sq:g=0;rw[if_pos c_sq] at hg;injection hg with hg
 subst hg;subst c_sq;exact v_sq.2;rw[if_neg c_sq] at hg;by_cases c_li:g=1;rw[if_pos c_li] at hg;injection hg with hg
 subst hg;subst c_li;exact v_li.2;rw[if_neg c_li] at hg;by_cases c_fi:g=7;rw[if_pos c_fi] at hg;injection hg with hg
 subst hg;subst c_fi;exact v_fi.2;rw[if_neg c_fi] at hg;by_cases c_fl:g=2;rw[if_pos c_fl] at hg;injection hg with hg
 subst hg;subst c_fl;exact v_fl.2;rw[if_neg c_fl] at hg;by_cases c_en:g=8;rw[if_pos c_en] at hg;injection hg with hg
 subst hg;subst c_en;exact v_en.2;rw[if_neg c_en] at hg;by_cases c_si:g=9;rw[if_pos c_si] at hg;injection hg with hg
 subst hg;subst c_si;exact v_si.2;rw[if_neg c_si] at hg;by_cases c_ba:g=3;rw[if_pos c_ba] at hg;injection hg with hg
 subst hg;subst c_ba;exact v_ba.2;rw[if_neg c_ba] at hg;by_cases c_bo:g=4;rw[if_pos c_bo] at hg;injection hg with hg
 subst hg;subst c_bo;exact v_bo.2;rw[if_neg c_bo] at hg;by_cases c_nx:g=5;rw[if_pos c_nx] at hg;injection hg with hg
 subst hg;subst c_nx;exact v_nx.2;rw[if_neg c_nx] at hg;cases hg
section
variable {H:Type}{enc:TypeId×Value->H}
theorem Jq{a:Assume}{C:Checked}{os:Os}{f:FuncId}{fn:Func}{s:ChangeSpec}{conds:List PathCond}{apart fresh handsOn again:Bool}{X:World->Array Value->Prop}
  (hX:∀(w w':World) (args:Array Value),w.heap=w'.heap->X w args->X w' args)
  (own:ownKnob C.prog.godebug=none) (started:os.Started) (noInit:C.prog.inits.idxOf? f=none) (hfn:C.prog.funcs[f]?=some fn)
  (witness:∃ (w:World) (tape:Tape) (i:Input),w.os=os/\(w.forCall tape i).Shaped C.prog/\i.vars=[]/\Input.okWide C.prog (w.forCall tape i) .any w.heap.size f i/\
    ((s.pre enc C.prog fn conds apart (w.forCall tape i).memory i.args/\X (w.forCall tape i).memory i.args)/\sizedMet enc C.prog fn (OpenSpec.ofChange s) apart (w.forCall tape i).memory i.args)/\a.holds C.prog (lone (Frame.enter C.prog f i.args .normal) [] (w.forCall tape i)))
  (contract:∀ (W:World) (base:Nat) (args:Array Value) (ds gs:List (DataW H)) (before:List MemPlace),
    (∀ (j:Nat) t v,fn.params[j]?=some t->args[j]?=some v->Value.okWide C.prog W .any base t v)->
    DataW.Whole enc C.prog fn.params.toList s.vars apart W args.toList ds gs before->
    X W args->W.ShapedOpen C.prog->
    Calls C.prog f args W fun e W'=>∃ v,e=.returned v/\s.post enc C.prog fn apart fresh handsOn again W args v W'):
  ReturnsInHanded a C os f .any (fun w args=>(s.pre enc C.prog fn conds apart w args/\X w args)/\sizedMet enc C.prog fn (OpenSpec.ofChange s) apart w args) (s.post enc C.prog fn apart fresh handsOn again):=by
 refine returnsInHanded_of_calls own started noInit witness ?_;intro w tape i _ hsh _ hok hpre hholds;obtain⟨_,_,_,fn',hfn',_,_,_,_,hval⟩:=hok;have e:fn'=fn:=Option.some.inj (hfn'.symm.trans hfn);subst e;obtain⟨⟨⟨ds,gs,before,hw,hc⟩,hx⟩,hz⟩:=hpre;have hw':=DataW.Whole.of_heap (w':=w.forCall tape i) (by rfl) hw;refine (contract (w.forCall tape i) w.heap.size i.args ds gs before hval hw' (hX _ _ _ (by rfl) hx) hsh).mono fun e W' ⟨v,he,hp⟩=>?_
 subst he;exact ChangeSpec.post_blind hp
end
theorem aUj{G:aE}:EV G (Tb (dN G true)) 11 [] []=some (vb true,[]):=gP rfl rfl
theorem aQc:Tryz.prog.cellsOf 23=6:=by kernel_rfl
theorem aGT{m:Nat}{ds:List DC}(h:tZ Tryz.prog (m+2) 23 ds):∃x:Bt,ds=[ci x.cl,ci x.tb,ci x.mi,ci x.lg,ci x.lc,ci x.se]:=by
 rw[tZ,Tryz.underlying23] at h;obtain⟨hl,hf⟩:=h;rw[aQc] at hl
 match ds,hl with
 |[x0,x1,x2,x3,x4,x5],_=>
  have h0:tZ Tryz.prog (m+1) 3 [x0]:=by
   have h:tZ Tryz.prog (m+1) 3 (([x0,x1,x2,x3,x4,x5].drop 0).take (Tryz.prog.cellsOf 3)):=hf 0 _ rfl;rw[uA] at h;exact h
  have h1:tZ Tryz.prog (m+1) 3 [x1]:=by
   have h:tZ Tryz.prog (m+1) 3 (([x0,x1,x2,x3,x4,x5].drop 1).take (Tryz.prog.cellsOf 3)):=hf 1 _ rfl;rw[uA] at h;exact h
  have h2:tZ Tryz.prog (m+1) 3 [x2]:=by
   have h:tZ Tryz.prog (m+1) 3 (([x0,x1,x2,x3,x4,x5].drop 2).take (Tryz.prog.cellsOf 3)):=hf 2 _ rfl;rw[uA] at h;exact h
  have h3:tZ Tryz.prog (m+1) 3 [x3]:=by
   have h:tZ Tryz.prog (m+1) 3 (([x0,x1,x2,x3,x4,x5].drop 3).take (Tryz.prog.cellsOf 3)):=hf 3 _ rfl;rw[uA] at h;exact h
  have h4:tZ Tryz.prog (m+1) 3 [x4]:=by
   have h:tZ Tryz.prog (m+1) 3 (([x0,x1,x2,x3,x4,x5].drop 4).take (Tryz.prog.cellsOf 3)):=hf 4 _ rfl;rw[uA] at h;exact h
  have h5:tZ Tryz.prog (m+1) 3 [x5]:=by
   have h:tZ Tryz.prog (m+1) 3 (([x0,x1,x2,x3,x4,x5].drop 5).take (Tryz.prog.cellsOf 3)):=hf 5 _ rfl;rw[uA] at h;exact h
  obtain⟨i0,rfl,_⟩:=Aq h0;obtain⟨i1,rfl,_⟩:=Aq h1;obtain⟨i2,rfl,_⟩:=Aq h2;obtain⟨i3,rfl,_⟩:=Aq h3;obtain⟨i4,rfl,_⟩:=Aq h4;obtain⟨i5,rfl,_⟩:=Aq h5;exact⟨⟨i0,i1,i2,i3,i4,i5⟩,rfl⟩
theorem aGU{m:Nat}{av:AV}(h:okA Tryz.prog (m+2) 23 av):∃x:Bt,av=x.v:=by
 obtain⟨ds,rfl,h2⟩:=aGR (by kernel_rfl) h;obtain⟨x,rfl⟩:=aGT h2;exact⟨x,rfl⟩
theorem aGV{m:Nat}{av:AV}(h:okA Tryz.prog (m+1) 3 av):∃i:Int,av=vi i/\aUg i:=by
 obtain⟨d,rfl,h2⟩:=aLm (by kernel_rfl) h;obtain⟨i,rfl,hi⟩:=Aq h2;exact⟨i,rfl,hi⟩
abbrev aLn:Value:=.agg #[.int .i64 0,.int .i64 0,.int .i64 0,.int .i64 0,.int .i64 0,.int .i64 0]
end
section
open Go
set_option maxRecDepth 100000
theorem Fh:false=Rows.tableEmptyRow.goesBy Tryz.pinned.checked.prog:=by kernel_rfl
end
section
variable {G:aE}{bb:Bool}
def aQd:HF:={ h53 with own:=true }
def tbP:FuncId->Option HF:=fun f=>if f=147 then some h147 else if f=53 then some aQd else if f=116 then some aBD else none
noncomputable def TP(G:aE):HT:=⟨tbP,EV G (Tb (kD false))⟩
theorem aUk{G:aE}:Ud Tryz.prog (TP G):=by
 intro f h hf;change tbP f=some h at hf;unfold tbP at hf;split at hf;rename_i e;subst e;injection hf with hf;subst hf;exact⟨by kernel_rfl,_,Tryz.func147,Tryz.ntmps147,h147_ok,aIe⟩
 split at hf;rename_i e;subst e;injection hf with hf;subst hf;exact⟨by kernel_rfl,_,Tryz.func53,Tryz.ntmps53,h53_ok,aNq⟩
 split at hf;rename_i e;subst e;injection hf with hf;subst hf;exact⟨by kernel_rfl,_,Tryz.func116,Tryz.ntmps116,h116_ok,Xr⟩
 cases hf
theorem tp{f:FuncId}{args:List AV}{hp:List aC}{r:AV×List aC}(h:EV G (Tb (kD false)) f args hp=some r)(h1:tbP f=none:=by decide):EV G (TP G) f args hp=some r:=gP h1 h
theorem aLo(l:List aJ)(hl:l.length<=1000)(hr:∀a∈l,a.rs.length<=1000000):EV G (TP G) 116 [vl (l.map aJ.e)] []=some (.one (.bld 0 l.length),[.arr 0 11 (l.map aJ.e)]):=by
 refine aA (h:=aBD) rfl ?_;simp only[aBD];simp (disch:=omega) only[go_sem,h116c];rw[aR (fun k=>⟨(vl (l.map aJ.e)::jk 2 (.one (.bld 0 ((l.take k).map aJ.e).length)::vi k::jk 15 [])),[.arr 0 11 ((l.take k).map aJ.e)]⟩) l.length ?_ ?_]
 simp (disch:=omega) only[go_sem,h116l0,aXC,aYh];rfl;intro k hk;have q:=tp (up (Nt (G:=G) (bb:=false) l[k] (hr _ (aXM hk))));have hb:((l.take k).map aJ.e).length<=1000:=by rw[aXC,aXK];omega
 have hall:=F6 (l.take k);rw[aFn l k hk];generalize (l.take k).map aJ.e=C at hb hall ⊢;simp (disch:=omega) only[go_sem,h116l0,aXC,ixA,aJ.e,q,hall];rw[aXD];rfl
theorem aGW(r:cI)(hW:r.W):EV G (TP G) 53 [r.v] []=some (.agg r.c2,[.box r.c2,.box r.c2,.arr 0 11 (r.ats.map aJ.e)]):=by
 refine aA (h:=aQd) rfl ?_;simp only[aQd];have hl:=hW.ln;have q:=aLo (G:=G) r.ats (by omega) (fun a ha=>by have:=(hW.at' a ha).rl;omega)
 simp (disch:=omega) only[go_sem,h53c,q]
theorem aB4{r:cI}{a:aJ}:rG r a=(!decide (a.ty=48)&&decide (0<=iH (oQ a.ty a.nm a.fi) r.ats)):=by
 unfold rG;congr 1;rw[aYN,decide_eq_true_eq,List.any_eq_true];constructor;rintro⟨b,hb,hk⟩;refine Classical.byContradiction fun h=>?_
 have:=qL.1 (show iH (oQ a.ty a.nm a.fi) r.ats<0 by omega) b hb;rw[Dn] at hk;simp[oQ,hk] at this;intro h;obtain⟨h1,h2⟩:=aKp h;refine⟨_,aXM h1,?_⟩;rw[gT _ _ h1] at h2;simp only[oQ,aXQ,decide_eq_true_eq] at h2;rw[Dn];exact⟨h2.1.symm,h2.2.1.symm,h2.2.2.symm⟩
theorem aLp{r:cI}(h:gG r=0)(hn:r.nx<=65535):I5 r=if dU r.fl=true then (if r.nx=65535 then 16 else 0) else 20:=by
 unfold I5;rw[h,aV];cases dU r.fl with
 |false=>rw[gC,aX _ _ (by decide)];rfl
 |true=>
  rw[fR,aV,if_pos rfl];by_cases c:r.nx=65535;rw[if_pos c,decide_eq_false (by omega),gC,aX _ _ (by decide)];rw[if_neg c,decide_eq_true (by omega),fR,aV];rfl
theorem aLq{r:cI}{a:aJ}(hl:r.ats.length<=32):I6 r a=if fK (bG a r.nx)≠0 then fK (bG a r.nx) else if rG r a=true then 5 else if r.ats.length=32 then 8 else 0:=by
 unfold I6;by_cases c:fK (bG a r.nx)=0;rw[if_neg (not_not_intro c),c,aV];cases rG r a with
 |true=>rw[if_pos rfl,aYc,gC,aX _ _ (by decide)]
 |false=>
  rw[if_neg (by decide),aX5,fR,aV];by_cases c:r.ats.length=32;rw[if_pos c,decide_eq_false (by omega),gC,aX _ _ (by decide)];rw[if_neg c,decide_eq_true (by omega),fR,aV];rfl
 rw[if_pos c,aX _ _ c]
set_option maxHeartbeats 8000000 in
theorem aQe(r:cI)(hW:r.W)(h:gG r=0)(a:aJ)(haW:a.W):EV G (TP G) 147 [r.v,a.v] []=some (rcv (J8 r a),[]):=by
 refine aA (h:=h147) rfl ?_;have hO:=rH h;have hn:=hO.num;have hln:=hO.ln;have q1:=tp (aKw (G:=G) (bb:=false) r (by omega));have hb:=Gb (i:=r.nx) haW;have q2:=tp (up (aOR (G:=G) (bb:=false) (bG a r.nx) hb));have q3:=tp (up (Rr (G:=G) (bb:=false) (bG a r.nx)));have q4:=tp (up (aKk (G:=G) (bb:=false) r.ats hW.at' (by omega) a.ty a.nm a.fi haW.nm));have eh:rG r a=_:=aB4;have e3:((r.ats.length:Int)=32)=(r.ats.length=32):=by apply propext;omega
 unfold J8;rw[aLp h (by omega),aLq hln];by_cases u:dU r.fl=true;rw[if_pos u];rw[u] at q1;by_cases c2:r.nx=65535
 ·rw[if_pos c2,if_pos (by decide)];generalize dU r.fl=ub at *;simp (disch:=omega) only[go_sem,h147c,q1,eq_true c2,cI.nil];all_goals rfl
 rw[if_neg c2,if_neg (by decide)];by_cases c3:fK (bG a r.nx)=0;rw[if_neg (not_not_intro c3)];rw[c3] at q2;by_cases c4:rG r a=true
 ·rw[if_pos c4,if_pos (by decide)];rw[eh] at c4;simp only[aXQ,aYC,decide_eq_false_iff_not,decide_eq_true_eq] at c4;clear eh;obtain⟨k1,k2⟩:=c4;generalize iH (oQ a.ty a.nm a.fi) r.ats=ix at *;have k3:ix≥0:=k2;simp only[bG] at q2 q3;simp (disch:=omega) only[go_sem,h147c,q1,q2,q3,q4,c2,k1,eq_true k3,cI.nil];all_goals rfl
 rw[if_neg c4];have k0:a.ty=48\/¬ a.ty=48/\¬ iH (oQ a.ty a.nm a.fi) r.ats≥0:=by
  rw[eh] at c4;by_cases k:a.ty=48;exact .inl k;refine .inr ⟨k,fun h=>c4 ?_⟩
  have:0<=iH (oQ a.ty a.nm a.fi) r.ats:=h;simp[k,this]
 clear eh;by_cases c5:r.ats.length=32;rw[if_pos c5,if_pos (by decide)];generalize iH (oQ a.ty a.nm a.fi) r.ats=ix at *;simp only[bG] at q2 q3;rcases k0 with k1|⟨k1,k2⟩
 ·simp (disch:=omega) only[go_sem,h147c,q1,q2,q3,q4,c2,eq_true k1,aXC,e3,eq_true c5,cI.nil];all_goals rfl
 ·simp (disch:=omega) only[go_sem,h147c,q1,q2,q3,q4,c2,k1,k2,aXC,e3,eq_true c5,cI.nil];all_goals rfl
 rw[if_neg c5,if_neg (by decide)]
 have q6:=aGW (G:=G) r hW;have q7:=tp (up (Nt (G:=G) (bb:=false) (bG a r.nx) (Nat.le_trans hb.rl (by decide))));have hWn:∀ x∈r.ats++[bG a r.nx],x.W:=fun x hx=>by
   rcases aYV.1 hx with hx | hx
   · exact hW.at' x hx
   · rw[List.mem_singleton.1 hx];exact hb
 have hEn:∀ x∈r.ats++[bG a r.nx],fK x=0:=fun x hx=>by
   rcases aYV.1 hx with hx | hx
   · exact hO.errs.1 x hx
   · rw[List.mem_singleton.1 hx];exact c3
 have hll:(r.ats++[bG a r.nx]).length=r.ats.length+1:=by simp
 have q8:=tp (aV3 (G:=G) (b:=false) (r.ats++[bG a r.nx]) ⟨by omega,fun x hx=>by have:=(hWn x hx).rl;omega⟩)
 have q9:=tp (aKx (G:=G) (bb:=false) (dD (r.ats++[bG a r.nx])) (fun x hx=>hWn x (tO.1 hx)) (fun x hx=>hEn x (tO.1 hx)) (by rw[oR];omega))
 have tk:∀x:List DC,List.take (r.ats.length+1) (List.map aJ.e r.ats++[x])=List.map aJ.e r.ats++[x]:=fun x=>aYe (by rw[aXD,aXC];exact aXF _)
 unfold nH;simp only[aYg,aXL,aXT] at q8;generalize dD (r.ats++[bG a r.nx])=m at *;generalize iH (oQ a.ty a.nm a.fi) r.ats=ix at *;simp only[bG] at q2 q3 q7 q8 ⊢;generalize dS m=z at *;have ez:(z > 440)=(440<z):=rfl;by_cases c6:z<=440;have d6:¬ 440<z:=by omega
 rw[if_pos c6];rcases k0 with k1|⟨k1,k2⟩
 ·simp (disch:=omega) only[go_sem,h147c,q1,q2,q3,q4,q6,q7,q8,q9,c2,eq_true k1,e3,c5,ez,d6,aXC,aXD,aXE,aXH,aYi,aXF,tk];all_goals rfl
 ·simp (disch:=omega) only[go_sem,h147c,q1,q2,q3,q4,q6,q7,q8,q9,c2,k1,k2,e3,c5,ez,d6,aXC,aXD,aXE,aXH,aYi,aXF,tk];all_goals rfl
 have d6:440<z:=by omega
 rw[if_neg c6];rcases k0 with k1|⟨k1,k2⟩
 ·simp (disch:=omega) only[go_sem,h147c,q1,q2,q3,q4,q6,q7,q8,q9,c2,eq_true k1,e3,c5,ez,eq_true d6,aXC,aXD,aXE,aXH,aYi,aXF,tk,cI.nil];all_goals rfl
 ·simp (disch:=omega) only[go_sem,h147c,q1,q2,q3,q4,q6,q7,q8,q9,c2,k1,k2,e3,c5,ez,eq_true d6,aXC,aXD,aXE,aXH,aYi,aXF,tk,cI.nil];all_goals rfl
 ·rw[if_pos c3,if_pos c3];generalize fK (bG a r.nx)=ea at *;simp only[bG] at q2;simp (disch:=omega) only[go_sem,h147c,q1,q2,c2,c3,cI.nil];all_goals rfl
 ·rw[if_neg u,if_pos (by decide)];have u':dU r.fl=false:=by simpa using u
  rw[u'] at q1;generalize dU r.fl=ub at *;simp (disch:=omega) only[go_sem,h147c,q1,cI.nil];all_goals rfl
end
section
variable {G:aE}{bb:Bool}
theorem Zr(s t:List Int)(a:Nat)(h:a+t.length<=s.length)(hl:s.length<=1000000):EV G (Tb (bs bb)) 24 [sv s,vi a,sv t] []=some (sv (fG s a t),[]):=by
 refine aA rfl ?_;have e:((a:Int)+(t.length:Int)).toNat=a+t.length:=by omega
 unfold fG;simp (disch:=first|omega|(simp only[aXD,aXE,aXH,aXC,aB,aXO,aXK,aXS,aF,bF]<;>omega)|fail) only[go_sem,h24c,aF,aYm,Int.toNat_zero,aYq,e,aXK,aXS]
theorem aQf(s:List Int)(n:Int)(hs:s.length=512)(hn:0<=n/\n<=9223372036854775807):EV G (Tb (bs bb)) 202 [sv s,vi n] []=some (sv (oP s n 8),[]):=by
 refine aA rfl ?_;have q0:=nD (G:=G) (bb:=bb) n hn;simp (disch:=first|omega|(simp only[aXD,aXE,aXH,aXC,aB,aXO,aXK,aXS,aF,bF]<;>omega)|fail) only[go_sem,h202c,q0]
 rw[aR (fun k=>⟨(sv (Ar s n k).2::vi n::jk 3 (sv (Ar s n k).1::vi ((k:Int)+1)::jk 25 [])),[]⟩) 8 ?_ ?_]
 obtain⟨l1,l2,_,_⟩:=Yg (n:=n) hs 8 (by omega);have q1:EV G (Tb (bs bb)) 24 [sv (Ar s n 8).2,vi 40,sv (Ar s n 8).1] []=some (sv (fG (Ar s n 8).2 40 (Ar s n 8).1),[]):=Zr (G:=G) (bb:=bb) (Ar s n 8).2 (Ar s n 8).1 40 (by omega) (by omega);rw[aJX hs] at q1;simp (disch:=first|omega|(simp only[aXD,aXE,aXH,aXC,aB,aXO,aXK,aXS,aF,bF]<;>omega)|fail) only[go_sem,h202l0,q1]
 rfl;intro k hk;obtain⟨l1,l2,_,_⟩:=Yg (n:=n) hs k (by omega);have hL:Ar s n (k+1)=((Ar s n k).1++iJ (Ar s n k).2 (64*k+62),fG (Ar s n k).2 (64*k+62) (bK n 2)):=rfl;rw[hL];have q1:=Zr (G:=G) (bb:=bb) (Ar s n k).2 (bK n 2) (64*k+62) (by rw[aB];omega) (by omega);have e1:((k:Int)+1)*64-2=((64*k+62:Nat):Int):=by omega
 have hm:64*k+62+2<=512:=by omega
 generalize 64*k+62=m at *;have e2:((m:Int)+2).toNat=m+2:=by omega
 generalize Ar s n k=z at *;obtain⟨z1,z2⟩:=z;dsimp only at *;have e3:(z2.take (m+2)).drop m=iJ z2 m:=by rw[List.drop_take,aY9]
 simp (disch:=first|omega|(simp only[aXD,aXE,aXH,aXC,aB,aXO,aXK,aXS,aF,bF]<;>omega)|fail) only[go_sem,h202l0,e1,q0,q1,e2,e3,aYm]
end
section
variable {G:aE}{bb:Bool}
structure aWf (r:cI) (u:Int):Prop where
 ls:0<=r.ls/\r.ls<=9223372036854775807
 sq:0<=r.sq/\r.sq<=9223372036854775807
 li:0<=r.li/\r.li<=9223372036854775807
 fl:0<=r.fl/\r.fl<=9223372036854775807
 br:0<=r.br/\r.br<=9223372036854775807
 bq:0<=r.bq/\r.bq<=9223372036854775807
 nx:0<=r.nx/\r.nx<=9223372036854775807
 us:0<=u/\u<=9223372036854775807
abbrev fds(r:cI)(u:Int):AV:=.agg [.dc (ci r.ls),.dc (ci r.sq),.dc (ci r.li),.dc (ci r.fl),.dc (ci u),.dc (ci r.br),.dc (ci r.bq),.dc (ci r.nx)]
set_option maxHeartbeats 4000000 in
theorem aGX(r:cI)(u:Int)(hN:aWf r u)(b:List Int)(hb:b.length<=444)(n:Int)(hn:0<=n/\n<=9223372036854775807):
  EV G (Tb (kD bb)) 149 [fds r u,sv b,vi n] []=some (sv (oP (iR r u b) n 8),[]):=by
 refine aA rfl ?_;have z4:EV G (Tb (kD bb)) 77 [vi 4] []=some (sv (zl 4),[]):=up (qE (G:=G) (bb:=bb) 4 (by decide));have z24:EV G (Tb (kD bb)) 77 [vi 24] []=some (sv (zl 24),[]):=up (qE (G:=G) (bb:=bb) 24 (by decide));have zr:EV G (Tb (kD bb)) 77 [vi ((444-b.length:Nat):Int)] []=some (sv (zl (444-b.length)),[]):=up (qE (G:=G) (bb:=bb) (444-b.length) (by omega));have k1:=up (uP (G:=G) (bb:=bb) r.ls hN.ls);have k2:=up (nD (G:=G) (bb:=bb) r.sq hN.sq);have k3:=up (nD (G:=G) (bb:=bb) r.li hN.li);have k4:=up (nD (G:=G) (bb:=bb) 64 (by decide));have k5:=up (nD (G:=G) (bb:=bb) r.fl hN.fl);have k6:=up (uP (G:=G) (bb:=bb) u hN.us);have k7:=up (uP (G:=G) (bb:=bb) 512 (by decide));have k8:=up (uP (G:=G) (bb:=bb) r.br hN.br);have k9:=up (nD (G:=G) (bb:=bb) r.bq hN.bq);have k10:=up (nD (G:=G) (bb:=bb) r.nx hN.nx);have p:=up (aQf (G:=G) (bb:=bb) (iR r u b) n (Ga r u b hb) hn);obtain⟨H,hH⟩:∃H:List Int,H=[70,73,76,69]:=⟨_,rfl⟩;have e1:(⟨#[70,73,76,69]⟩:ByteArray)=dL H:=by rw[hH];rfl
 have lH:H.length=4:=by rw[hH];rfl
 have e2:(⟨#[255,255,255,255]⟩:ByteArray)=dL sC:=rfl;have lf:sC.length=4:=rfl;have lb:=Ga r u b hb;have hB:dL (H++(zl 4++(bK r.ls 4++(zl 4++(bK r.sq 2++(bK r.li 2++(bK 64 2++(bK r.fl 2++(bK u 4++(bK 512 4++(bK r.br 4++(bK r.bq 2++(bK r.nx 2++(zl 24++(b++(sC++zl (444-b.length)))))))))))))))))=dL (iR r u b):=by
  rw[hH];unfold iR rhd;simp only[aXR]
 have e3:(64:Int)-((H++(zl 4++(bK r.ls 4++(zl 4++(bK r.sq 2++(bK r.li 2++(bK 64 2++(bK r.fl 2++(bK u 4++(bK 512 4++(bK r.br 4++(bK r.bq 2++bK r.nx 2)))))))))))).length:Int)=24:=by
  simp only[aXD,aB,bF,lH];omega
 have e4:(512:Int)-((H++(zl 4++(bK r.ls 4++(zl 4++(bK r.sq 2++(bK r.li 2++(bK 64 2++(bK r.fl 2++(bK u 4++(bK 512 4++(bK r.br 4++(bK r.bq 2++(bK r.nx 2++(zl 24++(b++sC))))))))))))))).length:Int)=((444-b.length:Nat):Int):=by
  simp only[aXD,aB,bF,lH,lf];omega
 clear hH;generalize iR r u b=X at *;simp (maxSteps:=2000000) (disch:=first|omega|(simp only[aXD,aXE,aXH,aXC,aB,aXO,aXK,aXS,aF,bF,lH,lf]<;>omega)|fail) only[go_sem,h149c,z4,z24,zr,k1,k2,k3,k4,k5,k6,k7,k8,k9,k10,p,e1,e2,e3,e4,aXR,hB,aF]
set_option maxHeartbeats 4000000 in
theorem Zs(r:cI)(hW:r.W)(h:gG r=0)(n:Int)(hn:0<=n/\n<=9223372036854775807):EV G (Tb (kD bb)) 102 [r.v,vi n] []=some (sv (cN r n),[]):=by
 refine aA rfl ?_;have hO:=rH h;have hla:=I9 hO;have hln:=hO.ln;simp (disch:=omega) only[go_sem,h102c];rw[aR (fun k=>⟨(jk 1 (vi n::.one (.ptr 0 0)::jk 2 (sv (((r.ats.take k).map dX).flatten)::vi k::jk 39 []))),[.box r.c]⟩) r.ats.length ?_ ?_]
 obtain⟨n1,n2,n3,n4,n5⟩:=hO.num;obtain⟨n6,n7⟩:=hO.base;have q:=aGX (G:=G) (bb:=bb) r (68+(fY r).length) ⟨by omega,by omega,by omega,by omega,by omega,by omega,by omega,by omega⟩ (fY r) (by omega) n hn;have e:((r.ats.take r.ats.length).map dX).flatten=fY r:=by rw[aYh];rfl
 have e2:(64:Int)+((fY r).length:Int)+4=68+((fY r).length:Int):=by omega
 rw[e];unfold cN;generalize fY r=b at *;simp (maxSteps:=2000000) (disch:=first|omega|(simp only[aXD,aXE,aXH,aXC,aB,aXO,aXK,aXS,aF,bF]<;>omega)|fail) only[go_sem,h102l0,aXC,e2,q,aF]
 rfl;intro k hk;have hok:=hO.errs.1 _ (aXM hk);have hWk:=hW.at' _ (aXM hk);have q:=up (Ii (G:=G) (bb:=bb) r.ats[k] (lA hWk hok));rw[<- (Ce hWk hok).1] at q;have e:((r.ats.take (k+1)).map dX).flatten=((r.ats.take k).map dX).flatten++dX r.ats[k]:=by
  rw[aYx hk,aYg,List.flatten_append];simp
 have hb:(((r.ats.take k).map dX).flatten).length+(dX r.ats[k]).length<=440:=by
  rw[<- aXD,<- e];have:r.ats=r.ats.take (k+1)++r.ats.drop (k+1):=(aYI _ _).symm;have e3:fY r=((r.ats.take (k+1)).map dX).flatten++((r.ats.drop (k+1)).map dX).flatten:=by
   unfold fY
   conv=>lhs;rw[this]
   rw[aYg,List.flatten_append]
  rw[e3,aXD] at hla;omega
 rw[e];generalize ((r.ats.take k).map dX).flatten=C at *;generalize dX r.ats[k]=E at *;have ix:=ixA r.ats k hk;generalize r.ats[k]=x at *;simp (maxSteps:=2000000) (disch:=first|omega|(simp only[aXD,aXE,aXH,aXC,aB,aXO,aXK,aXS,aF,bF]<;>omega)|fail) only[go_sem,h102l0,aXC,ix,aJ.e,q,aF]
end
section
variable {G:aE}{bb:Bool}
noncomputable def Js(G:aE)(b:Bool):aO:=fun f args hp=>if f=147 then EV G (TP G) f args hp else dN G b f args hp
theorem aQg{b:Bool}(hA:b=true->QC Tryz.prog G 11 [] (.one (.dc (.raw (.bool true))))):cE Tryz.prog G (Js G b):=by
 intro f args hp av o' h hp0 hh;unfold Js at h;split at h;obtain⟨n,hn⟩:=iN h;refine qA aUk ?_ n f args hp av o' hn hp0 hh;intro f args hp av o' h hp0 hh;obtain⟨n,hn⟩:=iN h;exact qA (K5 (kD false)) (aFB (fun h=>by cases h)) n f args hp av o' hn hp0 hh
 exact aGb hA f args hp av o' h hp0 hh
theorem aLr{b:Bool}(f:FuncId)(args:List AV)(hp:List aC)(r:AV×List aC)(h:dN G b f args hp=some r):Js G b f args hp=some r:=by
 unfold Js;split;rename_i hf;subst hf;have hn:dN G b 147 args hp=none:=rfl;rw[hn] at h;cases h;exact h
theorem upU{b:Bool}{f:FuncId}{a:List AV}{hp:List aC}{r:AV×List aC}(h:EV G (Tb (dN G b)) f a hp=some r):EV G (Tb (Js G b)) f a hp=some r:=
 Yo (T:=Tb (dN G b)) (T':=Tb (Js G b)) (fun _=>rfl) (fun f a hp r _ h=>aLr (G:=G) f a hp r h) h
theorem aGY(r:cI)(hW:r.W)(h:gG r=0)(a:aJ)(haW:a.W):EV G (Tb (Js G bb)) 147 [r.v,a.v] []=some (rcv (J8 r a),[]):=by
 refine gP rfl ?_;show Js G bb 147 [r.v,a.v] []=_;unfold Js;rw[if_pos rfl];exact aQe r hW h a haW
noncomputable def fsR(fl:Int)(q:aY):cI:=if 0<q.n then nI fl q else mP fl
set_option maxHeartbeats 4000000 in
theorem uC(fl:Int)(h:fl=1\/fl=3)(q:aY)(hq:q.n<=0\/VR q):EV G (Tb (Js G bb)) 101 [vi fl,vi q.s,vi q.n] []=some ((fsR fl q).v,[]):=by
 obtain⟨k1,k2,k3,_⟩:=rP h;have z:EV G (Tb (Js G bb)) 77 [vi 16] []=some (sv (zl 16),[]):=uN (G:=G) (B:=Js G bb) 16 (by decide);have p1:=aGY (G:=G) (bb:=bb) (r00 fl) (Zg fl) (aGC h) uW Zf;rw[k1] at p1;have p1:EV G (Tb (Js G bb)) 147 [.agg (rL fl),.agg [.dc (ci 16),.dc (.raw (.string ⟨#[]⟩)),.dc (ci 0),.dc (ci 0),.dc (.raw (.bool true)),.dc (.raw (.string (dL (zl 16)))),.dc (ci 0),.dc (.slc []),.dc (ci 0),.dc (ci 0),.dc (ci 0)]] []=some (rcv (mP fl,0),[]):=p1;refine aA rfl ?_;unfold fsR;by_cases c:0<q.n;rw[if_pos c]
 have hv:VR q:=hq.resolve_left (by omega)
 obtain⟨m1,m2,m3⟩:=lV h (q:=q) hv;have p2:=aGY (G:=G) (bb:=bb) (mP fl) k3 k2 (pE [q]) (L2 (by simp));rw[m1] at p2;have hl:cA [q]=q.n:=by simp[cA]
 have e2:(pE [q]).v=.agg [.dc (ci 128),.dc (.raw (.string ⟨#[]⟩)),.dc (ci 0),.dc (ci 0),.dc (.raw (.bool false)),.dc (.raw (.string ⟨#[]⟩)),.dc (ci 0),.dc (.slc [[ci q.s,ci q.n]]),.dc (ci (q.n*256)),.dc (ci (q.n*256)),.dc (ci (q.n*256))]:=by unfold pE;rw[hl];rfl
 rw[e2] at p2;unfold VR at hv;have c':q.n > 0:=c;generalize nI fl q=X2 at *;generalize mP fl=X1 at *;simp (maxSteps:=2000000) (disch:=omega) only[go_sem,h101c,z,p1,p2,c'];rw[if_neg c];have c':¬ q.n > 0:=c;generalize mP fl=X1 at *;simp (maxSteps:=2000000) (disch:=omega) only[go_sem,h101c,z,p1,c']
end
section
variable {G:aE}{bb:Bool}
noncomputable def vwV(s:List Int):(Bt×List aY×Int)×Int:=if Ap s=0 then (((bW s).1,(zZ s).rs,(Ot s:Int)),0) else ((nB,[],0),Ap s)
abbrev aWg(p:(Bt×List aY×Int)×Int):AV:=.tup [.agg [.dc (ci p.1.1.cl),.dc (ci p.1.1.tb),.dc (ci p.1.1.mi),.dc (ci p.1.1.lg),.dc (ci p.1.1.lc),.dc (ci p.1.1.se),.dc (.slc (p.1.2.1.map aY.e)),.dc (ci p.1.2.2)],tE p.2]
theorem aLs(hG:G9 G)(s:List Int)(hB:aM s)(hl:s.length<=200000):EV G (Tb (dN G bb)) 45 [sv s] []=some (aWg (vwV s),[]):=by
 unfold vwV;by_cases h:Ap s=0;rw[if_pos h];obtain⟨q1,q2,hT⟩:=mO hB h;have o:=pI (bb:=bb) hG s hB hl q1;rw[q2] at o;unfold Ot;generalize iD s=C at *;generalize (bW s).1=x at *;generalize (lU s).1=r at *;generalize (lU s).2.1=w at *;generalize (zZ s).rs=rs at *;refine aA rfl ?_;simp (maxSteps:=2000000) (disch:=omega) only[go_sem,h45c,o,aXL,aXT,dC,oH];rw[if_neg h];rcases Oi h with⟨q,e⟩|⟨q,e⟩
 ·have o:=Cs (bb:=bb) hG s hB hl q;rw[e] at o;refine aA rfl ?_;simp (maxSteps:=2000000) (disch:=omega) only[go_sem,h45c,o,h];try rfl
 ·have o:=pI (bb:=bb) hG s hB hl q;rw[e] at o;generalize iD s=C at *;refine aA rfl ?_;simp (maxSteps:=2000000) (disch:=omega) only[go_sem,h45c,o,h,aXL,aXT,dC,oH];try rfl
noncomputable def plB(s:List Int)(C:List Int)(n:Nat):List Int:=Dx s (C.getD (2*n) 0).toNat (C.getD (2*n+1) 0).toNat
def miB(s:List Int)(x:Bt)(n:Nat):List Int:=Dx s (x.mi.toNat+2*n) (x.mi.toNat+2*n+1)
noncomputable def mrL(s:List Int)(x:Bt)(C:List Int)(k:Nat):List Int:=((List.range k).filter fun n=>!decide (plB s C n=miB s x n)).map Int.ofNat
theorem aMu(s:List Int)(x:Bt)(C:List Int)(k:Nat):mrL s x C (k+1)=if plB s C k=miB s x k then mrL s x C k else mrL s x C k++[(k:Int)]:=by
 unfold mrL;rw[List.range_succ,List.filter_append,List.filter_cons,List.filter_nil,aYg];by_cases h:plB s C k=miB s x k;rw[if_pos h,if_neg (by simp[h]),aXT,aYE];rw[if_neg h,if_pos (by simp[h])];rfl
theorem aLu(s:List Int)(x:Bt)(C:List Int)(k:Nat):(mrL s x C k).length<=k:=by
 unfold mrL;rw[aXC];exact Nat.le_trans (List.length_filter_le _ _) (by simp)
noncomputable def mrV(s:List Int):List Int×Int:=if Ap s=0 then (mrL s (bW s).1 (iD s) 4,0) else ([],Ap s)
set_option maxHeartbeats 8000000 in
theorem V4(hG:G9 G)(s:List Int)(hB:aM s)(hl:s.length<=200000):EV G (Tb (dN G bb)) 46 [sv s] []=some (inV (mrV s),[]):=by
 unfold mrV;by_cases h:Ap s=0;rw[if_pos h];obtain⟨q1,q2,hT⟩:=mO hB h;have o:=pI (bb:=bb) hG s hB hl q1;rw[q2] at o;have hln:=hT.ln;have b:=hT.b;have b2:=b.cl;have b3:=b.n;have b5:=b.mi;have pl:∀k:Nat,k<4->EV G (Tb (dN G bb)) 85 [.one (.ptr 0 0),vi k] [rM (bW s).1 (.slc ((zZ s).rs.map aY.e)) (ci ((iD s).length / 2:Nat)) s.length (.slc (el (iD s))),yb s]=some (Y6 ((iD s).getD (2*k) 0) ((iD s).getD (2*k+1) 0),[rM (bW s).1 (.slc ((zZ s).rs.map aY.e)) (ci ((iD s).length / 2:Nat)) s.length (.slc (el (iD s))),yb s]):=
  fun k hk=>tX _ _ _ _ _ _ k (by omega) (by omega)
 have mi:∀k:Nat,k<4->EV G (Tb (dN G bb)) 106 [.one (.ptr 0 0),vi k] [rM (bW s).1 (.slc ((zZ s).rs.map aY.e)) (ci ((iD s).length / 2:Nat)) s.length (.slc (el (iD s))),yb s]=some (Y6 ((bW s).1.mi+2*k) ((bW s).1.mi+2*k+1),[rM (bW s).1 (.slc ((zZ s).rs.map aY.e)) (ci ((iD s).length / 2:Nat)) s.length (.slc (el (iD s))),yb s]):=
  fun k hk=>Em _ _ _ _ _ _ k (by omega) (by omega)
 have bp:∀ k:Nat,k < 4->EV G (Tb (dN G bb)) 105 [.one (.ptr 0 0),Y6 ((iD s).getD (2 * k) 0) ((iD s).getD (2 * k+1) 0)] [rM (bW s).1 (.slc ((zZ s).rs.map aY.e)) (ci ((iD s).length / 2:Nat)) s.length (.slc (el (iD s))),yb s]=some (sv (plB s (iD s) k),[rM (bW s).1 (.slc ((zZ s).rs.map aY.e)) (ci ((iD s).length / 2:Nat)) s.length (.slc (el (iD s))),yb s]):=fun k hk=>by
   obtain⟨a,ha,a1,a2,_⟩:=hT.at (k:=2 * k) (by omega);obtain⟨c,hc,c1,c2,_⟩:=hT.at (k:=2 * k+1) (by omega);unfold plB;rw[ha,hc];exact Cr _ _ _ _ s hB s.length a c rfl (by omega) (by omega) hl
 have bm:∀ k:Nat,k < 4->EV G (Tb (dN G bb)) 105 [.one (.ptr 0 0),Y6 ((bW s).1.mi+2 * k) ((bW s).1.mi+2 * k+1)] [rM (bW s).1 (.slc ((zZ s).rs.map aY.e)) (ci ((iD s).length / 2:Nat)) s.length (.slc (el (iD s))),yb s]=some (sv (miB s (bW s).1 k),[rM (bW s).1 (.slc ((zZ s).rs.map aY.e)) (ci ((iD s).length / 2:Nat)) s.length (.slc (el (iD s))),yb s]):=fun k hk=>by
   have q:=Cr (G:=G) (B:=dN G bb) (bW s).1 (.slc ((zZ s).rs.map aY.e)) (ci ((iD s).length / 2:Nat)) (.slc (el (iD s))) s hB s.length ((bW s).1.mi.toNat+2 * k) ((bW s).1.mi.toNat+2 * k+1) rfl (by omega) (by omega) hl;rw[Y9 (x:=(bW s).1.mi+2 * k) (y:=(bW s).1.mi+2 * k+1) (by omega) (by omega)] at q;exact q
 have eq:∀k,(dL (plB s (iD s) k)=dL (miB s (bW s).1 k))=(plB s (iD s) k=miB s (bW s).1 k):=fun k=>dR (qQ hB _ _) (qQ hB _ _)
 have L:=aMu s (bW s).1 (iD s);have Ln:=aLu s (bW s).1 (iD s);have L0:mrL s (bW s).1 (iD s) 0=[]:=rfl;generalize mrL s (bW s).1 (iD s)=U at *;generalize plB s (iD s)=P at *;generalize miB s (bW s).1=M at *;generalize iD s=C at *;generalize (bW s).1=x at *;generalize (lU s).1=r at *;generalize (lU s).2.1=w at *;generalize (zZ s).rs=rs at *;refine aA rfl ?_;simp (maxSteps:=2000000) (disch:=omega) only[go_sem,h46c,o,aXL,aXT,dC,oH,iQ];rw[aR (fun k=>⟨(jk 4 (.one (.ptr 2 0)::jk 1 (.one (.bld 5 (U k).length)::jk 9 (vi k::jk 19 [])))),opH x r w s rs C++[.arr 0 1 (el (U k))]⟩) 4 ?_ ?_]
 simp (maxSteps:=2000000) (disch:=omega) only[go_sem,h46l0,aYd,aX4,aXL,aXT,dC,oH,iQ,lM];rw[L0];rfl;intro k hk;have p1:=pl k hk;have p2:=mi k hk;have p3:=bp k hk;have p4:=bm k hk;have p5:=eq k;have Lk:=Ln k;have L1:=L k;by_cases he:P k=M k;rw[if_pos he] at L1;rw[L1];have p6:(dL (P k)=dL (M k))=True:=by rw[p5];exact eq_true he
 generalize U k=V at *;generalize P k=Pk at *;generalize M k=Mk at *;have hk':(k:Int)<4:=by omega
 simp (maxSteps:=2000000) (disch:=omega) only[go_sem,h46l0,hk',p1,p2,p3,p4,p6,aYd,aX4,iQ,lM];rw[if_neg he] at L1;rw[L1];have p6:(dL (P k)=dL (M k))=False:=by rw[p5];exact eq_false he
 generalize U k=V at *;generalize P k=Pk at *;generalize M k=Mk at *;have hk':(k:Int)<4:=by omega
 simp (maxSteps:=2000000) (disch:=omega) only[go_sem,h46l0,hk',p1,p2,p3,p4,p6,aYd,aX4,iQ,lM,aMd,aXD,aXC];rw[if_neg h];rcases Oi h with⟨q,e⟩|⟨q,e⟩
 ·have o:=Cs (bb:=bb) hG s hB hl q;rw[e] at o;refine aA rfl ?_;simp (maxSteps:=2000000) (disch:=omega) only[go_sem,h46c,o,h];try rfl
 ·have o:=pI (bb:=bb) hG s hB hl q;rw[e] at o;generalize iD s=C at *;refine aA rfl ?_;simp (maxSteps:=2000000) (disch:=omega) only[go_sem,h46c,o,h,aXL,aXT,dC,oH];try rfl
end
section
variable {G:aE}{bb:Bool}
theorem aLv{l u v:List Int}{n:Nat}(l1:u.length=256)(l2:v.length=256)(h:n*256+512<=l.length):fG (fG l (n*256) u) ((n+1)*256) v=fG l (n*256) (u++v):=by
 have lt:(l.take (n*256)).length=n*256:=by rw[aXK];omega
 unfold fG;rw[l1,l2,aXD,l1,l2];have e1:(l.take (n*256)++u++l.drop (n*256+256)).take ((n+1)*256)=l.take (n*256)++u:=by
  rw[aY3 (by rw[aXD,lt,l1];omega),aYe (by rw[aXD,lt,l1];omega)]
 have e2:(l.take (n*256)++u++l.drop (n*256+256)).drop ((n+1)*256+256)=l.drop (n*256+(256+256)):=by
  rw[List.drop_append,aZc (by rw[aXD,lt,l1];omega),aX4,List.drop_drop,aXD,lt,l1];congr 1;omega
 rw[e1,e2,aXR,aXR,aXR,aXR]
theorem Zt{l b:List Int}{n:Nat}(hb:b.length=512)(h:n*256+512<=l.length):mT l b n (n+1)=fG l (n*256) b:=by
 have e:b.take 256++b.drop 256=b:=aYI 256 b;have:=aLv (l:=l) (u:=b.take 256) (v:=b.drop 256) (n:=n) (by rw[aXK];omega) (by rw[aXS];omega) h;rw[e] at this;exact this
noncomputable abbrev uB(G:aE)(b:Bool):HT:=Tb (Js G b)
theorem aLw:EV G (uB G bb) 103 [] []=some (sv (cN Gi 1),[]):=by
 have q:EV G (uB G bb) 102 [.agg [.dc (ci 1),.dc (ci 0),.dc (ci 0),.dc (ci 0),.dc (ci 0),.dc (ci 0),.dc (ci 0),.dc (.slc [])],vi 1] []=some (sv (cN Gi 1),[]):=upU (upS (Zs (bb:=bb) Gi tY.2 tY.1 1 (by decide)));generalize cN Gi 1=b at *;refine aA rfl ?_;simp (maxSteps:=2000000) (disch:=omega) only[go_sem,h103c,q]
theorem aWh(fl a:Int):fsR fl ⟨a,0⟩=mP fl:=if_neg (Int.lt_irrefl 0)
set_option maxHeartbeats 8000000 in
theorem aGZ{x:Bt}{m:Int}(h:Ep x m)(k:Nat)(hk:(k:Int)<m):
  K6 [1,0,2,0] 1 (EC (EV G (uB G bb)) G h44l0 ⟨(jk 1 (vi m::.one (.ptr 0 0)::jk 2 (sv (fZ x m k)::vi k::jk 63 []))),[x.o]⟩)=
   some ⟨(jk 1 (vi m::.one (.ptr 0 0)::jk 2 (sv (fZ x m (k+1))::vi (k+1:Nat)::jk 63 []))),[x.o]⟩:=by
 have g0:=h.cl;have g1:=h.tb;have g2:=h.mi;have g3:=h.lg;have g4:=h.nn;obtain⟨v1,v2,v3⟩:=h.rs;obtain⟨b1,b2⟩:=Gj h k;obtain⟨e1,e2⟩:=nJ h k (by omega);have f0:=uC (G:=G) (bb:=bb) 1 (.inl rfl) ⟨0,0⟩ (.inl (by decide));have f1:=uC (G:=G) (bb:=bb) 1 (.inl rfl) (sF x m) (.inr v1);have f2:=uC (G:=G) (bb:=bb) 1 (.inl rfl) (Fe x) (.inr v2);have f3:=uC (G:=G) (bb:=bb) 1 (.inl rfl) (Ff x) (.inr v3);have f4:=uC (G:=G) (bb:=bb) 3 (.inr rfl) ⟨0,0⟩ (.inl (by decide));rw[aWh] at f0 f4;have f0:EV G (uB G bb) 101 [vi 1,vi 0,vi 0] []=some ((mP 1).v,[]):=f0;have f4:EV G (uB G bb) 101 [vi 3,vi 0,vi 0] []=some ((mP 3).v,[]):=f4;have x1:fsR 1 (sF x m)=nI 1 (sF x m):=if_pos (by show 0<2*m;omega);have x2:fsR 1 (Fe x)=nI 1 (Fe x):=if_pos (by show (0:Int)<8;omega);have x3:fsR 1 (Ff x)=nI 1 (Ff x):=if_pos (by show 0<x.lc;omega);rw[x1] at f1;rw[x2] at f2;rw[x3] at f3;have fr:=aLw (G:=G) (bb:=bb);have en:∀r:cI,gG r=0->r.W->EV G (uB G bb) 102 [r.v,vi 1] []=some (sv (cN r 1),[]):=fun r hr hW=>upU (upS (Zs (bb:=bb) r hW hr 1 (by decide)))
 have c0:=en (mP 1) (rP (.inl rfl)).2.1 (rP (.inl rfl)).2.2.1;have c4:=en (mP 3) (rP (.inr rfl)).2.1 (rP (.inr rfl)).2.2.1;have c1:=en (nI 1 (sF x m)) (lV (.inl rfl) v1).2.1 (lV (.inl rfl) v1).2.2;have c2:=en (nI 1 (Fe x)) (lV (.inl rfl) v2).2.1 (lV (.inl rfl) v2).2.2;have c3:=en (nI 1 (Ff x)) (lV (.inl rfl) v3).2.1 (lV (.inl rfl) v3).2.2;clear en;have s1:(fG (fZ x m k) ((x.tb.toNat+2*k)*256) (iK x m k)).length=x.cl.toNat*256:=by rw[cP (by omega),e1]
 have p1:=Cq (G:=G) (B:=Js G bb) (fZ x m k) (iK x m k) ((x.tb.toNat+2*k)*256) (by omega) (by omega);have t1:(((x.tb.toNat+2*k)*256:Nat):Int)=(x.tb+2*k)*256:=by omega
 rw[t1] at p1;have hk':(k:Int)<m:=hk;rw[V0];have i1:mT (fZ x m k) (iK x m k) (x.tb.toNat+2*k) (x.tb.toNat+2*k+1)=fG (fZ x m k) ((x.tb.toNat+2*k)*256) (iK x m k):=Zt b1 (by omega);rw[i1];have hO:iK x m k=if k<16 then cN (Ab k (sF x m) (Fe x) (Ff x)) 1 else cN Gi 1:=rfl
 by_cases h4:k<4;rw[if_pos h4];have p2:=Cq (G:=G) (B:=Js G bb) (fG (fZ x m k) ((x.tb.toNat+2*k)*256) (iK x m k)) (iK x m k) ((x.mi.toNat+2*k)*256) (by omega) (by omega);have t2:(((x.mi.toNat+2*k)*256:Nat):Int)=(x.mi+2*k)*256:=by omega
 rw[t2] at p2;have i2:mT (fG (fZ x m k) ((x.tb.toNat+2*k)*256) (iK x m k)) (iK x m k) (x.mi.toNat+2*k) (x.mi.toNat+2*k+1)=fG (fG (fZ x m k) ((x.tb.toNat+2*k)*256) (iK x m k)) ((x.mi.toNat+2*k)*256) (iK x m k):=Zt b1 (by omega);rw[i2];generalize fG (fZ x m k) ((x.tb.toNat+2*k)*256) (iK x m k)=D1 at *;generalize fG D1 ((x.mi.toNat+2*k)*256) (iK x m k)=D2 at *;rw[if_pos (by omega)] at hO;rw[hO] at p1 p2;have z4:(k:Int)<4:=by omega
 have z16:¬ (k:Int)≥16:=by omega
 have z5:¬ (k:Int)=5:=by omega
 rcases (show (k:Int)=0\/¬ (k:Int)=0/\(k:Int)=1\/(¬ (k:Int)=0/\¬ (k:Int)=1)/\(k:Int)=2\/(¬ (k:Int)=0/\¬ (k:Int)=1)/\¬ (k:Int)=2 by omega) with z0|⟨z0,z1⟩|⟨⟨z0,z1⟩,z2⟩|⟨⟨z0,z1⟩,z2⟩
 have o:Ab ((k:Nat):Int) (sF x m) (Fe x) (Ff x)=nI 1 (sF x m):=by simp[Ab,Aa,z0]
 rw[o] at p1 p2;generalize mP 1=A at *;generalize mP 3=B at *;generalize nI 1 (sF x m)=X1 at *;generalize nI 1 (Fe x)=X2 at *;generalize nI 1 (Ff x)=X3 at *;generalize cN A 1=EA at *;generalize cN B 1=EB at *;generalize cN X1 1=E1 at *;generalize cN X2 1=E2 at *;generalize cN X3 1=E3 at *;generalize cN Gi 1=EF at *;simp (maxSteps:=2000000) (disch:=omega) only[go_sem,h44l0,hk',f0,f1,c1,p1,p2,eq_true z0,z16,eq_true z4];have o:Ab ((k:Nat):Int) (sF x m) (Fe x) (Ff x)=nI 1 (Fe x):=by simp[Ab,Aa,z0,z1]
 rw[o] at p1 p2;generalize mP 1=A at *;generalize mP 3=B at *;generalize nI 1 (sF x m)=X1 at *;generalize nI 1 (Fe x)=X2 at *;generalize nI 1 (Ff x)=X3 at *;generalize cN A 1=EA at *;generalize cN B 1=EB at *;generalize cN X1 1=E1 at *;generalize cN X2 1=E2 at *;generalize cN X3 1=E3 at *;generalize cN Gi 1=EF at *;simp (maxSteps:=2000000) (disch:=omega) only[go_sem,h44l0,hk',f0,f2,c2,p1,p2,z0,eq_true z1,z16,eq_true z4];have o:Ab ((k:Nat):Int) (sF x m) (Fe x) (Ff x)=nI 1 (Ff x):=by simp[Ab,Aa,z0,z1,z2]
 rw[o] at p1 p2;generalize mP 1=A at *;generalize mP 3=B at *;generalize nI 1 (sF x m)=X1 at *;generalize nI 1 (Fe x)=X2 at *;generalize nI 1 (Ff x)=X3 at *;generalize cN A 1=EA at *;generalize cN B 1=EB at *;generalize cN X1 1=E1 at *;generalize cN X2 1=E2 at *;generalize cN X3 1=E3 at *;generalize cN Gi 1=EF at *;simp (maxSteps:=2000000) (disch:=omega) only[go_sem,h44l0,hk',f0,f3,c3,p1,p2,z0,z1,eq_true z2,z16,eq_true z4];have o:Ab ((k:Nat):Int) (sF x m) (Fe x) (Ff x)=mP 1:=by unfold Ab Aa;rw[if_neg z0,if_neg z1,if_neg z2,if_neg z5]
 rw[o] at p1 p2;generalize mP 1=A at *;generalize mP 3=B at *;generalize nI 1 (sF x m)=X1 at *;generalize nI 1 (Fe x)=X2 at *;generalize nI 1 (Ff x)=X3 at *;generalize cN A 1=EA at *;generalize cN B 1=EB at *;generalize cN X1 1=E1 at *;generalize cN X2 1=E2 at *;generalize cN X3 1=E3 at *;generalize cN Gi 1=EF at *;simp (maxSteps:=2000000) (disch:=omega) only[go_sem,h44l0,hk',f0,f0,c0,p1,p2,z0,z1,z2,z5,z16,eq_true z4];rw[if_neg h4];generalize fG (fZ x m k) ((x.tb.toNat+2*k)*256) (iK x m k)=D1 at *;rw[hO] at p1;have z0:¬ (k:Int)=0:=by omega
 have z1:¬ (k:Int)=1:=by omega
 have z2:¬ (k:Int)=2:=by omega
 have z4:¬ (k:Int)<4:=by omega
 by_cases h16:k<16;have z16:¬ (16:Int)<=k:=by omega
 have z16':¬ (k:Int)≥16:=z16;rw[if_pos h16] at p1;by_cases z5:(k:Int)=5;have o:Ab ((k:Nat):Int) (sF x m) (Fe x) (Ff x)=mP 3:=by simp[Ab,Aa,z5]
 rw[o] at p1;generalize mP 1=A at *;generalize mP 3=B at *;generalize nI 1 (sF x m)=X1 at *;generalize nI 1 (Fe x)=X2 at *;generalize nI 1 (Ff x)=X3 at *;generalize cN A 1=EA at *;generalize cN B 1=EB at *;generalize cN X1 1=E1 at *;generalize cN X2 1=E2 at *;generalize cN X3 1=E3 at *;generalize cN Gi 1=EF at *;generalize fZ x m k=D at *;simp (maxSteps:=2000000) (disch:=omega) only[go_sem,h44l0,hk',f0,f4,c4,p1,z0,z1,z2,eq_true z5,z4,z16'];have o:Ab ((k:Nat):Int) (sF x m) (Fe x) (Ff x)=mP 1:=by unfold Ab Aa;rw[if_neg z0,if_neg z1,if_neg z2,if_neg z5]
 rw[o] at p1;generalize mP 1=A at *;generalize mP 3=B at *;generalize nI 1 (sF x m)=X1 at *;generalize nI 1 (Fe x)=X2 at *;generalize nI 1 (Ff x)=X3 at *;generalize cN A 1=EA at *;generalize cN B 1=EB at *;generalize cN X1 1=E1 at *;generalize cN X2 1=E2 at *;generalize cN X3 1=E3 at *;generalize cN Gi 1=EF at *;generalize fZ x m k=D at *;simp (maxSteps:=2000000) (disch:=omega) only[go_sem,h44l0,hk',f0,c0,p1,z0,z1,z2,z5,z4,z16'];have z16:(k:Int)≥16:=by omega
 have z5:¬ (k:Int)=5:=by omega
 rw[if_neg h16] at p1;generalize mP 1=A at *;generalize mP 3=B at *;generalize nI 1 (sF x m)=X1 at *;generalize nI 1 (Fe x)=X2 at *;generalize nI 1 (Ff x)=X3 at *;generalize cN A 1=EA at *;generalize cN B 1=EB at *;generalize cN X1 1=E1 at *;generalize cN X2 1=E2 at *;generalize cN X3 1=E3 at *;generalize cN Gi 1=EF at *;generalize fZ x m k=D at *;simp (maxSteps:=2000000) (disch:=omega) only[go_sem,h44l0,hk',f0,c0,fr,p1,z0,z1,z2,z5,z4,eq_true z16]
set_option maxHeartbeats 2000000 in
theorem V5{x:Bt}{m:Int}(h:Ep x m):EV G (uB G bb) 44 [x.v,vi m] []=some (sv (eO x m),[]):=by
 have g0:=h.cl;have g4:=h.nn;have z:EV G (uB G bb) 77 [vi (x.cl*256)] []=some (sv (zl (x.cl*256).toNat),[]):=uN (G:=G) (B:=Js G bb) (x.cl*256) (by omega);have ez:(x.cl*256).toNat=x.cl.toNat*256:=by omega
 rw[ez] at z;have p:=aPM (G:=G) (B:=Js G bb) (zl (x.cl.toNat*256)) x (fun n hn=>by have:=Ge h.ck n hn;omega) (by rw[bF];omega)
 have e0:fZ x m 0=Dw (zl (x.cl.toNat*256)) x:=rfl;have nn:((m.toNat:Nat):Int)=m:=by omega
 refine aA rfl ?_;rw[<- e0] at p;unfold eO;generalize zl (x.cl.toNat*256)=Z at *;simp (maxSteps:=2000000) (disch:=omega) only[go_sem,h44c,z,p];rw[aR (fun k=>⟨(jk 1 (vi m::.one (.ptr 0 0)::jk 2 (sv (fZ x m k)::vi k::jk 63 []))),[x.o]⟩) m.toNat ?_ ?_]
 generalize fZ x m m.toNat=D at *;simp (maxSteps:=2000000) (disch:=omega) only[go_sem,h44l0,nn];rfl;exact fun k hk=>aGZ h k (by omega)
theorem aQh{x:Bt}{m:Int}(h:Ep x m):vwV (eO x m)=((x,[sF x m],m),0):=by
 unfold vwV;have g:=h.nn;rw[(Gk h).2,if_pos rfl,rQ h,Om h,aGJ h,show ((m.toNat:Nat):Int)=m by omega];rfl
theorem aQi{x:Bt}{m:Int}(h:Ep x m):mrV (eO x m)=([],0):=by
 unfold mrV;have g:=h.nn;have g1:=h.tb;have g2:=h.mi;rw[(Gk h).2,if_pos rfl,rQ h,uX h];obtain⟨_,i2,i3⟩:=Ct h m.toNat (by omega);have e:∀ k,k < 4->plB (eO x m) (pQ x m) k=miB (eO x m) x k:=fun k hk=>by
   unfold plB miB;rw[nK h (by omega),nK h (by omega)];have a1:(x.tb+((2 * k:Nat):Int)).toNat=x.tb.toNat+2 * k:=by omega
   have a2:(x.tb+((2 * k+1:Nat):Int)).toNat=x.tb.toNat+2 * k+1:=by omega
   rw[a1,a2];exact (i2 k (by omega)).trans (i3 k (by omega) hk).symm
 have L:=aMu (eO x m) x (pQ x m);have l0:mrL (eO x m) x (pQ x m) 0=[]:=rfl;have h1:=L 0;rw[if_pos (e 0 (by decide)),l0] at h1;have h2:=L 1;rw[if_pos (e 1 (by decide)),h1] at h2;have h3:=L 2;rw[if_pos (e 2 (by decide)),h2] at h3;have h4:=L 3;rw[if_pos (e 3 (by decide)),h3] at h4;rw[h4]
set_option maxHeartbeats 8000000 in
theorem aLx(hG:G9 G)(hA:EV G (uB G bb) 11 [] []=some (vb true,[]))(x:Bt)(m:Int):EV G (uB G bb) 7 [x.v,vi m] []=some (vb true,[]):=by
 refine aA rfl ?_;by_cases hs:96<x.cl/\x.cl<=512;have h1:x.cl > 96:=hs.1;have h2:=hs.2;simp (maxSteps:=2000000) (disch:=omega) only[go_sem,h7c,hA,eq_true h1,eq_true h2,aYc,aX5];have er:=Vo (G:=G) (B:=Js G bb) x m;have hc:(x.cl > 96/\x.cl<=512)=False:=eq_false hs;by_cases h:Kc x m=0;have hE:=Oj h;have g4:=hE.nn;obtain⟨ln,hB⟩:=nJ hE m.toNat (by omega);have ln:(eO x m).length=x.cl.toNat*256:=ln;have hB:aM (eO x m):=hB;have g0:=hE.cl;have e:=upU (L3 (bb:=bb) hG x m h);have r:=V5 (G:=G) (bb:=bb) hE;have o:=upU (aLs (bb:=bb) hG (eO x m) hB (by omega));have mi:=upU (V4 (bb:=bb) hG (eO x m) hB (by omega));have fr:=upU (En (bb:=bb) hG (eO x m) hB (by omega));rw[aQh hE] at o;rw[aQi hE] at mi;rw[aGL hE] at fr;rw[h] at er;generalize eO x m=D at *;by_cases hm:16<m;rw[if_pos hm] at fr;by_cases h1:x.cl > 96;have h2:¬ x.cl<=512:=fun q=>hs ⟨h1,q⟩
 exact absurd g0.2 h2;simp (maxSteps:=2000000) (disch:=omega) only[go_sem,h7c,hA,h1,er,e,r,o,mi,fr,aY.e,aXL,aXT,aYc,aX5];rw[if_neg hm] at fr;have h16:m=16:=by omega
 subst h16;by_cases h1:x.cl > 96;have h2:¬ x.cl<=512:=fun q=>hs ⟨h1,q⟩
 exact absurd g0.2 h2;simp (maxSteps:=2000000) (disch:=omega) only[go_sem,h7c,hA,h1,er,e,r,o,mi,fr,aY.e,aXL,aXT,aYc,aX5];have e:=upU (aGF (G:=G) (bb:=bb) x m h);by_cases h1:x.cl > 96
 ·have h2:¬ x.cl<=512:=fun q=>hs ⟨h1,q⟩
  simp (maxSteps:=2000000) (disch:=omega) only[go_sem,h7c,hA,eq_true h1,h2,er,e,h,aYc,aX5];try rfl
 ·simp (maxSteps:=2000000) (disch:=omega) only[go_sem,h7c,hA,h1,er,e,h,aYc,aX5];try rfl
end
end Go.Proofs.YthepfneloomngaaGreatDoor
