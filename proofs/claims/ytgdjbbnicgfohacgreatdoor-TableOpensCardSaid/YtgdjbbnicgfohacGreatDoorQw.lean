/- Part. Conditions: none. -/
import Derived.Test.YtgdjbbnicgfohacGreatDoorMf
import Derived.Test.YtgdjbbnicgfohacGreatDoorCards
import Derived.Test.YtgdjbbnicgfohacGreatDoorTie
import Derived.ProofKit
import Derived.MakeChecks
import Derived.Stop.LaidErr
import Derived.Deep.DeepHandedRow
import Derived.Lib.LaidTab
import Derived.LaidMore
import Derived.LaidHandle
import Derived.LaidLaws
import Derived.Lay
import Derived.Shelf.Vars
import Derived.Test.YtgdjbbnicgfohacGreatDoorRows
import Derived.Test.YtgdjbbnicgfohacGreatDoorQp
import Derived.Test.YtgdjbbnicgfohacGreatDoorUj
import Derived.Test.YtgdjbbnicgfohacGreatDoorVq
import Derived.Test.YtgdjbbnicgfohacGreatDoorSu
import Derived.Test.YtgdjbbnicgfohacGreatDoorPa
import Derived.Test.YtgdjbbnicgfohacGreatDoorTy
namespace Go.Proofs.YtgdjbbnicgfohacGreatDoor
set_option maxHeartbeats 8000000
set_option linter.unusedSimpArgs false
set_option linter.unusedVariables false
set_option maxRecDepth 4000
section
variable {G:aF}{bb:Bool}
open Go.ChangeShapes Go.WideShapes Go.ChangeAt Go.RowKit
theorem Tryz.own:ownKnob Tryz.prog.godebug=none:=by kernel_rfl
theorem Tryz.laidOut:laidOutB Tryz.prog=true:=by kernel_rfl
theorem aIB:Tryz.prog.cellsOf 3=1:=by kernel_rfl
def aVT(i:Int):Prop:=-9223372036854775808<=i/\i<=9223372036854775807
theorem aRB{m:Nat}{x:DC}(h:L5 Tryz.prog (m+1) 3 [x]):∃i:Int,x=ci i/\aVT i:=by
 obtain⟨i,a,b⟩:=aIA Tryz.underlying3 h;injection a with a _;exact⟨i,a,Yw b⟩
def aJ.d(a:aJ):L DC:=[ci a.ty,.raw (.string (dB a.nm)),ci a.id,ci a.fl,.raw (.bool a.res),.raw (.string (dB a.va)),ci a.fi,.slc (a.rs.map aV.e),ci a.al,ci a.sz,ci a.vd]
theorem L6{H:Type}{enc:TypeId×Value->H}{P:Program}{w:World}{e:Nat}{D:Nat->Bool}{f:Bool}{c:Nat}{t:TypeId}{f0 i:Field}{cs:L Value}{a b:Int}{p:L MemPlace}(z:P.underlying t=some (.struct #[f0,i])) (h0:P.underlying f0.type=some (.int .i64)) (r:P.underlying i.type=some (.int .i64)) (B:f0.offset=0) (C:i.offset=1)(n:P.cellsOf f0.type=1) (o:P.cellsOf i.type=1) (q:P.cellsOf t=2)(h:DataW.trod enc P w e D f c t cs=some (.agg [.lit (.int .i64 a),.lit (.int .i64 b)],p)):cs=[.int .i64 a,.int .i64 b]:=by
 cases c with
 |zero=>simp[DataW.trod] at h
 |succ c=>
  simp only[DataW.trod,z,q] at h;split at h;rename_i s;obtain⟨I,d,m⟩:=Option.map_eq_some_iff.1 h
  match cs,s with
  |[x,y],_=>
   simp only[aZ9,List.mapM_nil,B,C,n,o,aZ1,bAK,bAE,bAp,List.take_nil] at d;obtain⟨u,A,d⟩:=aZV.1 d;obtain⟨vs,j,d⟩:=aZV.1 d;obtain⟨v,j,g⟩:=aZV.1 j;obtain⟨E,k,rfl,_⟩:=DataW.trod_int h0 A;obtain⟨F,l,rfl,_⟩:=DataW.trod_int r j;simp at g d;subst g;subst d;simp at m k l;obtain⟨⟨rfl,rfl⟩,_⟩:=m;rw[k,l]
  cases h
theorem kU{W:World}{c:String}{a b:Int}{e:L (String×DataW Unit)}{g:Nat}(m:Tryz.prog.globalNamed c=some g)(j:(Tryz.prog.globals[g]?).map (·.type)=some 178)(h:laidMet Tryz.prog ((c,.agg [.lit (.int .i64 a),.lit (.int .i64 b)])::e) W):W.var? Tryz.prog c=some #[.int .i64 a,.int .i64 b]:=by
 obtain⟨o,⟨n,r,cs,k,p,q,f,i,d,l,_,_⟩,_⟩:=h;obtain rfl:=Option.some.inj (m.symm.trans f);obtain rfl:=Option.some.inj (j.symm.trans i);have:=L6 Tryz.underlying178 Tryz.underlying3 Tryz.underlying3 rfl rfl aIB aIB (by kernel_rfl) l;rw[d];congr 1;rw[<- bAD];exact this
theorem nC{W:World}{f:String}{a b:Int}{g:Nat}(c:W.var? Tryz.prog f=some #[.int .i64 a,.int .i64 b])(h:Tryz.prog.globalNamed f=some g):(∀γ,RC (iU W) γ (.ref [ci a,ci b]) (.pointer (some ⟨g,0,none⟩)))/\∃o,iU W g=some o/\∃vs t z,o=.cells vs t z/\vs.size=[ci a,ci b].length:=by
 refine⟨fun γ=>.ref _ g 0 (fun j=>.int .i64 ([a,b].getD j 0)) (fun j d e=>?_) (fun j d e=>?_),?_⟩
 match j with
 |0=>injection e with e;subst e;exact .raw _ rfl
 |1=>injection e with e;subst e;exact .raw _ rfl
 |j+2=>simp at e
 match j with
 |0=>have:=World.var?_cell h c 0;exact (show W.cell? ⟨g,0,none⟩=some (.int .i64 a) by simpa using this)
 |1=>have:=World.var?_cell h c 1;exact (show W.cell? ⟨g,1,none⟩=some (.int .i64 b) by simpa using this)
 |j+2=>simp at e
 unfold World.var? at c;rw[h,aZq] at c;unfold iU;cases i:W.heap[g]? with
 |none=>rw[i] at c;cases c
 |some o=>
  rw[i] at c;cases o with
  |cells vs t z=>
   simp only[Option.some.injEq] at c;exact⟨_,rfl,_,_,_,rfl,by rw[c];rfl⟩
  |_=>simp at c
theorem Tryz.g_ls:Tryz.prog.globalNamed "depository/record.fieldLSN"=some 6:=by kernel_rfl
theorem Tryz.g_sq:Tryz.prog.globalNamed "depository/record.fieldSequence"=some 0:=by kernel_rfl
theorem Tryz.g_li:Tryz.prog.globalNamed "depository/record.fieldLinks"=some 1:=by kernel_rfl
theorem Tryz.g_fi:Tryz.prog.globalNamed "depository/record.fieldFirst"=some 7:=by kernel_rfl
theorem Tryz.g_fl:Tryz.prog.globalNamed "depository/record.fieldFlags"=some 2:=by kernel_rfl
theorem Tryz.g_en:Tryz.prog.globalNamed "depository/record.fieldEnd"=some 8:=by kernel_rfl
theorem Tryz.g_si:Tryz.prog.globalNamed "depository/record.fieldSize"=some 9:=by kernel_rfl
theorem Tryz.g_ba:Tryz.prog.globalNamed "depository/record.fieldBase"=some 3:=by kernel_rfl
theorem Tryz.g_bo:Tryz.prog.globalNamed "depository/record.fieldBaseOf"=some 4:=by kernel_rfl
theorem Tryz.g_nx:Tryz.prog.globalNamed "depository/record.fieldNext"=some 5:=by kernel_rfl
def GF:aF:=fun g=>
 if g=6 then some [ci 8,ci 4] else
 if g=0 then some [ci 16,ci 2] else
 if g=1 then some [ci 18,ci 2] else
 if g=7 then some [ci 20,ci 2] else
 if g=2 then some [ci 22,ci 2] else
 if g=8 then some [ci 24,ci 4] else
 if g=9 then some [ci 28,ci 4] else
 if g=3 then some [ci 32,ci 4] else
 if g=4 then some [ci 36,ci 2] else
 if g=5 then some [ci 38,ci 2] else
 none
theorem aVU:G9 GF:=⟨rfl,rfl,rfl,rfl,rfl,rfl,rfl,rfl,rfl,rfl⟩
theorem aVV{W:World}(h:laidMetH Tryz.prog Rows.tableOpensRow.laid W):fR (iU W) GF:=by
 rw[MakeChecks.laidMetH_plain _ _ _ (by kernel_rfl)] at h;have h:=laidMet.tail h;have v_ls:=nC (kU (a:=8) (b:=4) Tryz.g_ls (by kernel_rfl) h) Tryz.g_ls;have h:=laidMet.tail h;have v_sq:=nC (kU (a:=16) (b:=2) Tryz.g_sq (by kernel_rfl) h) Tryz.g_sq;have h:=laidMet.tail h;have v_li:=nC (kU (a:=18) (b:=2) Tryz.g_li (by kernel_rfl) h) Tryz.g_li;have h:=laidMet.tail h;have v_fi:=nC (kU (a:=20) (b:=2) Tryz.g_fi (by kernel_rfl) h) Tryz.g_fi;have h:=laidMet.tail h;have v_fl:=nC (kU (a:=22) (b:=2) Tryz.g_fl (by kernel_rfl) h) Tryz.g_fl;have h:=laidMet.tail h;have v_en:=nC (kU (a:=24) (b:=4) Tryz.g_en (by kernel_rfl) h) Tryz.g_en;have h:=laidMet.tail h;have v_si:=nC (kU (a:=28) (b:=4) Tryz.g_si (by kernel_rfl) h) Tryz.g_si;have h:=laidMet.tail h;have v_ba:=nC (kU (a:=32) (b:=4) Tryz.g_ba (by kernel_rfl) h) Tryz.g_ba;have h:=laidMet.tail h;have v_bo:=nC (kU (a:=36) (b:=2) Tryz.g_bo (by kernel_rfl) h) Tryz.g_bo;have h:=laidMet.tail h;have v_nx:=nC (kU (a:=38) (b:=2) Tryz.g_nx (by kernel_rfl) h) Tryz.g_nx;have h:=laidMet.tail h;refine⟨fun g cs hg γ=>?_,fun g cs hg=>?_⟩
 unfold GF at hg;by_cases c_ls:g=6;rw[if_pos c_ls] at hg;injection hg with hg
 subst hg;subst c_ls;exact v_ls.1 γ;rw[if_neg c_ls] at hg;by_cases c_sq:g=0;rw[if_pos c_sq] at hg;injection hg with hg
 subst hg;subst c_sq;exact v_sq.1 γ;rw[if_neg c_sq] at hg;by_cases c_li:g=1;rw[if_pos c_li] at hg;injection hg with hg
 subst hg;subst c_li;exact v_li.1 γ;rw[if_neg c_li] at hg;by_cases c_fi:g=7;rw[if_pos c_fi] at hg;injection hg with hg
 subst hg;subst c_fi;exact v_fi.1 γ;rw[if_neg c_fi] at hg;by_cases c_fl:g=2;rw[if_pos c_fl] at hg;injection hg with hg
 subst hg;subst c_fl;exact v_fl.1 γ;rw[if_neg c_fl] at hg;by_cases c_en:g=8;rw[if_pos c_en] at hg;injection hg with hg
 subst hg;subst c_en;exact v_en.1 γ;rw[if_neg c_en] at hg;by_cases c_si:g=9;rw[if_pos c_si] at hg;injection hg with hg
 subst hg;subst c_si;exact v_si.1 γ;rw[if_neg c_si] at hg;by_cases c_ba:g=3;rw[if_pos c_ba] at hg;injection hg with hg
 subst hg;subst c_ba;exact v_ba.1 γ;rw[if_neg c_ba] at hg;by_cases c_bo:g=4;rw[if_pos c_bo] at hg;injection hg with hg
 subst hg;subst c_bo;exact v_bo.1 γ;rw[if_neg c_bo] at hg;by_cases c_nx:g=5;rw[if_pos c_nx] at hg;injection hg with hg
 subst hg;subst c_nx;exact v_nx.1 γ;rw[if_neg c_nx] at hg;cases hg;unfold GF at hg;by_cases c_ls:g=6;rw[if_pos c_ls] at hg;injection hg with hg
 subst hg;subst c_ls;exact v_ls.2;rw[if_neg c_ls] at hg;by_cases c_sq:g=0;rw[if_pos c_sq] at hg;injection hg with hg
 subst hg;subst c_sq;exact v_sq.2;rw[if_neg c_sq] at hg;by_cases c_li:g=1;rw[if_pos c_li] at hg;injection hg with hg
 subst hg;subst c_li;exact v_li.2;rw[if_neg c_li] at hg;by_cases c_fi:g=7;rw[if_pos c_fi] at hg;injection hg with hg
 subst hg;subst c_fi;exact v_fi.2;rw[if_neg c_fi] at hg;by_cases c_fl:g=2;rw[if_pos c_fl] at hg;injection hg with hg
 subst hg;subst c_fl;exact v_fl.2;rw[if_neg c_fl] at hg;by_cases c_en:g=8;rw[if_pos c_en] at hg;injection hg with hg
 subst hg;subst c_en;exact v_en.2;rw[if_neg c_en] at hg;by_cases c_si:g=9;rw[if_pos c_si] at hg;injection hg with hg
 subst hg;subst c_si;exact v_si.2;rw[if_neg c_si] at hg;by_cases c_ba:g=3;rw[if_pos c_ba] at hg;injection hg with hg
 subst hg;subst c_ba;exact v_ba.2;rw[if_neg c_ba] at hg;by_cases c_bo:g=4;rw[if_pos c_bo] at hg;injection hg with hg
 subst hg;subst c_bo;exact v_bo.2;rw[if_neg c_bo] at hg;by_cases c_nx:g=5;rw[if_pos c_nx] at hg;injection hg with hg
 subst hg;subst c_nx;exact v_nx.2;rw[if_neg c_nx] at hg;cases hg
section
variable {H:Type}{enc:TypeId×Value->H}
theorem Lc{a:Assume}{C:Checked}{os:Os}{f:FuncId}{fn:Func}{s:ChangeSpec}{m:L PathCond}{c n h l:Bool}{X:World->Array Value->Prop}(N:∀(w w':World)(b:Array Value),w.heap=w'.heap->X w b->X w' b)(K:ownKnob C.prog.godebug=none) (o:os.Started) (q:C.prog.inits.idxOf? f=none) (E:C.prog.funcs[f]?=some fn)(p:∃ (w:World) (d:Tape) (i:Input),w.os=os/\(w.forCall d i).Shaped C.prog/\i.vars=[]/\Input.okWide C.prog (w.forCall d i) .any w.heap.size f i/\((s.pre enc C.prog fn m c (w.forCall d i).memory i.args/\X (w.forCall d i).memory i.args)/\sizedMet enc C.prog fn (OpenSpec.ofChange s) c (w.forCall d i).memory i.args)/\a.holds C.prog (lone (Frame.enter C.prog f i.args .normal) [] (w.forCall d i)))(k:∀ (W:World) (r:Nat) (b:Array Value) (A D:L (DataW H)) (g:L MemPlace),(∀ (j:Nat) t v,fn.params[j]?=some t->b[j]?=some v->Value.okWide C.prog W .any r t v)-> DataW.Whole enc C.prog fn.params.toList s.vars c W b.toList A D g-> X W b->W.ShapedOpen C.prog->
   Calls C.prog f b W fun e M=>∃ v,e=.returned v/\s.post enc C.prog fn c n h l W b v M):
  ReturnsInHanded a C os f .any (fun w b=>(s.pre enc C.prog fn m c w b/\X w b)/\sizedMet enc C.prog fn (OpenSpec.ofChange s) c w b) (s.post enc C.prog fn c n h l):=by
 refine returnsInHanded_of_calls K o q p ?_;intro w d i _ I _ F x z;obtain⟨_,_,_,B,u,_,_,_,_,y⟩:=F;have e:B=fn:=Option.some.inj (u.symm.trans E);subst e;obtain⟨⟨⟨A,D,g,P,R⟩,Q⟩,S⟩:=x;have J:=DataW.Whole.of_heap (w':=w.forCall d i) (by rfl) P;refine (k (w.forCall d i) w.heap.size i.args A D g y J (N _ _ _ (by rfl) Q) I).mono fun e M ⟨v,O,hp⟩=>?_
 subst O;exact ChangeSpec.post_blind hp
end
theorem aVW{G:aF}:EV G (Tb (dU G true)) 4 [] []=some (vb true,[]):=jC rfl rfl
theorem aIC{m:Nat}{a:AV}(h:okA Tryz.prog (m+1) 9 a):∃l:L Int,a=sv l/\aK l/\l.length<=9223372036854775807:=by
 obtain⟨s,rfl,b⟩:=Yv Tryz.underlying9 h;obtain⟨l,c,rfl⟩:=aLl s;rw[aC] at b;exact⟨l,rfl,c,by unfold maxLen at b;omega⟩
theorem aID{m:Nat}{a:AV}(h:okA Tryz.prog (m+1) 3 a):∃i:Int,a=vi i/\aVT i:=by
 obtain⟨d,rfl,b⟩:=aBs (by kernel_rfl) h;obtain⟨i,rfl,c⟩:=aRB b;exact⟨i,rfl,c⟩
end
section
open Go
set_option maxRecDepth 100000
theorem G8:false=Rows.tableOpensRow.goesBy Tryz.pinned.checked.prog:=by kernel_rfl
end
section
variable {G:aF}{bb:Bool}
theorem aIE{a:aJ}:(iZ a=true)=(a.ty=128/\a.nm=[]):=by
 unfold iZ;simp
theorem Vs{B:aO}(r:cL)(h:r.ats.length<=1000000):EV G (Tb B) 28 [r.v] []=some (vi (iX iZ r.ats),[]):=by
 refine aB rfl ?_;simp (maxSteps:=2000000) (disch:=omega) only[go_sem,h28c];unfold iX;rw[dN (fun k=>⟨(jk 1 (.one (.ptr 0 0)::jk 1 (vi k::jk 24 []))),[.box r.c]⟩) (fun k=>iZ (r.ats.getD k aJ.nil)=true) r.ats.length ?_ ?_]
 rotate_left
 rfl;intro k d f;have h3:=f k (aZe _);rw[eY r.ats k d,aIE] at h3;have e:=K1 r.ats[k].nm;have a:(k:Int)<r.ats.length:=by omega
 by_cases c:r.ats[k].ty=128;have g:¬ r.ats[k].nm=[]:=fun q=>h3 ⟨c,q⟩
 simp (maxSteps:=2000000) (disch:=omega) only[go_sem,h28l0,aZa,ixA,aJ.e,eq_true c,e,g,a];simp (maxSteps:=2000000) (disch:=omega) only[go_sem,h28l0,aZa,ixA,aJ.e,c,a];obtain⟨d,hp,f⟩:=bE (fun k=>iZ (r.ats.getD k aJ.nil)=true) r.ats.length
 generalize ix (fun k=>iZ (r.ats.getD k aJ.nil)=true) r.ats.length=k at *
 rcases hp with rfl|⟨a,hp⟩;rw[if_pos rfl];simp (maxSteps:=2000000) (disch:=omega) only[go_sem,h28l0,aZa];rw[if_neg (by omega)];rw[eY r.ats k a,aIE] at hp;have e:=K1 r.ats[k].nm;have b:(k:Int)<r.ats.length:=by omega
 simp (maxSteps:=2000000) (disch:=omega) only[go_sem,h28l0,aZa,ixA,aJ.e,eq_true hp.1,e,eq_true hp.2,b]
theorem aBt{B:aO}(s:L Int)(a n:Nat)(h:(a+n)*256<=s.length)(g:s.length<=200000):EV G (Tb B) 27 [sv s,vi a,vi n] []=some (sv ((s.drop (a*256)).take (n*256)),[]):=by
 have e:((a*256:Nat):Int)=(a:Int)*256:=by omega
 have f:(((a+n)*256:Nat):Int)=((a:Int)+n)*256:=by omega
 have c:((a:Int)*256).toNat=a*256:=by omega
 have d:(((a:Int)+n)*256).toNat=(a+n)*256:=by omega
 have b:(a+n)*256-a*256=n*256:=by omega
 refine aB rfl ?_;simp (maxSteps:=2000000) (disch:=omega) only[go_sem,h27c,aC,c,d,b];rw[bAr,b]
theorem aBu{B:aO}(s:L Int)(a:Nat)(h:a*256+256<=s.length)(b:s.length<=200000):EV G (Tb B) 27 [sv s,vi a,vi 1] []=some (sv (G6 s a),[]):=aBt s a 1 (by omega) b
theorem aVX(s:L Int)(a:Nat)(h:a*256+512<=s.length):Bm s a (a+1)=(s.drop (a*256)).take (2*256):=by
 unfold Bm G6;have e:(a+1)*256=a*256+256:=by omega
 rw[e,<- bAe,show 2*256=256+256 from rfl,List.take_add]
theorem Qv{B:aO}(s:L Int)(a:Nat)(h:a*256+512<=s.length)(b:s.length<=200000):EV G (Tb B) 27 [sv s,vi a,vi 2] []=some (sv (Bm s a (a+1)),[]):=by
 rw[aVX s a h];exact aBt s a 2 (by omega) b
def rnE(x:Bt)(l:L aV):Int:=if (l.any fun r=>decide (r.s=-1))=true then 14 else if (l.any fun r=>decide (r.s+r.n > x.cl))=true then 37 else clE x (rW l)
theorem aIF{p:aV->Bool}(l:L aV)(k:Nat)(a:k<l.length):(l.take (k+1)).any p=((l.take k).any p||p l[k]):=by
 rw[List.take_add_one,List.any_append,aZj a];simp
theorem aM2(x:Bt)(C:L Int):tQ x C=decide (ix (fun k=>C.getD k 0∈0::(x.cl-1)::C.take k\/x.mi<=C.getD k 0/\C.getD k 0<=x.mi+8-1) C.length<C.length):=by
 obtain⟨b,hp,d⟩:=bE (fun k=>C.getD k 0∈0::(x.cl-1)::C.take k\/x.mi<=C.getD k 0/\C.getD k 0<=x.mi+8-1) C.length
 generalize ix (fun k=>C.getD k 0∈0::(x.cl-1)::C.take k\/x.mi<=C.getD k 0/\C.getD k 0<=x.mi+8-1) C.length=K at *
 unfold tQ;rcases hp with rfl|⟨a,c⟩
 rw[decide_eq_false (Nat.lt_irrefl _),decide_eq_false];rintro⟨k,b,q⟩;exact d k b q;rw[decide_eq_true a,decide_eq_true ⟨K,a,c⟩]
theorem aM3(x:Bt)(C:L Int):clE x C=if tQ x C=true then 13 else if C.length % 2≠0\/¬ (32<=C.length/\C.length<=192) then 2 else if C.getD 0 0≠x.tb\/C.getD 1 0≠x.tb+1 then 9 else 0:=by
 unfold clE;cases tQ x C with
 |true=>rfl
 |false=>
  rw[aZG,dZ,aX,if_neg (by decide)];by_cases a:C.length % 2=0;by_cases h3:16<=C.length / 2/\C.length / 2<=96;rw[decide_eq_true a,decide_eq_true h3,aZI,dZ,aX,if_neg (by omega),decide_eq_true (show 2<=C.length by omega),aZI];by_cases h4:C.getD 0 0=x.tb/\C.getD 1 0=x.tb+1;rw[decide_eq_true h4,dZ,if_neg (by omega)];rfl;rw[decide_eq_false h4,if_pos (by omega)];rfl;rw[decide_eq_false h3,Bool.and_false,eP,aZ _ _ (by decide),if_pos (by omega)];rw[decide_eq_false a,aZS,eP,aZ _ _ (by decide),if_pos (.inl a)]
theorem aRD{B:aO}(x:Bt)(l:L aV)(hx:(-1000000<=x.mi/\x.mi<=1000000)/\(2<=x.cl/\x.cl<=1000000)/\(-1000000<=x.tb/\x.tb<=1000000))(Q:rH l)(N:∀q∈l,(-1<=q.s/\q.s<=1000)/\(0<=q.n/\q.n<=4096))(D:cC l<=4096):EV G (Tb B) 29 [x.v,cP l] []=some (vi (rnE x l),[]):=by
 have hln:=Q.len;have qc:=Cg (G:=G) (B:=B) l Q;refine aB rfl ?_;simp (maxSteps:=2000000) (disch:=omega) only[go_sem,h29c];rw[dN (fun k=>⟨(jk 1 (cP l::.one (.ptr 0 0)::jk 2 (vb ((l.take k).any fun r=>decide (r.s+r.n > x.cl))::vi k::jk 99 []))),[x.o]⟩) (fun k=>(l.getD k ⟨0,0⟩).s=-1) l.length ?_ ?_]
 rotate_left
 rfl;intro k g p;have h3:=p k (aZe _);rw[jR l k g] at h3;have h4:=N _ (aZk g);have a:(k:Int)<l.length:=by omega
 rw[aIF l k g];generalize (l.take k).any (fun r=>decide (r.s+r.n > x.cl))=A
 cases A;by_cases c:l[k].s+l[k].n > x.cl;simp (maxSteps:=2000000) (disch:=omega) only[go_sem,h29l0,aZa,aV.e,h3,a,eq_true c];simp (maxSteps:=2000000) (disch:=omega) only[go_sem,h29l0,aZa,aV.e,h3,a,c];simp (maxSteps:=2000000) (disch:=omega) only[go_sem,h29l0,aZa,aV.e,h3,a]
 have V:(l.any fun r=>decide (r.s=-1))=decide (ix (fun k=>(l.getD k ⟨0,0⟩).s=-1) l.length < l.length):=by
  obtain⟨g,hp,p⟩:=bE (fun k=>(l.getD k ⟨0,0⟩).s=-1) l.length
  generalize ix (fun k=>(l.getD k ⟨0,0⟩).s=-1) l.length=K at *
  rcases hp with rfl | ⟨h1,h2⟩
  ·rw[decide_eq_false (Nat.lt_irrefl _),bAm];intro q M Z;obtain⟨j,R,rfl⟩:=List.getElem_of_mem M;have:=p j R;rw[jR l j R] at this;exact this (of_decide_eq_true Z)
  ·rw[decide_eq_true h1,List.any_eq_true];rw[jR l K h1] at h2;exact⟨_,aZk h1,decide_eq_true h2⟩
 unfold rnE;rw[V];obtain⟨g,hp,p⟩:=bE (fun k=>(l.getD k ⟨0,0⟩).s=-1) l.length
 generalize ix (fun k=>(l.getD k ⟨0,0⟩).s=-1) l.length=K at *
 rcases hp with rfl|⟨a,hp⟩
 rotate_left
 rw[if_pos (decide_eq_true a)];rw[jR l K a] at hp;have b:(K:Int)<l.length:=by omega
 simp (maxSteps:=2000000) (disch:=omega) only[go_sem,h29l0,aZa,aV.e,eq_true hp,b];rw[decide_eq_false (Nat.lt_irrefl _),if_neg (by decide),aZT];cases hE:l.any fun r=>decide (r.s+r.n > x.cl) with
 |true=>
  rw[if_pos rfl];simp (maxSteps:=2000000) (disch:=omega) only[go_sem,h29l0,aZa]
 |false=>
  rw[if_neg (by decide),aM3,aM2];have Y:=At l (fun r h=>(N r h).2.1)
  have E:∀ c∈rW l,-1<=c/\c<=10000:=fun c D=>by
   obtain⟨q,M,D⟩:=List.mem_flatMap.1 D;have:=N q M;unfold As at D;obtain⟨k,g,rfl⟩:=List.mem_map.1 D;have g:=List.mem_range.1 g;split<;>omega
  generalize rW l=C at *;have S:∀k,el (C.take k)=(el C).take k:=fun k=>aZZ
  have d:((el C).all fun e=>decide (e.length=1))=true:=bAw.2 (fun e he=>by obtain⟨n,_,rfl⟩:=List.mem_map.1 he;rfl)
  simp (maxSteps:=2000000) (disch:=omega) only[go_sem,h29l0,aZa,qc];rw[dN (fun k=>⟨(jk 2 (.one (.ptr 0 0)::jk 4 (vl (el C)::vi k::jk 97 []))),[x.o]⟩) (fun k=>C.getD k 0∈0::(x.cl-1)::C.take k\/x.mi<=C.getD k 0/\C.getD k 0<=x.mi+8-1) C.length ?_ ?_]
  rotate_left
  rfl;intro k g p;have h3:=p k (aZe _);have hm:=E _ (aZk g);rw[cD C k g] at h3;have t:¬ C[k]=0:=fun q=>h3 (.inl (by rw[q];exact aZu))
  have y:¬ C[k]=x.cl-1:=fun q=>h3 (.inl (by rw[q];exact aZC _ aZu))
  have z:¬ C[k]∈C.take k:=fun q=>h3 (.inl (aZC _ (aZC _ q)))
  have I:Em C[k] 1 x.mi 8=false:=decide_eq_false (fun q=>h3 (.inr (by omega)))
  have i:=aAw (G:=G) (B:=B) (C.take k) C[k] (by rw[aZf];omega);have m:=Ec (G:=G) (B:=B) C[k] 1 x.mi 8 (by omega) (by omega) (by omega) (by omega);rw[decide_eq_false z,S k] at i;rw[I] at m;have a:(k:Int)<C.length:=by omega
  have f:k<=C.length:=by omega
  simp (maxSteps:=2000000) (disch:=omega) only[go_sem,h29l1,aZa,tD,d,i,m,t,y,a,f];obtain⟨g,hp,p⟩:=bE (fun k=>C.getD k 0∈0::(x.cl-1)::C.take k\/x.mi<=C.getD k 0/\C.getD k 0<=x.mi+8-1) C.length
  generalize ix (fun k=>C.getD k 0∈0::(x.cl-1)::C.take k\/x.mi<=C.getD k 0/\C.getD k 0<=x.mi+8-1) C.length=K at *
  rcases hp with rfl|⟨a,hp⟩
  rotate_left
  rw[if_pos a];have hm:=E _ (aZk a);rw[cD C K a] at hp;have i:=aAw (G:=G) (B:=B) (C.take K) C[K] (by rw[aZf];omega);have m:=Ec (G:=G) (B:=B) C[K] 1 x.mi 8 (by omega) (by omega) (by omega) (by omega);rw[S K] at i;have b:(K:Int)<C.length:=by omega
  have f:K<=C.length:=by omega
  by_cases z:C[K]∈C.take K;rw[decide_eq_true z] at i;simp (maxSteps:=2000000) (disch:=omega) only[go_sem,h29l1,aZa,tD,d,i,m,b,f];rw[decide_eq_false z] at i;by_cases t:C[K]=0;simp (maxSteps:=2000000) (disch:=omega) only[go_sem,h29l1,aZa,tD,d,i,m,b,f,eq_true t];by_cases y:C[K]=x.cl-1;simp (maxSteps:=2000000) (disch:=omega) only[go_sem,h29l1,aZa,tD,d,i,m,b,f,t,eq_true y]
  have I:Em C[K] 1 x.mi 8=true:=decide_eq_true (by
   rcases hp with q | q
   ·rcases bAl.1 q with q | q
    ·exact absurd q t
    ·rcases bAl.1 q with q | q
     ·exact absurd q y
     ·exact absurd q z
   ·omega)
  rw[I] at m;simp (maxSteps:=2000000) (disch:=omega) only[go_sem,h29l1,aZa,tD,d,i,m,b,f,t,y];rw[if_neg (Nat.lt_irrefl _)];have w:=bN (G:=G) (B:=B) C.length 32 192;by_cases T:C.length % 2=0;have u:(C.length:Int).tmod 2=0:=by rw[bAN (by omega)];omega
  by_cases U:32<=C.length/\C.length<=192;rw[decide_eq_true (show 32<=(C.length:Int)/\(C.length:Int)<=192 by omega)] at w;have r0:¬ (¬ C.length % 2=0\/¬ (32<=C.length/\C.length<=192)):=by omega
  rw[if_neg r0];have W:C.getD 0 0=C[0]:=cD C 0 (by omega);have X:C.getD 1 0=C[1]:=cD C 1 (by omega);have O:0<C.length:=by omega
  have P:1<C.length:=by omega
  rw[W,X];by_cases F:C[0]=x.tb;by_cases J:C[1]=x.tb+1;rw[if_neg (by omega)];simp (maxSteps:=2000000) (disch:=omega) only[go_sem,h29l1,aZa,tD,w,eq_true u,eq_true F,eq_true J,O,P];rw[if_pos (.inr J)];simp (maxSteps:=2000000) (disch:=omega) only[go_sem,h29l1,aZa,tD,w,eq_true u,eq_true F,J,O,P];rw[if_pos (.inl F)];simp (maxSteps:=2000000) (disch:=omega) only[go_sem,h29l1,aZa,tD,w,eq_true u,F,O,P];rw[decide_eq_false (show ¬ (32<=(C.length:Int)/\(C.length:Int)<=192) by omega)] at w;rw[if_pos (.inr U)];simp (maxSteps:=2000000) (disch:=omega) only[go_sem,h29l1,aZa,tD,w,eq_true u];have u:¬ (C.length:Int).tmod 2=0:=by rw[bAN (by omega)];omega
  rw[if_pos (.inl T)];simp (maxSteps:=2000000) (disch:=omega) only[go_sem,h29l1,aZa,tD,w,u]
end
section
variable {G:aF}{bb:Bool}
theorem H8(s t:L Int)(a:Nat)(h:a+t.length<=s.length)(b:s.length<=1000000):EV G (Tb (bs bb)) 94 [sv s,vi a,sv t] []=some (sv (iW s a t),[]):=by
 refine aB rfl ?_;have e:((a:Int)+(t.length:Int)).toNat=a+t.length:=by omega
 unfold iW;simp (disch:=first|omega|(simp only[aZb,aZc,aZd,aZa,aA,aZh,aZf,aZn,aC,aS]<;>omega)|fail) only[go_sem,h94c,aC,aZN,Int.toNat_zero,aZ1,e,aZf,aZn]
theorem aRE(s:L Int)(n:Int)(b:s.length=512)(i:0<=n/\n<=9223372036854775807):EV G (Tb (bs bb)) 97 [sv s,vi n] []=some (sv (mY s n 8),[]):=by
 refine aB rfl ?_;have c:=mA (G:=G) (bb:=bb) n i;simp (disch:=first|omega|(simp only[aZb,aZc,aZd,aZa,aA,aZh,aZf,aZn,aC,aS]<;>omega)|fail) only[go_sem,h97c,c]
 rw[aR (fun k=>⟨(sv (Ck s n k).2::vi n::jk 3 (sv (Ck s n k).1::vi ((k:Int)+1)::jk 25 [])),[]⟩) 8 ?_ ?_]
 obtain⟨j,l,_,_⟩:=aAJ (n:=n) b 8 (by omega);have a:EV G (Tb (bs bb)) 94 [sv (Ck s n 8).2,vi 40,sv (Ck s n 8).1] []=some (sv (iW (Ck s n 8).2 40 (Ck s n 8).1),[]):=H8 (G:=G) (bb:=bb) (Ck s n 8).2 (Ck s n 8).1 40 (by omega) (by omega);rw[aLI b] at a;simp (disch:=first|omega|(simp only[aZb,aZc,aZd,aZa,aA,aZh,aZf,aZn,aC,aS]<;>omega)|fail) only[go_sem,h97l0,a]
 rfl;intro k o;obtain⟨j,l,_,_⟩:=aAJ (n:=n) b k (by omega);have h:Ck s n (k+1)=((Ck s n k).1++gU (Ck s n k).2 (64*k+62),iW (Ck s n k).2 (64*k+62) (bI n 2)):=rfl;rw[h];have a:=H8 (G:=G) (bb:=bb) (Ck s n k).2 (bI n 2) (64*k+62) (by rw[aA];omega) (by omega);have e:((k:Int)+1)*64-2=((64*k+62:Nat):Int):=by omega
 have p:64*k+62+2<=512:=by omega
 generalize 64*k+62=m at *;have f:((m:Int)+2).toNat=m+2:=by omega
 generalize Ck s n k=z at *;obtain⟨q,d⟩:=z;dsimp only at *;have g:(d.take (m+2)).drop m=gU d m:=by rw[bAr,bAC]
 simp (disch:=first|omega|(simp only[aZb,aZc,aZd,aZa,aA,aZh,aZf,aZn,aC,aS]<;>omega)|fail) only[go_sem,h97l0,e,c,a,f,g,aZN]
theorem aIG{s:L Int}(c:aK s){a b:Nat}(e:a+2<=s.length)(f:b+2<=s.length):gL s a 2=gL s b 2↔gU s a=gU s b:=by
 rw[aG2 e,aG2 f,qG e,qG f];have j:=qH c a;have k:=qH c (a+1);have h3:=qH c b;have h4:=qH c (b+1);constructor;intro h;have g:s.getD a 0=s.getD b 0:=by omega
 have i:s.getD (a+1) 0=s.getD (b+1) 0:=by omega
 rw[g,i];intro h;injection h with h d
 injection d with d _
 rw[h,d]
open Classical in
theorem aM4(s:L Int)(r:s.length=512)(d:aK s):EV G (Tb (bs bb)) 67 [sv s] []=some (if jN s then .tup [.one (.dc (.raw (.string (dB (eK s))))),.one (.dc (.raw (.bool true)))] else .tup [.one (.dc (.raw (.string (dB [])))),.one (.dc (.raw (.bool false)))],[]):=by
 refine aB rfl ?_;have D:EV G (Tb (bs bb)) 68 [sv s,vi 40,vi 2] []=some (vi (gO s),[]):=cV (G:=G) (bb:=bb) s d 40 2 (by omega) (by omega) (by omega);have F:EV G (Tb (bs bb)) 95 [vi 18] []=some (sv (zl 18),[]):=mB (G:=G) (bb:=bb) 18 (by decide);have E:EV G (Tb (bs bb)) 94 [sv s,vi 40,sv (zl 18)] []=some (sv (Xq s 0),[]):=H8 (G:=G) (bb:=bb) s (zl 18) 40 (by rw[aS];omega) (by omega);have l:jN s↔∀i,i<8->¬ (gO s=0\/gL s (64*i+62) 2≠gO s):=by
  unfold jN gO;constructor;rintro⟨b,A⟩ i o h;rcases h with h|h
  exact b h;exact h ((aIG d (by omega) (by omega)).2 (A i o));intro h;refine⟨fun h0=>h 0 (by decide) (.inl h0),fun i o=>?_⟩
  exact (aIG d (by omega) (by omega)).1 (Classical.byContradiction fun b=>h i o (.inr b))
 simp (disch:=first|omega|(simp only[aZb,aZc,aZd,aZa,aA,aZh,aZf,aZn,aC,aS]<;>omega)|fail) only[go_sem,h67c,D,F,E]
 rw[dN (fun k=>⟨(sv s::jk 3 (vi (gO s)::sv (Xq s k)::vi ((k:Int)+1)::jk 35 [])),[]⟩) (fun i=>gO s=0\/gL s (64*i+62) 2≠gO s) 8 ?_ ?_]
 rotate_left
 rfl;intro k C e;have b:=e k (aZe _);have f:¬ gO s=0:=fun h=>b (.inl h)
 have q:gL s (64*k+62) 2=gO s:=Classical.byContradiction fun h=>b (.inr h)
 clear b e l;have n:EV G (Tb (bs bb)) 68 [sv s,vi ((64*k+62:Nat):Int),vi 2] []=some (vi (gL s (64*k+62) 2),[]):=cV (G:=G) (bb:=bb) s d (64*k+62) 2 (by omega) (by omega) (by omega);rw[q] at n;have J:=(aG1 r k (by omega)).1;have I:=kQ (s:=s) (a:=42+2*k) (by omega);have t:=H8 (G:=G) (bb:=bb) (Xq s k) (gU s (42+2*k)) (64*k+62) (by omega) (by omega);have B:Xq s (k+1)=iW (Xq s k) (64*k+62) (gU s (42+2*k)):=rfl;rw[<- B] at t;have j:((k:Int)+1)*64-2=((64*k+62:Nat):Int):=by omega
 have u:40+2*((k:Int)+1)=((42+2*k:Nat):Int):=by omega
 have v:(s.take (42+2*k+2)).drop (42+2*k)=gU s (42+2*k):=by rw[bAr,bAC]
 have K:42+2*k+2<=512:=by omega
 generalize gO s=w at *;generalize 64*k+62=m at *;generalize 42+2*k=c at *;have x:((c:Int)+2).toNat=c+2:=by omega
 generalize gU s c=y at *;generalize Xq s (k+1)=M at *;generalize Xq s k=z at *;simp (disch:=first|omega|(simp only[aZb,aZc,aZd,aZa,aA,aZh,aZf,aZn,aC,aS]<;>omega)|fail) only[go_sem,h67l0,j,u,n,t,f,v,x,aZN]
 obtain⟨C,hp,e⟩:=bE (fun i=>gO s=0\/gL s (64*i+62) 2≠gO s) 8
 generalize ix (fun i=>gO s=0\/gL s (64*i+62) 2≠gO s) 8=k at *
 rcases hp with rfl|⟨p,hp⟩;rw[if_pos (l.2 e),<- aLJ r];simp (disch:=first|omega|(simp only[aZb,aZc,aZd,aZa,aA,aZh,aZf,aZn,aC,aS]<;>omega)|fail) only[go_sem,h67l0]
 rw[if_neg (fun h=>l.1 h k p hp)]
 clear e l;have n:EV G (Tb (bs bb)) 68 [sv s,vi ((64*k+62:Nat):Int),vi 2] []=some (vi (gL s (64*k+62) 2),[]):=cV (G:=G) (bb:=bb) s d (64*k+62) 2 (by omega) (by omega) (by omega);have j:((k:Int)+1)*64-2=((64*k+62:Nat):Int):=by omega
 generalize gL s (64*k+62) 2=g at *;generalize gO s=w at *;generalize 64*k+62=m at *;by_cases f:w=0
 ·simp (disch:=first|omega|(simp only[aZb,aZc,aZd,aZa,aA,aZh,aZf,aZn,aC,aS]<;>omega)|fail) only[go_sem,h67l0,j,eq_true f]
  all_goals rfl
 ·have q:¬ g=w:=by rcases hp with h|h;exact absurd h f;exact h
  simp (disch:=first|omega|(simp only[aZb,aZc,aZd,aZa,aA,aZh,aZf,aZn,aC,aS]<;>omega)|fail) only[go_sem,h67l0,j,n,f,q]
  all_goals rfl
end
section
variable {G:aF}{bb:Bool}
structure aXQ (r:cL) (u:Int):Prop where
 ls:0<=r.ls/\r.ls<=9223372036854775807
 sq:0<=r.sq/\r.sq<=9223372036854775807
 li:0<=r.li/\r.li<=9223372036854775807
 fl:0<=r.fl/\r.fl<=9223372036854775807
 br:0<=r.br/\r.br<=9223372036854775807
 bq:0<=r.bq/\r.bq<=9223372036854775807
 nx:0<=r.nx/\r.nx<=9223372036854775807
 us:0<=u/\u<=9223372036854775807
abbrev fds(r:cL)(u:Int):AV:=.agg [.dc (ci r.ls),.dc (ci r.sq),.dc (ci r.li),.dc (ci r.fl),.dc (ci u),.dc (ci r.br),.dc (ci r.bq),.dc (ci r.nx)]
theorem aIH(r:cL)(u:Int)(a:aXQ r u)(b:L Int)(g:b.length<=444)(n:Int)(o:0<=n/\n<=9223372036854775807):EV G (Tb (lJ bb)) 69 [fds r u,sv b,vi n] []=some (sv (mY (iK r u b) n 8),[]):=by
 refine aB rfl ?_;have B:EV G (Tb (lJ bb)) 95 [vi 4] []=some (sv (zl 4),[]):=up (mB (G:=G) (bb:=bb) 4 (by decide));have f:EV G (Tb (lJ bb)) 95 [vi 24] []=some (sv (zl 24),[]):=up (mB (G:=G) (bb:=bb) 24 (by decide));have C:EV G (Tb (lJ bb)) 95 [vi ((444-b.length:Nat):Int)] []=some (sv (zl (444-b.length)),[]):=up (mB (G:=G) (bb:=bb) (444-b.length) (by omega));have q:=up (qE (G:=G) (bb:=bb) r.ls a.ls);have s:=up (mA (G:=G) (bb:=bb) r.sq a.sq);have t:=up (mA (G:=G) (bb:=bb) r.li a.li);have v:=up (mA (G:=G) (bb:=bb) 64 (by decide));have w:=up (mA (G:=G) (bb:=bb) r.fl a.fl);have x:=up (qE (G:=G) (bb:=bb) u a.us);have y:=up (qE (G:=G) (bb:=bb) 512 (by decide));have z:=up (qE (G:=G) (bb:=bb) r.br a.br);have A:=up (mA (G:=G) (bb:=bb) r.bq a.bq);have d:=up (mA (G:=G) (bb:=bb) r.nx a.nx);have p:=up (aRE (G:=G) (bb:=bb) (iK r u b) n (A3 r u b g) o);obtain⟨H,c⟩:∃H:L Int,H=[70,73,76,69]:=⟨_,rfl⟩;have i:(⟨#[70,73,76,69]⟩:ByteArray)=dB H:=by rw[c];rfl
 have e:H.length=4:=by rw[c];rfl
 have j:(⟨#[255,255,255,255]⟩:ByteArray)=dB rR:=rfl;have h:rR.length=4:=rfl;have D:=A3 r u b g;have m:dB (H++(zl 4++(bI r.ls 4++(zl 4++(bI r.sq 2++(bI r.li 2++(bI 64 2++(bI r.fl 2++(bI u 4++(bI 512 4++(bI r.br 4++(bI r.bq 2++(bI r.nx 2++(zl 24++(b++(rR++zl (444-b.length)))))))))))))))))=dB (iK r u b):=by
  rw[c];unfold iK rhd;simp only[aZr]
 have k:(64:Int)-((H++(zl 4++(bI r.ls 4++(zl 4++(bI r.sq 2++(bI r.li 2++(bI 64 2++(bI r.fl 2++(bI u 4++(bI 512 4++(bI r.br 4++(bI r.bq 2++bI r.nx 2)))))))))))).length:Int)=24:=by
  simp only[aZb,aA,aS,e];omega
 have l:(512:Int)-((H++(zl 4++(bI r.ls 4++(zl 4++(bI r.sq 2++(bI r.li 2++(bI 64 2++(bI r.fl 2++(bI u 4++(bI 512 4++(bI r.br 4++(bI r.bq 2++(bI r.nx 2++(zl 24++(b++rR))))))))))))))).length:Int)=((444-b.length:Nat):Int):=by
  simp only[aZb,aA,aS,e,h];omega
 clear c;generalize iK r u b=X at *;simp (maxSteps:=2000000) (disch:=first|omega|(simp only[aZb,aZc,aZd,aZa,aA,aZh,aZf,aZn,aC,aS,e,h]<;>omega)|fail) only[go_sem,h69c,B,f,C,q,s,t,v,w,x,y,z,A,d,p,i,j,k,l,aZr,m,aC]
end
section
variable {G:aF}{bb:Bool}
abbrev LR:L Nat:=[0,1,1,1,0,0,0]
abbrev rv9:L kY:=[.cell 2 true 9,.tmp 3]
abbrev Ld(s o:L Int)(c:L DC)(u:Int)(b:Nat)(a:L (L Int)):AS:=
 ⟨(sv s::jk 1 (.one (.ptr 0 0)::jk 1 (sv o::jk 1 (.one (.ptr 1 0)::vi u::.one (.bld 2 a.length)::vi b::jk 152 [])))),[.box z9,.box (kV c),.arr 0 1 (a.map pQ)]⟩
theorem aII(o:L Int)(a n:Nat):(o.take (a+n)).drop a=(o.drop a).take n:=by rw[bAr,bAC]
theorem aM6(o:L Int)(a i k:Nat):gL (o.drop a) i k=gL o (a+i) k:=by unfold gL;rw[bAe]
theorem Vt(s o:L Int)(t:L DC)(u:Int)(R:o.length=512)(p:aK o)(X:HC):∀(k at':Nat)(a:L (L Int)),512-at'<k->at'<=512->a.length+(512-at')<=1000->(∀w,rS k (o.drop at')=some w->pX false rv9 0 (sqK (EV G (Tb (lM G bb))) G (.trm LR X) (Bf 0 (EL (EV G (Tb (lM G bb))) G h26l0 LR 3 (Ld s o t u at' a))))=pX false rv9 0 (EC (EV G (Tb (lM G bb))) G X (Ld s o t u (at'+w.flatten.length) (a++w))))/\(rS k (o.drop at')=none->pX false rv9 0 (sqK (EV G (Tb (lM G bb))) G (.trm LR X) (Bf 0 (EL (EV G (Tb (lM G bb))) G h26l0 LR 3 (Ld s o t u at' a))))=some (dcv (.nil,0,3),[])\/ ∃ b r,508 < b/\b<=512/\r.length<=1000/\pX false rv9 0 (sqK (EV G (Tb (lM G bb))) G (.trm LR X) (Bf 0 (EL (EV G (Tb (lM G bb))) G h26l0 LR 3 (Ld s o t u at' a))))=pX false rv9 0 (EC (EV G (Tb (lM G bb))) G X (Ld s o t u b r)))
 |0,at',a,h,_,_=>by omega
 | k+1,at',a,h,M,hA=>by
  have E:gC 1 (a.map pQ)=true:=jD (f:=pQ) (fun _=>rfl) _
  have N:(a.map pQ).take a.length=a.map pQ:=aZM (by rw[aZa];exact aZe _);have m:(o.drop at').length=512 - at':=by rw[aZn,R]
  rw[Pb,rS];by_cases c0:at'+4<=512
  ·have c:(at':Int)+4<=512:=by omega
   have B:((at':Int)+4).toNat=at'+4:=by omega
   have D:(o.take (at'+4)).drop at'=(o.drop at').take 4:=aII o at' 4;have v:(dB ((o.drop at').take 4)=⟨#[255,255,255,255]⟩)=((o.drop at').take 4=rR):=cQ (fun x Y=>p x (aZL (aZA Y))) Hy
   by_cases z:(o.drop at').take 4=rR
   ·refine⟨fun w hp=>?_,fun hp=>?_⟩
    ·rw[if_pos z] at hp;injection hp with hp
     subst hp;rw[eq_true z] at v;rw[aZ7,List.flatten_nil,aZd,aZY];simp (disch:=first | omega | (simp only[aZb,aZc,aZd,aZa,aA,aZh,aZf,aZn,aC,aS]<;>omega) | fail) only[go_sem,h26l0,eq_true c,B,D,v,aZN,aZa]
     all_goals rfl
    ·rw[if_pos z] at hp;cases hp
   ·rw[if_neg z];rw[eq_false z] at v;by_cases c2:at'+8<=512
    ·have i:(at':Int)+8<=512:=by omega
     have q:EV G (Tb (lM G bb)) 68 [sv o,vi ((at':Int)+4),vi 4] []=some (vi (gL o (at'+4) 4),[]):=by
      have:=Fj (up (cV (G:=G) (bb:=bb) o p (at'+4) 4 (by omega) (by omega) (by omega)));rw[aZ4] at this;exact this
     have V:=Bn p (at'+4) 4 (by omega) (by omega);have Q:gL o (at'+4) 4=(pK (o.drop at'):Int):=by unfold pK;rw[aM6];omega
     rw[Q] at q;have I:Fi (o.drop at')↔pK (o.drop at') % 8≠0\/pK (o.drop at') < 24\/(o.drop at').length < pK (o.drop at')+4:=Iff.rfl;have W:(pK (o.drop at'):Int)<=4294967295:=by omega
     clear V Q;generalize pK (o.drop at')=n at *;have C:((n:Int).tmod 8)=((n % 8:Nat):Int):=rfl;by_cases F:n % 8≠0\/n < 24\/(o.drop at').length < n+4
     ·have j:∀ {x:Option (L (L Int))},(if (o.drop at').length < 24 then none else if Fi (o.drop at') then none else x)=none:=fun {x}=>by
       split
       ·rfl
       ·rw[if_pos (I.2 F)]
      refine⟨fun w hp=>?_,fun _=>.inl ?_⟩
      ·rw[j] at hp;cases hp
      ·rw[m] at F;clear I j;by_cases Z:n % 8=0
       ·have g:(n:Int).tmod 8=0:=by rw[C,Z];rfl
        clear C;by_cases x2:n < 24
        ·have l:(n:Int) < 24:=by omega
         simp (disch:=first | omega | (simp only[aZb,aZc,aZd,aZa,aA,aZh,aZf,aZn,aC,aS]<;>omega) | fail) only[go_sem,h26l0,eq_true c,eq_true i,B,D,v,q,eq_true g,eq_true l,aZN,aZa,cL.nil]
         all_goals rfl
        ·have l:¬ (n:Int) < 24:=by omega
         have A:512 < (at':Int)+n+4:=by omega
         simp (disch:=first | omega | (simp only[aZb,aZc,aZd,aZa,aA,aZh,aZf,aZn,aC,aS]<;>omega) | fail) only[go_sem,h26l0,eq_true c,eq_true i,B,D,v,q,eq_true g,l,eq_true A,aZN,aZa,cL.nil]
         all_goals rfl
       ·have g:¬ (n:Int).tmod 8=0:=by rw[C];omega
        clear C;simp (disch:=first | omega | (simp only[aZb,aZc,aZd,aZa,aA,aZh,aZf,aZn,aC,aS]<;>omega) | fail) only[go_sem,h26l0,eq_true c,eq_true i,B,D,v,q,g,aZN,aZa,cL.nil]
        all_goals rfl
     ·have U:512 - (at'+n) < k:=by omega
      have d:¬ (o.drop at').length < 24:=by omega
      rw[if_neg d,if_neg (fun x=>F (I.1 x))]
      rw[m] at F;have O:=Vt s o t u R p X k (at'+n) (a++[(o.drop at').take n]) U (by omega) (by rw[aZb];simp;omega);have g:(n:Int).tmod 8=0:=by rw[C];omega
      clear C I;have l:¬ (n:Int) < 24:=by omega
      have A:¬ 512 < (at':Int)+n+4:=by omega
      have S:((at':Int)+n).toNat=at'+n:=by omega
      have K:(o.take (at'+n)).drop at'=(o.drop at').take n:=aII o at' n;have y:fnK (EV G (Tb (lM G bb))) G h26l0 LR 3 (EC (EV G (Tb (lM G bb))) G h26l0 (Ld s o t u at' a))=EL (EV G (Tb (lM G bb))) G h26l0 LR 3 (Ld s o t u (at'+n) (a++[(o.drop at').take n])):=by
       refine aHJ ?_;unfold Ld;rw[aZb,aZR,aZ4];simp (disch:=first | omega | (simp only[aZb,aZc,aZd,aZa,aA,aZh,aZf,aZn,aC,aS]<;>omega) | fail) only[go_sem,h26l0,eq_true c,eq_true i,B,D,v,q,eq_true g,l,A,S,K,aZN,aZa,E,N,aZe,aZl,aZm,aZc,aZd]
      have J:o.drop (at'+n)=(o.drop at').drop n:=by rw[bAe]
      rw[J] at O;rw[y];clear y;refine⟨fun w hp=>?_,fun hp=>?_⟩
      ·obtain⟨P,T,rfl⟩:=Option.map_eq_some_iff.1 hp;have:=O.1 P (by rw[<- T]);rw[this];have el:at'+n+P.flatten.length=at'+((o.drop at').take n::P).flatten.length:=by
        rw[aZ6,aZb,aZf,m];omega
       rw[el];simp only[aZr,List.singleton_append]
      ·exact O.2 (by simpa using hp)
    ·have i:¬ (at':Int)+8<=512:=by omega
     have d:(o.drop at').length < 24:=by omega
     rw[if_pos d];refine⟨fun w hp=>(by cases hp),fun _=>.inl ?_⟩
     have g:(0:Int).tmod 8=0:=rfl;simp (disch:=first | omega | (simp only[aZb,aZc,aZd,aZa,aA,aZh,aZf,aZn,aC,aS]<;>omega) | fail) only[go_sem,h26l0,eq_true c,i,B,D,v,g,aZN,aZa,cL.nil]
     all_goals rfl
  ·have c:¬ (at':Int)+4<=512:=by omega
   have z:¬ (o.drop at').take 4=rR:=fun h=>by
    have:=congrArg List.length h;rw[aZf,m] at this;have e:rR.length=4:=rfl;omega
   have d:(o.drop at').length < 24:=by omega
   rw[if_neg z,if_pos d];refine⟨fun w hp=>(by cases hp),fun _=>.inr ⟨at',a,by omega,M,by omega, ?_⟩⟩
   simp (disch:=first | omega | (simp only[aZb,aZc,aZd,aZa,aA,aZh,aZf,aZn,aC,aS]<;>omega) | fail) only[go_sem,h26l0,c,aZN,aZa]
   all_goals rfl
end
section
variable {G:aF}{bb:Bool}
def sH:HC->HC
 |.gh _ a=>a
 |c=>c
def nV:HC:=sT (sB (sB (sH (sB (sB (sB (sB (sB (sB (sB h26c))))))))))
def Qw:HC:=sB (sH (sB (sB nV)))
abbrev fd8(o:L Int):L DC:=[ci (gL o 8 4),ci (gL o 16 2),ci (gL o 18 2),ci (gL o 22 2),ci (gL o 24 4),ci (gL o 32 4),ci (gL o 36 2),ci (gL o 38 2)]
theorem aM7(s o:L Int)(d:L DC)(u:Int)(b:Nat)(e:508<b/\b<=512)(a:L (L Int)):pX false rv9 0 (EC (EV G (Tb (lM G bb))) G nV (Ld s o d u b a))=some (aRb 3,[]):=by
 have c:512<(b:Int)+4:=by omega
 simp (disch:=first|omega|(simp only[aZb,aZc,aZd,aZa,aA,aZh,aZf,aZn,aC,aS]<;>omega)|fail) only[go_sem,nV,sT,sB,sH,h26c,eq_true c]
theorem aM8(o:List Int)(u:Int)(a:List (List Int))(J:a.length<=1000)(b:∀k (g:k<a.length),EV G (Tb (lM G bb)) 70 [sv a[k]] []=some (rtv (bL a[k]),[]))(l:EV G (Tb (lM G bb)) 71 [(dS o (iG a).1).v] []=some (vi (gW (dS o (iG a).1)),[])) {st:AS}(h0:st=⟨(jk 2 (.one (.ptr 0 0)::jk 4 (vi u::.one (.bld 2 a.length)::jk 2 (.one (.ptr 3 0)::vi (0:Nat)::jk 149 [])))),[.box z9,.box (kV (fd8 o)),.arr 0 1 (a.map pQ),.box (r9 o++[.bld 4 0]),.arr 0 11 []]⟩):pX false rv9 0 (sqK (EV G (Tb (lM G bb))) G Qw (Bf 2 (EL (EV G (Tb (lM G bb))) G h26l1 [2,4,0,2,0] 5 st)))=some (dcv (Vi o u (iG a)),[]):=by
 have h:∀k (g:k<a.length),(a.map pQ)[k]?=some (pQ a[k]):=fun k g=>by rw[aZi,aZj g];rfl
 have q:∀k (g:k<a.length),a.getD k []=a[k]:=fun k g=>by simp[List.getD,g]
 rw[dN (fun k=>⟨(jk 2 (.one (.ptr 0 0)::jk 4 (vi u::.one (.bld 2 a.length)::jk 2 (.one (.ptr 3 0)::vi k::jk 149 [])))),[.box z9,.box (kV (fd8 o)),.arr 0 1 (a.map pQ),.box (r9 o++[.bld 4 ((a.take k).map fun p=>(bL p).1.e).length]),.arr 0 11 ((a.take k).map fun p=>(bL p).1.e)]⟩) (fun k=>(bL (a.getD k [])).2≠0) a.length ?_ ?_]
 rotate_left
 rw[h0];rfl;intro k g n;have B:=Classical.not_not.1 (n k (aZe _));rw[q k g] at B;have t:=b k g;have e:=h k g;have K:((a.take k).map fun p=>(bL p).1.e).length<=1000:=by rw[aZa,aZf];omega
 have s:gC 11 ((a.take k).map fun p=>(bL p).1.e)=true:=jD (f:=fun p=>(bL p).1.e) (fun _=>rfl) _
 have E:(a.take (k+1)).map (fun p=>(bL p).1.e)=(a.take k).map (fun p=>(bL p).1.e)++[(bL a[k]).1.e]:=by
  rw[bAa g,aZR,aZl,aZm]
 rw[E];clear l b h q h0 n E;have A:((a.take k).map fun p=>(bL p).1.e).take ((a.take k).map fun p=>(bL p).1.e).length=(a.take k).map fun p=>(bL p).1.e:=aZT
 generalize (a.take k).map (fun p=>(bL p).1.e)=C at *
 generalize bL a[k]=d at *;obtain⟨x,z⟩:=d;dsimp only at B t ⊢;subst B;generalize a[k]=p at *;rw[aZb];simp (disch:=omega) only[go_sem,h26l1,aZa,e,t,aJ.e,s,A,aZc,aZd,aZe,aZx,aZs,aZX];obtain⟨g,hp,n⟩:=bE (fun k=>(bL (a.getD k [])).2≠0) a.length
 generalize ix (fun k=>(bL (a.getD k [])).2≠0) a.length=k at *
 rcases hp with rfl|⟨i,hp⟩
 have r:=K3 a (fun p hp=>by
  obtain⟨j,y,rfl⟩:=List.mem_iff_getElem.1 hp;have:=Classical.not_not.1 (n j y);rwa[q j y] at this)
 have D:(a.take a.length).map (fun p=>(bL p).1.e)=(a.map fun p=>(bL p).1).map aJ.e:=by rw[aZT,aZE];rfl
 have m:((a.map fun p=>(bL p).1).map aJ.e).length=a.length:=by simp
 have F:((a.map fun p=>(bL p).1).map aJ.e).take a.length=(a.map fun p=>(bL p).1).map aJ.e:=aZM (by omega)
 rw[D,m];rw[r] at l ⊢;unfold Vi;rw[if_neg (not_not_intro rfl)];dsimp only at l ⊢;clear b h q h0 r D n;generalize (a.map fun p=>(bL p).1)=L at *
 by_cases w:gW (dS o L)=0;rw[if_neg (not_not_intro w)];rw[w] at l;simp only[dS,cL.v,cL.c] at l;generalize I:L.map aJ.e=M at *;simp (disch:=omega) only[go_sem,Qw,nV,sT,sB,sH,h26c,h26l1,aZa,l,m,F,aZe,aZx,aZs];simp only[dcv,dS,cL.c,I,aZx,aZs];rw[if_pos w,qV];generalize gW (dS o L)=N at *;simp only[dS,cL.v,cL.c] at l;generalize L.map aJ.e=M at *;simp (disch:=omega) only[go_sem,Qw,nV,sT,sB,sH,h26c,h26l1,aZa,l,w,m,F,aZe,aZx,aZs];have r:=K4 a k i (fun j y=>Classical.not_not.1 (n j y)) hp
 rw[q k i] at hp r;rw[r];unfold Vi;dsimp only;rw[if_pos hp,qV];have t:=b k i;have e:=h k i;clear b h q h0 r n l;generalize (a.take k).map (fun p=>(bL p).1.e)=C at *
 generalize bL a[k]=d at *;obtain⟨x,z⟩:=d;dsimp only at hp t ⊢;generalize a[k]=p at *;simp (disch:=omega) only[go_sem,Qw,nV,sT,sB,sH,h26c,h26l1,aZa,e,t,aJ.e,hp,aZx,aZs]
theorem aRF{b:L Int}(c:b.length=512)(a:aK b)(n:Int):aK (mY b n 8):=by
 intro x f;obtain⟨j,d,rfl⟩:=List.mem_iff_getElem.1 f;have e:(mY b n 8)[j]=(mY b n 8).getD j 0:=by simp[aZo,d]
 rw[e,Nc c 8 (by omega)];unfold ptG
 repeat' split
 all_goals first|omega|exact qH a _
theorem aM9(s o:L Int)(E:aK s)(P:o.length=512)(a:aK o)(u:Int)(Q:0<=u/\u<=65535)(b:L (L Int))(p:b.length<=1000)(fl:L Int)(hf:fl.length<=444)(n:aK fl)(i:o.take (64+fl.length)=o.take 64++fl)(g:∀k (O:k<b.length),EV G (Tb (lM G bb)) 70 [sv b[k]] []=some (rtv (bL b[k]),[]))(K:EV G (Tb (lM G bb)) 71 [(dS o (iG b).1).v] []=some (vi (gW (dS o (iG b).1)),[])) (d:cL×Int×Int)
  (e:d=if gL o 24 4=68+fl.length/\mY (iK (dS o []) (gL o 24 4) fl) u 8=s then Vi o u (iG b) else (.nil,0,3)):
  pX false rv9 0 (EC (EV G (Tb (lM G bb))) G nV (Ld s o (fd8 o) u (64+fl.length) b))=some (dcv d,[]):=by
 have x:=Bn a 16 2 (by omega) (by omega);have y:=Bn a 18 2 (by omega) (by omega);have z:=Bn a 22 2 (by omega) (by omega);have A:=Bn a 32 4 (by omega) (by omega);have B:=Bn a 36 2 (by omega) (by omega);have C:=Bn a 38 2 (by omega) (by omega);have D:=Bn a 8 4 (by omega) (by omega);have M:=Bn a 24 4 (by omega) (by omega);have r:=Fj (aIH (G:=G) (bb:=bb) (dS o []) (gL o 24 4) ⟨by simp only[dS];omega,by simp only[dS];omega,by simp only[dS];omega,by simp only[dS];omega,by simp only[dS];omega,by simp only[dS];omega,by simp only[dS];omega,by omega⟩ fl hf u (by omega));have t:(o.take (64+fl.length)).drop 64=fl:=by rw[i,List.drop_left' (by rw[aZf];omega)]
 have m:¬ 512<(68+fl.length:Int):=by omega
 have w:((64:Int)+(fl.length:Int)).toNat=64+fl.length:=by omega
 have c:(64:Int)+(fl.length:Int)+4=68+(fl.length:Int):=by omega
 have J:(64:Int)+(fl.length:Int)<=512:=by omega
 have q:=aM8 (G:=G) (bb:=bb) o u b p g K rfl;have I:=aRF (A3 (dS o []) (gL o 24 4) fl hf) (D7 (dS o []) (gL o 24 4) fl n) u;generalize mY (iK (dS o []) (gL o 24 4) fl) u 8=Y at *;simp only[dS] at r;have l:=cQ I E;clear x y z A B C D i;generalize N:fl.length=F at *;by_cases f:gL o 24 4=68+F;by_cases j:Y=s;rw[if_pos ⟨f,j⟩] at e;subst e;rw[eq_true j] at l;simp (maxSteps:=2000000) (disch:=first|omega|(simp only[aZb,aZc,aZd,aZa,aA,aZh,aZf,aZn,aC,aS]<;>omega)|fail) only[go_sem,nV,sT,sB,sH,h26c,kV,aZl,aZm,aZ4,c,m,eq_true f,t,w,Int.reduceToNat,r,l,Jk]
 exact q;rw[if_neg (fun h=>j h.2)] at e
 subst e;rw[eq_false j] at l;rw[qV];simp (maxSteps:=2000000) (disch:=first|omega|(simp only[aZb,aZc,aZd,aZa,aA,aZh,aZf,aZn,aC,aS]<;>omega)|fail) only[go_sem,nV,sT,sB,sH,h26c,kV,aZl,aZm,aZ4,c,m,eq_true f,t,w,Int.reduceToNat,r,l,Jk]
 rw[if_neg (fun h=>f h.1)] at e
 subst e;rw[qV];simp (maxSteps:=2000000) (disch:=first|omega|(simp only[aZb,aZc,aZd,aZa,aA,aZh,aZf,aZn,aC,aS]<;>omega)|fail) only[go_sem,nV,sT,sB,sH,h26c,kV,aZl,aZm,aZ4,c,m,f,Int.reduceToNat]
theorem aBv(s:L Int)(l:aK s)(V:s.length<=9223372036854775807):EV G (Tb (lM G bb)) 26 [sv s] []=some (dcv (fZ s),[]):=by
 refine aB rfl ?_;unfold fZ;by_cases g:s.length=512;rw[if_neg (not_not_intro g)];have t:=Fj (up (aM4 (G:=G) (bb:=bb) s g l));by_cases o:jN s;rw[if_neg (not_not_intro o)];rw[if_pos o] at t;have A:=qF g;have a:=Kq g l;have W:=Yc g l o;have f0:EV G (Tb (lM G bb)) 68 [sv s,vi 40,vi 2] []=some (vi (gO s),[]):=Fj (up (cV (G:=G) (bb:=bb) s l 40 2 (by omega) (by omega) (by omega)));have C:EV G (Tb (lM G bb)) 68 [sv (eK s),vi 16,vi 2] []=some (vi (gL (eK s) 16 2),[]):=Fj (up (cV (G:=G) (bb:=bb) (eK s) a 16 2 (by omega) (by omega) (by omega)));have D:EV G (Tb (lM G bb)) 68 [sv (eK s),vi 18,vi 2] []=some (vi (gL (eK s) 18 2),[]):=Fj (up (cV (G:=G) (bb:=bb) (eK s) a 18 2 (by omega) (by omega) (by omega)));have E:EV G (Tb (lM G bb)) 68 [sv (eK s),vi 22,vi 2] []=some (vi (gL (eK s) 22 2),[]):=Fj (up (cV (G:=G) (bb:=bb) (eK s) a 22 2 (by omega) (by omega) (by omega)));have F:EV G (Tb (lM G bb)) 68 [sv (eK s),vi 32,vi 4] []=some (vi (gL (eK s) 32 4),[]):=Fj (up (cV (G:=G) (bb:=bb) (eK s) a 32 4 (by omega) (by omega) (by omega)));have I:EV G (Tb (lM G bb)) 68 [sv (eK s),vi 36,vi 2] []=some (vi (gL (eK s) 36 2),[]):=Fj (up (cV (G:=G) (bb:=bb) (eK s) a 36 2 (by omega) (by omega) (by omega)));have J:EV G (Tb (lM G bb)) 68 [sv (eK s),vi 38,vi 2] []=some (vi (gL (eK s) 38 2),[]):=Fj (up (cV (G:=G) (bb:=bb) (eK s) a 38 2 (by omega) (by omega) (by omega)));have K:EV G (Tb (lM G bb)) 68 [sv (eK s),vi 8,vi 4] []=some (vi (gL (eK s) 8 4),[]):=Fj (up (cV (G:=G) (bb:=bb) (eK s) a 8 4 (by omega) (by omega) (by omega)));have M:EV G (Tb (lM G bb)) 68 [sv (eK s),vi 24,vi 4] []=some (vi (gL (eK s) 24 4),[]):=Fj (up (cV (G:=G) (bb:=bb) (eK s) a 24 4 (by omega) (by omega) (by omega)));have j:=Vt (G:=G) (bb:=bb) s (eK s) (fd8 (eK s)) (gO s) A a nV 449 64 [] (by decide) (by decide) (by decide);have i:Ab ((eK s).drop 64)=rS 449 ((eK s).drop 64):=by
  unfold Ab;rw[aZn,A]
 cases r:Ab ((eK s).drop 64) with
 |none=>
  dsimp only;rw[qV];have f:=j.2 (by rw[<- i];exact r);have z:pX false rv9 0 (sqK (EV G (Tb (lM G bb))) G (.trm LR nV) (Bf 0 (EL (EV G (Tb (lM G bb))) G h26l0 LR 3 (Ld s (eK s) (fd8 (eK s)) (gO s) 64 []))))=some (aRb 3,[]):=by
   rcases f with f|⟨b,B,v,w,U,f⟩;rw[f,qV];rw[f,aM7 _ _ _ _ _ ⟨v,w⟩]
  clear j f;generalize gO s=u at *;simp (maxSteps:=2000000) (disch:=omega) only[go_sem,h26c,aC,g,t,f0,C,D,E,F,I,J,K,M];exact z
 |some e=>
  dsimp only;obtain⟨N,y,h3,h4⟩:=Yd g l r;obtain⟨R,P,S,T⟩:=Qb _ _ _ (show rS 449 ((eK s).drop 64)=some e by rw[<- i];exact r);have f:=j.1 e (by rw[<- i];exact r);have p:=aQE g l r;have m:∀ k (f:k < e.length),EV G (Tb (lM G bb)) 70 [sv e[k]] []=some (rtv (bL e[k]),[]):=fun k f=>by
   obtain⟨v,w,_⟩:=N _ (aZk f);rw[aQy v w];exact Fj (up (X9 (G:=G) (bb:=bb) e[k] v w))
  have Q:=Fj (aMe (G:=G) (bb:=bb) (dS (eK s) (iG e).1) p);have q:(eK s).take (64+e.flatten.length)=(eK s).take 64++e.flatten:=by
   rw[List.take_add,P]
  have n:=aHC g l o e.flatten y;have O:=aM9 (G:=G) (bb:=bb) s (eK s) l A a (gO s) (by omega) e (by omega) e.flatten y h4 q m Q (Ul s e) (by
   unfold Ul;by_cases c:iK (dS (eK s) []) (68+(e.flatten.length:Int)) e.flatten=eK s
   ·rw[if_neg (not_not_intro c),if_pos (n.1 c)];rfl
   ·rw[if_pos c,if_neg (fun h=>c (n.2 h))])
  rw[aZs] at f;rw[O] at f;clear j O i N y h3 h4 R P S T m Q q n p;generalize Ul s e=d at *;generalize gO s=u at *;simp (maxSteps:=2000000) (disch:=omega) only[go_sem,h26c,aC,g,t,f0,C,D,E,F,I,J,K,M];exact f
 rw[if_pos o];rw[if_neg o] at t;rw[qV];simp (disch:=omega) only[go_sem,h26c,aC,g,t];rw[if_pos g];have x:¬ (s.length:Int)=512:=by omega
 rw[qV];simp (disch:=omega) only[go_sem,h26c,aC,x]
end
section
variable {G:aF}{bb:Bool}
def hCR:HF:={ h30 with own:=false }
def tb5:FuncId->Option HF:=fun f=>if f=30 then some hCR else if f=9 then some h9 else if f=13 then some h13 else if f=11 then some h11 else none
noncomputable def T5(G:aF)(b:Bool):HT:=⟨tb5,EV G (Tb (dU G b))⟩
theorem aVZ{b:Bool}:W5 Tryz.prog (T5 G b):=by
 intro f h hf;change tb5 f=some h at hf;unfold tb5 at hf;split at hf;rename_i e;subst e;injection hf with hf;subst hf;exact⟨by kernel_rfl,_,Tryz.func30,Tryz.ntmps30,h30_ok,aOT⟩
 split at hf;rename_i e;subst e;injection hf with hf;subst hf;exact⟨by kernel_rfl,_,Tryz.func9,Tryz.ntmps9,h9_ok,aSU⟩
 split at hf;rename_i e;subst e;injection hf with hf;subst hf;exact⟨by kernel_rfl,_,Tryz.func13,Tryz.ntmps13,h13_ok,aOS⟩
 split at hf;rename_i e;subst e;injection hf with hf;subst hf;exact⟨by kernel_rfl,_,Tryz.func11,Tryz.ntmps11,h11_ok,aOR⟩
 cases hf
theorem t5{b:Bool}{f:FuncId}{a:L AV}{hp:L aD}{r:AV×L aD}(h:EV G (Tb (dU G b)) f a hp=some r)(c:tb5 f=none:=by decide):EV G (T5 G b) f a hp=some r:=jC c h
theorem aNa{b:Bool}(j:b=true->QC Tryz.prog G 4 [] (.one (.dc (.raw (.bool true))))):cH Tryz.prog G (EV G (T5 G b)):=by
 intro f a hp d i h c e;obtain⟨n,g⟩:=jV h;refine uQ aVZ ?_ n f a hp d i g c e;intro f a hp d i h c e;obtain⟨n,g⟩:=jV h;exact uQ (aAl (dU G b)) (aIa j) n f a hp d i g c e
end
section
variable {G:aF}{bb:Bool}
noncomputable def Vu(s:L Int):(Bt×L aV×Int)×Int:=if mM s=0 then (((aW s).1,(kT s).rs,(tR s:Int)),0) else ((nB,[],0),mM s)
abbrev aV0(p:(Bt×L aV×Int)×Int):AV:=.tup [.agg [.dc (ci p.1.1.cl),.dc (ci p.1.1.tb),.dc (ci p.1.1.mi),.dc (ci p.1.1.lg),.dc (ci p.1.1.lc),.dc (ci p.1.1.se),.dc (.slc (p.1.2.1.map aV.e)),.dc (ci p.1.2.2)],tE p.2]
theorem aNb(b:G9 G)(s:L Int)(a:aK s)(c:s.length<=200000):EV G (Tb (dU G bb)) 6 [sv s] []=some (aV0 (Vu s),[]):=by
 unfold Vu;by_cases h:mM s=0;rw[if_pos h];obtain⟨d,f,g⟩:=jK a h;have o:=qK (bb:=bb) b s a c d;rw[f] at o;unfold tR;generalize gF s=C at *;generalize (aW s).1=x at *;generalize (lO s).1=r at *;generalize (lO s).2.1=w at *;generalize (kT s).rs=i at *;refine aB rfl ?_;simp (maxSteps:=2000000) (disch:=omega) only[go_sem,h6c,o,aZl,aZm,dY,pG];rw[if_neg h];rcases Qq h with⟨q,e⟩|⟨q,e⟩
 ·have o:=Eh (bb:=bb) b s a c q;rw[e] at o;refine aB rfl ?_;simp (maxSteps:=2000000) (disch:=omega) only[go_sem,h6c,o,h];try rfl
 ·have o:=qK (bb:=bb) b s a c q;rw[e] at o;generalize gF s=C at *;refine aB rfl ?_;simp (maxSteps:=2000000) (disch:=omega) only[go_sem,h6c,o,h,aZl,aZm,dY,pG];try rfl
noncomputable def plB(s:L Int)(C:L Int)(n:Nat):L Int:=Bm s (C.getD (2*n) 0).toNat (C.getD (2*n+1) 0).toNat
def miB(s:L Int)(x:Bt)(n:Nat):L Int:=Bm s (x.mi.toNat+2*n) (x.mi.toNat+2*n+1)
noncomputable def mrL(s:L Int)(x:Bt)(C:L Int)(k:Nat):L Int:=((List.range k).filter fun n=>!decide (plB s C n=miB s x n)).map Int.ofNat
theorem aNU(s:L Int)(x:Bt)(C:L Int)(k:Nat):mrL s x C (k+1)=if plB s C k=miB s x k then mrL s x C k else mrL s x C k++[(k:Int)]:=by
 unfold mrL;rw[List.range_succ,List.filter_append,List.filter_cons,List.filter_nil,aZR];by_cases h:plB s C k=miB s x k;rw[if_pos h,if_neg (by simp[h]),aZm,aZ7];rw[if_neg h,if_pos (by simp[h])];rfl
theorem Qx(s:L Int)(x:Bt)(C:L Int)(k:Nat):(mrL s x C k).length<=k:=by
 unfold mrL;rw[aZa];exact Nat.le_trans (List.length_filter_le _ _) (by simp)
noncomputable def mrV(s:L Int):L Int×Int:=if mM s=0 then (mrL s (aW s).1 (gF s) 4,0) else ([],mM s)
theorem Yx(p:G9 G)(s:List Int)(d:aK s)(i:s.length<=200000):EV G (Tb (dU G bb)) 8 [sv s] []=some (inV (mrV s),[]):=by
 unfold mrV;by_cases h:mM s=0;rw[if_pos h];obtain⟨X,Y,l⟩:=jK d h;have o:=qK (bb:=bb) p s d i X;rw[Y] at o;have S:=l.ln;have b:=l.b;have b2:=b.cl;have b3:=b.n;have b5:=b.mi;have W:∀k:Nat,k<4->EV G (Tb (dU G bb)) 22 [.one (.ptr 0 0),vi k] [sX (aW s).1 (.slc ((kT s).rs.map aV.e)) (ci ((gF s).length / 2:Nat)) s.length (.slc (el (gF s))),yb s]=some (prI ((gF s).getD (2*k) 0) ((gF s).getD (2*k+1) 0),[sX (aW s).1 (.slc ((kT s).rs.map aV.e)) (ci ((gF s).length / 2:Nat)) s.length (.slc (el (gF s))),yb s]):=
  fun k f=>Ak _ _ _ _ _ _ k (by omega) (by omega)
 have T:∀k:Nat,k<4->EV G (Tb (dU G bb)) 24 [.one (.ptr 0 0),vi k] [sX (aW s).1 (.slc ((kT s).rs.map aV.e)) (ci ((gF s).length / 2:Nat)) s.length (.slc (el (gF s))),yb s]=some (prI ((aW s).1.mi+2*k) ((aW s).1.mi+2*k+1),[sX (aW s).1 (.slc ((kT s).rs.map aV.e)) (ci ((gF s).length / 2:Nat)) s.length (.slc (el (gF s))),yb s]):=
  fun k f=>Gg _ _ _ _ _ _ k (by omega) (by omega)
 have N:∀ k:Nat,k < 4->EV G (Tb (dU G bb)) 23 [.one (.ptr 0 0),prI ((gF s).getD (2 * k) 0) ((gF s).getD (2 * k+1) 0)] [sX (aW s).1 (.slc ((kT s).rs.map aV.e)) (ci ((gF s).length / 2:Nat)) s.length (.slc (el (gF s))),yb s]=some (sv (plB s (gF s) k),[sX (aW s).1 (.slc ((kT s).rs.map aV.e)) (ci ((gF s).length / 2:Nat)) s.length (.slc (el (gF s))),yb s]):=fun k f=>by
  obtain⟨a,Q,a1,a2,_⟩:=l.at (k:=2 * k) (by omega);obtain⟨c,R,c1,c2,_⟩:=l.at (k:=2 * k+1) (by omega);unfold plB;rw[Q,R];exact Ef _ _ _ _ s d s.length a c rfl (by omega) (by omega) i
 have K:∀ k:Nat,k < 4->EV G (Tb (dU G bb)) 23 [.one (.ptr 0 0),prI ((aW s).1.mi+2 * k) ((aW s).1.mi+2 * k+1)] [sX (aW s).1 (.slc ((kT s).rs.map aV.e)) (ci ((gF s).length / 2:Nat)) s.length (.slc (el (gF s))),yb s]=some (sv (miB s (aW s).1 k),[sX (aW s).1 (.slc ((kT s).rs.map aV.e)) (ci ((gF s).length / 2:Nat)) s.length (.slc (el (gF s))),yb s]):=fun k f=>by
  have q:=Ef (G:=G) (B:=dU G bb) (aW s).1 (.slc ((kT s).rs.map aV.e)) (ci ((gF s).length / 2:Nat)) (.slc (el (gF s))) s d s.length ((aW s).1.mi.toNat+2 * k) ((aW s).1.mi.toNat+2 * k+1) rfl (by omega) (by omega) i;rw[aBc (x:=(aW s).1.mi+2 * k) (y:=(aW s).1.mi+2 * k+1) (by omega) (by omega)] at q;exact q
 have O:∀k,(dB (plB s (gF s) k)=dB (miB s (aW s).1 k))=(plB s (gF s) k=miB s (aW s).1 k):=fun k=>cQ (kS d _ _) (kS d _ _)
 have L:=aNU s (aW s).1 (gF s);have F:=Qx s (aW s).1 (gF s);have E:mrL s (aW s).1 (gF s) 0=[]:=rfl;generalize mrL s (aW s).1 (gF s)=U at *;generalize plB s (gF s)=P at *;generalize miB s (aW s).1=M at *;generalize gF s=C at *;generalize (aW s).1=x at *;generalize (lO s).1=r at *;generalize (lO s).2.1=w at *;generalize (kT s).rs=Z at *;refine aB rfl ?_;simp (maxSteps:=2000000) (disch:=omega) only[go_sem,h8c,o,aZl,aZm,dY,pG,jJ];rw[aR (fun k=>⟨(jk 4 (.one (.ptr 2 0)::jk 1 (.one (.bld 5 (U k).length)::jk 9 (vi k::jk 19 [])))),opH x r w s Z C++[.arr 0 1 (el (U k))]⟩) 4 ?_ ?_]
 simp (maxSteps:=2000000) (disch:=omega) only[go_sem,h8l0,aZx,aZs,aZl,aZm,dY,pG,jJ,mL];rw[E];rfl;intro k f;have u:=W k f;have v:=T k f;have z:=N k f;have A:=K k f;have D:=O k;have Lk:=F k;have j:=L k;by_cases m:P k=M k;rw[if_pos m] at j;rw[j];have t:(dB (P k)=dB (M k))=True:=by rw[D];exact eq_true m
 generalize U k=V at *;generalize P k=J at *;generalize M k=I at *;have g:(k:Int)<4:=by omega
 simp (maxSteps:=2000000) (disch:=omega) only[go_sem,h8l0,g,u,v,z,A,t,aZx,aZs,jJ,mL];rw[if_neg m] at j;rw[j];have t:(dB (P k)=dB (M k))=False:=by rw[D];exact eq_false m
 generalize U k=V at *;generalize P k=J at *;generalize M k=I at *;have g:(k:Int)<4:=by omega
 simp (maxSteps:=2000000) (disch:=omega) only[go_sem,h8l0,g,u,v,z,A,t,aZx,aZs,jJ,mL,aAM,aZb,aZa];rw[if_neg h];rcases Qq h with⟨q,e⟩|⟨q,e⟩
 ·have o:=Eh (bb:=bb) p s d i q;rw[e] at o;refine aB rfl ?_;simp (maxSteps:=2000000) (disch:=omega) only[go_sem,h8c,o,h];try rfl
 ·have o:=qK (bb:=bb) p s d i q;rw[e] at o;generalize gF s=C at *;refine aB rfl ?_;simp (maxSteps:=2000000) (disch:=omega) only[go_sem,h8c,o,h,aZl,aZm,dY,pG];try rfl
