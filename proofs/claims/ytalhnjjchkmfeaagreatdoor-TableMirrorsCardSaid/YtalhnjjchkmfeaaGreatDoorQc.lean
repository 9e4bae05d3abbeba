/- Part. Conditions: none. -/
import Derived.Test.YtalhnjjchkmfeaaGreatDoorMf
import Derived.Test.YtalhnjjchkmfeaaGreatDoorCards
import Derived.Test.YtalhnjjchkmfeaaGreatDoorTie
import Derived.ProofKit
import Derived.MakeChecks
import Derived.Stop.LaidErr
import Derived.Deep.DeepHandedRow
import Derived.Lib.LaidTab
import Derived.LaidMore
import Derived.LaidHandle
import Derived.LaidLaws
import Derived.Lay
import Derived.Shelf.Vars
import Derived.Test.YtalhnjjchkmfeaaGreatDoorRows
import Derived.Test.YtalhnjjchkmfeaaGreatDoorQp
import Derived.Test.YtalhnjjchkmfeaaGreatDoorSo
import Derived.Test.YtalhnjjchkmfeaaGreatDoorVq
import Derived.Test.YtalhnjjchkmfeaaGreatDoorSu
import Derived.Test.YtalhnjjchkmfeaaGreatDoorPa
import Derived.Test.YtalhnjjchkmfeaaGreatDoorTy
namespace Go.Proofs.YtalhnjjchkmfeaaGreatDoor
set_option maxHeartbeats 32000000
set_option linter.unusedSimpArgs false
set_option linter.unusedVariables false
set_option maxRecDepth 4000
section
variable {G:aF}{bb:Bool}
open Go.ChangeShapes Go.WideShapes Go.ChangeAt Go.RowKit
theorem Tryz.own:ownKnob Tryz.prog.godebug=none:=by kernel_rfl
theorem Tryz.laidOut:laidOutB Tryz.prog=true:=by kernel_rfl
theorem aI3:Tryz.prog.cellsOf 3=1:=by kernel_rfl
def aWg(i:Int):Prop:=-9223372036854775808<=i/\i<=9223372036854775807
theorem aRY{m:Nat}{x:DC}(h:Mh Tryz.prog (m+1) 3 [x]):∃i:Int,x=ci i/\aWg i:=by
 obtain⟨i,a,b⟩:=aI2 Tryz.underlying3 h;injection a with a _;exact⟨i,a,Zh b⟩
def aI.d(a:aI):L DC:=[ci a.ty,.raw (.string (dI a.nm)),ci a.id,ci a.fl,.raw (.bool a.res),.raw (.string (dI a.va)),ci a.fi,.slc (a.rs.map aX.e),ci a.al,ci a.sz,ci a.vd]
theorem Mi{H:Type}{enc:TypeId×Value->H}{P:Program}{w:World}{e:Nat}{F:Nat->Bool}{f:Bool}{c:Nat}{t:TypeId}{i j:Field}{cs:L Value}{a b:Int}{p:L MemPlace} (B:P.underlying t=some (.struct #[i,j])) (s:P.underlying i.type=some (.int .i64)) (z:P.underlying j.type=some (.int .i64)) (D:i.offset=0) (E:j.offset=1) (o:P.cellsOf i.type=1) (q:P.cellsOf j.type=1) (r:P.cellsOf t=2) (h:DataW.trod enc P w e F f c t cs=some (.agg [.lit (.int .i64 a),.lit (.int .i64 b)],p)):cs=[.int .i64 a,.int .i64 b]:=by
 cases c with
 |zero=>simp[DataW.trod] at h
 |succ c=>
  simp only[DataW.trod,B,r] at h;split at h;rename_i A;obtain⟨K,d,n⟩:=Option.map_eq_some_iff.1 h
  match cs,A with
  |[x,y],_=>
   simp only[bAA,List.mapM_nil,D,E,o,q,bAq,bAZ,bAP,bAO,List.take_nil] at d;obtain⟨u,C,d⟩:=bAk.1 d;obtain⟨vs,k,d⟩:=bAk.1 d;obtain⟨v,k,g⟩:=bAk.1 k;obtain⟨I,l,rfl,_⟩:=DataW.trod_int s C;obtain⟨J,m,rfl,_⟩:=DataW.trod_int z k;simp at g d;subst g;subst d;simp at n l m;obtain⟨⟨rfl,rfl⟩,_⟩:=n;rw[l,m]
  cases h
theorem kX{W:World}{c:String}{a b:Int}{e:L (String×DataW Unit)}{g:Nat}(m:Tryz.prog.globalNamed c=some g)(j:(Tryz.prog.globals[g]?).map (·.type)=some 176) (h:laidMet Tryz.prog ((c,.agg [.lit (.int .i64 a),.lit (.int .i64 b)])::e) W):W.var? Tryz.prog c=some #[.int .i64 a,.int .i64 b]:=by
 obtain⟨o,⟨n,r,cs,k,p,q,f,i,d,l,_,_⟩,_⟩:=h;obtain rfl:=Option.some.inj (m.symm.trans f);obtain rfl:=Option.some.inj (j.symm.trans i);have:=Mi Tryz.underlying176 Tryz.underlying3 Tryz.underlying3 rfl rfl aI3 aI3 (by kernel_rfl) l;rw[d];congr 1;rw[<- bA6];exact this
theorem nG{W:World}{f:String}{a b:Int}{g:Nat}(c:W.var? Tryz.prog f=some #[.int .i64 a,.int .i64 b])(h:Tryz.prog.globalNamed f=some g):(∀γ,RC (iY W) γ (.ref [ci a,ci b]) (.pointer (some ⟨g,0,none⟩)))/\∃o,iY W g=some o/\∃vs t z,o=.cells vs t z/\vs.size=[ci a,ci b].length:=by
 refine⟨fun γ=>.ref _ g 0 (fun j=>.int .i64 ([a,b].getD j 0)) (fun j d e=>?_) (fun j d e=>?_),?_⟩
 match j with
 |0=>injection e with e;subst e;exact .raw _ rfl
 |1=>injection e with e;subst e;exact .raw _ rfl
 |j+2=>simp at e
 match j with
 |0=>have:=World.var?_cell h c 0;exact (show W.cell? ⟨g,0,none⟩=some (.int .i64 a) by simpa using this)
 |1=>have:=World.var?_cell h c 1;exact (show W.cell? ⟨g,1,none⟩=some (.int .i64 b) by simpa using this)
 |j+2=>simp at e
 unfold World.var? at c;rw[h,aZQ] at c;unfold iY;cases i:W.heap[g]? with
 |none=>rw[i] at c;cases c
 |some o=>
  rw[i] at c;cases o with
  |cells vs t z=>
   simp only[Option.some.injEq] at c;exact⟨_,rfl,_,_,_,rfl,by rw[c];rfl⟩
  |_=>simp at c
theorem Tryz.g_ls:Tryz.prog.globalNamed "depository/record.fieldLSN"=some 6:=by kernel_rfl
theorem Tryz.g_sq:Tryz.prog.globalNamed "depository/record.fieldSequence"=some 0:=by kernel_rfl
theorem Tryz.g_li:Tryz.prog.globalNamed "depository/record.fieldLinks"=some 1:=by kernel_rfl
theorem Tryz.g_fi:Tryz.prog.globalNamed "depository/record.fieldFirst"=some 7:=by kernel_rfl
theorem Tryz.g_fl:Tryz.prog.globalNamed "depository/record.fieldFlags"=some 2:=by kernel_rfl
theorem Tryz.g_en:Tryz.prog.globalNamed "depository/record.fieldEnd"=some 8:=by kernel_rfl
theorem Tryz.g_si:Tryz.prog.globalNamed "depository/record.fieldSize"=some 9:=by kernel_rfl
theorem Tryz.g_ba:Tryz.prog.globalNamed "depository/record.fieldBase"=some 3:=by kernel_rfl
theorem Tryz.g_bo:Tryz.prog.globalNamed "depository/record.fieldBaseOf"=some 4:=by kernel_rfl
theorem Tryz.g_nx:Tryz.prog.globalNamed "depository/record.fieldNext"=some 5:=by kernel_rfl
def GF:aF:=fun g=>
 if g=6 then some [ci 8,ci 4] else
 if g=0 then some [ci 16,ci 2] else
 if g=1 then some [ci 18,ci 2] else
 if g=7 then some [ci 20,ci 2] else
 if g=2 then some [ci 22,ci 2] else
 if g=8 then some [ci 24,ci 4] else
 if g=9 then some [ci 28,ci 4] else
 if g=3 then some [ci 32,ci 4] else
 if g=4 then some [ci 36,ci 2] else
 if g=5 then some [ci 38,ci 2] else
 none
theorem aWh:G9 GF:=⟨rfl,rfl,rfl,rfl,rfl,rfl,rfl,rfl,rfl,rfl⟩
theorem aWi{W:World}(h:laidMetH Tryz.prog Rows.tableMirrorsRow.laid W):fZ (iY W) GF:=by
 rw[MakeChecks.laidMetH_plain _ _ _ (by kernel_rfl)] at h;have h:=laidMet.tail h;have v:=nG (kX (a:=8) (b:=4) Tryz.g_ls (by kernel_rfl) h) Tryz.g_ls;have h:=laidMet.tail h;have y:=nG (kX (a:=16) (b:=2) Tryz.g_sq (by kernel_rfl) h) Tryz.g_sq;have h:=laidMet.tail h;have u:=nG (kX (a:=18) (b:=2) Tryz.g_li (by kernel_rfl) h) Tryz.g_li;have h:=laidMet.tail h;have s:=nG (kX (a:=20) (b:=2) Tryz.g_fi (by kernel_rfl) h) Tryz.g_fi;have h:=laidMet.tail h;have t:=nG (kX (a:=22) (b:=2) Tryz.g_fl (by kernel_rfl) h) Tryz.g_fl;have h:=laidMet.tail h;have r:=nG (kX (a:=24) (b:=4) Tryz.g_en (by kernel_rfl) h) Tryz.g_en;have h:=laidMet.tail h;have x:=nG (kX (a:=28) (b:=4) Tryz.g_si (by kernel_rfl) h) Tryz.g_si;have h:=laidMet.tail h;have p:=nG (kX (a:=32) (b:=4) Tryz.g_ba (by kernel_rfl) h) Tryz.g_ba;have h:=laidMet.tail h;have q:=nG (kX (a:=36) (b:=2) Tryz.g_bo (by kernel_rfl) h) Tryz.g_bo;have h:=laidMet.tail h;have w:=nG (kX (a:=38) (b:=2) Tryz.g_nx (by kernel_rfl) h) Tryz.g_nx;have h:=laidMet.tail h;refine⟨fun g cs c γ=>?_,fun g cs c=>?_⟩
 unfold GF at c;by_cases l:g=6;rw[if_pos l] at c;injection c with c
 subst c;subst l;exact v.1 γ;rw[if_neg l] at c;by_cases o:g=0;rw[if_pos o] at c;injection c with c
 subst c;subst o;exact y.1 γ;rw[if_neg o] at c;by_cases k:g=1;rw[if_pos k] at c;injection c with c
 subst c;subst k;exact u.1 γ;rw[if_neg k] at c;by_cases i:g=7;rw[if_pos i] at c;injection c with c
 subst c;subst i;exact s.1 γ;rw[if_neg i] at c;by_cases j:g=2;rw[if_pos j] at c;injection c with c
 subst c;subst j;exact t.1 γ;rw[if_neg j] at c;by_cases f:g=8;rw[if_pos f] at c;injection c with c
 subst c;subst f;exact r.1 γ;rw[if_neg f] at c;by_cases n:g=9;rw[if_pos n] at c;injection c with c
 subst c;subst n;exact x.1 γ;rw[if_neg n] at c;by_cases d:g=3;rw[if_pos d] at c;injection c with c
 subst c;subst d;exact p.1 γ;rw[if_neg d] at c;by_cases e:g=4;rw[if_pos e] at c;injection c with c
 subst c;subst e;exact q.1 γ;rw[if_neg e] at c;by_cases m:g=5;rw[if_pos m] at c;injection c with c
 subst c;subst m;exact w.1 γ;rw[if_neg m] at c;cases c;unfold GF at c;by_cases l:g=6;rw[if_pos l] at c;injection c with c
 subst c;subst l;exact v.2;rw[if_neg l] at c;by_cases o:g=0;rw[if_pos o] at c;injection c with c
 subst c;subst o;exact y.2;rw[if_neg o] at c;by_cases k:g=1;rw[if_pos k] at c;injection c with c
 subst c;subst k;exact u.2;rw[if_neg k] at c;by_cases i:g=7;rw[if_pos i] at c;injection c with c
 subst c;subst i;exact s.2;rw[if_neg i] at c;by_cases j:g=2;rw[if_pos j] at c;injection c with c
 subst c;subst j;exact t.2;rw[if_neg j] at c;by_cases f:g=8;rw[if_pos f] at c;injection c with c
 subst c;subst f;exact r.2;rw[if_neg f] at c;by_cases n:g=9;rw[if_pos n] at c;injection c with c
 subst c;subst n;exact x.2;rw[if_neg n] at c;by_cases d:g=3;rw[if_pos d] at c;injection c with c
 subst c;subst d;exact p.2;rw[if_neg d] at c;by_cases e:g=4;rw[if_pos e] at c;injection c with c
 subst c;subst e;exact q.2;rw[if_neg e] at c;by_cases m:g=5;rw[if_pos m] at c;injection c with c
 subst c;subst m;exact w.2;rw[if_neg m] at c;cases c
section
variable {H:Type}{enc:TypeId×Value->H}
theorem Lq{a:Assume}{C:Checked}{os:Os}{f:FuncId}{fn:Func}{s:ChangeSpec}{m:L PathCond}{c n h l:Bool}{X:World->Array Value->Prop} (N:∀(w w':World)(b:Array Value),w.heap=w'.heap->X w b->X w' b) (K:ownKnob C.prog.godebug=none) (o:os.Started) (q:C.prog.inits.idxOf? f=none) (E:C.prog.funcs[f]?=some fn) (p:∃ (w:World) (d:Tape) (i:Input),w.os=os/\(w.forCall d i).Shaped C.prog/\i.vars=[]/\Input.okWide C.prog (w.forCall d i) .any w.heap.size f i/\ ((s.pre enc C.prog fn m c (w.forCall d i).memory i.args/\X (w.forCall d i).memory i.args)/\sizedMet enc C.prog fn (OpenSpec.ofChange s) c (w.forCall d i).memory i.args)/\a.holds C.prog (lone (Frame.enter C.prog f i.args .normal) [] (w.forCall d i))) (k:∀ (W:World) (r:Nat) (b:Array Value) (A D:L (DataW H)) (g:L MemPlace),(∀ (j:Nat) t v,fn.params[j]?=some t->b[j]?=some v->Value.okWide C.prog W .any r t v)-> DataW.Whole enc C.prog fn.params.toList s.vars c W b.toList A D g-> X W b->W.ShapedOpen C.prog->
   Calls C.prog f b W fun e M=>∃ v,e=.returned v/\s.post enc C.prog fn c n h l W b v M):
  ReturnsInHanded a C os f .any (fun w b=>(s.pre enc C.prog fn m c w b/\X w b)/\sizedMet enc C.prog fn (OpenSpec.ofChange s) c w b) (s.post enc C.prog fn c n h l):=by
 refine returnsInHanded_of_calls K o q p ?_;intro w d i _ I _ F x z;obtain⟨_,_,_,B,u,_,_,_,_,y⟩:=F;have e:B=fn:=Option.some.inj (u.symm.trans E);subst e;obtain⟨⟨⟨A,D,g,P,R⟩,Q⟩,S⟩:=x;have J:=DataW.Whole.of_heap (w':=w.forCall d i) (by rfl) P;refine (k (w.forCall d i) w.heap.size i.args A D g y J (N _ _ _ (by rfl) Q) I).mono fun e M ⟨v,O,hp⟩=>?_
 subst O;exact ChangeSpec.post_blind hp
end
theorem aWj{G:aF}:EV G (Tb (dU G true)) 4 [] []=some (vb true,[]):=jG rfl rfl
theorem aI4{m:Nat}{a:AV}(h:okA Tryz.prog (m+1) 9 a):∃l:L Int,a=sv l/\aJ l/\l.length<=9223372036854775807:=by
 obtain⟨s,rfl,b⟩:=Zg Tryz.underlying9 h;obtain⟨l,c,rfl⟩:=aLM s;rw[aC] at b;exact⟨l,rfl,c,by unfold maxLen at b;omega⟩
theorem Wb{m:Nat}{a:AV}(h:okA Tryz.prog (m+1) 3 a):∃i:Int,a=vi i/\aWg i:=by
 obtain⟨d,rfl,b⟩:=aBH (by kernel_rfl) h;obtain⟨i,rfl,c⟩:=aRY b;exact⟨i,rfl,c⟩
end
section
open Go
set_option maxRecDepth 100000
theorem Es:false=Rows.tableMirrorsRow.goesBy Tryz.pinned.checked.prog:=by kernel_rfl
end
section
variable {G:aF}{bb:Bool}
theorem aI5{a:aI}:(jC a=true)=(a.ty=128/\a.nm=[]):=by
 unfold jC;simp
theorem Wc{B:aO}(r:cL)(h:r.ats.length<=1000000):EV G (Tb B) 58 [r.v] []=some (vi (jA jC r.ats),[]):=by
 refine aB rfl ?_;simp (maxSteps:=2000000) (disch:=omega) only[go_sem,h58c];unfold jA;rw[dQ (fun k=>⟨(jk 1 (.one (.ptr 0 0)::jk 1 (vi k::jk 24 []))),[.box r.c]⟩) (fun k=>jC (r.ats.getD k aI.nil)=true) r.ats.length ?_ ?_]
 rotate_left
 rfl;intro k d f;have h3:=f k (aZE _);rw[fH r.ats k d,aI5] at h3;have e:=K9 r.ats[k].nm;have a:(k:Int)<r.ats.length:=by omega
 by_cases c:r.ats[k].ty=128;have g:¬ r.ats[k].nm=[]:=fun q=>h3 ⟨c,q⟩
 simp (maxSteps:=2000000) (disch:=omega) only[go_sem,h58l0,aZz,ixA,aI.e,eq_true c,e,g,a];simp (maxSteps:=2000000) (disch:=omega) only[go_sem,h58l0,aZz,ixA,aI.e,c,a];obtain⟨d,hp,f⟩:=bF (fun k=>jC (r.ats.getD k aI.nil)=true) r.ats.length
 generalize ix (fun k=>jC (r.ats.getD k aI.nil)=true) r.ats.length=k at *
 rcases hp with rfl|⟨a,hp⟩;rw[if_pos rfl];simp (maxSteps:=2000000) (disch:=omega) only[go_sem,h58l0,aZz];rw[if_neg (by omega)];rw[fH r.ats k a,aI5] at hp;have e:=K9 r.ats[k].nm;have b:(k:Int)<r.ats.length:=by omega
 simp (maxSteps:=2000000) (disch:=omega) only[go_sem,h58l0,aZz,ixA,aI.e,eq_true hp.1,e,eq_true hp.2,b]
theorem aBI{B:aO}(s:L Int)(a n:Nat)(h:(a+n)*256<=s.length)(g:s.length<=200000):EV G (Tb B) 57 [sv s,vi a,vi n] []=some (sv ((s.drop (a*256)).take (n*256)),[]):=by
 have e:((a*256:Nat):Int)=(a:Int)*256:=by omega
 have f:(((a+n)*256:Nat):Int)=((a:Int)+n)*256:=by omega
 have c:((a:Int)*256).toNat=a*256:=by omega
 have d:(((a:Int)+n)*256).toNat=(a+n)*256:=by omega
 have b:(a+n)*256-a*256=n*256:=by omega
 refine aB rfl ?_;simp (maxSteps:=2000000) (disch:=omega) only[go_sem,h57c,aC,c,d,b];rw[bAJ,b]
theorem aBJ{B:aO}(s:L Int)(a:Nat)(h:a*256+256<=s.length)(b:s.length<=200000):EV G (Tb B) 57 [sv s,vi a,vi 1] []=some (sv (Cr s a),[]):=aBI s a 1 (by omega) b
theorem aWk(s:L Int)(a:Nat)(h:a*256+512<=s.length):qB s a (a+1)=(s.drop (a*256)).take (2*256):=by
 unfold qB Cr;have e:(a+1)*256=a*256+256:=by omega
 rw[e,<- bAw,show 2*256=256+256 from rfl,List.take_add]
theorem Ra{B:aO}(s:L Int)(a:Nat)(h:a*256+512<=s.length)(b:s.length<=200000):EV G (Tb B) 57 [sv s,vi a,vi 2] []=some (sv (qB s a (a+1)),[]):=by
 rw[aWk s a h];exact aBI s a 2 (by omega) b
def rnE(x:Bt)(l:L aX):Int:=if (l.any fun r=>decide (r.s=-1))=true then 14 else if (l.any fun r=>decide (r.s+r.n > x.cl))=true then 37 else clE x (tU l)
theorem aI6{p:aX->Bool}(l:L aX)(k:Nat)(a:k<l.length):(l.take (k+1)).any p=((l.take k).any p||p l[k]):=by
 rw[List.take_add_one,List.any_append,aZJ a];simp
theorem aNr(x:Bt)(C:L Int):uA x C=decide (ix (fun k=>C.getD k 0∈0::(x.cl-1)::C.take k\/x.mi<=C.getD k 0/\C.getD k 0<=x.mi+8-1) C.length<C.length):=by
 obtain⟨b,hp,d⟩:=bF (fun k=>C.getD k 0∈0::(x.cl-1)::C.take k\/x.mi<=C.getD k 0/\C.getD k 0<=x.mi+8-1) C.length
 generalize ix (fun k=>C.getD k 0∈0::(x.cl-1)::C.take k\/x.mi<=C.getD k 0/\C.getD k 0<=x.mi+8-1) C.length=K at *
 unfold uA;rcases hp with rfl|⟨a,c⟩
 rw[decide_eq_false (Nat.lt_irrefl _),decide_eq_false];rintro⟨k,b,q⟩;exact d k b q;rw[decide_eq_true a,decide_eq_true ⟨K,a,c⟩]
theorem aNs(x:Bt)(C:L Int):clE x C=if uA x C=true then 13 else if C.length % 2≠0\/¬ (32<=C.length/\C.length<=192) then 2 else if C.getD 0 0≠x.tb\/C.getD 1 0≠x.tb+1 then 9 else 0:=by
 unfold clE;cases uA x C with
 |true=>rfl
 |false=>
  rw[aZ2,eL,aW,if_neg (by decide)];by_cases a:C.length % 2=0;by_cases h3:16<=C.length / 2/\C.length / 2<=96;rw[decide_eq_true a,decide_eq_true h3,aZ8,eL,aW,if_neg (by omega),decide_eq_true (show 2<=C.length by omega),aZ8];by_cases h4:C.getD 0 0=x.tb/\C.getD 1 0=x.tb+1;rw[decide_eq_true h4,eL,if_neg (by omega)];rfl;rw[decide_eq_false h4,if_pos (by omega)];rfl;rw[decide_eq_false h3,Bool.and_false,fK,aZ _ _ (by decide),if_pos (by omega)];rw[decide_eq_false a,bAh,fK,aZ _ _ (by decide),if_pos (.inl a)]
theorem aR0{B:aO}(x:Bt)(l:L aX)(hx:(-1000000<=x.mi/\x.mi<=1000000)/\(2<=x.cl/\x.cl<=1000000)/\(-1000000<=x.tb/\x.tb<=1000000))(Q:sP l)(N:∀q∈l,(-1<=q.s/\q.s<=1000)/\(0<=q.n/\q.n<=4096))(D:cE l<=4096):EV G (Tb B) 59 [x.v,cW l] []=some (vi (rnE x l),[]):=by
 have hln:=Q.len;have qc:=Kd (G:=G) (B:=B) l Q;refine aB rfl ?_;simp (maxSteps:=2000000) (disch:=omega) only[go_sem,h59c];rw[dQ (fun k=>⟨(jk 1 (cW l::.one (.ptr 0 0)::jk 2 (vb ((l.take k).any fun r=>decide (r.s+r.n > x.cl))::vi k::jk 99 []))),[x.o]⟩) (fun k=>(l.getD k ⟨0,0⟩).s=-1) l.length ?_ ?_]
 rotate_left
 rfl;intro k g p;have h3:=p k (aZE _);rw[jT l k g] at h3;have h4:=N _ (aZG g);have a:(k:Int)<l.length:=by omega
 rw[aI6 l k g];generalize (l.take k).any (fun r=>decide (r.s+r.n > x.cl))=A
 cases A;by_cases c:l[k].s+l[k].n > x.cl;simp (maxSteps:=2000000) (disch:=omega) only[go_sem,h59l0,aZz,aX.e,h3,a,eq_true c];simp (maxSteps:=2000000) (disch:=omega) only[go_sem,h59l0,aZz,aX.e,h3,a,c];simp (maxSteps:=2000000) (disch:=omega) only[go_sem,h59l0,aZz,aX.e,h3,a]
 have V:(l.any fun r=>decide (r.s=-1))=decide (ix (fun k=>(l.getD k ⟨0,0⟩).s=-1) l.length < l.length):=by
  obtain⟨g,hp,p⟩:=bF (fun k=>(l.getD k ⟨0,0⟩).s=-1) l.length
  generalize ix (fun k=>(l.getD k ⟨0,0⟩).s=-1) l.length=K at *
  rcases hp with rfl | ⟨h1,h2⟩
  ·rw[decide_eq_false (Nat.lt_irrefl _),bAR];intro q M Z;obtain⟨j,R,rfl⟩:=List.getElem_of_mem M;have:=p j R;rw[jT l j R] at this;exact this (of_decide_eq_true Z)
  ·rw[decide_eq_true h1,List.any_eq_true];rw[jT l K h1] at h2;exact⟨_,aZG h1,decide_eq_true h2⟩
 unfold rnE;rw[V];obtain⟨g,hp,p⟩:=bF (fun k=>(l.getD k ⟨0,0⟩).s=-1) l.length
 generalize ix (fun k=>(l.getD k ⟨0,0⟩).s=-1) l.length=K at *
 rcases hp with rfl|⟨a,hp⟩
 rotate_left
 rw[if_pos (decide_eq_true a)];rw[jT l K a] at hp;have b:(K:Int)<l.length:=by omega
 simp (maxSteps:=2000000) (disch:=omega) only[go_sem,h59l0,aZz,aX.e,eq_true hp,b];rw[decide_eq_false (Nat.lt_irrefl _),if_neg (by decide),bAi];cases hE:l.any fun r=>decide (r.s+r.n > x.cl) with
 |true=>
  rw[if_pos rfl];simp (maxSteps:=2000000) (disch:=omega) only[go_sem,h59l0,aZz]
 |false=>
  rw[if_neg (by decide),aNs,aNr];have Y:=A2 l (fun r h=>(N r h).2.1)
  have E:∀ c∈tU l,-1<=c/\c<=10000:=fun c D=>by
   obtain⟨q,M,D⟩:=List.mem_flatMap.1 D;have:=N q M;unfold A1 at D;obtain⟨k,g,rfl⟩:=List.mem_map.1 D;have g:=List.mem_range.1 g;split<;>omega
  generalize tU l=C at *;have S:∀k,el (C.take k)=(el C).take k:=fun k=>bAo
  have d:((el C).all fun e=>decide (e.length=1))=true:=bA0.2 (fun e he=>by obtain⟨n,_,rfl⟩:=List.mem_map.1 he;rfl)
  simp (maxSteps:=2000000) (disch:=omega) only[go_sem,h59l0,aZz,qc];rw[dQ (fun k=>⟨(jk 2 (.one (.ptr 0 0)::jk 4 (vl (el C)::vi k::jk 97 []))),[x.o]⟩) (fun k=>C.getD k 0∈0::(x.cl-1)::C.take k\/x.mi<=C.getD k 0/\C.getD k 0<=x.mi+8-1) C.length ?_ ?_]
  rotate_left
  rfl;intro k g p;have h3:=p k (aZE _);have hm:=E _ (aZG g);rw[bU C k g] at h3;have t:¬ C[k]=0:=fun q=>h3 (.inl (by rw[q];exact aZT))
  have y:¬ C[k]=x.cl-1:=fun q=>h3 (.inl (by rw[q];exact aZ3 _ aZT))
  have z:¬ C[k]∈C.take k:=fun q=>h3 (.inl (aZ3 _ (aZ3 _ q)))
  have I:Ev C[k] 1 x.mi 8=false:=decide_eq_false (fun q=>h3 (.inr (by omega)))
  have i:=aAO (G:=G) (B:=B) (C.take k) C[k] (by rw[aZD];omega);have m:=Ek (G:=G) (B:=B) C[k] 1 x.mi 8 (by omega) (by omega) (by omega) (by omega);rw[decide_eq_false z,S k] at i;rw[I] at m;have a:(k:Int)<C.length:=by omega
  have f:k<=C.length:=by omega
  simp (maxSteps:=2000000) (disch:=omega) only[go_sem,h59l1,aZz,uC,d,i,m,t,y,a,f];obtain⟨g,hp,p⟩:=bF (fun k=>C.getD k 0∈0::(x.cl-1)::C.take k\/x.mi<=C.getD k 0/\C.getD k 0<=x.mi+8-1) C.length
  generalize ix (fun k=>C.getD k 0∈0::(x.cl-1)::C.take k\/x.mi<=C.getD k 0/\C.getD k 0<=x.mi+8-1) C.length=K at *
  rcases hp with rfl|⟨a,hp⟩
  rotate_left
  rw[if_pos a];have hm:=E _ (aZG a);rw[bU C K a] at hp;have i:=aAO (G:=G) (B:=B) (C.take K) C[K] (by rw[aZD];omega);have m:=Ek (G:=G) (B:=B) C[K] 1 x.mi 8 (by omega) (by omega) (by omega) (by omega);rw[S K] at i;have b:(K:Int)<C.length:=by omega
  have f:K<=C.length:=by omega
  by_cases z:C[K]∈C.take K;rw[decide_eq_true z] at i;simp (maxSteps:=2000000) (disch:=omega) only[go_sem,h59l1,aZz,uC,d,i,m,b,f];rw[decide_eq_false z] at i;by_cases t:C[K]=0;simp (maxSteps:=2000000) (disch:=omega) only[go_sem,h59l1,aZz,uC,d,i,m,b,f,eq_true t];by_cases y:C[K]=x.cl-1;simp (maxSteps:=2000000) (disch:=omega) only[go_sem,h59l1,aZz,uC,d,i,m,b,f,t,eq_true y]
  have I:Ev C[K] 1 x.mi 8=true:=decide_eq_true (by
   rcases hp with q | q
   ·rcases bAQ.1 q with q | q
    ·exact absurd q t
    ·rcases bAQ.1 q with q | q
     ·exact absurd q y
     ·exact absurd q z
   ·omega)
  rw[I] at m;simp (maxSteps:=2000000) (disch:=omega) only[go_sem,h59l1,aZz,uC,d,i,m,b,f,t,y];rw[if_neg (Nat.lt_irrefl _)];have w:=bM (G:=G) (B:=B) C.length 32 192;by_cases T:C.length % 2=0;have u:(C.length:Int).tmod 2=0:=by rw[bBg (by omega)];omega
  by_cases U:32<=C.length/\C.length<=192;rw[decide_eq_true (show 32<=(C.length:Int)/\(C.length:Int)<=192 by omega)] at w;have r0:¬ (¬ C.length % 2=0\/¬ (32<=C.length/\C.length<=192)):=by omega
  rw[if_neg r0];have W:C.getD 0 0=C[0]:=bU C 0 (by omega);have X:C.getD 1 0=C[1]:=bU C 1 (by omega);have O:0<C.length:=by omega
  have P:1<C.length:=by omega
  rw[W,X];by_cases F:C[0]=x.tb;by_cases J:C[1]=x.tb+1;rw[if_neg (by omega)];simp (maxSteps:=2000000) (disch:=omega) only[go_sem,h59l1,aZz,uC,w,eq_true u,eq_true F,eq_true J,O,P];rw[if_pos (.inr J)];simp (maxSteps:=2000000) (disch:=omega) only[go_sem,h59l1,aZz,uC,w,eq_true u,eq_true F,J,O,P];rw[if_pos (.inl F)];simp (maxSteps:=2000000) (disch:=omega) only[go_sem,h59l1,aZz,uC,w,eq_true u,F,O,P];rw[decide_eq_false (show ¬ (32<=(C.length:Int)/\(C.length:Int)<=192) by omega)] at w;rw[if_pos (.inr U)];simp (maxSteps:=2000000) (disch:=omega) only[go_sem,h59l1,aZz,uC,w,eq_true u];have u:¬ (C.length:Int).tmod 2=0:=by rw[bBg (by omega)];omega
  rw[if_pos (.inl T)];simp (maxSteps:=2000000) (disch:=omega) only[go_sem,h59l1,aZz,uC,w,u]
end
section
variable {G:aF}{bb:Bool}
theorem Ii(s t:L Int)(a:Nat)(h:a+t.length<=s.length)(b:s.length<=1000000):EV G (Tb (bs bb)) 12 [sv s,vi a,sv t] []=some (sv (fE s a t),[]):=by
 refine aB rfl ?_;have e:((a:Int)+(t.length:Int)).toNat=a+t.length:=by omega
 unfold fE;simp (disch:=first|omega|(simp only[aZA,aZB,aZC,aZz,aA,aZH,aZD,aZK,aC,aS]<;>omega)|fail) only[go_sem,h12c,aC,bAc,Int.toNat_zero,bAq,e,aZD,aZK]
theorem aR1(s:L Int)(n:Int)(b:s.length=512)(i:0<=n/\n<=9223372036854775807):EV G (Tb (bs bb)) 123 [sv s,vi n] []=some (sv (nD s n 8),[]):=by
 refine aB rfl ?_;have c:=mC (G:=G) (bb:=bb) n i;simp (disch:=first|omega|(simp only[aZA,aZB,aZC,aZz,aA,aZH,aZD,aZK,aC,aS]<;>omega)|fail) only[go_sem,h123c,c]
 rw[aT (fun k=>⟨(sv (Cu s n k).2::vi n::jk 3 (sv (Cu s n k).1::vi ((k:Int)+1)::jk 25 [])),[]⟩) 8 ?_ ?_]
 obtain⟨j,l,_,_⟩:=aBc (n:=n) b 8 (by omega);have a:EV G (Tb (bs bb)) 12 [sv (Cu s n 8).2,vi 40,sv (Cu s n 8).1] []=some (sv (fE (Cu s n 8).2 40 (Cu s n 8).1),[]):=Ii (G:=G) (bb:=bb) (Cu s n 8).2 (Cu s n 8).1 40 (by omega) (by omega);rw[aMk b] at a;simp (disch:=first|omega|(simp only[aZA,aZB,aZC,aZz,aA,aZH,aZD,aZK,aC,aS]<;>omega)|fail) only[go_sem,h123l0,a]
 rfl;intro k o;obtain⟨j,l,_,_⟩:=aBc (n:=n) b k (by omega);have h:Cu s n (k+1)=((Cu s n k).1++gZ (Cu s n k).2 (64*k+62),fE (Cu s n k).2 (64*k+62) (bJ n 2)):=rfl;rw[h];have a:=Ii (G:=G) (bb:=bb) (Cu s n k).2 (bJ n 2) (64*k+62) (by rw[aA];omega) (by omega);have e:((k:Int)+1)*64-2=((64*k+62:Nat):Int):=by omega
 have p:64*k+62+2<=512:=by omega
 generalize 64*k+62=m at *;have f:((m:Int)+2).toNat=m+2:=by omega
 generalize Cu s n k=z at *;obtain⟨q,d⟩:=z;dsimp only at *;have g:(d.take (m+2)).drop m=gZ d m:=by rw[bAJ,bA5]
 simp (disch:=first|omega|(simp only[aZA,aZB,aZC,aZz,aA,aZH,aZD,aZK,aC,aS]<;>omega)|fail) only[go_sem,h123l0,e,c,a,f,g,bAc]
theorem aI7{s:L Int}(c:aJ s){a b:Nat}(e:a+2<=s.length)(f:b+2<=s.length):gL s a 2=gL s b 2↔gZ s a=gZ s b:=by
 rw[aHN e,aHN f,nE e,nE f];have j:=qL c a;have k:=qL c (a+1);have h3:=qL c b;have h4:=qL c (b+1);constructor;intro h;have g:s.getD a 0=s.getD b 0:=by omega
 have i:s.getD (a+1) 0=s.getD (b+1) 0:=by omega
 rw[g,i];intro h;injection h with h d
 injection d with d _
 rw[h,d]
open Classical in
theorem aNt(s:L Int)(r:s.length=512)(d:aJ s):EV G (Tb (bs bb)) 83 [sv s] []=some (if gU s then .tup [.one (.dc (.raw (.string (dI (eQ s))))),.one (.dc (.raw (.bool true)))] else .tup [.one (.dc (.raw (.string (dI [])))),.one (.dc (.raw (.bool false)))],[]):=by
 refine aB rfl ?_;have E:EV G (Tb (bs bb)) 15 [sv s,vi 40,vi 2] []=some (vi (gR s),[]):=cY (G:=G) (bb:=bb) s d 40 2 (by omega) (by omega) (by omega);have I:EV G (Tb (bs bb)) 30 [vi 18] []=some (sv (zl 18),[]):=mD (G:=G) (bb:=bb) 18 (by decide);have F:EV G (Tb (bs bb)) 12 [sv s,vi 40,sv (zl 18)] []=some (sv (Yr s 0),[]):=Ii (G:=G) (bb:=bb) s (zl 18) 40 (by rw[aS];omega) (by omega);have l:gU s↔∀i,i<8->¬ (gR s=0\/gL s (64*i+62) 2≠gR s):=by
  unfold gU gR;constructor;rintro⟨b,B⟩ i o h;rcases h with h|h
  exact b h;exact h ((aI7 d (by omega) (by omega)).2 (B i o));intro h;refine⟨fun A=>h 0 (by decide) (.inl A),fun i o=>?_⟩
  exact (aI7 d (by omega) (by omega)).1 (Classical.byContradiction fun b=>h i o (.inr b))
 simp (disch:=first|omega|(simp only[aZA,aZB,aZC,aZz,aA,aZH,aZD,aZK,aC,aS]<;>omega)|fail) only[go_sem,h83c,E,I,F]
 rw[dQ (fun k=>⟨(sv s::jk 3 (vi (gR s)::sv (Yr s k)::vi ((k:Int)+1)::jk 35 [])),[]⟩) (fun i=>gR s=0\/gL s (64*i+62) 2≠gR s) 8 ?_ ?_]
 rotate_left
 rfl;intro k D e;have b:=e k (aZE _);have f:¬ gR s=0:=fun h=>b (.inl h)
 have q:gL s (64*k+62) 2=gR s:=Classical.byContradiction fun h=>b (.inr h)
 clear b e l;have n:EV G (Tb (bs bb)) 15 [sv s,vi ((64*k+62:Nat):Int),vi 2] []=some (vi (gL s (64*k+62) 2),[]):=cY (G:=G) (bb:=bb) s d (64*k+62) 2 (by omega) (by omega) (by omega);rw[q] at n;have K:=(aHM r k (by omega)).1;have J:=kV (s:=s) (a:=42+2*k) (by omega);have t:=Ii (G:=G) (bb:=bb) (Yr s k) (gZ s (42+2*k)) (64*k+62) (by omega) (by omega);have C:Yr s (k+1)=fE (Yr s k) (64*k+62) (gZ s (42+2*k)):=rfl;rw[<- C] at t;have j:((k:Int)+1)*64-2=((64*k+62:Nat):Int):=by omega
 have u:40+2*((k:Int)+1)=((42+2*k:Nat):Int):=by omega
 have v:(s.take (42+2*k+2)).drop (42+2*k)=gZ s (42+2*k):=by rw[bAJ,bA5]
 have M:42+2*k+2<=512:=by omega
 generalize gR s=w at *;generalize 64*k+62=m at *;generalize 42+2*k=c at *;have x:((c:Int)+2).toNat=c+2:=by omega
 generalize gZ s c=y at *;generalize Yr s (k+1)=N at *;generalize Yr s k=z at *;simp (disch:=first|omega|(simp only[aZA,aZB,aZC,aZz,aA,aZH,aZD,aZK,aC,aS]<;>omega)|fail) only[go_sem,h83l0,j,u,n,t,f,v,x,bAc]
 obtain⟨D,hp,e⟩:=bF (fun i=>gR s=0\/gL s (64*i+62) 2≠gR s) 8
 generalize ix (fun i=>gR s=0\/gL s (64*i+62) 2≠gR s) 8=k at *
 rcases hp with rfl|⟨p,hp⟩;rw[if_pos (l.2 e),<- aMl r];simp (disch:=first|omega|(simp only[aZA,aZB,aZC,aZz,aA,aZH,aZD,aZK,aC,aS]<;>omega)|fail) only[go_sem,h83l0]
 rw[if_neg (fun h=>l.1 h k p hp)]
 clear e l;have n:EV G (Tb (bs bb)) 15 [sv s,vi ((64*k+62:Nat):Int),vi 2] []=some (vi (gL s (64*k+62) 2),[]):=cY (G:=G) (bb:=bb) s d (64*k+62) 2 (by omega) (by omega) (by omega);have j:((k:Int)+1)*64-2=((64*k+62:Nat):Int):=by omega
 generalize gL s (64*k+62) 2=g at *;generalize gR s=w at *;generalize 64*k+62=m at *;by_cases f:w=0
 ·simp (disch:=first|omega|(simp only[aZA,aZB,aZC,aZz,aA,aZH,aZD,aZK,aC,aS]<;>omega)|fail) only[go_sem,h83l0,j,eq_true f]
  all_goals rfl
 ·have q:¬ g=w:=by rcases hp with h|h;exact absurd h f;exact h
  simp (disch:=first|omega|(simp only[aZA,aZB,aZC,aZz,aA,aZH,aZD,aZK,aC,aS]<;>omega)|fail) only[go_sem,h83l0,j,n,f,q]
  all_goals rfl
end
section
variable {G:aF}{bb:Bool}
structure aYd (r:cL) (u:Int):Prop where
 ls:0<=r.ls/\r.ls<=9223372036854775807
 sq:0<=r.sq/\r.sq<=9223372036854775807
 li:0<=r.li/\r.li<=9223372036854775807
 fl:0<=r.fl/\r.fl<=9223372036854775807
 br:0<=r.br/\r.br<=9223372036854775807
 bq:0<=r.bq/\r.bq<=9223372036854775807
 nx:0<=r.nx/\r.nx<=9223372036854775807
 us:0<=u/\u<=9223372036854775807
abbrev fds(r:cL)(u:Int):AV:=.agg [.dc (ci r.ls),.dc (ci r.sq),.dc (ci r.li),.dc (ci r.fl),.dc (ci u),.dc (ci r.br),.dc (ci r.bq),.dc (ci r.nx)]
theorem aI8(r:cL)(u:Int)(a:aYd r u)(b:L Int)(g:b.length<=444)(n:Int)(o:0<=n/\n<=9223372036854775807):EV G (Tb (lA bb)) 84 [fds r u,sv b,vi n] []=some (sv (nD (iO r u b) n 8),[]):=by
 refine aB rfl ?_;have B:EV G (Tb (lA bb)) 30 [vi 4] []=some (sv (zl 4),[]):=up (mD (G:=G) (bb:=bb) 4 (by decide));have f:EV G (Tb (lA bb)) 30 [vi 24] []=some (sv (zl 24),[]):=up (mD (G:=G) (bb:=bb) 24 (by decide));have C:EV G (Tb (lA bb)) 30 [vi ((444-b.length:Nat):Int)] []=some (sv (zl (444-b.length)),[]):=up (mD (G:=G) (bb:=bb) (444-b.length) (by omega));have q:=up (qJ (G:=G) (bb:=bb) r.ls a.ls);have s:=up (mC (G:=G) (bb:=bb) r.sq a.sq);have t:=up (mC (G:=G) (bb:=bb) r.li a.li);have v:=up (mC (G:=G) (bb:=bb) 64 (by decide));have w:=up (mC (G:=G) (bb:=bb) r.fl a.fl);have x:=up (qJ (G:=G) (bb:=bb) u a.us);have y:=up (qJ (G:=G) (bb:=bb) 512 (by decide));have z:=up (qJ (G:=G) (bb:=bb) r.br a.br);have A:=up (mC (G:=G) (bb:=bb) r.bq a.bq);have d:=up (mC (G:=G) (bb:=bb) r.nx a.nx);have p:=up (aR1 (G:=G) (bb:=bb) (iO r u b) n (Bc r u b g) o);obtain⟨H,c⟩:∃H:L Int,H=[70,73,76,69]:=⟨_,rfl⟩;have i:(⟨#[70,73,76,69]⟩:ByteArray)=dI H:=by rw[c];rfl
 have e:H.length=4:=by rw[c];rfl
 have j:(⟨#[255,255,255,255]⟩:ByteArray)=dI rV:=rfl;have h:rV.length=4:=rfl;have D:=Bc r u b g;have m:dI (H++(zl 4++(bJ r.ls 4++(zl 4++(bJ r.sq 2++(bJ r.li 2++(bJ 64 2++(bJ r.fl 2++(bJ u 4++(bJ 512 4++(bJ r.br 4++(bJ r.bq 2++(bJ r.nx 2++(zl 24++(b++(rV++zl (444-b.length)))))))))))))))))=dI (iO r u b):=by
  rw[c];unfold iO rhd;simp only[aZP]
 have k:(64:Int)-((H++(zl 4++(bJ r.ls 4++(zl 4++(bJ r.sq 2++(bJ r.li 2++(bJ 64 2++(bJ r.fl 2++(bJ u 4++(bJ 512 4++(bJ r.br 4++(bJ r.bq 2++bJ r.nx 2)))))))))))).length:Int)=24:=by
  simp only[aZA,aA,aS,e];omega
 have l:(512:Int)-((H++(zl 4++(bJ r.ls 4++(zl 4++(bJ r.sq 2++(bJ r.li 2++(bJ 64 2++(bJ r.fl 2++(bJ u 4++(bJ 512 4++(bJ r.br 4++(bJ r.bq 2++(bJ r.nx 2++(zl 24++(b++rV))))))))))))))).length:Int)=((444-b.length:Nat):Int):=by
  simp only[aZA,aA,aS,e,h];omega
 clear c;generalize iO r u b=X at *;simp (maxSteps:=2000000) (disch:=first|omega|(simp only[aZA,aZB,aZC,aZz,aA,aZH,aZD,aZK,aC,aS,e,h]<;>omega)|fail) only[go_sem,h84c,B,f,C,q,s,t,v,w,x,y,z,A,d,p,i,j,k,l,aZP,m,aC]
end
section
variable {G:aF}{bb:Bool}
abbrev LR:L Nat:=[0,1,1,1,0,0,0]
abbrev rv9:L lC:=[.cell 2 true 9,.tmp 3]
abbrev Lr(s o:L Int)(c:L DC)(u:Int)(b:Nat)(a:L (L Int)):AS:=
 ⟨(sv s::jk 1 (.one (.ptr 0 0)::jk 1 (sv o::jk 1 (.one (.ptr 1 0)::vi u::.one (.bld 2 a.length)::vi b::jk 152 [])))),[.box z9,.box (kY c),.arr 0 1 (a.map pU)]⟩
theorem aI9(o:L Int)(a n:Nat):(o.take (a+n)).drop a=(o.drop a).take n:=by rw[bAJ,bA5]
theorem aNv(o:L Int)(a i k:Nat):gL (o.drop a) i k=gL o (a+i) k:=by unfold gL;rw[bAw]
theorem Wd(s o:L Int)(t:L DC)(u:Int)(R:o.length=512)(p:aJ o)(X:HC):∀(k at':Nat)(a:L (L Int)),512-at'<k->at'<=512->a.length+(512-at')<=1000-> (∀w,rW k (o.drop at')=some w->qC false rv9 0 (sqK (EV G (Tb (lO G bb))) G (.trm LR X) (Bn 0 (EL (EV G (Tb (lO G bb))) G h56l0 LR 3 (Lr s o t u at' a))))=qC false rv9 0 (EC (EV G (Tb (lO G bb))) G X (Lr s o t u (at'+w.flatten.length) (a++w))))/\ (rW k (o.drop at')=none->qC false rv9 0 (sqK (EV G (Tb (lO G bb))) G (.trm LR X) (Bn 0 (EL (EV G (Tb (lO G bb))) G h56l0 LR 3 (Lr s o t u at' a))))=some (dcv (.nil,0,3),[])\/ ∃ b r,508 < b/\b<=512/\r.length<=1000/\qC false rv9 0 (sqK (EV G (Tb (lO G bb))) G (.trm LR X) (Bn 0 (EL (EV G (Tb (lO G bb))) G h56l0 LR 3 (Lr s o t u at' a))))=qC false rv9 0 (EC (EV G (Tb (lO G bb))) G X (Lr s o t u b r)))
 |0,at',a,h,_,_=>by omega
 | k+1,at',a,h,M,hA=>by
  have E:gG 1 (a.map pU)=true:=jH (f:=pU) (fun _=>rfl) _
  have N:(a.map pU).take a.length=a.map pU:=aZ6 (by rw[aZz];exact aZE _);have m:(o.drop at').length=512 - at':=by rw[aZK,R]
  rw[Ps,rW];by_cases c0:at'+4<=512
  ·have c:(at':Int)+4<=512:=by omega
   have B:((at':Int)+4).toNat=at'+4:=by omega
   have D:(o.take (at'+4)).drop at'=(o.drop at').take 4:=aI9 o at' 4;have v:(dI ((o.drop at').take 4)=⟨#[255,255,255,255]⟩)=((o.drop at').take 4=rV):=cR (fun x Y=>p x (bAa (aZZ Y))) H9
   by_cases z:(o.drop at').take 4=rV
   ·refine⟨fun w hp=>?_,fun hp=>?_⟩
    ·rw[if_pos z] at hp;injection hp with hp
     subst hp;rw[eq_true z] at v;rw[bAy,List.flatten_nil,aZC,bAn];simp (disch:=first | omega | (simp only[aZA,aZB,aZC,aZz,aA,aZH,aZD,aZK,aC,aS]<;>omega) | fail) only[go_sem,h56l0,eq_true c,B,D,v,bAc,aZz]
     all_goals rfl
    ·rw[if_pos z] at hp;cases hp
   ·rw[if_neg z];rw[eq_false z] at v;by_cases c2:at'+8<=512
    ·have i:(at':Int)+8<=512:=by omega
     have q:EV G (Tb (lO G bb)) 15 [sv o,vi ((at':Int)+4),vi 4] []=some (vi (gL o (at'+4) 4),[]):=by
      have:=Fu (up (cY (G:=G) (bb:=bb) o p (at'+4) 4 (by omega) (by omega) (by omega)));rw[bAu] at this;exact this
     have V:=Bv p (at'+4) 4 (by omega) (by omega);have Q:gL o (at'+4) 4=(pO (o.drop at'):Int):=by unfold pO;rw[aNv];omega
     rw[Q] at q;have I:Ft (o.drop at')↔pO (o.drop at') % 8≠0\/pO (o.drop at') < 24\/(o.drop at').length < pO (o.drop at')+4:=Iff.rfl;have W:(pO (o.drop at'):Int)<=4294967295:=by omega
     clear V Q;generalize pO (o.drop at')=n at *;have C:((n:Int).tmod 8)=((n % 8:Nat):Int):=rfl;by_cases F:n % 8≠0\/n < 24\/(o.drop at').length < n+4
     ·have j:∀ {x:Option (L (L Int))},(if (o.drop at').length < 24 then none else if Ft (o.drop at') then none else x)=none:=fun {x}=>by
       split
       ·rfl
       ·rw[if_pos (I.2 F)]
      refine⟨fun w hp=>?_,fun _=>.inl ?_⟩
      ·rw[j] at hp;cases hp
      ·rw[m] at F;clear I j;by_cases Z:n % 8=0
       ·have g:(n:Int).tmod 8=0:=by rw[C,Z];rfl
        clear C;by_cases x2:n < 24
        ·have l:(n:Int) < 24:=by omega
         simp (disch:=first | omega | (simp only[aZA,aZB,aZC,aZz,aA,aZH,aZD,aZK,aC,aS]<;>omega) | fail) only[go_sem,h56l0,eq_true c,eq_true i,B,D,v,q,eq_true g,eq_true l,bAc,aZz,cL.nil]
         all_goals rfl
        ·have l:¬ (n:Int) < 24:=by omega
         have A:512 < (at':Int)+n+4:=by omega
         simp (disch:=first | omega | (simp only[aZA,aZB,aZC,aZz,aA,aZH,aZD,aZK,aC,aS]<;>omega) | fail) only[go_sem,h56l0,eq_true c,eq_true i,B,D,v,q,eq_true g,l,eq_true A,bAc,aZz,cL.nil]
         all_goals rfl
       ·have g:¬ (n:Int).tmod 8=0:=by rw[C];omega
        clear C;simp (disch:=first | omega | (simp only[aZA,aZB,aZC,aZz,aA,aZH,aZD,aZK,aC,aS]<;>omega) | fail) only[go_sem,h56l0,eq_true c,eq_true i,B,D,v,q,g,bAc,aZz,cL.nil]
        all_goals rfl
     ·have U:512 - (at'+n) < k:=by omega
      have d:¬ (o.drop at').length < 24:=by omega
      rw[if_neg d,if_neg (fun x=>F (I.1 x))]
      rw[m] at F;have O:=Wd s o t u R p X k (at'+n) (a++[(o.drop at').take n]) U (by omega) (by rw[aZA];simp;omega);have g:(n:Int).tmod 8=0:=by rw[C];omega
      clear C I;have l:¬ (n:Int) < 24:=by omega
      have A:¬ 512 < (at':Int)+n+4:=by omega
      have S:((at':Int)+n).toNat=at'+n:=by omega
      have K:(o.take (at'+n)).drop at'=(o.drop at').take n:=aI9 o at' n;have y:fnK (EV G (Tb (lO G bb))) G h56l0 LR 3 (EC (EV G (Tb (lO G bb))) G h56l0 (Lr s o t u at' a))=EL (EV G (Tb (lO G bb))) G h56l0 LR 3 (Lr s o t u (at'+n) (a++[(o.drop at').take n])):=by
       refine aH3 ?_;unfold Lr;rw[aZA,bAg,bAu];simp (disch:=first | omega | (simp only[aZA,aZB,aZC,aZz,aA,aZH,aZD,aZK,aC,aS]<;>omega) | fail) only[go_sem,h56l0,eq_true c,eq_true i,B,D,v,q,eq_true g,l,A,S,K,bAc,aZz,E,N,aZE,aZL,aZM,aZB,aZC]
      have J:o.drop (at'+n)=(o.drop at').drop n:=by rw[bAw]
      rw[J] at O;rw[y];clear y;refine⟨fun w hp=>?_,fun hp=>?_⟩
      ·obtain⟨P,T,rfl⟩:=Option.map_eq_some_iff.1 hp;have:=O.1 P (by rw[<- T]);rw[this];have el:at'+n+P.flatten.length=at'+((o.drop at').take n::P).flatten.length:=by
        rw[bAx,aZA,aZD,m];omega
       rw[el];simp only[aZP,List.singleton_append]
      ·exact O.2 (by simpa using hp)
    ·have i:¬ (at':Int)+8<=512:=by omega
     have d:(o.drop at').length < 24:=by omega
     rw[if_pos d];refine⟨fun w hp=>(by cases hp),fun _=>.inl ?_⟩
     have g:(0:Int).tmod 8=0:=rfl;simp (disch:=first | omega | (simp only[aZA,aZB,aZC,aZz,aA,aZH,aZD,aZK,aC,aS]<;>omega) | fail) only[go_sem,h56l0,eq_true c,i,B,D,v,g,bAc,aZz,cL.nil]
     all_goals rfl
  ·have c:¬ (at':Int)+4<=512:=by omega
   have z:¬ (o.drop at').take 4=rV:=fun h=>by
    have:=congrArg List.length h;rw[aZD,m] at this;have e:rV.length=4:=rfl;omega
   have d:(o.drop at').length < 24:=by omega
   rw[if_neg z,if_pos d];refine⟨fun w hp=>(by cases hp),fun _=>.inr ⟨at',a,by omega,M,by omega, ?_⟩⟩
   simp (disch:=first | omega | (simp only[aZA,aZB,aZC,aZz,aA,aZH,aZD,aZK,aC,aS]<;>omega) | fail) only[go_sem,h56l0,c,bAc,aZz]
   all_goals rfl
end
section
variable {G:aF}{bb:Bool}
def sH:HC->HC
 |.gh _ a=>a
 |c=>c
def nY:HC:=sT (sB (sB (sH (sB (sB (sB (sB (sB (sB (sB h56c))))))))))
def Rb:HC:=sB (sH (sB (sB nY)))
abbrev fd8(o:L Int):L DC:=[ci (gL o 8 4),ci (gL o 16 2),ci (gL o 18 2),ci (gL o 22 2),ci (gL o 24 4),ci (gL o 32 4),ci (gL o 36 2),ci (gL o 38 2)]
theorem aNw(s o:L Int)(d:L DC)(u:Int)(b:Nat)(e:508<b/\b<=512)(a:L (L Int)):qC false rv9 0 (EC (EV G (Tb (lO G bb))) G nY (Lr s o d u b a))=some (aRA 3,[]):=by
 have c:512<(b:Int)+4:=by omega
 simp (disch:=first|omega|(simp only[aZA,aZB,aZC,aZz,aA,aZH,aZD,aZK,aC,aS]<;>omega)|fail) only[go_sem,nY,sT,sB,sH,h56c,eq_true c]
theorem aNx(o:List Int)(u:Int)(a:List (List Int))(K:a.length<=1000)(b:∀k (g:k<a.length),EV G (Tb (lO G bb)) 85 [sv a[k]] []=some (rtv (bN a[k]),[])) (l:EV G (Tb (lO G bb)) 86 [(dZ o (iK a).1).v] []=some (vi (hZ (dZ o (iK a).1)),[])) {st:AS} (y:st=⟨(jk 2 (.one (.ptr 0 0)::jk 4 (vi u::.one (.bld 2 a.length)::jk 2 (.one (.ptr 3 0)::vi (0:Nat)::jk 149 [])))),[.box z9,.box (kY (fd8 o)),.arr 0 1 (a.map pU),.box (r9 o++[.bld 4 0]),.arr 0 11 []]⟩):qC false rv9 0 (sqK (EV G (Tb (lO G bb))) G Rb (Bn 2 (EL (EV G (Tb (lO G bb))) G h56l1 [2,4,0,2,0] 5 st)))=some (dcv (V1 o u (iK a)),[]):=by
 have h:∀k (g:k<a.length),(a.map pU)[k]?=some (pU a[k]):=fun k g=>by rw[aZI,aZJ g];rfl
 have q:∀k (g:k<a.length),a.getD k []=a[k]:=fun k g=>by simp[List.getD,g]
 rw[dQ (fun k=>⟨(jk 2 (.one (.ptr 0 0)::jk 4 (vi u::.one (.bld 2 a.length)::jk 2 (.one (.ptr 3 0)::vi k::jk 149 [])))),[.box z9,.box (kY (fd8 o)),.arr 0 1 (a.map pU),.box (r9 o++[.bld 4 ((a.take k).map fun p=>(bN p).1.e).length]),.arr 0 11 ((a.take k).map fun p=>(bN p).1.e)]⟩) (fun k=>(bN (a.getD k [])).2≠0) a.length ?_ ?_]
 rotate_left
 rw[y];rfl;intro k g n;have D:=Classical.not_not.1 (n k (aZE _));rw[q k g] at D;have t:=b k g;have e:=h k g;have N:((a.take k).map fun p=>(bN p).1.e).length<=1000:=by rw[aZz,aZD];omega
 have s:gG 11 ((a.take k).map fun p=>(bN p).1.e)=true:=jH (f:=fun p=>(bN p).1.e) (fun _=>rfl) _
 have F:(a.take (k+1)).map (fun p=>(bN p).1.e)=(a.take k).map (fun p=>(bN p).1.e)++[(bN a[k]).1.e]:=by
  rw[bAB g,bAg,aZL,aZM]
 rw[F];clear l b h q y n F;have B:((a.take k).map fun p=>(bN p).1.e).take ((a.take k).map fun p=>(bN p).1.e).length=(a.take k).map fun p=>(bN p).1.e:=bAi
 generalize (a.take k).map (fun p=>(bN p).1.e)=C at *
 generalize bN a[k]=d at *;obtain⟨x,z⟩:=d;dsimp only at D t ⊢;subst D;generalize a[k]=p at *;rw[aZA];simp (disch:=omega) only[go_sem,h56l1,aZz,e,t,aI.e,s,B,aZB,aZC,aZE,aZW,aZR,bAm];obtain⟨g,hp,n⟩:=bF (fun k=>(bN (a.getD k [])).2≠0) a.length
 generalize ix (fun k=>(bN (a.getD k [])).2≠0) a.length=k at *
 rcases hp with rfl|⟨i,hp⟩
 have r:=Ld a (fun p hp=>by
  obtain⟨j,A,rfl⟩:=List.mem_iff_getElem.1 hp;have:=Classical.not_not.1 (n j A);rwa[q j A] at this)
 have E:(a.take a.length).map (fun p=>(bN p).1.e)=(a.map fun p=>(bN p).1).map aI.e:=by rw[bAi,aZ5];rfl
 have m:((a.map fun p=>(bN p).1).map aI.e).length=a.length:=by simp
 have I:((a.map fun p=>(bN p).1).map aI.e).take a.length=(a.map fun p=>(bN p).1).map aI.e:=aZ6 (by omega)
 rw[E,m];rw[r] at l ⊢;unfold V1;rw[if_neg (not_not_intro rfl)];dsimp only at l ⊢;clear b h q y r E n;generalize (a.map fun p=>(bN p).1)=L at *
 by_cases w:hZ (dZ o L)=0;rw[if_neg (not_not_intro w)];rw[w] at l;simp only[dZ,cL.v,cL.c] at l;generalize J:L.map aI.e=M at *;simp (disch:=omega) only[go_sem,Rb,nY,sT,sB,sH,h56c,h56l1,aZz,l,m,I,aZE,aZW,aZR];simp only[dcv,dZ,cL.c,J,aZW,aZR];rw[if_pos w,qZ];generalize hZ (dZ o L)=O at *;simp only[dZ,cL.v,cL.c] at l;generalize L.map aI.e=M at *;simp (disch:=omega) only[go_sem,Rb,nY,sT,sB,sH,h56c,h56l1,aZz,l,w,m,I,aZE,aZW,aZR];have r:=Le a k i (fun j A=>Classical.not_not.1 (n j A)) hp
 rw[q k i] at hp r;rw[r];unfold V1;dsimp only;rw[if_pos hp,qZ];have t:=b k i;have e:=h k i;clear b h q y r n l;generalize (a.take k).map (fun p=>(bN p).1.e)=C at *
 generalize bN a[k]=d at *;obtain⟨x,z⟩:=d;dsimp only at hp t ⊢;generalize a[k]=p at *;simp (disch:=omega) only[go_sem,Rb,nY,sT,sB,sH,h56c,h56l1,aZz,e,t,aI.e,hp,aZW,aZR]
theorem aR2{b:L Int}(c:b.length=512)(a:aJ b)(n:Int):aJ (nD b n 8):=by
 intro x f;obtain⟨j,d,rfl⟩:=List.mem_iff_getElem.1 f;have e:(nD b n 8)[j]=(nD b n 8).getD j 0:=by simp[aZN,d]
 rw[e,N3 c 8 (by omega)];unfold ptG
 repeat' split
 all_goals first|omega|exact qL a _
theorem aNy(s o:L Int)(E:aJ s)(P:o.length=512)(a:aJ o)(u:Int)(Q:0<=u/\u<=65535)(b:L (L Int))(p:b.length<=1000)(fl:L Int)(hf:fl.length<=444)(n:aJ fl)(i:o.take (64+fl.length)=o.take 64++fl) (g:∀k (O:k<b.length),EV G (Tb (lO G bb)) 85 [sv b[k]] []=some (rtv (bN b[k]),[])) (K:EV G (Tb (lO G bb)) 86 [(dZ o (iK b).1).v] []=some (vi (hZ (dZ o (iK b).1)),[])) (d:cL×Int×Int)
  (e:d=if gL o 24 4=68+fl.length/\nD (iO (dZ o []) (gL o 24 4) fl) u 8=s then V1 o u (iK b) else (.nil,0,3)):
  qC false rv9 0 (EC (EV G (Tb (lO G bb))) G nY (Lr s o (fd8 o) u (64+fl.length) b))=some (dcv d,[]):=by
 have x:=Bv a 16 2 (by omega) (by omega);have y:=Bv a 18 2 (by omega) (by omega);have z:=Bv a 22 2 (by omega) (by omega);have A:=Bv a 32 4 (by omega) (by omega);have B:=Bv a 36 2 (by omega) (by omega);have C:=Bv a 38 2 (by omega) (by omega);have D:=Bv a 8 4 (by omega) (by omega);have M:=Bv a 24 4 (by omega) (by omega);have r:=Fu (aI8 (G:=G) (bb:=bb) (dZ o []) (gL o 24 4) ⟨by simp only[dZ];omega,by simp only[dZ];omega,by simp only[dZ];omega,by simp only[dZ];omega,by simp only[dZ];omega,by simp only[dZ];omega,by simp only[dZ];omega,by omega⟩ fl hf u (by omega));have t:(o.take (64+fl.length)).drop 64=fl:=by rw[i,List.drop_left' (by rw[aZD];omega)]
 have m:¬ 512<(68+fl.length:Int):=by omega
 have w:((64:Int)+(fl.length:Int)).toNat=64+fl.length:=by omega
 have c:(64:Int)+(fl.length:Int)+4=68+(fl.length:Int):=by omega
 have J:(64:Int)+(fl.length:Int)<=512:=by omega
 have q:=aNx (G:=G) (bb:=bb) o u b p g K rfl;have I:=aR2 (Bc (dZ o []) (gL o 24 4) fl hf) (Ef (dZ o []) (gL o 24 4) fl n) u;generalize nD (iO (dZ o []) (gL o 24 4) fl) u 8=Y at *;simp only[dZ] at r;have l:=cR I E;clear x y z A B C D i;generalize N:fl.length=F at *;by_cases f:gL o 24 4=68+F;by_cases j:Y=s;rw[if_pos ⟨f,j⟩] at e;subst e;rw[eq_true j] at l;simp (maxSteps:=2000000) (disch:=first|omega|(simp only[aZA,aZB,aZC,aZz,aA,aZH,aZD,aZK,aC,aS]<;>omega)|fail) only[go_sem,nY,sT,sB,sH,h56c,kY,aZL,aZM,bAu,c,m,eq_true f,t,w,Int.reduceToNat,r,l,Jr]
 exact q;rw[if_neg (fun h=>j h.2)] at e
 subst e;rw[eq_false j] at l;rw[qZ];simp (maxSteps:=2000000) (disch:=first|omega|(simp only[aZA,aZB,aZC,aZz,aA,aZH,aZD,aZK,aC,aS]<;>omega)|fail) only[go_sem,nY,sT,sB,sH,h56c,kY,aZL,aZM,bAu,c,m,eq_true f,t,w,Int.reduceToNat,r,l,Jr]
 rw[if_neg (fun h=>f h.1)] at e
 subst e;rw[qZ];simp (maxSteps:=2000000) (disch:=first|omega|(simp only[aZA,aZB,aZC,aZz,aA,aZH,aZD,aZK,aC,aS]<;>omega)|fail) only[go_sem,nY,sT,sB,sH,h56c,kY,aZL,aZM,bAu,c,m,f,Int.reduceToNat]
theorem aBK(s:L Int)(l:aJ s)(W:s.length<=9223372036854775807):EV G (Tb (lO G bb)) 56 [sv s] []=some (dcv (dG s),[]):=by
 refine aB rfl ?_;unfold dG;by_cases g:s.length=512;rw[if_neg (not_not_intro g)];have t:=Fu (up (aNt (G:=G) (bb:=bb) s g l));by_cases o:gU s;rw[if_neg (not_not_intro o)];rw[if_pos o] at t;have A:=qK g;have a:=Ky g l;have X:=Yy g l o;have C:EV G (Tb (lO G bb)) 15 [sv s,vi 40,vi 2] []=some (vi (gR s),[]):=Fu (up (cY (G:=G) (bb:=bb) s l 40 2 (by omega) (by omega) (by omega)));have D:EV G (Tb (lO G bb)) 15 [sv (eQ s),vi 16,vi 2] []=some (vi (gL (eQ s) 16 2),[]):=Fu (up (cY (G:=G) (bb:=bb) (eQ s) a 16 2 (by omega) (by omega) (by omega)));have E:EV G (Tb (lO G bb)) 15 [sv (eQ s),vi 18,vi 2] []=some (vi (gL (eQ s) 18 2),[]):=Fu (up (cY (G:=G) (bb:=bb) (eQ s) a 18 2 (by omega) (by omega) (by omega)));have F:EV G (Tb (lO G bb)) 15 [sv (eQ s),vi 22,vi 2] []=some (vi (gL (eQ s) 22 2),[]):=Fu (up (cY (G:=G) (bb:=bb) (eQ s) a 22 2 (by omega) (by omega) (by omega)));have I:EV G (Tb (lO G bb)) 15 [sv (eQ s),vi 32,vi 4] []=some (vi (gL (eQ s) 32 4),[]):=Fu (up (cY (G:=G) (bb:=bb) (eQ s) a 32 4 (by omega) (by omega) (by omega)));have J:EV G (Tb (lO G bb)) 15 [sv (eQ s),vi 36,vi 2] []=some (vi (gL (eQ s) 36 2),[]):=Fu (up (cY (G:=G) (bb:=bb) (eQ s) a 36 2 (by omega) (by omega) (by omega)));have K:EV G (Tb (lO G bb)) 15 [sv (eQ s),vi 38,vi 2] []=some (vi (gL (eQ s) 38 2),[]):=Fu (up (cY (G:=G) (bb:=bb) (eQ s) a 38 2 (by omega) (by omega) (by omega)));have M:EV G (Tb (lO G bb)) 15 [sv (eQ s),vi 8,vi 4] []=some (vi (gL (eQ s) 8 4),[]):=Fu (up (cY (G:=G) (bb:=bb) (eQ s) a 8 4 (by omega) (by omega) (by omega)));have N:EV G (Tb (lO G bb)) 15 [sv (eQ s),vi 24,vi 4] []=some (vi (gL (eQ s) 24 4),[]):=Fu (up (cY (G:=G) (bb:=bb) (eQ s) a 24 4 (by omega) (by omega) (by omega)));have j:=Wd (G:=G) (bb:=bb) s (eQ s) (fd8 (eQ s)) (gR s) A a nY 449 64 [] (by decide) (by decide) (by decide);have i:Ak ((eQ s).drop 64)=rW 449 ((eQ s).drop 64):=by
  unfold Ak;rw[aZK,A]
 cases r:Ak ((eQ s).drop 64) with
 |none=>
  dsimp only;rw[qZ];have f:=j.2 (by rw[<- i];exact r);have z:qC false rv9 0 (sqK (EV G (Tb (lO G bb))) G (.trm LR nY) (Bn 0 (EL (EV G (Tb (lO G bb))) G h56l0 LR 3 (Lr s (eQ s) (fd8 (eQ s)) (gR s) 64 []))))=some (aRA 3,[]):=by
   rcases f with f|⟨b,B,v,w,V,f⟩;rw[f,qZ];rw[f,aNw _ _ _ _ _ ⟨v,w⟩]
  clear j f;generalize gR s=u at *;simp (maxSteps:=2000000) (disch:=omega) only[go_sem,h56c,aC,g,t,C,D,E,F,I,J,K,M,N];exact z
 |some e=>
  dsimp only;obtain⟨O,y,h3,h4⟩:=Yz g l r;obtain⟨S,Q,T,U⟩:=Qt _ _ _ (show rW 449 ((eQ s).drop 64)=some e by rw[<- i];exact r);have f:=j.1 e (by rw[<- i];exact r);have p:=aQ6 g l r;have m:∀ k (f:k < e.length),EV G (Tb (lO G bb)) 85 [sv e[k]] []=some (rtv (bN e[k]),[]):=fun k f=>by
   obtain⟨v,w,_⟩:=O _ (aZG f);rw[aQW v w];exact Fu (up (Yp (G:=G) (bb:=bb) e[k] v w))
  have R:=Fu (aMF (G:=G) (bb:=bb) (dZ (eQ s) (iK e).1) p);have q:(eQ s).take (64+e.flatten.length)=(eQ s).take 64++e.flatten:=by
   rw[List.take_add,Q]
  have n:=aHW g l o e.flatten y;have P:=aNy (G:=G) (bb:=bb) s (eQ s) l A a (gR s) (by omega) e (by omega) e.flatten y h4 q m R (U3 s e) (by
   unfold U3;by_cases c:iO (dZ (eQ s) []) (68+(e.flatten.length:Int)) e.flatten=eQ s
   ·rw[if_neg (not_not_intro c),if_pos (n.1 c)];rfl
   ·rw[if_pos c,if_neg (fun h=>c (n.2 h))])
  rw[aZR] at f;rw[P] at f;clear j P i O y h3 h4 S Q T U m R q n p;generalize U3 s e=d at *;generalize gR s=u at *;simp (maxSteps:=2000000) (disch:=omega) only[go_sem,h56c,aC,g,t,C,D,E,F,I,J,K,M,N];exact f
 rw[if_pos o];rw[if_neg o] at t;rw[qZ];simp (disch:=omega) only[go_sem,h56c,aC,g,t];rw[if_pos g];have x:¬ (s.length:Int)=512:=by omega
 rw[qZ];simp (disch:=omega) only[go_sem,h56c,aC,x]
end
section
variable {G:aF}{bb:Bool}
def hCR:HF:={ h60 with own:=false }
def tb5:FuncId->Option HF:=fun f=>if f=60 then some hCR else if f=24 then some h24 else if f=7 then some h7 else none
noncomputable def T5(G:aF)(b:Bool):HT:=⟨tb5,EV G (Tb (dU G b))⟩
theorem aWm{b:Bool}:Xq Tryz.prog (T5 G b):=by
 intro f h hf;change tb5 f=some h at hf;unfold tb5 at hf;split at hf;rename_i e;subst e;injection hf with hf;subst hf;exact⟨by kernel_rfl,_,Tryz.func60,Tryz.ntmps60,h60_ok,aPl⟩
 split at hf;rename_i e;subst e;injection hf with hf;subst hf;exact⟨by kernel_rfl,_,Tryz.func24,Tryz.ntmps24,h24_ok,aPk⟩
 split at hf;rename_i e;subst e;injection hf with hf;subst hf;exact⟨by kernel_rfl,_,Tryz.func7,Tryz.ntmps7,h7_ok,aTh⟩
 cases hf
theorem t5{b:Bool}{f:FuncId}{a:L AV}{hp:L aD}{r:AV×L aD}(h:EV G (Tb (dU G b)) f a hp=some r)(c:tb5 f=none:=by decide):EV G (T5 G b) f a hp=some r:=jG c h
theorem aNz{b:Bool}(j:b=true->QC Tryz.prog G 4 [] (.one (.dc (.raw (.bool true))))):cI Tryz.prog G (EV G (T5 G b)):=by
 intro f a hp d i h c e;obtain⟨n,g⟩:=jW h;refine uY aWm ?_ n f a hp d i g c e;intro f a hp d i h c e;obtain⟨n,g⟩:=jW h;exact uY (aAD (dU G b)) (aIy j) n f a hp d i g c e
end
section
variable {G:aF}{bb:Bool}
noncomputable def vwV(s:L Int):(Bt×L aX×Int)×Int:=if mO s=0 then (((aQ s).1,(nR s).rs,(Ex s:Int)),0) else ((nB,[],0),mO s)
abbrev aYf(p:(Bt×L aX×Int)×Int):AV:=.tup [.agg [.dc (ci p.1.1.cl),.dc (ci p.1.1.tb),.dc (ci p.1.1.mi),.dc (ci p.1.1.lg),.dc (ci p.1.1.lc),.dc (ci p.1.1.se),.dc (.slc (p.1.2.1.map aX.e)),.dc (ci p.1.2.2)],tE p.2]
noncomputable def F8(s:L Int)(C:L Int)(n:Nat):L Int:=qB s (C.getD (2*n) 0).toNat (C.getD (2*n+1) 0).toNat
def Mj(s:L Int)(x:Bt)(n:Nat):L Int:=qB s (x.mi.toNat+2*n) (x.mi.toNat+2*n+1)
noncomputable def Wj(s:L Int)(x:Bt)(C:L Int)(k:Nat):L Int:=((List.range k).filter fun n=>!decide (F8 s C n=Mj s x n)).map Int.ofNat
theorem aOm(s:L Int)(x:Bt)(C:L Int)(k:Nat):Wj s x C (k+1)=if F8 s C k=Mj s x k then Wj s x C k else Wj s x C k++[(k:Int)]:=by
 unfold Wj;rw[List.range_succ,List.filter_append,List.filter_cons,List.filter_nil,bAg];by_cases h:F8 s C k=Mj s x k;rw[if_pos h,if_neg (by simp[h]),aZM,bAy];rw[if_neg h,if_pos (by simp[h])];rfl
theorem aNA(s:L Int)(x:Bt)(C:L Int)(k:Nat):(Wj s x C k).length<=k:=by
 unfold Wj;rw[aZz];exact Nat.le_trans (List.length_filter_le _ _) (by simp)
noncomputable def mrV(s:L Int):L Int×Int:=if mO s=0 then (Wj s (aQ s).1 (jD s) 4,0) else ([],mO s)
end
section
variable {G:aF}{bb:Bool}
theorem aBL(l:L aX)(a:l.length<=1000000):EV G (T5 G bb) 60 [cW l] []=some (cW l,[]):=by
 refine aB (h:=hCR) rfl ?_;simp only[hCR];simp (maxSteps:=2000000) (disch:=omega) only[go_sem,h60c,aZz]
theorem aR3{s:L Int}(b:(aQ s).2.2=0)(c:(mH s).2.2=0)(h3:¬ jA jC (mH s).1.ats<0)(h4:(nR s).res=false)(h5:(nR s).fi=0):mO s=rnE (aQ s).1 (nR s).rs:=by
 have a:mX s=En (aQ s).1 (nR s):=by
  unfold mX;rw[if_neg (not_not_intro b),if_neg (not_not_intro c),if_neg h3]
 unfold mO rnE;rw[a];unfold En Mg jD;rw[h4,decide_eq_true h5,aZ2,aZ8,eL,aW];generalize (nR s).rs.any (fun r=>decide (r.s=-1))=A
 generalize (nR s).rs.any (fun r=>decide (r.s+r.n > (aQ s).1.cl))=E
 generalize clE (aQ s).1 (tU (nR s).rs)=C;cases A;cases E<;>rfl;rfl
theorem aR4{s:L Int}(c:(aQ s).2.2=0)(d:(mH s).2.2=0)(h3:¬ jA jC (mH s).1.ats<0)(h4:(nR s).res=true\/¬ (nR s).fi=0):mO s=15:=by
 have a:mX s=En (aQ s).1 (nR s):=by
  unfold mX;rw[if_neg (not_not_intro c),if_neg (not_not_intro d),if_neg h3]
 have b:En (aQ s).1 (nR s)=15:=by
  unfold En;have:(!(nR s).res&&decide ((nR s).fi=0))=false:=by
   rcases h4 with h|h;rw[h];rfl;rw[decide_eq_false h,Bool.and_false]
  rw[this,fK,aZ _ _ (by decide)]
 unfold mO;rw[a,b,if_pos (by decide)]
theorem aR5(s:L Int)(U:aJ s)(hl:s.length<=200000):EV G (T5 G bb) 24 [sv s] []=some (aYf (vwV s),[]):=by
 have q:=t5 (b:=bb) (Ol (G:=G) (B:=dU G bb) s U hl);by_cases k:(aQ s).2.2=0;have b:=Ie k;have b2:=b.cl;have b3:=b.n;have b4:=b.tb;have b5:=b.mi;have cT:=t5 (b:=bb) (Ra (G:=G) (B:=dU G bb) s (aQ s).1.tb.toNat (by omega) hl);have p:=t5 (b:=bb) (Ra (G:=G) (B:=dU G bb) s (aQ s).1.mi.toNat (by omega) hl);rw[show (((aQ s).1.tb.toNat:Nat):Int)=(aQ s).1.tb by omega] at cT;rw[show (((aQ s).1.mi.toNat:Nat):Int)=(aQ s).1.mi by omega] at p;change EV G (T5 G bb) _ _ _=some (sv (Ew s (aQ s).1),[]) at cT;change EV G (T5 G bb) _ _ _=some (sv (Lu s (aQ s).1),[]) at p;have dT:=t5 (upT (aBK (G:=G) (bb:=bb) (Ew s (aQ s).1) (kA U _ _) (by unfold Ew;rw[Bj (by omega) (by omega)];omega)));have dM:=t5 (upT (aBK (G:=G) (bb:=bb) (Lu s (aQ s).1) (kA U _ _) (by unfold Lu;rw[Bj (by omega) (by omega)];omega)));have m:mH s=Q2 (Ew s (aQ s).1) (Lu s (aQ s).1):=rfl;unfold Q2 at m;have R:=Q3 s U;have oK:=@V4 s;have oA:=@Lh s U;have c:=@aR4 s k;have d:=@aR3 s k;have f:∀l:L aX,sP l->(∀q∈l,(-1<=q.s/\q.s<=1000)/\(0<=q.n/\q.n<=4096))->cE l<=4096->EV G (T5 G bb) 59 [(aQ s).1.v,cW l] []=some (vi (rnE (aQ s).1 l),[]):=fun l a1 a2 a3=>
  t5 (aR0 (G:=G) (B:=dU G bb) (aQ s).1 l ⟨by omega,by omega,by omega⟩ a1 a2 a3)
 by_cases g:(dG (Ew s (aQ s).1)).2.2=0;rw[if_pos g] at m;rw[m] at R oK oA c d;have C:nR s=(dG (Ew s (aQ s).1)).1.ats.getD (jA jC (dG (Ew s (aQ s).1)).1.ats).toNat aI.nil:=by unfold nR;rw[m]
 have y:jA jC (dG (Ew s (aQ s).1)).1.ats < 0->mO s=6:=fun hi=>by
  unfold mO mX;rw[m,if_neg (not_not_intro k),if_neg (not_not_intro g),if_pos hi,if_pos (by decide)]
 have X:vwV s=if mO s=0 then (((aQ s).1,(nR s).rs,(Ex s:Int)),0) else ((nB,[],0),mO s):=rfl
 have t:=t5 (b:=bb) (Wc (G:=G) (B:=dU G bb) (dG (Ew s (aQ s).1)).1 (by have:=R.1.ln;omega));replace oA:=oA g;replace c:=c g;replace d:=d g;have M:Ex s=(tU (nR s).rs).length / 2:=rfl;clear m;rw[X];clear X R;generalize dG (Ew s (aQ s).1)=P at *;generalize dG (Lu s (aQ s).1)=Q at *;generalize Ew s (aQ s).1=ST at *;generalize Lu s (aQ s).1=SM at *;generalize mO s=E at *;generalize Ex s=Y at *;generalize nR s=A at *;obtain⟨r,u,e⟩:=P;obtain⟨O,u',e'⟩:=Q;generalize aQ s=V at *;obtain⟨x,a,w⟩:=V;simp only at k g oA oK c d f t y C;subst k;by_cases h3:jA jC r.ats<0;have y:=y h3;subst y;rw[if_neg (by decide)];generalize jA jC r.ats=I at *;refine aB rfl ?_;simp (maxSteps:=2000000) (disch:=omega) only[go_sem,h24c,q,cT,p,dT,dM,eq_true g,t,h3,Bt.cs,aZW,aZR];rfl;obtain⟨K,F,k1,W,_⟩:=oK h3;obtain⟨T,z⟩:=oA h3;obtain⟨J,c2,S⟩:=Bk (qO T z);replace c:=c h3;replace d:=d h3;have hw:gP A.rs=cE A.rs:=Yb (qO T z);have N:=A2 A.rs (fun r h=>(S r h).2.1)
 have cp:=aBL (G:=G) (bb:=bb) A.rs (by have:=J.len;omega);have lq:=t5 (b:=bb) (rM (G:=G) (B:=dU G bb) A.rs (by have:=J.len;omega));have dv:(gP A.rs).tdiv 2=(Y:Int):=by rw[M,hw,<- N,bBk (by omega)];omega
 replace f:=f A.rs J S c2;clear C y oK oA;have D:r.ats[K].e=A.e:=by rw[<- W]
 generalize jA jC r.ats=I at *;subst k1;have i:¬ (K:Int)<0:=by omega
 have j:(K:Int)<r.ats.length:=by omega
 clear W;by_cases h4:A.res=true;have c:=c (.inl h4);subst c;rw[if_neg (by decide)];refine aB rfl ?_;simp (maxSteps:=2000000) (disch:=omega) only[go_sem,h24c,q,cT,p,dT,dM,eq_true g,t,i,j,F,aZz,ixA,D,h4,Bt.cs,aZW,aZR];rfl;have h4:A.res=false:=by simpa using h4
 by_cases h5:A.fi=0;have d:=d h4 h5;subst d;generalize rnE x A.rs=Z at *;by_cases h6:Z=0
 ·subst h6;rw[if_pos rfl];refine aB rfl ?_;simp (maxSteps:=2000000) (disch:=omega) only[go_sem,h24c,q,cT,p,dT,dM,eq_true g,t,i,j,F,aZz,ixA,D,h4,eq_true h5,f,cp,lq,dv,Bt.cs,aZW,aZR];try rfl
 rw[if_neg h6];refine aB rfl ?_;simp (maxSteps:=2000000) (disch:=omega) only[go_sem,h24c,q,cT,p,dT,dM,eq_true g,t,i,j,F,aZz,ixA,D,h4,eq_true h5,f,h6,Bt.cs,aZW,aZR];rfl;have c:=c (.inr h5);subst c;rw[if_neg (by decide)];refine aB rfl ?_;simp (maxSteps:=2000000) (disch:=omega) only[go_sem,h24c,q,cT,p,dT,dM,eq_true g,t,i,j,F,aZz,ixA,D,h4,h5,Bt.cs,aZW,aZR];rfl;rw[if_neg g] at m;by_cases o:(dG (Lu s (aQ s).1)).2.2=0;rw[if_pos o] at m;rw[m] at R oK oA c d;have C:nR s=(dG (Lu s (aQ s).1)).1.ats.getD (jA jC (dG (Lu s (aQ s).1)).1.ats).toNat aI.nil:=by unfold nR;rw[m]
 have y:jA jC (dG (Lu s (aQ s).1)).1.ats < 0->mO s=6:=fun hi=>by
  unfold mO mX;rw[m,if_neg (not_not_intro k),if_neg (not_not_intro o),if_pos hi,if_pos (by decide)]
 have X:vwV s=if mO s=0 then (((aQ s).1,(nR s).rs,(Ex s:Int)),0) else ((nB,[],0),mO s):=rfl
 have t:=t5 (b:=bb) (Wc (G:=G) (B:=dU G bb) (dG (Lu s (aQ s).1)).1 (by have:=R.1.ln;omega));replace oA:=oA o;replace c:=c o;replace d:=d o;have M:Ex s=(tU (nR s).rs).length / 2:=rfl;clear m;rw[X];clear X R;generalize dG (Ew s (aQ s).1)=P at *;generalize dG (Lu s (aQ s).1)=Q at *;generalize Ew s (aQ s).1=ST at *;generalize Lu s (aQ s).1=SM at *;generalize mO s=E at *;generalize Ex s=Y at *;generalize nR s=A at *;obtain⟨r,u,e⟩:=P;obtain⟨O,u',e'⟩:=Q;generalize aQ s=V at *;obtain⟨x,a,w⟩:=V;simp only at k g o oA oK c d f t y C;subst k;by_cases h3:jA jC O.ats<0;have y:=y h3;subst y;rw[if_neg (by decide)];generalize jA jC O.ats=I at *;refine aB rfl ?_;simp (maxSteps:=2000000) (disch:=omega) only[go_sem,h24c,q,cT,p,dT,dM,g,eq_true o,t,h3,Bt.cs,aZW,aZR];rfl;obtain⟨K,F,k1,W,_⟩:=oK h3;obtain⟨T,z⟩:=oA h3;obtain⟨J,c2,S⟩:=Bk (qO T z);replace c:=c h3;replace d:=d h3;have hw:gP A.rs=cE A.rs:=Yb (qO T z);have N:=A2 A.rs (fun r h=>(S r h).2.1)
 have cp:=aBL (G:=G) (bb:=bb) A.rs (by have:=J.len;omega);have lq:=t5 (b:=bb) (rM (G:=G) (B:=dU G bb) A.rs (by have:=J.len;omega));have dv:(gP A.rs).tdiv 2=(Y:Int):=by rw[M,hw,<- N,bBk (by omega)];omega
 replace f:=f A.rs J S c2;clear C y oK oA;have D:O.ats[K].e=A.e:=by rw[<- W]
 generalize jA jC O.ats=I at *;subst k1;have i:¬ (K:Int)<0:=by omega
 have j:(K:Int)<O.ats.length:=by omega
 clear W;by_cases h4:A.res=true;have c:=c (.inl h4);subst c;rw[if_neg (by decide)];refine aB rfl ?_;simp (maxSteps:=2000000) (disch:=omega) only[go_sem,h24c,q,cT,p,dT,dM,g,eq_true o,t,i,j,F,aZz,ixA,D,h4,Bt.cs,aZW,aZR];rfl;have h4:A.res=false:=by simpa using h4
 by_cases h5:A.fi=0;have d:=d h4 h5;subst d;generalize rnE x A.rs=Z at *;by_cases h6:Z=0
 ·subst h6;rw[if_pos rfl];refine aB rfl ?_;simp (maxSteps:=2000000) (disch:=omega) only[go_sem,h24c,q,cT,p,dT,dM,g,eq_true o,t,i,j,F,aZz,ixA,D,h4,eq_true h5,f,cp,lq,dv,Bt.cs,aZW,aZR];try rfl
 rw[if_neg h6];refine aB rfl ?_;simp (maxSteps:=2000000) (disch:=omega) only[go_sem,h24c,q,cT,p,dT,dM,g,eq_true o,t,i,j,F,aZz,ixA,D,h4,eq_true h5,f,h6,Bt.cs,aZW,aZR];rfl;have c:=c (.inr h5);subst c;rw[if_neg (by decide)];refine aB rfl ?_;simp (maxSteps:=2000000) (disch:=omega) only[go_sem,h24c,q,cT,p,dT,dM,g,eq_true o,t,i,j,F,aZz,ixA,D,h4,h5,Bt.cs,aZW,aZR];rfl;rw[if_neg o] at m;have eE:mO s=(dG (Ew s (aQ s).1)).2.2:=by
  unfold mO mX;rw[m,if_neg (not_not_intro k),if_pos g,if_pos g]
 unfold vwV;rw[eE,if_neg g];clear R oK oA c d f eE;generalize dG (Ew s (aQ s).1)=P at *;generalize dG (Lu s (aQ s).1)=Q at *;generalize Ew s (aQ s).1=ST at *;generalize Lu s (aQ s).1=SM at *;obtain⟨r,u,e⟩:=P;obtain⟨O,u',e'⟩:=Q;generalize aQ s=V at *;obtain⟨x,a,w⟩:=V;simp only at k g o;subst k;refine aB rfl ?_;simp (maxSteps:=2000000) (disch:=omega) only[go_sem,h24c,q,cT,p,dT,dM,g,o,Bt.cs,aZW,aZR];rfl;have e:mO s=(aQ s).2.2:=by
  unfold mO mX;rw[if_pos k,if_pos k]
 unfold vwV;rw[e,if_neg k];generalize aQ s=V at *;obtain⟨x,a,e⟩:=V;refine aB rfl ?_;simp (maxSteps:=2000000) (disch:=omega) only[go_sem,h24c,q,k,Bt.cs];rfl
