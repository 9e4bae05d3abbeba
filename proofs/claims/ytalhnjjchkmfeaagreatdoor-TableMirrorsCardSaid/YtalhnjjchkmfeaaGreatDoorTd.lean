/- Part. Conditions: none. -/
import Derived.Test.YtalhnjjchkmfeaaGreatDoorMj
import Derived.Test.YtalhnjjchkmfeaaGreatDoorTc
import Derived.Test.YtalhnjjchkmfeaaGreatDoorRm
namespace Go.Proofs.YtalhnjjchkmfeaaGreatDoor
set_option linter.unusedSimpArgs false
set_option linter.unusedVariables false
open Go.Sort
def mW:L DC->Int×L UInt8×Int×Int
 |[.raw (.int .i64 t),.raw (.string n),.raw (.int .i64 d),_,_,_,.raw (.int .i64 f),_,_,_,_]=>(t,n.toList,f,d)
 |_=>(0,[],0,0)
def okD:L DC->Bool
 |[.raw (.int .i64 _),.raw (.string _),.raw (.int .i64 _),_,_,_,.raw (.int .i64 _),_,_,_,_]=>true
 |_=>false
def cmD(a b:L DC):Int:=Qb [Fl (mW a).1 (mW b).1,H5 (mW a).2.1 (mW b).2.1,Fl (mW a).2.2.1 (mW b).2.2.1,Fl (mW a).2.2.2 (mW b).2.2.2]
theorem aHg{e:L DC}(h:okD e=true):∃t n d b c g f i j k a,e=[.raw (.int .i64 t),.raw (.string n),.raw (.int .i64 d),b,c,g,.raw (.int .i64 f),i,j,k,a]:=by
 unfold okD at h;split at h;exact⟨_,_,_,_,_,_,_,_,_,_,_,rfl⟩;cases h
theorem aVs{e:L DC}(h:okD e=true):e.length=11:=by
 obtain⟨t,n,d,b,c,g,f,i,j,k,a,rfl⟩:=aHg h;rfl
theorem aVt(x y z t:Int):Qb [x,y,z,t]=if x=0 then (if y=0 then (if z=0 then t else z) else y) else x:=by
 unfold Qb Qb Qb Qb Qb
 repeat' split
 all_goals first|rfl|omega
theorem Yg:Cm (fun _=>True) cmD:=by
 have h:=((Fm.map (P:=fun _=>True) (fun e:L DC=>(mW e).1) (fun _ _=>trivial)).lex ((Yd.map (P:=fun _=>True) (fun e:L DC=>(mW e).2.1) (fun _ _=>trivial)).lex ((Fm.map (P:=fun _=>True) (fun e:L DC=>(mW e).2.2.1) (fun _ _=>trivial)).lex (Fm.map (P:=fun _=>True) (fun e:L DC=>(mW e).2.2.2) (fun _ _=>trivial)))))
 have e:cmD=L7 (fun a b=>Fl (mW a).1 (mW b).1) (L7 (fun a b=>H5 (mW a).2.1 (mW b).2.1) (L7 (fun a b=>Fl (mW a).2.2.1 (mW b).2.2.1) (fun a b=>Fl (mW a).2.2.2 (mW b).2.2.2))):=by
  funext a b;exact aVt _ _ _ _
 rw[e];exact h
theorem aVu{a b:L DC}(h:cmD a b=0):(mW a).2.2.2=(mW b).2.2.2:=by
 have h4:Fl (mW a).2.2.2 (mW b).2.2.2=0:=by
  unfold cmD at h;rw[aVt] at h
  repeat' split at h
  all_goals first|assumption|(exfalso;contradiction)
 unfold Fl at h4;split at h4;cases h4;split at h4;cases h4;omega
theorem aHh{F:Fz}{t d f:Int}{n:ByteArray}{s u w x y z b:DC}{vs:L Value}(k:vs.length=11) (h:∀(j:Nat) c v,([.raw (.int .i64 t),.raw (.string n),.raw (.int .i64 d),s,u,w,.raw (.int .i64 f),x,y,z,b]:L DC)[j]?=some c->vs[j]?=some v->RD F c v):∃l m o p u8 q a,vs=[.int .i64 t,.string n,.int .i64 d,l,m,o,.int .i64 f,p,u8,q,a]:=by
 match vs,k with
 |[A,B,C,D,E,G,H,I,J,K,r],_=>
  have e:=h 0 _ _ rfl rfl;have g:=h 1 _ _ rfl rfl;have i:=h 2 _ _ rfl rfl;have h6:=h 6 _ _ rfl rfl;cases e;cases g;cases i;cases h6;exact⟨_,_,_,_,_,_,_,rfl⟩
theorem Nu{α g:Type}{f:α->g}:∀{l:L α},(l.map f).Nodup->∀{a b:α},a∈l->b∈l->f a=f b->a=b
 |[],_,a,b,c,_,_=>by cases c
 | x::l,h,a,b,c,d,e=>by
  rw[aZL,List.nodup_cons] at h;rcases bAQ.1 c with ea | c
  ·rcases bAQ.1 d with eb | d
   ·rw[ea,eb]
   ·rw[ea] at e;exact absurd (List.mem_map.2 ⟨b,d,e.symm⟩) h.1
  ·rcases bAQ.1 d with eb | d
   ·rw[eb] at e;exact absurd (List.mem_map.2 ⟨a,c,e⟩) h.1
   ·exact Nu h.2 c d e
theorem aHi{G:aF}{es:L (L DC)}(S:es≠[])(m:∀e∈es,okD e=true)(Q:(es.map fun e=>(mW e).2.2.2).Nodup)(p:es.length<4611686018427387904):AC Tryz.prog G 174 [.one (.bls 0 0 es.length 11),.one (.fn 175 [])] [.box (kY es.flatten)] fun y o=>y=.tup []/\o=[.box (kY (Hf cmD es).flatten)]:=by
 have D:∀c w,(callFunc 175 c).run Tryz.prog w=.ok (.enter 175 c) w:=enters_of Tryz.func175 (by kernel_rfl) rfl;have q:=aL9 (P:=Tryz.prog) (G:=G) (f:=174) (g:=175) (k:=11) (by decide)
  (fun α _ enc z r cap d w m J M l K j u=>Tryz.slices_SortFunc enc m J z M 175 #[] r 0 cap d w D l K j u)
  S (fun e R=>aVs (m e R)) p cmD (Yg.swo (fun i:_root_.Fin es.length=>es[i]) (fun _=>trivial))
  (fun F w B C vx vy U V W X Z ry=>by
   obtain⟨t,n,d,x3,x4,x5,f,x7,x8,x9,x10,rfl⟩:=aHg (m B U);obtain⟨t',Y,A,y3,y4,y5,H,y7,y8,y9,y10,rfl⟩:=aHg (m C V);obtain⟨u3,u4,u5,u7,u8,u9,v,rfl⟩:=aHh W Z;obtain⟨v3,v4,v5,v7,v8,v9,x,rfl⟩:=aHh X ry;exact L8 t d f t' A H n Y u3 u4 u5 u7 u8 u9 v v3 v4 v5 v7 v8 v9 x w)
 refine q.gh (fun y o h _=>?_)
 obtain⟨rfl,E,hp,T,rfl⟩:=h;refine⟨_,_,Gh.refl,aZE _,rfl,?_⟩;rw[aDq (P:=fun _=>True) Yg (fun _ _=>trivial) (fun a N b O I=>?_) hp T]
 have s:=aVu I;exact Nu Q N O s
