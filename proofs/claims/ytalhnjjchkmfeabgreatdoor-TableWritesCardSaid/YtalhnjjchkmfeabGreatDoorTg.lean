/- Part. Conditions: none. -/
import Derived.Test.YtalhnjjchkmfeabGreatDoorVo
import Derived.Test.YtalhnjjchkmfeabGreatDoorTd
namespace Go.Proofs.YtalhnjjchkmfeabGreatDoor
set_option linter.unusedSimpArgs false
set_option linter.unusedVariables false
set_option maxRecDepth 4000
variable {G:aE}{bb:Bool}
open Go.Sort
theorem aAi(l:L aK):(∀k,k<l.length->rH l k=0)↔(∀a∈l,iL a=0)/\(l.map aK.id).Nodup:=by
 have g:∀ k (b:k < l.length),rH l k=0↔iL l[k]=0/\Tq l k=false:=fun k b=>by
  unfold rH;rw[gB l k b];by_cases c:iL l[k]=0
  ·rw[c,bD];cases Tq l k with
   | true=>simp[un,aT]
   | false=>simp[un,aT]
  ·rw[bA _ _ c];simp[c]
 have n:∀ k (b:k < l.length),Tq l k=false↔∀ j (d:j < k),l[j].id≠l[k].id:=fun k b=>by
  unfold Tq;rw[gB l k b,bAm];constructor
  ·intro h j d e;have:=h l[j] (by rw[List.mem_take_iff_getElem];exact⟨j,by omega,rfl⟩);simp[e] at this
  ·intro h x o;rw[List.mem_take_iff_getElem] at o;obtain⟨j,d,rfl⟩:=o;simpa using h j (by omega)
 constructor;intro h;refine⟨fun a q=>?_,?_⟩
 obtain⟨k,b,rfl⟩:=bAJ q;exact ((g k b).1 (h k b)).1;rw[List.Nodup,List.pairwise_map,List.pairwise_iff_getElem];intro i j r d f;exact (n j d).1 ((g j d).1 (h j d)).2 i f;rintro⟨p,m⟩ k b;rw[List.Nodup,List.pairwise_map,List.pairwise_iff_getElem] at m;exact (g k b).2 ⟨p _ (aZk b),(n k b).2 (fun j d=>m j k (by omega) b d)⟩
