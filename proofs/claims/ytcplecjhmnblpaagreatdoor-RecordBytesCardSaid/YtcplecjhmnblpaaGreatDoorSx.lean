/- What the frame of RecordBytes needs: the variables that its row lists. Conditions: none. -/
import Derived.Test.YtcplecjhmnblpaaGreatDoorRr
namespace Go.Proofs.YtcplecjhmnblpaaGreatDoor
set_option linter.unusedSimpArgs false
set_option linter.unusedVariables false
set_option maxRecDepth 4000
variable {G:aH} {bb:Bool}
open Go.ChangeShapes Go.WideShapes Go.ChangeAt Go.RowKit
theorem Tryz.g_sg:Tryz.prog.globalNamed "depository/record.fieldSign"=some 7:=by kernel_rfl
def GS:aH:=fun g=>if g=7 then some [ci 0,ci 4] else GF g
theorem aPB:G9 GS:=⟨rfl,rfl,rfl,rfl,rfl,rfl,rfl,rfl,rfl,rfl⟩
theorem aPC{W:World}(h:laidMetH Tryz.prog Rows.recordBytesRow.laid W):dY (gT W) GS:=by
 rw[MakeChecks.laidMetH_plain _ _ _ (by kernel_rfl)] at h;have h:=laidMet.tail (laidMet.tail (laidMet.tail (laidMet.tail h)));have v_sg:=lT (jQ (a:=0) (b:=4) Tryz.g_sg (by kernel_rfl) h) Tryz.g_sg;have h:=laidMet.tail h;have v_ls:=lT (jQ (a:=8) (b:=4) Tryz.g_ls (by kernel_rfl) h) Tryz.g_ls;have h:=laidMet.tail h;have v_sq:=lT (jQ (a:=16) (b:=2) Tryz.g_sq (by kernel_rfl) h) Tryz.g_sq;have h:=laidMet.tail h;have v_li:=lT (jQ (a:=18) (b:=2) Tryz.g_li (by kernel_rfl) h) Tryz.g_li;have h:=laidMet.tail h;have v_fi:=lT (jQ (a:=20) (b:=2) Tryz.g_fi (by kernel_rfl) h) Tryz.g_fi;have h:=laidMet.tail h;have v_fl:=lT (jQ (a:=22) (b:=2) Tryz.g_fl (by kernel_rfl) h) Tryz.g_fl;have h:=laidMet.tail h;have v_en:=lT (jQ (a:=24) (b:=4) Tryz.g_en (by kernel_rfl) h) Tryz.g_en;have h:=laidMet.tail h;have v_si:=lT (jQ (a:=28) (b:=4) Tryz.g_si (by kernel_rfl) h) Tryz.g_si;have h:=laidMet.tail h;have v_ba:=lT (jQ (a:=32) (b:=4) Tryz.g_ba (by kernel_rfl) h) Tryz.g_ba;have h:=laidMet.tail h;have v_bo:=lT (jQ (a:=36) (b:=2) Tryz.g_bo (by kernel_rfl) h) Tryz.g_bo;have h:=laidMet.tail h;have v_nx:=lT (jQ (a:=38) (b:=2) Tryz.g_nx (by kernel_rfl) h) Tryz.g_nx;have h:=laidMet.tail h;refine⟨fun g cs hg γ=>?_,fun g cs hg=>?_⟩
 ·unfold GS at hg;by_cases c_sg:g=7
  ·rw[if_pos c_sg] at hg;injection hg with hg
   subst hg;subst c_sg;exact v_sg.1 γ
  rw[if_neg c_sg] at hg;unfold GF at hg;by_cases c_ls:g=6
  ·rw[if_pos c_ls] at hg;injection hg with hg
   subst hg;subst c_ls;exact v_ls.1 γ
  rw[if_neg c_ls] at hg;by_cases c_sq:g=0
  ·rw[if_pos c_sq] at hg;injection hg with hg
   subst hg;subst c_sq;exact v_sq.1 γ
  rw[if_neg c_sq] at hg;by_cases c_li:g=1
  ·rw[if_pos c_li] at hg;injection hg with hg
   subst hg;subst c_li;exact v_li.1 γ
  rw[if_neg c_li] at hg;by_cases c_fi:g=8
  ·rw[if_pos c_fi] at hg;injection hg with hg
   subst hg;subst c_fi;exact v_fi.1 γ
  rw[if_neg c_fi] at hg;by_cases c_fl:g=2
  ·rw[if_pos c_fl] at hg;injection hg with hg
   subst hg;subst c_fl;exact v_fl.1 γ
  rw[if_neg c_fl] at hg;by_cases c_en:g=9
  ·rw[if_pos c_en] at hg;injection hg with hg
   subst hg;subst c_en;exact v_en.1 γ
  rw[if_neg c_en] at hg;by_cases c_si:g=10
  ·rw[if_pos c_si] at hg;injection hg with hg
   subst hg;subst c_si;exact v_si.1 γ
  rw[if_neg c_si] at hg;by_cases c_ba:g=3
  ·rw[if_pos c_ba] at hg;injection hg with hg
   subst hg;subst c_ba;exact v_ba.1 γ
  rw[if_neg c_ba] at hg;by_cases c_bo:g=4
  ·rw[if_pos c_bo] at hg;injection hg with hg
   subst hg;subst c_bo;exact v_bo.1 γ
  rw[if_neg c_bo] at hg;by_cases c_nx:g=5
  ·rw[if_pos c_nx] at hg;injection hg with hg
   subst hg;subst c_nx;exact v_nx.1 γ
  rw[if_neg c_nx] at hg;cases hg
 ·unfold GS at hg;by_cases c_sg:g=7
  ·rw[if_pos c_sg] at hg;injection hg with hg
   subst hg;subst c_sg;exact v_sg.2
  rw[if_neg c_sg] at hg;unfold GF at hg;by_cases c_ls:g=6
  ·rw[if_pos c_ls] at hg;injection hg with hg
   subst hg;subst c_ls;exact v_ls.2
  rw[if_neg c_ls] at hg;by_cases c_sq:g=0
  ·rw[if_pos c_sq] at hg;injection hg with hg
   subst hg;subst c_sq;exact v_sq.2
  rw[if_neg c_sq] at hg;by_cases c_li:g=1
  ·rw[if_pos c_li] at hg;injection hg with hg
   subst hg;subst c_li;exact v_li.2
  rw[if_neg c_li] at hg;by_cases c_fi:g=8
  ·rw[if_pos c_fi] at hg;injection hg with hg
   subst hg;subst c_fi;exact v_fi.2
  rw[if_neg c_fi] at hg;by_cases c_fl:g=2
  ·rw[if_pos c_fl] at hg;injection hg with hg
   subst hg;subst c_fl;exact v_fl.2
  rw[if_neg c_fl] at hg;by_cases c_en:g=9
  ·rw[if_pos c_en] at hg;injection hg with hg
   subst hg;subst c_en;exact v_en.2
  rw[if_neg c_en] at hg;by_cases c_si:g=10
  ·rw[if_pos c_si] at hg;injection hg with hg
   subst hg;subst c_si;exact v_si.2
  rw[if_neg c_si] at hg;by_cases c_ba:g=3
  ·rw[if_pos c_ba] at hg;injection hg with hg
   subst hg;subst c_ba;exact v_ba.2
  rw[if_neg c_ba] at hg;by_cases c_bo:g=4
  ·rw[if_pos c_bo] at hg;injection hg with hg
   subst hg;subst c_bo;exact v_bo.2
  rw[if_neg c_bo] at hg;by_cases c_nx:g=5
  ·rw[if_pos c_nx] at hg;injection hg with hg
   subst hg;subst c_nx;exact v_nx.2
  rw[if_neg c_nx] at hg;cases hg
theorem aJ9:cE Tryz.prog GS (jH GS true):=aJV fun _=>aBT aPB
theorem aSx{f:FuncId}{args:List AV}{r:AV}(h:EV GS (Tb (jH GS true)) f args []=some (r,[])):QC Tryz.prog GS f args r:=Qq (J0 (jH GS true)) aJ9 h
end Go.Proofs.YtcplecjhmnblpaaGreatDoor
