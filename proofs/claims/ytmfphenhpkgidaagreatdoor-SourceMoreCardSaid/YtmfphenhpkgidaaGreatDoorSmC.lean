/-
  The reference: a note of a ligature.
-/
import Derived.Test.YtmfphenhpkgidaaGreatDoorSmB
import Derived.Test.YtmfphenhpkgidaaGreatDoorSy1

import Derived.Test.YtmfphenhpkgidaaGreatDoorSmA
namespace Go.Proofs.YtmfphenhpkgidaaGreatDoor
open Go.Cm Go
set_option maxRecDepth 100000
variable{S:St}
theorem AOw{n:Nat}{e:DE}{S':St}{t:TypeId}{x:Operand}{u:Value}(AV:e.op= .call ⟨.builtin .len, #[x], #[t]⟩)(hx:A7 e.L x=some u)(hv:Fo Tryz.prog t u S'=some e.v)(hs:CP 100000 e.v e.v=true)(hf:e.fr=none):HY Tryz.prog n S' e:=by
 unfold HY
 rw[hf]
 exact⟨fun a ha=>by rw[AV];show Fo Tryz.prog t (a.ev x) S'=_;rw[ha.ev hx,hv],hs⟩
def LU(C:List Sg)(k:Int):Int:=bif (AU C k).kind !=4 then 8 else bif (decide ((AU C k).place< -4)||decide ((AU C k).place>12))||((decide ((AU C k).acc< -1)||decide ((AU C k).acc>2))||(decide ((AU C k).BJ<0)||decide ((AU C k).BJ>3)))then 2 else bif (!((AU C k).last==(k==(C.length:Int)-1)))||!decide (AU C k=NI (AU C k))then 3 else bif decide (k>0)&&(((AU C k).BJ==1)||((AU C k).BJ==2))then 3 else bif (AU C k).Co&&((k==(C.length:Int)-1)||decide ((AU C (k+1)).place≥(AU C k).place)||(AU C (k+1)).Co)then 3 else bif decide (k>0)&&((AU C k).place==(AU C (k-1)).place)then 3 else bif (k==1)&&((AU C k).BJ==3)&&((AU C 0).BJ==1)then 3 else 0
theorem lu{C:List Sg}{k:Int}(k0:0≤k):LU C k=PR C k:=by
 have e1:(k==(C.length:Int)-1)=(k+1==(C.length:Int)):=by rw[Bool.eq_iff_iff];simp;omega
 have e2:decide (AU C k=NI (AU C k))=decide (NI (AU C k)=AU C k):=by simp only[eq_comm]
 have e3:((AU C k).place==(AU C (k-1)).place)=((AU C (k-1)).place==(AU C k).place):=by rw[Bool.eq_iff_iff];simp;omega
 have e4:(decide (k<2)&&((AU C k).BJ==3)&&((AU C 0).BJ==1))=((k==1)&&((AU C k).BJ==3)&&((AU C 0).BJ==1)):=by
  by_cases hk:k=0
  ·subst hk
   by_cases hs:(AU C 0).BJ=3
   ·rw[hs];rfl
   rw[show((AU C 0).BJ==3)=false by simpa using hs];rfl
  rw[show decide (k<2)=(k==1) by rw[Bool.eq_iff_iff];simp;omega]
 unfold LU PR fy tD z7
 rw[e1,e2,e3,e4]
 generalize ((AU C k).kind !=4)=A
 generalize (decide ((AU C k).place< -4)||decide ((AU C k).place>12))=B1
 generalize (decide ((AU C k).acc< -1)||decide ((AU C k).acc>2))=B2
 generalize (decide ((AU C k).BJ<0)||decide ((AU C k).BJ>3))=B3
 generalize ((!((AU C k).last==(k+1==(C.length:Int))))||!decide (NI (AU C k)=AU C k))=C1
 generalize (decide (k>0)&&(((AU C k).BJ==1)||((AU C k).BJ==2)))=D
 generalize ((AU C k).Co&&((k+1==(C.length:Int))||decide ((AU C (k+1)).place≥(AU C k).place)||(AU C (k+1)).Co))=E
 generalize (decide (k>0)&&((AU C (k-1)).place==(AU C k).place))=Fb
 generalize ((k==1)&&((AU C k).BJ==3)&&((AU C 0).BJ==1))=Gb
 (cases A<;>first|rfl|(cases B1<;>first|rfl|(cases B2<;>first|rfl|(cases B3<;>first|rfl|(cases C1<;>first|rfl|(cases D<;>first|rfl|(cases E<;>first|rfl|(cases Fb<;>first|rfl|(cases Gb<;>first|rfl|rfl)))))))))
noncomputable def AER:Code:=Tryz.f217.body.getD .skip
theorem AN3(a:Option Addr)(cap:Nat)(C:List Sg)(k:Int)(hn:C.length≤1000)(k0:0≤k)(k1:k<C.length)(hv:Ck S (.slice a C.length cap) C):CC Tryz.prog KK 217 [.slice a C.length cap,.int .i64 k] S (fun v S'=>AL S S'∧v= .int .i64 (LU C k)):=by
 refine Ce (c:=AER) (n:=125) Tryz.func217 rfl rfl rfl AB rfl rfl ?_
 have hl:=BE.start S
 obtain⟨b,o,cs,rfl,AQ,Cy⟩:=hv.row AA
 refine xs AB ?_;refine rm rfl ?_;refine Ak rfl ?_;refine xs AB ?_;iterate 2 refine rm rfl ?_
 refine rr rfl (Ea rfl rfl rfl (F3 (z:=17) Tryz.underlying42 AB ⟨by first|omega|(simp at *;omega),by first|omega|(simp at *;omega)⟩)) ?_;refine rr rfl (CU rfl rfl (Rk (z:=17) AB AB (E6 (hl.since 0 rfl) AQ) (Cy _ (by first|omega|(simp at *;omega)) (by first|omega|(simp at *;omega))))) ?_
 refine aL hl [.int .i64 0,.int .i64 0,.int .i64 0,.int .i64 0,.bool false,.int .i64 0,.bool false,.bool false,.int .i64 0,.int .i64 0,.int .i64 0,.int .i64 0,.bool false,.int .i64 0,.int .i64 0,.int .i64 0,.int .i64 0] fun B5 S5 hl=>?_;refine CN hl 0 rfl rfl rfl rfl rfl rfl rfl AB rfl ?_;intro S1 hl;refine Ak rfl ?_;refine AG rfl ?_;refine Az rfl ?_;refine xs AB ?_;refine rr rfl (CM rfl rfl (fa Tryz.underlying55 EP rfl)) ?_;refine rr rfl (rl hl 0 rfl rfl AB rfl rfl) ?_;refine rr rfl (Ao rfl rfl rfl rfl) ?_;refine rm rfl ?_
 refine Ak rfl ?_;refine DQ rfl rfl (fun Bs=>?_) (fun Bs=>?_)
 ·
  refine xs AB ?_;refine rm rfl ?_;refine Ak rfl ?_;refine Gt rfl ?_
  refine AR (Ai (BA (BD rfl rfl) ⟨hl.AD,congrArg (Value.int .i64) (by unfold LU;rw[Bs];rfl)⟩))
 refine AG rfl (CR hl 14 (.bool ((decide ((AU C k).place< -4)||decide ((AU C k).place>12))||((decide ((AU C k).acc< -1)||decide ((AU C k).acc>2))||(decide ((AU C k).BJ<0)||decide ((AU C k).BJ>3))))) ?_ rfl ?_)
 ·
  refine xs AB ?_;refine rr rfl (CM rfl rfl (fa Tryz.underlying55 EP rfl)) ?_;refine rr rfl (rl hl 0 rfl rfl AB rfl rfl) ?_;refine rr rfl (Ao rfl rfl rfl rfl) ?_;refine rm rfl ?_;refine AZ (d:=18) rfl (fun Ct=>?_) (fun Ct=>?_)
  ·
   iterate 3 refine rz rfl ?_
   iterate 2 refine rm rfl ?_
   refine Ak rfl ?_;refine Yn rfl rfl ?_;refine Ar rfl ?_
   exact⟨rfl,bl (by first|(simp[Ct];done)|(simp only[Ct,Ag])),by repeat (first|exact BN _|refine BO rfl ?_),hl⟩
  refine rr rfl (CM rfl rfl (fa Tryz.underlying55 EP rfl)) ?_;refine rr rfl (rl hl 0 rfl rfl AB rfl rfl) ?_;refine rr rfl (Ao rfl rfl rfl rfl) ?_;iterate 2 refine rm rfl ?_
  refine Ak rfl ?_;refine DQ rfl rfl (fun BZ=>?_) (fun BZ=>?_)
  ·
   refine Ar rfl ?_
   exact⟨rfl,bl (by first|(simp[BZ,Ct];done)|(simp only[BZ,Ct,Ag])),by repeat (first|exact BN _|refine BO rfl ?_),hl⟩
  refine xs AB ?_;refine rr rfl (CM rfl rfl (fa Tryz.underlying55 EP rfl)) ?_;refine rr rfl (rl hl 0 rfl rfl AB rfl rfl) ?_;refine rr rfl (Ao rfl rfl rfl rfl) ?_;refine rm rfl ?_;refine AZ (d:=26) rfl (fun C3=>?_) (fun C3=>?_)
  ·
   iterate 3 refine rz rfl ?_
   iterate 2 refine rm rfl ?_
   refine Ak rfl ?_;refine Yn rfl rfl ?_;refine Ar rfl ?_
   exact⟨rfl,bl (by first|(simp[C3,BZ,Ct];done)|(simp only[C3,BZ,Ct,Ag])),by repeat (first|exact BN _|refine BO rfl ?_),hl⟩
  refine rr rfl (CM rfl rfl (fa Tryz.underlying55 EP rfl)) ?_;refine rr rfl (rl hl 0 rfl rfl AB rfl rfl) ?_;refine rr rfl (Ao rfl rfl rfl rfl) ?_;iterate 2 refine rm rfl ?_
  refine Ak rfl ?_;refine DQ rfl rfl (fun Qo=>?_) (fun Qo=>?_)
  ·
   refine Ar rfl ?_
   exact⟨rfl,bl (by first|(simp[Qo,C3,BZ,Ct];done)|(simp only[Qo,C3,BZ,Ct,Ag])),by repeat (first|exact BN _|refine BO rfl ?_),hl⟩
  refine xg AB ?_;refine rr rfl (CM rfl rfl (fa Tryz.underlying55 EP rfl)) ?_;refine rr rfl (rl hl 0 rfl rfl AB rfl rfl) ?_;refine rr rfl (Ao rfl rfl rfl rfl) ?_;refine rm rfl ?_;refine AZ (d:=34) rfl (fun E2=>?_) (fun E2=>?_)
  ·
   iterate 3 refine rz rfl ?_
   iterate 2 refine rm rfl ?_
   refine Ak rfl ?_
   exact⟨rfl,bl (by first|(simp[E2,Qo,C3,BZ,Ct];done)|(simp only[E2,Qo,C3,BZ,Ct,Ag])),by repeat (first|exact BN _|refine BO rfl ?_),hl⟩
  refine rr rfl (CM rfl rfl (fa Tryz.underlying55 EP rfl)) ?_;refine rr rfl (rl hl 0 rfl rfl AB rfl rfl) ?_;refine rr rfl (Ao rfl rfl rfl rfl) ?_;iterate 2 refine rm rfl ?_
  refine Ak rfl ?_
  exact⟨rfl,bl (by first|(simp[E2,Qo,C3,BZ,Ct];done)|(simp only[E2,Qo,C3,BZ,Ct,Ag])),by repeat (first|exact BN _|refine BO rfl ?_),hl⟩
 intro S1 hl
 refine DQ rfl rfl (fun BZ=>?_) (fun BZ=>?_)
 ·
  refine xs AB ?_;refine rm rfl ?_;refine Ak rfl ?_;refine Gt rfl ?_
  refine AR (Ai (BA (BD rfl rfl) ⟨hl.AD,congrArg (Value.int .i64) (by unfold LU;rw[Bs,BZ];rfl)⟩))
 refine AG rfl (CR hl 39 (.bool ((!((AU C k).last==(k==(C.length:Int)-1)))||!decide (AU C k=NI (AU C k)))) ?_ rfl ?_)
 ·
  refine BC (idx:=[0,1,2,3,4,5,6,7,8,9,10,11,12,13,14]) rfl AB AB ?_;refine pr rfl (CM rfl rfl (fa Tryz.underlying55 EP rfl)) ?_;refine pk rfl (rl hl 0 rfl rfl AB rfl rfl) ?_;iterate 2 refine pm rfl ?_
  refine pk rfl (F8 rfl rfl (IK Tryz.underlying42)) ?_;refine pr rfl (Ao rfl rfl rfl (i6 (by first|omega|(simp at *;omega)))) ?_;iterate 2 refine pr rfl (Ao rfl rfl rfl rfl) ?_
  refine pm rfl ?_;refine Ep (d:=48) rfl (fun EK=>?_) (fun EK=>?_)
  ·
   iterate 4 refine pz rfl ?_
   iterate 2 refine pm rfl ?_
   refine Hr rfl ?_
   exact⟨rfl,bl (by first|(simp[EK];done)|(simp only[EK,Ag])),by repeat (first|exact BN _|refine BO rfl ?_),hl⟩
  iterate 2 refine pk rfl (CU rfl rfl (CD (z:=17) AB AB (hl.get 0 rfl) rfl)) ?_
  refine cX hl rfl rfl rfl rfl rfl rfl rfl (AOA _) ?_;rintro v S1 AM rfl hl;refine⟨HT ⟨CQ (X:=True) rfl rfl (CD (z:=17) AB AB (hl.get 0 rfl) rfl) (GR rfl (V9 (AU C k))) rfl trivial,CQ (X:=True) rfl rfl (CD (z:=17) AB AB (hl.get 0 rfl) rfl) (GR rfl (V9 (AU C k))) rfl trivial,AOw rfl rfl (IK Tryz.underlying42) (Dt (BK _ _)) rfl,CQ (X:=True) rfl rfl (C4 AB (hl.get 0 rfl) rfl) (Dt (GF _)) rfl trivial,trivial⟩,?_⟩
  refine pr rfl (Ao rfl rfl rfl (Uy _ _ (AU C k) (NI (AU C k)))) ?_;iterate 2 refine pm rfl ?_
  refine Hr rfl ?_
  exact⟨rfl,bl (by first|(simp[EK];done)|(simp only[EK,Ag])),by repeat (first|exact BN _|refine BO rfl ?_),hl⟩
 intro S1 hl
 refine DQ rfl rfl (fun EB=>?_) (fun EB=>?_)
 ·
  refine xs AB ?_;refine rm rfl ?_;refine Ak rfl ?_;refine Gt rfl ?_
  refine AR (Ai (BA (BD rfl rfl) ⟨hl.AD,congrArg (Value.int .i64) (by unfold LU;rw[Bs,BZ,EB];rfl)⟩))
 refine AG rfl (CR hl 54 (.bool (decide (k>0)&&(((AU C k).BJ==1)||((AU C k).BJ==2)))) ?_ rfl ?_)
 ·
  refine xg AB ?_;refine rm rfl ?_;refine rr rfl (Ao rfl rfl rfl rfl) ?_;refine rm rfl ?_;refine AZ (d:=57) rfl (fun Eh=>?_) (fun Eh=>?_)
  ·
   refine rr rfl (CM rfl rfl (fa Tryz.underlying55 EP rfl)) ?_;refine rr rfl (rl hl 0 rfl rfl AB rfl rfl) ?_;refine rr rfl (Ao rfl rfl rfl rfl) ?_;refine rm rfl ?_;refine AZ (d:=61) rfl (fun E4=>?_) (fun E4=>?_)
   ·
    iterate 3 refine rz rfl ?_
    iterate 3 refine rm rfl ?_
    refine Ak rfl ?_
    exact⟨rfl,bl (by first|(simp[E4,Eh];done)|(simp only[E4,Eh,Ag])),by repeat (first|exact BN _|refine BO rfl ?_),hl⟩
   refine rr rfl (CM rfl rfl (fa Tryz.underlying55 EP rfl)) ?_;refine rr rfl (rl hl 0 rfl rfl AB rfl rfl) ?_;refine rr rfl (Ao rfl rfl rfl rfl) ?_;iterate 3 refine rm rfl ?_
   refine Ak rfl ?_
   exact⟨rfl,bl (by first|(simp[E4,Eh];done)|(simp only[E4,Eh,Ag])),by repeat (first|exact BN _|refine BO rfl ?_),hl⟩
  iterate 8 refine rz rfl ?_
  iterate 2 refine rm rfl ?_
  refine Ak rfl ?_
  exact⟨rfl,bl (by first|(simp[Eh];done)|(simp only[Eh,Ag])),by repeat (first|exact BN _|refine BO rfl ?_),hl⟩
 intro S1 hl
 refine DQ rfl rfl (fun Ip=>?_) (fun Ip=>?_)
 ·
  refine xs AB ?_;refine rm rfl ?_;refine Ak rfl ?_;refine Gt rfl ?_
  refine AR (Ai (BA (BD rfl rfl) ⟨hl.AD,congrArg (Value.int .i64) (by unfold LU;rw[Bs,BZ,EB,Ip];rfl)⟩))
 refine AG rfl (CR hl 67 (.bool ((AU C k).Co&&((k==(C.length:Int)-1)||decide ((AU C (k+1)).place≥(AU C k).place)||(AU C (k+1)).Co))) ?_ rfl ?_)
 ·
  refine BC (idx:=[0,1,2,3,4,5,6,7,8,9,10,11,12,13,14,15,16,17,18,19,20,21,22,23,24,25,26,27,28]) rfl AB AB ?_;refine pr rfl (CM rfl rfl (fa Tryz.underlying55 EP rfl)) ?_;refine pk rfl (rl hl 0 rfl rfl AB rfl rfl) ?_;refine pm rfl ?_;refine Ep (d:=70) rfl (fun Ge=>?_) (fun Ge=>?_)
  ·
   iterate 2 refine pm rfl ?_
   refine pk rfl (F8 rfl rfl (IK Tryz.underlying42)) ?_;refine pr rfl (Ao rfl rfl rfl (i6 (by first|omega|(simp at *;omega)))) ?_;refine pr rfl (Ao rfl rfl rfl rfl) ?_;refine pm rfl ?_;refine Ep (d:=76) rfl (fun JT=>?_) (fun JT=>?_)
   ·
    iterate 9 refine pz rfl ?_
    iterate 2 refine pm rfl ?_
    iterate 6 refine pz rfl ?_
    iterate 3 refine pm rfl ?_
    refine Hr rfl ?_
    exact⟨rfl,bl (by first|(simp[JT,Ge];done)|(simp only[JT,Ge,Ag])),by repeat (first|exact BN _|refine BO rfl ?_),hl⟩
   iterate 2 refine pm rfl ?_
   refine pr rfl (Ao rfl rfl rfl (i6 (by first|omega|(simp at *;omega)))) ?_;refine pr rfl (Ea rfl rfl rfl (F3 (z:=17) Tryz.underlying42 AB ⟨by first|omega|(simp at *;omega),by first|omega|(simp at *;omega)⟩)) ?_;refine pr rfl (CM rfl rfl (fa Tryz.underlying55 EP rfl)) ?_;refine pk rfl (CU rfl rfl (GN AB (E6 (hl.since 0 rfl) AQ) (Ht (Cy _ (by first|omega|(simp at *;omega)) (by first|omega|(simp at *;omega))) rfl))) ?_;refine pr rfl (CM rfl rfl (fa Tryz.underlying55 EP rfl)) ?_
   refine pk rfl (rl hl 0 rfl rfl AB rfl rfl) ?_;refine pr rfl (Ao rfl rfl rfl rfl) ?_;iterate 2 refine pm rfl ?_
   refine Ep (d:=87) rfl (fun KF=>?_) (fun KF=>?_)
   ·
    iterate 6 refine pz rfl ?_
    iterate 3 refine pm rfl ?_
    refine Hr rfl ?_
    exact⟨rfl,bl (by first|(simp[KF,JT,Ge];done)|(simp only[KF,JT,Ge,Ag])),by repeat (first|exact BN _|refine BO rfl ?_),hl⟩
   iterate 2 refine pm rfl ?_
   refine pr rfl (Ao rfl rfl rfl (i6 (by first|omega|(simp at *;omega)))) ?_;refine pr rfl (Ea rfl rfl rfl (F3 (z:=17) Tryz.underlying42 AB ⟨by first|omega|(simp at *;omega),by first|omega|(simp at *;omega)⟩)) ?_;refine pr rfl (CM rfl rfl (fa Tryz.underlying55 EP rfl)) ?_;refine pk rfl (CU rfl rfl (GN AB (E6 (hl.since 0 rfl) AQ) (Ht (Cy _ (by first|omega|(simp at *;omega)) (by first|omega|(simp at *;omega))) rfl))) ?_;iterate 3 refine pm rfl ?_
   refine Hr rfl ?_
   exact⟨rfl,bl (by first|(simp[KF,JT,Ge];done)|(simp only[KF,JT,Ge,Ag])),by repeat (first|exact BN _|refine BO rfl ?_),hl⟩
  iterate 24 refine pz rfl ?_
  iterate 2 refine pm rfl ?_
  refine Hr rfl ?_
  exact⟨rfl,bl (by first|(simp[Ge];done)|(simp only[Ge,Ag])),by repeat (first|exact BN _|refine BO rfl ?_),hl⟩
 intro S1 hl
 refine DQ rfl rfl (fun K4=>?_) (fun K4=>?_)
 ·
  refine xs AB ?_;refine rm rfl ?_;refine Ak rfl ?_;refine Gt rfl ?_
  refine AR (Ai (BA (BD rfl rfl) ⟨hl.AD,congrArg (Value.int .i64) (by unfold LU;rw[Bs,BZ,EB,Ip,K4];rfl)⟩))
 refine AG rfl (CR hl 96 (.bool (decide (k>0)&&((AU C k).place==(AU C (k-1)).place))) ?_ rfl ?_)
 ·
  refine BC (idx:=[0,1,2,3,4,5,6,7,8,9,10,11,12,13]) rfl AB AB ?_;refine pm rfl ?_;refine pr rfl (Ao rfl rfl rfl rfl) ?_;refine pm rfl ?_;refine Ep (d:=99) rfl (fun Qu=>?_) (fun Qu=>?_)
  ·
   refine pr rfl (CM rfl rfl (fa Tryz.underlying55 EP rfl)) ?_;refine pk rfl (rl hl 0 rfl rfl AB rfl rfl) ?_;iterate 2 refine pm rfl ?_
   refine pr rfl (Ao rfl rfl rfl (i6 (by first|omega|(simp at *;omega)))) ?_;refine pr rfl (Ea rfl rfl rfl (F3 (z:=17) Tryz.underlying42 AB ⟨by first|omega|(simp at *;omega),by first|omega|(simp at *;omega)⟩)) ?_;refine pr rfl (CM rfl rfl (fa Tryz.underlying55 EP rfl)) ?_;refine pk rfl (CU rfl rfl (GN AB (E6 (hl.since 0 rfl) AQ) (Ht (Cy _ (by first|omega|(simp at *;omega)) (by first|omega|(simp at *;omega))) rfl))) ?_;refine pr rfl (Ao rfl rfl rfl rfl) ?_;iterate 2 refine pm rfl ?_
   refine Hr rfl ?_
   exact⟨rfl,bl (by first|(simp[Qu];done)|(simp only[Qu,Ag])),by repeat (first|exact BN _|refine BO rfl ?_),hl⟩
  iterate 9 refine pz rfl ?_
  iterate 2 refine pm rfl ?_
  refine Hr rfl ?_
  exact⟨rfl,bl (by first|(simp[Qu];done)|(simp only[Qu,Ag])),by repeat (first|exact BN _|refine BO rfl ?_),hl⟩
 intro S1 hl
 refine DQ rfl rfl (fun Qt=>?_) (fun Qt=>?_)
 ·
  refine xs AB ?_;refine rm rfl ?_;refine Ak rfl ?_;refine Gt rfl ?_
  refine AR (Ai (BA (BD rfl rfl) ⟨hl.AD,congrArg (Value.int .i64) (by unfold LU;rw[Bs,BZ,EB,Ip,K4,Qt];rfl)⟩))
 refine AG rfl (CR hl 110 (.bool ((k==1)&&((AU C k).BJ==3)&&((AU C 0).BJ==1))) ?_ rfl ?_)
 ·
  refine xg AB ?_;refine rm rfl ?_;refine rr rfl (Ao rfl rfl rfl rfl) ?_;refine rm rfl ?_;refine AZ (d:=113) rfl (fun Qp=>?_) (fun Qp=>?_)
  ·
   refine rr rfl (CM rfl rfl (fa Tryz.underlying55 EP rfl)) ?_;refine rr rfl (rl hl 0 rfl rfl AB rfl rfl) ?_;refine rr rfl (Ao rfl rfl rfl rfl) ?_;iterate 2 refine rm rfl ?_
   refine AZ (d:=118) rfl (fun Qq=>?_) (fun Qq=>?_)
   ·
    refine rm rfl ?_;refine rr rfl (Ea rfl rfl rfl (F3 (z:=17) Tryz.underlying42 AB ⟨by first|omega|(simp at *;omega),by first|omega|(simp at *;omega)⟩)) ?_;refine rr rfl (CM rfl rfl (fa Tryz.underlying55 EP rfl)) ?_;refine rr rfl (CU rfl rfl (GN AB (E6 (hl.since 0 rfl) AQ) (Ht (Cy _ (by first|omega|(simp at *;omega)) (by first|omega|(simp at *;omega))) rfl))) ?_;refine rr rfl (Ao rfl rfl rfl rfl) ?_;iterate 2 refine rm rfl ?_
    refine Ak rfl ?_
    exact⟨rfl,bl (by first|(simp[Qq,Qp];done)|(simp only[Qq,Qp,Ag])),by repeat (first|exact BN _|refine BO rfl ?_),hl⟩
   iterate 5 refine rz rfl ?_
   iterate 2 refine rm rfl ?_
   refine Ak rfl ?_
   exact⟨rfl,bl (by first|(simp[Qq,Qp];done)|(simp only[Qq,Qp,Ag])),by repeat (first|exact BN _|refine BO rfl ?_),hl⟩
  iterate 3 refine rz rfl ?_
  iterate 2 refine rm rfl ?_
  iterate 5 refine rz rfl ?_
  iterate 2 refine rm rfl ?_
  refine Ak rfl ?_
  exact⟨rfl,bl (by first|(simp[Qp];done)|(simp only[Qp,Ag])),by repeat (first|exact BN _|refine BO rfl ?_),hl⟩
 intro S1 hl
 refine DQ rfl rfl (fun gl=>?_) (fun gl=>?_)
 ·
  refine xs AB ?_;refine rm rfl ?_;refine Ak rfl ?_;refine Gt rfl ?_
  refine AR (Ai (BA (BD rfl rfl) ⟨hl.AD,congrArg (Value.int .i64) (by unfold LU;rw[Bs,BZ,EB,Ip,K4,Qt,gl];rfl)⟩))
 refine Ar rfl ?_;refine xs AB ?_;refine rm rfl ?_;refine Ak rfl ?_;refine Gt rfl ?_
 refine BA (BD rfl rfl) ⟨hl.AD,congrArg (Value.int .i64) (by unfold LU;rw[Bs,BZ,EB,Ip,K4,Qt,gl];rfl)⟩
end Go.Proofs.YtmfphenhpkgidaaGreatDoor
namespace Go.Proofs.YtmfphenhpkgidaaGreatDoor
open Go.Cm Go
set_option maxRecDepth 100000
variable{S:St}
noncomputable def AEN:Code:=Tryz.f174.body.getD .skip
theorem ANq(a:Option Addr)(cap:Nat)(C:List Sg)(hn:C.length≤1000)(hv:Ck S (.slice a C.length cap) C):CC Tryz.prog KK 174 [.slice a C.length cap] S (fun v S'=>AL S S'∧v=Aw [.int .i64 (HO C).1,.int .i64 (HO C).2]):=by
 refine Ce (c:=AEN) (n:=27) Tryz.func174 rfl rfl rfl AB rfl rfl ?_
 have hl:=BE.start S
 refine zS ?_;refine AG rfl ?_;refine AG rfl (CR hl 13 (.bool (Up C)) ?_ rfl ?_)
 ·
  refine zg ?_;refine AZ (d:=9) rfl (fun h9=>?_) (fun h9=>?_)
  ·
   refine zg ?_
   exact⟨rfl,bl (by unfold Up;simp only[h9,Ag]),by repeat (first|exact BN _|refine BO rfl ?_),hl⟩
  refine zg ?_
  exact⟨rfl,bl (by unfold Up;simp only[h9,Ag]),by repeat (first|exact BN _|refine BO rfl ?_),hl⟩
 intro S1 hl
 refine zg ?_
 constructor<;>intro EA
 ·
  refine zg ?_
  exact(z2 rfl rfl ⟨hl.AD,FK (by unfold HO;rw[EA];rfl)⟩)
 refine Ar rfl ?_;refine AG rfl ?_;refine zS ?_;refine Az rfl ?_
 -- LOOP
 have Cz:HO C=MN C.length C 0:=by unfold HO;rw[EA];rfl
 refine AK (L':=[(4,.int .i64 0),(0,.slice a C.length cap)]) sE ?_
 refine A2 rfl (fun m Le S'=>∃i:Nat,i≤C.length∧m=C.length-i∧Af [(4,.int .i64 (i:Int)),(0,.slice a C.length cap)] Le∧MN (C.length-i) C i=MN C.length C 0∧AE S [S] S' [] []) ?_ (m:=C.length) ⟨0,AA,AA,sE,rfl,hl⟩
 clear hl;rintro m Le S' ⟨i,hi,rfl,AH,DI,hl⟩;refine AK AH ?_
 refine zg ?_
 constructor<;>intro Dl
 ·
  have AN:i<C.length:=dT Dl
  refine zg ?_
  refine zc hl rfl (AN3 a cap C i hn AA AA (hv.move (hl.since 0 rfl))) ?_;rintro v S1 AM rfl hl
  refine zg ?_
  constructor<;>intro Ef
  ·
   refine zg ?_
   refine AR (Ai (Bg (AR ((z2 rfl rfl ⟨hl.AD,FK (by rw[Cz,←DI,show C.length-i=(C.length-(i+1))+1 by omega,AIF (by rw[←lu AA];simpa using Ef),lu AA])⟩)))))
  refine zg ?_
  refine⟨C.length-(i+1),AA,i+1,AA,rfl,sE,?_,hl⟩
  rw[←DI,show C.length-i=(C.length-(i+1))+1 by omega,AIE (by rw[←lu AA];simpa using Ef)]
 refine zg ?_
 refine y2 rfl rfl ⟨hl.AD,FK (by rw[Cz,←DI,show C.length-i=0 from dF Dl];rfl)⟩
def Lk(C:List Sg)(k:Int):Int:=bif (AU C k).BJ==3 then 2 else bif decide (k<2)&&((AU C 0).BJ==1)then 4 else bif k==0 then(bif ((decide ((AU C 1).place<(AU C 0).place)&&!((AU C 0).BJ==2))||(!decide ((AU C 1).place<(AU C 0).place)&&((AU C 0).BJ==2)))then 2 else 3)else bif ((k==(C.length:Int)-1)&&!(AU C (k-1)).Co&&decide ((AU C k).place<(AU C (k-1)).place))then 2 else 3
theorem ASa{C:List Sg}{k:Int}(k0:0≤k):Lk C k=MO C k:=by
 have e1:(k==(C.length:Int)-1)=(k+1==(C.length:Int)):=by rw[Bool.eq_iff_iff];simp;omega
 have e2:decide (k>0)=!(k==0):=by rw[Bool.eq_iff_iff];simp;omega
 unfold Lk MO nO nP nQ nR
 rw[e1,e2]
 generalize ((AU C k).BJ==3)=X1
 generalize (decide (k<2)&&((AU C 0).BJ==1))=X2
 generalize decide ((AU C 1).place<(AU C 0).place)=X3
 generalize ((AU C 0).BJ==2)=X4
 generalize ((k+1==(C.length:Int))&&!(AU C (k-1)).Co&&decide ((AU C k).place<(AU C (k-1)).place))=X5
 generalize (k==0)=X6
 cases X1<;>cases X2<;>cases X3<;>cases X4<;>cases X5<;>cases X6<;>rfl
noncomputable def AEO:Code:=Tryz.f175.body.getD .skip
theorem ANr(a:Option Addr)(cap:Nat)(C:List Sg)(k:Int)(hn:C.length≤1000)(h2:2≤C.length)(k0:0≤k)(k1:k<C.length)(hv:Ck S (.slice a C.length cap) C):CC Tryz.prog KK 175 [.slice a C.length cap,.int .i64 k] S (fun v S'=>AL S S'∧v= .int .i64 (Lk C k)):=by
 refine Ce (c:=AEO) (n:=78) Tryz.func175 rfl rfl rfl AB rfl rfl ?_
 have hl:=BE.start S
 obtain⟨b,o,cs,rfl,AQ,Cy⟩:=hv.row AA
 refine xs AB ?_;refine rm rfl ?_;refine Ak rfl ?_;refine AG rfl ?_;refine xs AB ?_;iterate 2 refine rm rfl ?_
 refine rr rfl (Ea rfl rfl rfl (F3 (z:=17) Tryz.underlying42 AB ⟨by first|omega|(simp at *;omega),by first|omega|(simp at *;omega)⟩)) ?_;refine rr rfl (CM rfl rfl (fa Tryz.underlying55 EP rfl)) ?_;refine rr rfl (CU rfl rfl (GN AB (E6 (hl.since 0 rfl) AQ) (Ht (Cy _ (by first|omega|(simp at *;omega)) (by first|omega|(simp at *;omega))) rfl))) ?_;refine rr rfl (Ao rfl rfl rfl rfl) ?_;refine Ak rfl ?_;refine zi tt rfl ?_
 constructor<;>intro Cf
 ·
  refine zg ?_
  exact(z1 rfl ⟨hl.AD,congrArg (Value.int .i64) (by unfold Lk;rw[Cf];rfl)⟩)
 refine Ar rfl ?_;refine AG rfl ?_;refine AG rfl (CR hl 21 (.bool (decide (k<2)&&((AU C 0).BJ==1))) ?_ rfl ?_)
 ·
  refine zg ?_;refine AZ (d:=15) rfl (fun Bo=>?_) (fun Bo=>?_)
  ·
   refine rm rfl ?_;refine rr rfl (Ea rfl rfl rfl (F3 (z:=17) Tryz.underlying42 AB ⟨by first|omega|(simp at *;omega),by first|omega|(simp at *;omega)⟩)) ?_;refine rr rfl (CM rfl rfl (fa Tryz.underlying55 EP rfl)) ?_;refine rr rfl (CU rfl rfl (GN AB (E6 (hl.since 0 rfl) AQ) (Ht (Cy _ (by first|omega|(simp at *;omega)) (by first|omega|(simp at *;omega))) rfl))) ?_;refine rr rfl (Ao rfl rfl rfl rfl) ?_;refine rm rfl ?_;refine Ak rfl ?_
   exact⟨rfl,bl (by first|(simp[Bo];done)|(simp only[Bo,Ag])),by repeat (first|exact BN _|refine BO rfl ?_),hl⟩
  refine zg ?_
  exact⟨rfl,bl (by first|(simp[Bo];done)|(simp only[Bo,Ag])),by repeat (first|exact BN _|refine BO rfl ?_),hl⟩
 intro S1 hl
 refine zg ?_
 constructor<;>intro Bf
 ·
  refine zg ?_
  exact(z1 rfl ⟨hl.AD,congrArg (Value.int .i64) (by unfold Lk;rw[Cf,Bf];rfl)⟩)
 refine zg ?_
 constructor<;>intro DG
 ·
  refine zg ?_;refine BC (idx:=[0,1,2,3,4,5,6,7,8,9]) rfl AB AB ?_;refine pm rfl ?_;refine pr rfl (Ea rfl rfl rfl (F3 (z:=17) Tryz.underlying42 AB ⟨by first|omega|(simp at *;omega),by first|omega|(simp at *;omega)⟩)) ?_;refine pr rfl (CM rfl rfl (fa Tryz.underlying55 EP rfl)) ?_;refine pk rfl (CU rfl rfl (GN AB (E6 (hl.since 0 rfl) AQ) (Ht (Cy _ (by first|omega|(simp at *;omega)) (by first|omega|(simp at *;omega))) rfl))) ?_;refine pm rfl ?_
  refine pr rfl (Ea rfl rfl rfl (F3 (z:=17) Tryz.underlying42 AB ⟨by first|omega|(simp at *;omega),by first|omega|(simp at *;omega)⟩)) ?_;refine pr rfl (CM rfl rfl (fa Tryz.underlying55 EP rfl)) ?_;refine pk rfl (CU rfl rfl (GN AB (E6 (hl.since 0 rfl) AQ) (Ht (Cy _ (by first|omega|(simp at *;omega)) (by first|omega|(simp at *;omega))) rfl))) ?_;refine pr rfl (Ao rfl rfl rfl rfl) ?_;refine pm rfl ?_;refine Hr rfl ?_;refine xs AB ?_;refine rm rfl ?_
  refine rr rfl (Ea rfl rfl rfl (F3 (z:=17) Tryz.underlying42 AB ⟨by first|omega|(simp at *;omega),by first|omega|(simp at *;omega)⟩)) ?_;refine rr rfl (CM rfl rfl (fa Tryz.underlying55 EP rfl)) ?_;refine rr rfl (CU rfl rfl (GN AB (E6 (hl.since 0 rfl) AQ) (Ht (Cy _ (by first|omega|(simp at *;omega)) (by first|omega|(simp at *;omega))) rfl))) ?_;refine rr rfl (Ao rfl rfl rfl rfl) ?_;refine rm rfl ?_;refine Ak rfl ?_;refine AG rfl ?_
  refine AG rfl (CR hl 49 (.bool ((decide ((AU C 1).place<(AU C 0).place)&&!((AU C 0).BJ==2))||(!decide ((AU C 1).place<(AU C 0).place)&&((AU C 0).BJ==2)))) ?_ rfl ?_)
  ·
   refine zg ?_;refine AZ (d:=39) rfl (fun EB=>?_) (fun EB=>?_)
   ·
    refine zg ?_;refine rr rfl (BY rfl rfl rfl) ?_;refine zg ?_;refine AZ (d:=43) rfl (fun FB=>?_) (fun FB=>?_)
    ·
     refine zg ?_
     exact⟨rfl,bl (by first|(simp[FB,EB];done)|(simp only[FB,EB,Ag])),by repeat (first|exact BN _|refine BO rfl ?_),hl⟩
    refine zg ?_;refine rr rfl (BY rfl rfl rfl) ?_;refine zg ?_;refine AZ (d:=46) rfl (fun JR=>?_) (fun JR=>?_)
    ·
     refine zg ?_
     exact⟨rfl,bl (by revert JR FB EB;cases decide ((AU C 1).place<(AU C 0).place)<;>cases ((AU C 0).BJ==2)<;>decide),by repeat (first|exact BN _|refine BO rfl ?_),hl⟩
    refine zg ?_
    exact⟨rfl,bl (by revert JR FB EB;cases decide ((AU C 1).place<(AU C 0).place)<;>cases ((AU C 0).BJ==2)<;>decide),by repeat (first|exact BN _|refine BO rfl ?_),hl⟩
   refine zg ?_;refine rr rfl (BY rfl rfl rfl) ?_;refine zg ?_;refine AZ (d:=46) rfl (fun JR=>?_) (fun JR=>?_)
   ·
    refine zg ?_
    exact⟨rfl,bl (by revert JR EB;cases decide ((AU C 1).place<(AU C 0).place)<;>cases ((AU C 0).BJ==2)<;>decide),by repeat (first|exact BN _|refine BO rfl ?_),hl⟩
   refine zg ?_
   exact⟨rfl,bl (by revert JR EB;cases decide ((AU C 1).place<(AU C 0).place)<;>cases ((AU C 0).BJ==2)<;>decide),by repeat (first|exact BN _|refine BO rfl ?_),hl⟩
  intro S1 hl
  refine zg ?_
  constructor<;>intro H6
  ·
   refine zg ?_
   refine Ai ((z1 rfl ⟨hl.AD,congrArg (Value.int .i64) (by unfold Lk;rw[Cf,Bf,DG,H6];rfl)⟩))
  refine zg ?_
  exact(z1 rfl ⟨hl.AD,congrArg (Value.int .i64) (by unfold Lk;rw[Cf,Bf,DG,H6];rfl)⟩)
 refine Ar rfl ?_;refine AG rfl ?_;refine AG rfl (CR hl 77 (.bool ((k==(C.length:Int)-1)&&!(AU C (k-1)).Co&&decide ((AU C k).place<(AU C (k-1)).place))) ?_ rfl ?_)
 ·
  refine BC (idx:=[0,1,2,3,4,5,6,7,8,9,10,11,12,13,14,15,16,17,18,19,20,21,22,23,24,25,26,27]) rfl AB AB ?_;iterate 2 refine pm rfl ?_
  refine pk rfl (F8 rfl rfl (IK Tryz.underlying42)) ?_;refine pr rfl (Ao rfl rfl rfl (i6 (by first|omega|(simp at *;omega)))) ?_;refine zg ?_;refine Ep (d:=55) rfl (fun E3=>?_) (fun E3=>?_)
  ·
   iterate 2 refine pm rfl ?_
   refine pr rfl (Ao rfl rfl rfl (i6 (by first|omega|(simp at *;omega)))) ?_;refine pr rfl (Ea rfl rfl rfl (F3 (z:=17) Tryz.underlying42 AB ⟨by first|omega|(simp at *;omega),by first|omega|(simp at *;omega)⟩)) ?_;refine zA ?_;refine pk rfl (CU rfl rfl (GN AB (E6 (hl.since 0 rfl) AQ) (Ht (Cy _ (by first|omega|(simp at *;omega)) (by first|omega|(simp at *;omega))) rfl))) ?_;refine pr rfl (BY rfl rfl rfl) ?_;refine zg ?_;refine Ep (d:=64) rfl (fun EV=>?_) (fun EV=>?_)
   ·
    iterate 2 refine pm rfl ?_
    refine pr rfl (Ea rfl rfl rfl (F3 (z:=17) Tryz.underlying42 AB ⟨by first|omega|(simp at *;omega),by first|omega|(simp at *;omega)⟩)) ?_;refine pr rfl (CM rfl rfl (fa Tryz.underlying55 EP rfl)) ?_;refine pk rfl (CU rfl rfl (GN AB (E6 (hl.since 0 rfl) AQ) (Ht (Cy _ (by first|omega|(simp at *;omega)) (by first|omega|(simp at *;omega))) rfl))) ?_;iterate 2 refine pm rfl ?_
    refine pr rfl (Ao rfl rfl rfl (i6 (by first|omega|(simp at *;omega)))) ?_;refine pr rfl (Ea rfl rfl rfl (F3 (z:=17) Tryz.underlying42 AB ⟨by first|omega|(simp at *;omega),by first|omega|(simp at *;omega)⟩)) ?_;refine zA ?_;refine pk rfl (CU rfl rfl (GN AB (E6 (hl.since 0 rfl) AQ) (Ht (Cy _ (by first|omega|(simp at *;omega)) (by first|omega|(simp at *;omega))) rfl))) ?_;refine zA ?_
    exact⟨rfl,bl (by first|(simp[EV,E3];done)|(simp only[EV,E3,Ag])),by repeat (first|exact BN _|refine BO rfl ?_),hl⟩
   refine zg ?_
   exact⟨rfl,bl (by first|(simp[EV,E3];done)|(simp only[EV,E3,Ag])),by repeat (first|exact BN _|refine BO rfl ?_),hl⟩
  refine zg ?_
  exact⟨rfl,bl (by first|(simp[E3];done)|(simp only[E3,Ag])),by repeat (first|exact BN _|refine BO rfl ?_),hl⟩
 intro S1 hl
 refine zg ?_
 constructor<;>intro tq
 ·
  refine zg ?_
  exact(z1 rfl ⟨hl.AD,congrArg (Value.int .i64) (by unfold Lk;rw[Cf,Bf,DG,tq];rfl)⟩)
 refine zg ?_
 refine y1 rfl ⟨hl.AD,congrArg (Value.int .i64) (by unfold Lk;rw[Cf,Bf,DG,tq];rfl)⟩
end Go.Proofs.YtmfphenhpkgidaaGreatDoor
namespace Go.Proofs.YtmfphenhpkgidaaGreatDoor
open Go.Cm Go
set_option maxRecDepth 100000
variable{S:St}
def Vn(C:List Sg)(i:Nat):List Int:=(List.range' 0 i).map fun j=>MO C (j:Nat)
theorem ASY(C:List Sg)(i:Nat):(Vn C (i+1)).map iv=(Vn C i).map iv++[iv (MO C (i:Nat))]:=by
 unfold Vn
 rw[List.range'_concat]
 simp
theorem ASX{S0 S:St}{av:Option Addr}{C:List Sg}{i:Nat}(hi:i=C.length)(h:Am S0 S ⟨.slice av i i,3,1,(Vn C i).map iv,i⟩):Ln S0 S (.slice av i i) (KS C):=by
 subst hi
 have e:(KS C).length=C.length:=lT C
 unfold Ln
 rw[e]
 exact h
noncomputable def AEL:Code:=Tryz.f140.body.getD .skip
theorem ANj(a:Option Addr)(cap:Nat)(C:List Sg)(hn:C.length≤1000)(_:BW S)(hv:Ck S (.slice a C.length cap) C):CC Tryz.prog KK 140 [.slice a C.length cap] S (fun v S'=>AL S S'∧(∃w,v=Aw [w,.int .i64 (HO C).1]∧Ln S S' w (bif (HO C).1 !=0 then []else KS C))):=by
 refine Ce (c:=AEL) (n:=29) Tryz.func140 rfl rfl rfl AB rfl rfl ?_
 have hl:=BE.start S
 refine zg ?_
 refine zc hl rfl (ANq a cap C hn hv) ?_;rintro v S1 AM rfl hl
 refine zg ?_
 constructor<;>intro BZ
 ·
  refine zg ?_
  exact(z2 rfl rfl ⟨hl.AD,⟨_,rfl,by rw[BZ];exact .inl ⟨rfl,rfl,rfl⟩⟩⟩)
 refine Ar rfl ?_;refine zS ?_;refine AG rfl ?_;refine zS ?_;refine Az rfl ?_
 -- LOOP
 have BI:(HO C).1=0:=by simpa using BZ
 have h2:2≤C.length:=AIJ BI
 have hl:=hl.D2 (g:=⟨.slice none 0 0,3,1,(Vn C 0).map iv,0⟩) (.inl ⟨rfl,rfl,rfl⟩)
 refine AK (L':=[(7,.int .i64 0),(6,.slice none 0 0),(0,.slice a C.length cap)]) sE ?_
 refine A2 rfl (fun m Le S'=>∃(i:Nat) (av:Option Addr),i≤C.length∧m=C.length-i∧Af [(7,.int .i64 (i:Int)),(6,.slice av i i),(0,.slice a C.length cap)] Le∧AE S [S] S' [] [⟨.slice av i i,3,1,(Vn C i).map iv,i⟩]) ?_ (m:=C.length) ⟨0,none,AA,AA,sE,hl⟩
 clear hl;rintro m Le S' ⟨i,av,hi,rfl,AH,hl⟩;refine AK AH ?_
 refine zg ?_
 constructor<;>intro DN
 ·
  have AN:i<C.length:=dT DN
  refine zg ?_
  refine zc hl rfl (ANr a cap C i hn h2 AA AA (hv.move (hl.since 0 rfl))) ?_;rintro v S1 AM rfl hl
  refine dL hl [iv (Lk C i)] Tryz.underlying38 fun B26 S1 AG3 hl=>?_;refine DZ hl 0 rfl rfl (by simp) rfl rfl rfl rfl rfl rfl rfl Tryz.underlying38 Tryz.underlying38 rfl rfl AB (YW (new:=[iv (Lk C i)]) AG3 rfl) rfl rfl AB (by show i+1≤Ae;unfold Ae;omega) ?_;intro om S1 hl
  obtain⟨As,rfl⟩:∃As,om= .slice As (i+1) (i+1):=Am.is (hl.gr _ Al)
  refine zg ?_
  refine⟨C.length-(i+1),AA,i+1,As,AA,rfl,sE,?_⟩
  rw[ASY,←ASa AA];exact hl.tail
 refine zg ?_
 refine y2 rfl rfl ⟨hl.AD,⟨_,by rw[BI],by rw[BI];exact ASX (dF DN) (hl.gr _ Al)⟩⟩
end Go.Proofs.YtmfphenhpkgidaaGreatDoor
namespace Go.Proofs.YtmfphenhpkgidaaGreatDoor
open Go.Cm Go
set_option maxRecDepth 100000
variable{S:St}
def CI(C:List Sg)(i:Nat):List Int:=((List.range' 0 i).filter fun j=>D7 C (j:Nat)&&!DJ C j).map fun j=>((j:Nat):Int)
def CL(C:List Sg)(i:Nat):List Int:=((List.range' 0 i).filter fun j=>D7 C (j:Nat)&&(AU C (j:Nat)).last).map fun j=>((j:Nat):Int)
theorem gH(C:List Sg)(i:Nat):CI C (i+1)=CI C i++bif D7 C (i:Nat)&&!DJ C i then [((i:Nat):Int)]else []:=by
 unfold CI
 rw[List.range'_concat,List.filter_append,Hm]
 congr 1
 simp only[Nat.zero_add,Nat.one_mul,List.filter_cons,List.filter_nil]
 cases (D7 C (i:Nat)&&!DJ C i)<;>rfl
theorem lR(C:List Sg)(i:Nat):CL C (i+1)=CL C i++bif D7 C (i:Nat)&&(AU C (i:Nat)).last then [((i:Nat):Int)]else []:=by
 unfold CL
 rw[List.range'_concat,List.filter_append,Hm]
 congr 1
 simp only[Nat.zero_add,Nat.one_mul,List.filter_cons,List.filter_nil]
 cases (D7 C (i:Nat)&&(AU C (i:Nat)).last)<;>rfl
theorem tH(C:List Sg)(i:Nat):(CI C i).length≤i:=by
 unfold CI
 rw[D1]
 exact Nat.le_trans (List.length_filter_le _ _) (by simp)
theorem AH4(C:List Sg)(i:Nat):(CL C i).length≤i:=by
 unfold CL
 rw[D1]
 exact Nat.le_trans (List.length_filter_le _ _) (by simp)
theorem AJI{C:List Sg}{i:Nat}(h:(!D7 C ((i:Int)-1))=false):(AU C ((i:Int)-1)).last=!DJ C i:=by
 obtain⟨j,rfl,s,hs,hk⟩:=dp h
 rw[show(((j+1:Nat):Int)-1)=(j:Int) by omega,nw hs]
 exact yJ hs hk
def Gx(v:Value)(l:List Int):Gr:=⟨v,3,1,l.map iv,l.length⟩
theorem ABy(l r:List Int):M6 [Gx (.slice none 0 0) l,Gx (.slice none 0 0) r]:=fun i j g h _ hi _=>by
 match i with
 |0=>cases hi;exact .inl rfl
 |1=>cases hi;exact .inl rfl
 |i+2=>cases i<;>cases hi
noncomputable def AEK:Code:=Tryz.f139.body.getD .skip
theorem ANh(nm:ByteArray)(a:Option Addr)(cap:Nat)(C:List Sg)(Ch:nm.data.toList.length≤1000)(hn:C.length≤1000)(hv:Ck S (.slice a C.length cap) C):CC Tryz.prog KK 139 [AX [.string nm,.slice a C.length cap]] S (fun v S'=>AL S S'∧(∃w1 w2,v=Aw [w1,w2,.int .i64 (Df nm.data.toList C).1]∧((Df nm.data.toList C).1=0→Ln S S' w1 (CI C C.length)∧Ln S S' w2 (CL C C.length)∧M6 [Gx w1 (CI C C.length),Gx w2 (CL C C.length)]))):=by
 refine Ce (c:=AEK) (n:=61) Tryz.func139 rfl rfl rfl AB rfl rfl ?_
 have hl:=BE.start S
 refine zg ?_;refine bL hl fun B1 S1 hl=>?_;refine zg ?_
 refine zc hl rfl (oG nm a cap C Ch hn (hv.move (hl.since 0 rfl))) ?_;rintro v S1 AM rfl hl
 refine zg ?_
 constructor<;>intro Bt
 ·
  refine zg ?_
  refine Ai (BA (BD rfl (BD rfl (BD rfl rfl))) ⟨hl.AD,⟨_,_,rfl,fun h=>absurd h (by simpa using Bt)⟩⟩)
 refine Ar rfl ?_;refine zS ?_;refine AG rfl ?_;refine zS ?_;refine Az rfl ?_
 -- LOOP
 have hl:=(hl.D2 (g:=Gx (.slice none 0 0) []) (.inl ⟨rfl,rfl,rfl⟩)).D2 (g:=Gx (.slice none 0 0) []) (.inl ⟨rfl,rfl,rfl⟩)
 refine AK (L':=[(9,.int .i64 0),(8,.slice none (CL C 0).length (CL C 0).length),(7,.slice none (CI C 0).length (CI C 0).length),(4,.int .i64 0),(1,ptrTo B1 0)]) sE ?_
 refine A2 rfl (fun m Le S'=>∃(i:Nat) (a1 a2:Option Addr),i≤C.length∧m=C.length-i∧Af [(9,.int .i64 (i:Int)),(8,.slice a2 (CL C i).length (CL C i).length),(7,.slice a1 (CI C i).length (CI C i).length),(4,.int .i64 0),(1,ptrTo B1 0)] Le∧M6 [Gx (.slice a1 (CI C i).length (CI C i).length) (CI C i),Gx (.slice a2 (CL C i).length (CL C i).length) (CL C i)]∧AE S [S] S' [(B1,.cells [.string nm,.slice a C.length cap] 44 false true [])] [Gx (.slice a1 (CI C i).length (CI C i).length) (CI C i),Gx (.slice a2 (CL C i).length (CL C i).length) (CL C i)]) ?_ (m:=C.length) ⟨0,none,none,AA,AA,sE,ABy _ _,hl⟩
 clear hl;rintro m Le S' ⟨i,a1,a2,hi,rfl,AH,hA,hl⟩;refine AK AH ?_
 refine zg ?_
 constructor<;>intro Dy
 ·
  have AN:i<C.length:=dT Dy
  obtain⟨b,o,cs,rfl,AQ,Cy⟩:=hv.row AA
  refine zg ?_
  refine zc hl rfl (YU _ cap C i (hv.move (hl.since 0 rfl))) ?_;rintro v S1 AM rfl hl
  refine rr rfl (BY rfl rfl rfl) ?_;refine zg ?_
  constructor<;>intro DA
  ·
   refine HB rfl ?_;refine xg AB ?_;refine rm rfl ?_;refine rr rfl (Ao rfl rfl rfl (i6 (by first|omega|(simp at *;omega)))) ?_;refine zg ?_
   have e1:CI C (i+1)=CI C i:=by rw[gH,show D7 C (i:Nat)=false by simpa using DA];exact List.append_nil _
   have e2:CL C (i+1)=CL C i:=by rw[lR,show D7 C (i:Nat)=false by simpa using DA];exact List.append_nil _
   exact⟨C.length-(i+1),AA,i+1,a1,a2,AA,rfl,by rw[e1,e2];exact sE,by rw[e1,e2];exact hA,by rw[e1,e2];exact hl⟩
  refine Ar rfl ?_
  have aW:D7 C (i:Nat)=true:=by simpa using DA
  refine AG rfl (Ex (fun Le S'=>∃a3,Af [(9,.int .i64 (i:Int)),(8,.slice a2 (CL C i).length (CL C i).length),(7,.slice a3 (CI C (i+1)).length (CI C (i+1)).length),(4,.int .i64 0),(1,ptrTo B1 0)] Le∧M6 [Gx (.slice a3 (CI C (i+1)).length (CI C (i+1)).length) (CI C (i+1)),Gx (.slice a2 (CL C i).length (CL C i).length) (CL C i)]∧AE S [S] S' [(B1,.cells [.string nm,.slice (some ⟨b,o,none⟩) C.length cap] 44 false true [])] [Gx (.slice a3 (CI C (i+1)).length (CI C (i+1)).length) (CI C (i+1)),Gx (.slice a2 (CL C i).length (CL C i).length) (CL C i)]) ?_ ?_)
  ·
   refine AG rfl (CR hl 44 (.bool (!DJ C i)) ?_ rfl ?_)
   ·
    refine xg AB ?_;refine rr rfl (CM rfl rfl (fa Tryz.underlying44 J3 rfl)) ?_;refine rr rfl (rl hl 0 rfl rfl AB rfl rfl) ?_;refine rm rfl ?_;refine rr rfl (Ao rfl rfl rfl (i6 (by first|omega|(simp at *;omega)))) ?_
    refine zc hl rfl (YU _ cap C ((i:Int)-1) (hv.move (hl.since 0 rfl))) ?_;rintro v S1 AM rfl hl
    refine rr rfl (BY rfl rfl rfl) ?_;refine zg ?_;refine AZ (d:=36) rfl (fun Eg=>?_) (fun Eg=>?_)
    ·
     refine zg ?_
     exact⟨rfl,bl (by rw[yK Eg];rfl),by repeat (first|exact BN _|refine BO rfl ?_),hl⟩
    have Q9:1≤i:=by obtain⟨j,hj,_⟩:=dp Eg;omega
    refine rr rfl (CM rfl rfl (fa Tryz.underlying44 J3 rfl)) ?_;refine rr rfl (rl hl 0 rfl rfl AB rfl rfl) ?_;refine rm rfl ?_;refine rr rfl (Ao rfl rfl rfl (i6 (by first|omega|(simp at *;omega)))) ?_;refine rr rfl (Ea rfl rfl rfl (F3 (z:=17) Tryz.underlying42 AB ⟨by first|omega|(simp at *;omega),by first|omega|(simp at *;omega)⟩)) ?_;refine zA ?_;refine rr rfl (CU rfl rfl (GN AB (E6 (hl.since 0 rfl) AQ) (Ht (Cy ((i:Int)-1) (by obtain⟨j,hj,_⟩:=dp Eg;omega) AA) rfl))) ?_;refine zA ?_
    exact⟨rfl,bl (AJI Eg),by repeat (first|exact BN _|refine BO rfl ?_),hl⟩
   intro S1 hl
   refine zg ?_
   constructor<;>intro Gz
   ·
    refine zg ?_;refine dL hl [iv (i:Int)] Tryz.underlying38 fun B47 S1 AHC hl=>?_;refine zF hl hA 0 rfl rfl rfl rfl rfl rfl rfl rfl rfl Tryz.underlying38 Tryz.underlying38 rfl rfl (Nat.lt_succ_self 0) AB (YW (new:=[iv (i:Int)]) AHC rfl) rfl rfl AB (by show(CI C i).length+1≤Ae;unfold Ae;have:=tH C i;omega) ?_;intro v48 S1 hl hA;refine zg ?_
    have e1:CI C (i+1)=CI C i++[((i:Nat):Int)]:=by rw[gH,aW,Gz];rfl
    obtain⟨a3,rfl⟩:∃a3,v48= .slice a3 ((CI C i).length+1) ((CI C i).length+1):=Am.is (hl.gr _ Al)
    refine⟨rfl,a3,?_⟩
    rw[e1]
    simp only[Gx,DS,List.length_singleton,Hm,List.map_cons,List.map_nil]
    exact⟨sE,hA,hl⟩
   refine zg ?_
   have e1:CI C (i+1)=CI C i:=by rw[gH,aW,Gz];exact List.append_nil _
   exact⟨rfl,a1,by rw[e1];exact⟨sE,hA,hl⟩⟩
  rintro Le S1 ⟨a3,PD,hA,hl⟩;refine AK PD ?_
  refine xs AB ?_;refine rr rfl (CM rfl rfl (fa Tryz.underlying44 J3 rfl)) ?_;refine rr rfl (rl hl 0 rfl rfl AB rfl rfl) ?_;refine rm rfl ?_;refine rr rfl (Ea rfl rfl rfl (F3 (z:=17) Tryz.underlying42 AB ⟨by first|omega|(simp at *;omega),by first|omega|(simp at *;omega)⟩)) ?_;refine rr rfl (CM rfl rfl (fa Tryz.underlying55 EP rfl)) ?_;refine rr rfl (CU rfl rfl (GN AB (E6 (hl.since 0 rfl) AQ) (Ht (Cy _ (by first|omega|(simp at *;omega)) (by first|omega|(simp at *;omega))) rfl))) ?_
  refine Ak rfl ?_;refine zi tt rfl ?_
  constructor<;>intro Ip
  ·
   refine zg ?_;refine dL hl [iv (i:Int)] Tryz.underlying38 fun Yu S1 XD hl=>?_;refine zF hl hA 1 rfl rfl rfl rfl rfl rfl rfl rfl rfl Tryz.underlying38 Tryz.underlying38 rfl rfl (Nat.lt_succ_self 0) AB (YW (new:=[iv (i:Int)]) XD rfl) rfl rfl AB (by show(CL C i).length+1≤Ae;unfold Ae;have:=AH4 C i;omega) ?_;intro ou S1 hl hA;refine rm rfl ?_;refine Ak rfl ?_;refine xg AB ?_;refine rm rfl ?_;refine rr rfl (Ao rfl rfl rfl (i6 (by first|omega|(simp at *;omega)))) ?_;refine zg ?_
   have e2:CL C (i+1)=CL C i++[((i:Nat):Int)]:=by rw[lR,aW,Ip];rfl
   obtain⟨a4,rfl⟩:∃a4,ou= .slice a4 ((CL C i).length+1) ((CL C i).length+1):=Am.is (hl.gr _ (BQ Al))
   refine⟨C.length-(i+1),AA,i+1,a3,a4,AA,rfl,?_⟩
   rw[e2]
   simp only[Gx,DS,List.length_singleton,Hm,List.map_cons,List.map_nil]
   exact⟨sE,hA,hl⟩
  refine Ar rfl ?_;refine xg AB ?_;refine rm rfl ?_;refine rr rfl (Ao rfl rfl rfl (i6 (by first|omega|(simp at *;omega)))) ?_;refine zg ?_
  have e2:CL C (i+1)=CL C i:=by rw[lR,aW,Ip];exact List.append_nil _
  exact⟨C.length-(i+1),AA,i+1,a3,a2,AA,rfl,by rw[e2];exact sE,by rw[e2];exact hA,by rw[e2];exact hl⟩
 refine zg ?_
 refine BA (BD rfl (BD rfl (BD rfl rfl))) ⟨hl.AD,by
 have DH:i=C.length:=dF Dy
 subst DH
 exact⟨_,_,by rw[show(Df nm.data.toList C).1=0 by simpa using Bt],fun _=>⟨hl.gr _ Al,hl.gr _ (BQ Al),hA⟩⟩⟩
end Go.Proofs.YtmfphenhpkgidaaGreatDoor
namespace Go.Proofs.YtmfphenhpkgidaaGreatDoor
open Go.Cm Go
set_option maxRecDepth 100000
variable{S:St}
end Go.Proofs.YtmfphenhpkgidaaGreatDoor
namespace Go.Proofs.YtmfphenhpkgidaaGreatDoor
open Go.Cm Go
set_option maxRecDepth 100000
variable{S:St}
def D6:Nat→List Sg→Int→Int→Int→Int×Int×Int
 |0,_,_,f,t=>(0,f,t)
 |n+1,C,i,f,t=>bif H2 (AU C i).kind==1 then D6 n C (i+1) (bif decide (f<0)then i else f) (i+1)
  else bif H2 (AU C i).kind==2 then(bif decide (f<0)then(13,f,t)else D6 n C (i+1) f (i+1))
  else D6 n C (i+1) f t
theorem zh{n:Nat}{C:List Sg}{i f t:Int}(h:(H2 (AU C i).kind==1)=true):D6 (n+1) C i f t=D6 n C (i+1) (bif decide (f<0)then i else f) (i+1):=by rw[D6,h];rfl
theorem zj{n:Nat}{C:List Sg}{i f t:Int}(h:(H2 (AU C i).kind==1)=false)(h2:(H2 (AU C i).kind==2)=true)(h3:decide (f<0)=true):D6 (n+1) C i f t=(13,f,t):=by rw[D6,h,h2,h3];rfl
theorem zk{n:Nat}{C:List Sg}{i f t:Int}(h:(H2 (AU C i).kind==1)=false)(h2:(H2 (AU C i).kind==2)=true)(h3:decide (f<0)=false):D6 (n+1) C i f t=D6 n C (i+1) f (i+1):=by rw[D6,h,h2,h3];rfl
theorem zl{n:Nat}{C:List Sg}{i f t:Int}(h:(H2 (AU C i).kind==1)=false)(h2:(H2 (AU C i).kind==2)=false):D6 (n+1) C i f t=D6 n C (i+1) f t:=by rw[D6,h,h2];rfl
def Xf(a b c d:Int):Bool:=(a==0)&&((b==0)&&((c==0)&&((d==0)&&true)))
def Jv(C:List Sg)(p q:Nat)(a b c d:Int):Int×Int×Int :=
 bif (D6 (q-p) C p (-1) 0).1 !=0 then D6 (q-p) C p (-1) 0 else bif decide ((D6 (q-p) C p (-1) 0).2.1≥0)&&Xf a b c d then(12,(D6 (q-p) C p (-1) 0).2)else D6 (q-p) C p (-1) 0
def Pl(f t a b c d:Int):List Value:=[.int .i64 f,.int .i64 t,.int .i64 a,.int .i64 b,.int .i64 c,.int .i64 d,.int .i64 0,.int .i64 0]
noncomputable def AEQ:Code:=Tryz.f216.body.getD .skip
theorem AN2(a:Option Addr)(cap:Nat)(C:List Sg)(p q:Nat)(ma mb mc md:Int)(hn:C.length≤1000)(vB:p≤q)(hq:q≤C.length)(hv:Ck S (.slice a C.length cap) C):CC Tryz.prog KK 216 [.slice a C.length cap,.int .i64 p,.int .i64 q,AX [.int .i64 ma,.int .i64 mb,.int .i64 mc,.int .i64 md]] S (fun v S'=>AL S S'∧v=Aw [AX (Pl (Jv C p q ma mb mc md).2.1 (Jv C p q ma mb mc md).2.2 ma mb mc md),.int .i64 (Jv C p q ma mb mc md).1]):=by
 refine Ce (c:=AEQ) (n:=54) Tryz.func216 rfl rfl rfl AB rfl rfl ?_
 have hl:=BE.start S
 refine zg ?_;refine bL hl fun B7 S7 hl=>?_;refine aL hl [.int .i64 0,.int .i64 0,.int .i64 0,.int .i64 0,.int .i64 0,.int .i64 0,.int .i64 0,.int .i64 0] fun B8 S8 hl=>?_;refine zg ?_;refine rr rfl (A9 rfl rfl (v:=AX (Pl (-1) 0 ma mb mc md)) (by rfl)) ?_;refine aL hl [.int .i64 0,.int .i64 0,.int .i64 0,.int .i64 0,.int .i64 0,.int .i64 0,.int .i64 0,.int .i64 0] fun Hv GB hl=>?_;refine CN hl 0 rfl rfl rfl rfl rfl rfl rfl AB rfl ?_;intro S1 hl;refine zA ?_;refine AG rfl ?_;refine zS ?_;refine Az rfl ?_
 -- LOOP
 refine AK (L':=[(11,.int .i64 p),(10,ptrTo Hv 0),(9,.int .i64 0),(8,ptrTo B8 0),(7,ptrTo B7 0),(0,.slice a C.length cap),(2,.int .i64 q)]) sE ?_
 refine A2 rfl (fun m Le S'=>∃(i:Nat) (f g:Int),p≤i∧i≤q∧m=q-i∧Af [(11,.int .i64 (i:Int)),(10,ptrTo Hv 0),(9,.int .i64 0),(8,ptrTo B8 0),(7,ptrTo B7 0),(0,.slice a C.length cap),(2,.int .i64 q)] Le∧D6 (q-i) C i f g=D6 (q-p) C p (-1) 0∧AE S [S] S' [(Hv,.cells (Pl f g ma mb mc md) 163 false true []),(B8,.cells [.int .i64 0,.int .i64 0,.int .i64 0,.int .i64 0,.int .i64 0,.int .i64 0,.int .i64 0,.int .i64 0] 163 false true []),(B7,.cells [.int .i64 ma,.int .i64 mb,.int .i64 mc,.int .i64 md] 51 false true [])] []) ?_ (m:=q-p) ⟨p, -1,0,Nat.le_refl _,vB,rfl,sE,rfl,hl⟩
 clear hl;rintro m Le S' ⟨i,f,g,HK,hi,rfl,AH,DI,hl⟩;refine AK AH ?_
 refine zg ?_
 constructor<;>intro Dl
 ·
  have AN:i<q:=dT Dl
  obtain⟨b,o,cs,rfl,AQ,Cy⟩:=hv.row AA
  have O':q-i=(q-(i+1))+1:=by omega
  refine Ar rfl ?_;refine AG rfl ?_;refine Az rfl ?_;refine xs AB ?_;iterate 2 refine rm rfl ?_
  refine rr rfl (Ea rfl rfl rfl (F3 (z:=17) Tryz.underlying42 AB ⟨by first|omega|(simp at *;omega),by first|omega|(simp at *;omega)⟩)) ?_;refine rr rfl (CU rfl rfl (Rk (z:=17) AB AB (E6 (hl.since 0 rfl) AQ) (Cy _ (by first|omega|(simp at *;omega)) (by first|omega|(simp at *;omega))))) ?_
  refine Pf hl rfl rfl rfl rfl rfl rfl rfl (n9 (AU C i)) ?_;rintro v S1 AM rfl hl
  refine zA ?_;refine Az rfl ?_;refine zS ?_;refine zi tt rfl ?_
  constructor<;>intro C'
  ·
   refine AG rfl (ABQ (fun S'=>AE S [S] S' [(Hv,.cells (Pl (bif decide (f<0)then(i:Int)else f) g ma mb mc md) 163 false true []),(B8,.cells [.int .i64 0,.int .i64 0,.int .i64 0,.int .i64 0,.int .i64 0,.int .i64 0,.int .i64 0,.int .i64 0] 163 false true []),(B7,.cells [.int .i64 ma,.int .i64 mb,.int .i64 mc,.int .i64 md] 51 false true [])] []) ?_ ?_)
   ·
    refine zg ?_
    constructor<;>intro DA
    ·
     refine zg ?_;refine CN hl 0 rfl rfl rfl rfl rfl rfl rfl AB rfl ?_;intro S1 hl;refine zg ?_
     exact⟨rfl,by repeat (first|exact BN _|refine BO rfl ?_),by rw[DA];exact hl⟩
    refine zg ?_
    exact⟨rfl,by repeat (first|exact BN _|refine BO rfl ?_),by rw[DA];exact hl⟩
   intro S1 hl
   refine xg AB ?_;refine rm rfl ?_;refine rr rfl (Ao rfl rfl rfl (i6 (by first|omega|(simp at *;omega)))) ?_;refine zg ?_;refine CN hl 0 rfl rfl rfl rfl rfl rfl rfl AB rfl ?_;intro S1 hl;refine Ak rfl ?_;refine xg AB ?_;refine rm rfl ?_;refine rr rfl (Ao rfl rfl rfl (i6 (by first|omega|(simp at *;omega)))) ?_;refine zg ?_
   exact⟨q-(i+1),AA,i+1,(bif decide (f<0)then(i:Int)else f),(i:Int)+1,AA,AA,rfl,sE,by rw[←DI,O',zh C'];rfl,hl⟩
  refine zg ?_
  constructor<;>intro Dz
  ·
   refine zg ?_
   constructor<;>intro EB
   refine zg ?_;refine CN hl 1 rfl rfl rfl rfl rfl rfl rfl AB rfl ?_;intro S1 hl;refine zg ?_
   refine Ai (AR (AR (Ai (Bg (AR (Ai (BA (Bm rfl (CD (z:=8) AB AB (hl.get 1 rfl) rfl) (BD rfl rfl)) ⟨hl.AD,by
  have e:D6 (q-p) C p (-1) 0=(13,f,g):=by rw[←DI,O',zj C' Dz EB]
  unfold Jv;rw[e];rfl⟩)))))))
   ·
    refine Ar rfl ?_;refine xg AB ?_;refine rm rfl ?_;refine rr rfl (Ao rfl rfl rfl (i6 (by first|omega|(simp at *;omega)))) ?_;refine zg ?_;refine CN hl 0 rfl rfl rfl rfl rfl rfl rfl AB rfl ?_;intro S1 hl;refine Ak rfl ?_;refine xg AB ?_;refine rm rfl ?_;refine rr rfl (Ao rfl rfl rfl (i6 (by first|omega|(simp at *;omega)))) ?_;refine zg ?_
    exact⟨q-(i+1),AA,i+1,f,(i:Int)+1,AA,AA,rfl,sE,by rw[←DI,O',zk C' Dz EB];rfl,hl⟩
  refine Ar rfl ?_;refine xg AB ?_;refine rm rfl ?_;refine rr rfl (Ao rfl rfl rfl (i6 (by first|omega|(simp at *;omega)))) ?_;refine zg ?_
  exact⟨q-(i+1),AA,i+1,f,g,AA,AA,rfl,sE,by rw[←DI,O',zl C' Dz];rfl,hl⟩
 refine HB rfl ?_;refine AG rfl ?_;refine AG rfl (CR hl 51 (.bool (decide (f≥0)&&Xf ma mb mc md)) ?_ rfl ?_)
 ·
  refine zg ?_;refine AZ (d:=47) rfl (fun K3=>?_) (fun K3=>?_)
  ·
   refine zg ?_;refine rr rfl (A9 rfl rfl (v:=AX [.int .i64 0,.int .i64 0,.int .i64 0,.int .i64 0]) (by rfl)) ?_;refine rr rfl (Ao rfl rfl rfl (e7 AB (sq _ ma mb mc md 0 0 0 0))) ?_;refine zg ?_
   exact⟨rfl,bl (by unfold Xf;simp only[K3,Ag]),by repeat (first|exact BN _|refine BO rfl ?_),hl⟩
  refine zg ?_
  exact⟨rfl,bl (by unfold Xf;simp only[K3,Ag]),by repeat (first|exact BN _|refine BO rfl ?_),hl⟩
 intro S1 hl
 refine zg ?_
 constructor<;>intro Wi
 ·
  refine zg ?_;refine CN hl 1 rfl rfl rfl rfl rfl rfl rfl AB rfl ?_;intro S1 hl;refine zg ?_
  refine Ai (BA (Bm rfl (CD (z:=8) AB AB (hl.get 1 rfl) rfl) (BD rfl rfl)) ⟨hl.AD,by
  have e:D6 (q-p) C p (-1) 0=(0,f,g):=by rw[←DI,show q-i=0 from dF Dl];rfl
  unfold Jv;rw[e];simp only[bne_self_eq_false,cond_false,Wi,cond_true];rfl⟩)
 refine zg ?_;refine CN hl 1 rfl rfl rfl rfl rfl rfl rfl AB rfl ?_;intro S1 hl;refine zg ?_
 refine BA (Bm rfl (CD (z:=8) AB AB (hl.get 1 rfl) rfl) (BD rfl rfl)) ⟨hl.AD,by
 have e:D6 (q-p) C p (-1) 0=(0,f,g):=by rw[←DI,show q-i=0 from dF Dl];rfl
 unfold Jv;rw[e];simp only[bne_self_eq_false,cond_false,Wi];rfl⟩
end Go.Proofs.YtmfphenhpkgidaaGreatDoor
namespace Go.Proofs.YtmfphenhpkgidaaGreatDoor
open Go.Cm Go
set_option maxRecDepth 100000
variable{S:St}
end Go.Proofs.YtmfphenhpkgidaaGreatDoor
namespace Go.Proofs.YtmfphenhpkgidaaGreatDoor
open Go.Cm Go
set_option maxRecDepth 100000
variable{S:St}
theorem cv{C:List Sg}{i:Nat}(h:i<C.length):nth C i=some (AU C (i:Nat)):=by
 obtain⟨s,hs⟩:=Ad h
 rw[hs,nw hs]
theorem nY:∀(r:List Sg) (b:Bool) (i:Nat),(Da b r i).1=0→∀j s,nth r j=some s→one s=0∧(s.kind=4→s.last=false→∃s2,nth r (j+1)=some s2∧s2.kind=4)
 | [],_,_,_,j,s,hs=>by cases j<;>cases hs
 |x::r,b,i,h,j,s,hs=>by
  cases h1:(one x !=0)with
  |true =>
   rw[Da,h1]at h
   have h':one x=0:=h
   rw[h']at h1;cases h1
  |false =>
   have ho:one x=0:=by simpa using h1
   have hh:∀b',(Da b' r (i+1)).1=0→(x.kind=4→x.last=false→HQ r=true)→one s=0∧(s.kind=4→s.last=false→∃s2,nth (x::r) (j+1)=some s2∧s2.kind=4):=by
    intro b' hb hn
    cases j with
    |succ j=>exact nY r b' (i+1) hb j s hs
    |zero =>
     cases hs
     refine⟨ho,fun k1 k2=>?_⟩
     have:=hn k1 k2
     cases r with
     |nil=>cases this
     |cons y r=>exact⟨y,rfl,by simpa [HQ]using this⟩
   cases h2:(x.kind !=4)with
   |true =>
    rw[nT h1 h2]at h
    exact hh b h fun k1 _=>by rw[k1]at h2;cases h2
   |false =>
    cases h3:(x.last&&!b)with
    |true=>rw[nU h1 h2 h3]at h;cases h
    |false =>
     cases h4:x.last with
     |true =>
      rw[nV h1 h2 h3 h4]at h
      exact hh false h fun _ k2=>by rw[h4]at k2;cases k2
     |false =>
      cases h5:HQ r with
      |true =>
       rw[nX h1 h2 h3 h4 (by rw[h5];rfl)]at h
       exact hh true h fun _ _=>h5
      |false=>rw[nW h1 h2 h3 h4 (by rw[h5];rfl)]at h;cases h
structure Ki(C:List Sg):Prop where
 next:∀i:Nat,i<C.length→(AU C (i:Nat)).kind=4→(AU C (i:Nat)).last=false→i+1<C.length∧(AU C ((i+1:Nat):Int)).kind=4
 ok:∀i:Nat,i<C.length→one (AU C (i:Nat))=0
theorem AIH{nm:List UInt8}{C:List Sg}(h:(Df nm C).1=0):Ki C:=by
 have h0:(Da false C 0).1=0:=by
  unfold Df at h
  cases h1:!HP nm with
  |true=>rw[h1]at h;cases h
  |false =>
   cases h2:decide ((C.length:Int)>400)with
   |true=>rw[h1,h2]at h;cases h
   |false=>rw[h1,h2]at h;exact h
 refine⟨fun i hi hk hl=>?_,fun i hi=>(nY C false 0 h0 i _ (cv hi)).1⟩
 obtain⟨s2,e1,e2⟩:=(nY C false 0 h0 i _ (cv hi)).2 hk hl
 exact⟨I5 e1,by rw[nw e1];exact e2⟩
theorem dq{C:List Sg}{i:Nat}(h:i<C.length):D7 C (i:Nat)=((AU C (i:Nat)).kind==4):=by
 unfold D7
 rw[decide_eq_true (show(i:Int)≥0 by omega),decide_eq_true (show(i:Int)<C.length by omega),show((i:Int)).toNat=i from rfl,cv h]
 rfl
theorem l9{C:List Sg}{i:Nat}(h:i<C.length):DJ C (i+1)=(((AU C (i:Nat)).kind==4)&&!(AU C (i:Nat)).last):=Xj (cv h)
def KR:Nat→List Sg→Nat→Nat
 |0,_,i=>i
 |n+1,C,i=>bif (AU C (i:Nat)).last then i else KR n C (i+1)
def I7:Nat→List Sg→Nat→List (Nat×Nat)
 |0,_,_=>[]
 |n+1,C,i=>bif decide (i<C.length)then(bif (AU C (i:Nat)).kind==4 then(i,KR C.length C i)::I7 n C (KR C.length C i+1)else I7 n C (i+1))else []
def Na(C:List Sg):Nat→Nat→List Int
 |0,_=>[]
 |n+1,i=>(bif D7 C (i:Nat)&&!DJ C i then [((i:Nat):Int)]else [])++Na C n (i+1)
def N6(C:List Sg):Nat→Nat→List Int
 |0,_=>[]
 |n+1,i=>(bif D7 C (i:Nat)&&(AU C (i:Nat)).last then [((i:Nat):Int)]else [])++N6 C n (i+1)
theorem tW(C:List Sg):∀(n i:Nat),((List.range' i n).filter fun j=>D7 C (j:Nat)&&!DJ C j).map (fun j=>((j:Nat):Int))=Na C n i
 |0,_=>rfl
 |n+1,i=>by
  rw[List.range'_succ,List.filter_cons,Na,←tW C n (i+1)]
  cases (D7 C (i:Nat)&&!DJ C i)<;>rfl
theorem xM(C:List Sg):∀(n i:Nat),((List.range' i n).filter fun j=>D7 C (j:Nat)&&(AU C (j:Nat)).last).map (fun j=>((j:Nat):Int))=N6 C n i
 |0,_=>rfl
 |n+1,i=>by
  rw[List.range'_succ,List.filter_cons,N6,←xM C n (i+1)]
  cases (D7 C (i:Nat)&&(AU C (i:Nat)).last)<;>rfl
structure ABg(C:List Sg)(i k:Nat):Prop where
 le:i≤k
 lt:k<C.length
 last:(AU C (k:Nat)).last=true
 no:∀j:Nat,i≤j→j<k→(AU C (j:Nat)).last=false
 shut:DJ C (k+1)=false
 ls:N6 C (C.length-i) i=(k:Int)::N6 C (C.length-(k+1)) (k+1)
 fs:Na C (C.length-(i+1)) (i+1)=Na C (C.length-(k+1)) (k+1)
theorem xC{C:List Sg}(hC:Ki C):∀(m i:Nat),i<C.length→C.length-i≤m→(AU C (i:Nat)).kind=4→ABg C i (KR m C i)
 |0,i,hi,hm,_=>by omega
 |m+1,i,hi,hm,hk=>by
  have ht:D7 C (i:Nat)=true:=by rw[dq hi,hk];rfl
  have hn:C.length-i=(C.length-(i+1))+1:=by omega
  cases hl:(AU C (i:Nat)).last with
  |true =>
   rw[show KR (m+1) C i=i by rw[KR,hl];rfl]
   refine⟨Nat.le_refl _,hi,hl,fun j h1 h2=>by omega,by rw[l9 hi,hl,Bool.not_true,Bool.and_false],?_,rfl⟩
   rw[hn,N6,ht,hl];rfl
  |false =>
   rw[show KR (m+1) C i=KR m C (i+1) by rw[KR,hl];rfl]
   obtain⟨h1,h2⟩:=hC.next i hi hk hl
   have h:=xC hC m (i+1) h1 AA h2
   have ho:DJ C (i+1)=true:=by rw[l9 hi,hk,hl];rfl
   refine⟨by have:=h.le;omega,h.lt,h.last,fun j h3 h4=>?_,h.shut,?_,?_⟩
   ·by_cases e:j=i
    ·rw[e];exact hl
    exact h.no j AA h4
   ·rw[hn,N6,ht,hl,←h.ls];rfl
   rw[show C.length-(i+1)=(C.length-(i+1+1))+1 by omega,Na,ho,←h.fs]
   simp
theorem X8{C:List Sg}(hC:Ki C):∀(n i:Nat),C.length-i≤n→DJ C i=false→Na C (C.length-i) i=(I7 n C i).map (fun p=>(p.1:Int))∧N6 C (C.length-i) i=(I7 n C i).map (fun p=>(p.2:Int))∧∀p,p∈I7 n C i→i≤p.1∧p.1≤p.2∧p.2<C.length
 |0,i,hn,_=>by
  rw[show C.length-i=0 by omega]
  exact⟨rfl,rfl,fun p hp=>(List.not_mem_nil hp).elim⟩
 |n+1,i,hn,ho=>by
  by_cases hi:i<C.length
  ·have hq:C.length-i=(C.length-(i+1))+1:=by omega
   cases hk:((AU C (i:Nat)).kind==4)with
   |true =>
    have h:=xC hC C.length i hi AA (by simpa using hk)
    obtain⟨h1,h2,h3⟩:=X8 hC n (KR C.length C i+1) (by have:=h.le;omega) h.shut
    have e:I7 (n+1) C i=(i,KR C.length C i)::I7 n C (KR C.length C i+1):=by rw[I7,decide_eq_true hi,hk];rfl
    refine⟨?_,?_,fun p hp=>?_⟩
    ·rw[e,hq,Na,dq hi,hk,ho,h.fs,h1];rfl
    ·rw[e,h.ls,h2];rfl
    rw[e]at hp
    rcases List.mem_cons.1 hp with rfl|hp
    ·exact⟨Nat.le_refl _,h.le,h.lt⟩
    have:=h3 p hp
    have:=h.le
    exact⟨AA,AA,AA⟩
   |false =>
    have IC:DJ C (i+1)=false:=by rw[l9 hi,hk];rfl
    obtain⟨h1,h2,h3⟩:=X8 hC n (i+1) AA IC
    have e:I7 (n+1) C i=I7 n C (i+1):=by rw[I7,decide_eq_true hi,hk];rfl
    refine⟨?_,?_,fun p hp=>?_⟩
    ·rw[e,hq,Na,dq hi,hk,h1];rfl
    ·rw[e,hq,N6,dq hi,hk,h2];rfl
    rw[e]at hp
    have:=h3 p hp
    exact⟨AA,this.2⟩
  have e:I7 (n+1) C i= []:=by rw[I7,decide_eq_false hi];rfl
  rw[e,show C.length-i=0 by omega]
  exact⟨rfl,rfl,fun p hp=>(List.not_mem_nil hp).elim⟩
def Cp(C:List Sg):List (Nat×Nat):=I7 C.length C 0
theorem mW{C:List Sg}(hC:Ki C):CI C C.length=(Cp C).map (fun p=>(p.1:Int)):=by
 have h:=(X8 hC C.length 0 AA rfl).1
 unfold CI Cp
 rw[tW,←h];rfl
theorem yu{C:List Sg}(hC:Ki C):CL C C.length=(Cp C).map (fun p=>(p.2:Int)):=by
 have h:=(X8 hC C.length 0 AA rfl).2.1
 unfold CL Cp
 rw[xM,←h];rfl
theorem AJZ{C:List Sg}(hC:Ki C){p:Nat×Nat}(hp:p∈Cp C):p.1≤p.2∧p.2<C.length:=((X8 hC C.length 0 AA rfl).2.2 p hp).2
theorem AJY{C:List Sg}(hC:Ki C):(Cp C).length≤C.length:=by
 have h:=congrArg List.length (mW hC)
 rw[D1]at h
 have:=tH C C.length
 omega
def Ci(C:List Sg)(f l:Nat):List Sg:=(C.drop f).take (l+1-f)
def bo(s:Sg)(v:Int):Sg:={kind:=1,value:=v,place:=s.place,acc:=s.acc,color:=s.color,BJ:=0,Co:=false,last:=false,mx:=0,md:=0,tm:=0,pr:=0,Fa:=false,n:=0,d:=0,step:=0,line:=0}
def MU(C W:List Sg)(f:Nat):Nat→Nat→List Sg→List Sg
 |0,_,D=>D
 |n+1,j,D=>MU C W f n (j+1) (D.set (f+j) (bo (AU C ((f+j:Nat):Int)) (MO W (j:Nat))))
def J'(C:List Sg):List (Nat×Nat)→List Sg→Int×List Sg
 | [],D=>(0,D)
 |p::r,D=>bif (HO (Ci C p.1 p.2)).1 !=0 then((HO (Ci C p.1 p.2)).1,[])else J' C r (MU C (Ci C p.1 p.2) p.1 (p.2+1-p.1) 0 D)
def Fg(nm:List UInt8)(C:List Sg):Int×List Sg:=bif (Df nm C).1 !=0 then((Df nm C).1,[])else J' C (Cp C) C
theorem s6{C D:List Sg}{p:Nat×Nat}{r:List (Nat×Nat)}(h:((HO (Ci C p.1 p.2)).1 !=0)=true):J' C (p::r) D=((HO (Ci C p.1 p.2)).1,[]):=by rw[J',h];rfl
theorem s7{C D:List Sg}{p:Nat×Nat}{r:List (Nat×Nat)}(h:((HO (Ci C p.1 p.2)).1 !=0)=false):J' C (p::r) D=J' C r (MU C (Ci C p.1 p.2) p.1 (p.2+1-p.1) 0 D):=by rw[J',h];rfl
theorem zm{C:List Sg}{f l:Nat}(h:l<C.length)(hf:f≤l):(Ci C f l).length=l+1-f:=by
 unfold Ci
 rw[List.length_take,List.length_drop];omega
theorem zw{a:Value}{z:List Value}{c:List Value}:∀(p:List Value) {k:Nat} {r:List Value},Bq k (a::z) c=some r→Bq (p.length+k) (a::z) (p++c)=some (p++r)
 | [],k,r,h=>by simpa using h
 |x::p,k,r,h=>by
  rw[show(x::p).length+k=(p.length+k)+1 by simp only[List.length_cons];omega]
  have e:=zw p h
  simp only[List.cons_append,Bq,e]
theorem zs:∀(z y r:List Value),z.length=y.length→Bq 0 z (y++r)=some (z++r)
 | [],[],r,_=>by simp only[List.nil_append,Bq]
 | [],_::_,_,h=>by simp at h
 |_::_,[],_,h=>by simp at h
 |a::z,b::y,r,h=>by
  have e:=zs z y r (by simpa using h)
  simp only[List.cons_append,Bq,e]
theorem zu(x:Sg):∀(D:List Sg) (i:Nat),i<D.length→Bq (i*17) x.cells (D.map Sg.cells).flatten=some ((D.set i x).map Sg.cells).flatten
 | [],i,h=>by simp at h
 |y::D,0,_=>by
  rw[Nat.zero_mul]
  simpa only[List.map_cons,List.flatten_cons,List.set_cons_zero]using zs x.cells y.cells (D.map Sg.cells).flatten rfl
 |y::D,i+1,h=>by
  have e:Bq (y.cells.length+i*17) x.cells (y.cells++(D.map Sg.cells).flatten)=some (y.cells++((D.set i x).map Sg.cells).flatten):=zw y.cells (zu x D i (by simpa using h))
  rw[show y.cells.length+i*17=(i+1)*17 by rw[r4];omega]at e
  exact e
end Go.Proofs.YtmfphenhpkgidaaGreatDoor
namespace Go.Proofs.YtmfphenhpkgidaaGreatDoor
open Go.Cm Go
set_option maxRecDepth 100000
variable{S:St}
end Go.Proofs.YtmfphenhpkgidaaGreatDoor
namespace Go.Proofs.YtmfphenhpkgidaaGreatDoor
open Go.Cm Go
set_option maxRecDepth 100000
variable{S:St}
theorem yA:∀{α:Type} {l:List α} {n k:Nat},nth (l.drop n) k=nth l (n+k)
 |_,l,0,k=>by rw[List.drop_zero,Nat.zero_add]
 |_,[],n+1,k=>by rw[List.drop_nil,MQ (by simp),MQ (by simp)]
 |_,x::l,n+1,k=>by
  rw[List.drop_succ_cons,yA,show n+1+k=(n+k)+1 by omega]
  rfl
theorem Ck.mid{S:St}{a:Option Addr}{cap:Nat}{C:List Sg}(h:Ck S (.slice a C.length cap) C){f l:Nat}{x y:Int}(hf:f≤l)(hl:l<C.length)(hx:x=(f:Int))(hy:y=(l:Int)+1) :
  ∃a2 BM,Fq Tryz.prog 42 (.slice a C.length cap) (some (.int .i64 x)) (some (.int .i64 y)) none S=some (.slice a2 (Ci C f l).length BM)∧Ck S (.slice a2 (Ci C f l).length BM) (Ci C f l):=by
 have hlen:=zm hl hf
 rcases h with ⟨h1,_⟩|⟨b,o,WG,cs,e1,MH,⟨hb,own,kin,hg⟩,h3⟩
 ·rw[List.map_eq_nil_iff.1 h1]at hl;simp at hl
 rw[D1]at e1 MH
 cases e1
 refine⟨some ⟨b,o+f*17,none⟩,cap-f,?_,.inr ⟨b,o+f*17,cap-f,cs,?_,?_,⟨hb,own,kin,hg⟩,fun j z hz=>?_⟩⟩
 ·rw[hlen]
  unfold Fq
  have hz:A5 Tryz.prog 55=some 17:=by kernel_rfl
  have iN:H0 C.length cap (some (.int .i64 x)) (some (.int .i64 y)) none=some (f,l+1,cap):=by
   unfold H0 Jt
   subst hx
   subst hy
   simp only
   rw[if_pos ⟨AA,AA⟩]
   simp only
   rw[show((l:Int)+1).toNat=l+1 by omega,if_pos ⟨AA,AA⟩]
   rfl
  have hr:I8 Tryz.prog S b 17=true:=by
   unfold I8
   rw[hg]
   simp only[hz]
   rfl
  simp only[Tryz.underlying42,hz,iN,hr,cond_true,Option.isSome_none,Bool.false_and,cond_false]
 ·rw[D1]
 ·rw[D1,hlen];omega
 obtain⟨s,hs⟩:∃s,nth (Ci C f l) j=some s:=Ad (by have:=I5 hz;rwa [D1]at this)
 rw[Rn Sg.cells hs]at hz
 cases hz
 have h4:nth C (f+j)=some s:=by rw[←yA];exact Xi hs
 have:=h3 (f+j) _ (Rn Sg.cells h4)
 rw[show o+f*17+j*17=o+(f+j)*17 by omega]
 exact this
theorem AE.AJJ{S S':St}(hk:AL S S'){b:Nat}{x:AF}(h1:S.size≤b)(h2:b<S'.size)(h3:S'.get b=some x):AE S [S] S' [(b,x)] [] :=
 ⟨hk,List.nodup_cons.2 ⟨List.not_mem_nil,List.nodup_nil⟩,fun c y hc=>by cases List.mem_singleton.1 hc;exact⟨h3,h1,h2⟩,fun T hT=>by rw[List.mem_singleton.1 hT];exact hk.rk,fun g hg=>(List.not_mem_nil hg).elim⟩
theorem Ln.own{S S':St}(hk:AL S S'){v:Value}{l:List Int}(h:Ln S S' v l)(Ac:0<l.length):∃b kin,v= .slice (some ⟨b,0,none⟩) l.length l.length∧AE S [S] S' [(b,.cells (l.map iv) 3 true true kin)] []:=by
 rcases h with ⟨_,h,_⟩|⟨b,kin,h1,h2,h3,h4,_⟩
 ·rw[List.map_eq_nil_iff.1 h]at Ac;simp at Ac
 exact⟨b,kin,h1,AE.AJJ hk h2 h3 h4⟩
def ND(aw:Option Addr)(D:List Sg)(tl:List (Nat×AF)):Prop:=(D= []∧aw=none∧tl= []) ∨
 ∃b ks dr,aw=some ⟨b,0,none⟩∧tl=(b,.cells (D.map Sg.cells).flatten 55 true true ks)::dr∧(0<D.length→dr=Ky 55 ks)
theorem ND.pos{aw:Option Addr}{D:List Sg}{tl:List (Nat×AF)}(h:ND aw D tl)(Ac:0<D.length):∃b ks,aw=some ⟨b,0,none⟩∧tl=(b,.cells (D.map Sg.cells).flatten 55 true true ks)::Ky 55 ks:=by
 rcases h with ⟨h,_⟩|⟨b,ks,dr,h1,h2,h3⟩
 ·rw[h]at Ac;simp at Ac
 exact⟨b,ks,h1,by rw[h2,h3 Ac]⟩
theorem ND.put{b:Nat}{D:List Sg}:ND (some ⟨b,0,none⟩) D ([(b,.cells (D.map Sg.cells).flatten 55 true true [])]:List (Nat×AF)):= .inr ⟨b,[],[],rfl,rfl,fun _=>rfl⟩
theorem ND.AT{S0 S:St}{Ts:List St}{r tl:List (Nat×AF)}{gs:List Gr}{aw:Option Addr}{D:List Sg}(h:ND aw D tl)(hl:AE S0 Ts S (r++tl) gs):Ck S (.slice aw D.length D.length) D:=by
 rcases h with ⟨rfl,rfl,_⟩|⟨b,ks,dr,rfl,rfl,_⟩
 ·exact .inl ⟨rfl,.inl rfl⟩
 have:=hl.at_ b _ (List.mem_append.2 (.inr Al))
 exact eM.AT (S0:=S0) (.inr ⟨b,ks,rfl,this.2.1,this.2.2,this.1,Zs D⟩)
theorem ANK{D:List Sg}{i:Nat}{k:Int}(x:Sg)(hk:k=(i:Int))(h:i<D.length):Bq (0+k.toNat*17) (BG x.v) (D.map Sg.cells).flatten=some ((D.set i x).map Sg.cells).flatten:=by
 subst hk
 rw[Nat.zero_add]
 exact zu x D i h
theorem ASZ{C:List Sg}{j:Nat}(h:j<C.length):nth ((KS C).map iv) (0+((j:Nat):Int).toNat*1)=some (.int .i64 (MO C (j:Nat))):=by
 rw[Nat.zero_add,Nat.mul_one]
 unfold KS
 rw[List.map_map,show((j:Nat):Int).toNat=j from rfl,yG _ _ _ _ h,Nat.zero_add]
 rfl
end Go.Proofs.YtmfphenhpkgidaaGreatDoor
namespace Go.Proofs.YtmfphenhpkgidaaGreatDoor
open Go.Cm Go
set_option maxRecDepth 100000
variable{S:St}
theorem sz{nl:List UInt8}{C:List Sg}(h:((Df nl C).1 !=0)=true):Fg nl C=((Df nl C).1,[]):=by unfold Fg;rw[h];rfl
theorem s5{nl:List UInt8}{C:List Sg}(h:((Df nl C).1 !=0)=false):Fg nl C=J' C (Cp C) C:=by unfold Fg;rw[h];rfl
def eI(nl:List UInt8)(C:List Sg)(v:Value)(S':St):Prop:= ∃lq a' BM,v=Aw [AX [.string lq,.slice a' (Fg nl C).2.length BM],.int .i64 (Fg nl C).1]∧Ck S' (.slice a' (Fg nl C).2.length BM) (Fg nl C).2
theorem fq{S':St}{nl:List UInt8}{C X:List Sg}{e:Int}{lq:ByteArray}{a':Option Addr}{len BM:Nat}(h:Fg nl C=(e,X))(hlen:len=X.length)(hs:Ck S' (.slice a' X.length BM) X):eI nl C (Aw [AX [.string lq,.slice a' len BM],.int .i64 e]) S':=by
 subst hlen
 unfold eI
 rw[h]
 exact⟨_,_,_,rfl,hs⟩
theorem AAA(S:St):Ck S (.slice none ([]:List Sg).length 0) []:= .inl ⟨rfl,.inl rfl⟩
end Go.Proofs.YtmfphenhpkgidaaGreatDoor
namespace Go.Proofs.YtmfphenhpkgidaaGreatDoor
open Go.Cm Go
set_option maxRecDepth 100000
variable{S:St}
theorem To.oy{aw:Option Addr}{C:List Sg}{tl:List (Nat×AF)}(h:To 55 aw C.length (C.map Sg.cells).flatten tl):ND aw C tl:=by
 rcases h with ⟨B0,h1,h2,h3,h4⟩|⟨B,B0,h1,h2,h3⟩
 ·exact .inr ⟨B0,[],[],h3,by rw[h4,h2],fun _=>rfl⟩
 exact .inr ⟨B,[B0],_,h2,h3,fun _=>rfl⟩
theorem gV{C:List Sg}(hC:Ki C){i:Nat}{p:Nat×Nat}(h:nth (Cp C) i=some p):nth ((CI C C.length).map iv) (0+((i:Nat):Int).toNat*1)=some (.int .i64 (p.1:Int)):=by
 rw[Nat.zero_add,Nat.mul_one,mW hC,List.map_map]
 exact Rn _ h
theorem AAE{C:List Sg}(hC:Ki C){i:Nat}{p:Nat×Nat}(h:nth (Cp C) i=some p):nth ((CL C C.length).map iv) (0+((i:Nat):Int).toNat*1)=some (.int .i64 (p.2:Int)):=by
 rw[Nat.zero_add,Nat.mul_one,yu hC,List.map_map]
 exact Rn _ h
theorem sa:∀{l:List (Nat×Nat)} {i:Nat} {x:Nat×Nat},nth l i=some x→l.drop i=x::l.drop (i+1)
 | [],_,_,h=>by cases h
 |y::l,0,x,h=>by cases h;rfl
 |y::l,i+1,x,h=>by simpa using sa (l:=l) (i:=i) h
def FLp(a1 a2:Option Addr)(C:List Sg)(fl:List (Nat×AF)):Prop:=0<(Cp C).length→∃b1 k1 b2 k2,a1=some ⟨b1,0,none⟩∧a2=some ⟨b2,0,none⟩∧fl= [(b1,.cells ((CI C C.length).map iv) 3 true true k1),(b2,.cells ((CL C C.length).map iv) 3 true true k2)]
theorem AII{S S':St}{w1 w2:Value}{C:List Sg}(hk:AL S S')(hC:Ki C)(h1:Ln S S' w1 (CI C C.length))(h2:Ln S S' w2 (CL C C.length))(hA:M6 [Gx w1 (CI C C.length),Gx w2 (CL C C.length)]) :
  ∃a1 a2 fl,w1= .slice a1 (Cp C).length (Cp C).length∧w2= .slice a2 (Cp C).length (Cp C).length∧FLp a1 a2 C fl∧AE S [S] S' fl []:=by
 have e1:(CI C C.length).length=(Cp C).length:=by rw[mW hC,D1]
 have e2:(CL C C.length).length=(Cp C).length:=by rw[yu hC,D1]
 rcases Nat.eq_zero_or_pos (Cp C).length with h0|h0
 ·obtain⟨a1,f1⟩:∃a1,w1= .slice a1 (CI C C.length).length (CI C C.length).length:=Am.is h1
  obtain⟨a2,f2⟩:∃a2,w2= .slice a2 (CL C C.length).length (CL C C.length).length:=Am.is h2
  rw[e1]at f1
  rw[e2]at f2
  exact⟨a1,a2,[],f1,f2,fun h=>by omega,(BE.start S).call hk⟩
 rcases h1 with ⟨_,h,_⟩|⟨b1,k1,f1,f2,f3,f4,_⟩
 ·have:(Cp C).length=0:=by rw[←e1,←List.length_map (f:=iv)];exact congrArg List.length h
  omega
 rcases h2 with ⟨_,h,_⟩|⟨b2,k2,g1,g2,g3,g4,_⟩
 ·have:(Cp C).length=0:=by rw[←e2,←List.length_map (f:=iv)];exact congrArg List.length h
  omega
 have f1:w1= .slice (some ⟨b1,0,none⟩) (CI C C.length).length (CI C C.length).length:=f1
 have g1:w2= .slice (some ⟨b2,0,none⟩) (CL C C.length).length (CL C C.length).length:=g1
 have Ac:b1≠b2:=by
  intro e
  subst e
  subst f1
  subst g1
  rcases hA 0 1 _ _ AA rfl rfl with h|h
  ·cases h
  exact h rfl
 rw[e1]at f1
 rw[e2]at g1
 refine⟨_,_,_,f1,g1,fun _=>⟨b1,k1,b2,k2,rfl,rfl,rfl⟩,⟨hk,?_,fun b x hb=>?_,fun T hT=>by rw[List.mem_singleton.1 hT];exact hk.rk,fun g hg=>(List.not_mem_nil hg).elim⟩⟩
 ·exact List.nodup_cons.2 ⟨fun h=>Ac (List.mem_singleton.1 h),List.nodup_cons.2 ⟨List.not_mem_nil,List.nodup_nil⟩⟩
 rcases List.mem_cons.1 hb with e|hb
 ·cases e;exact⟨f4,f2,f3⟩
 cases List.mem_singleton.1 hb;exact⟨g4,g2,g3⟩
noncomputable def AEI:Code:=Tryz.f110.body.getD .skip
theorem AAF(nm:ByteArray)(a:Option Addr)(cap:Nat)(C:List Sg)(Ch:nm.data.toList.length≤1000)(hn:C.length≤1000)(hF:BW S)(hv:Ck S (.slice a C.length cap) C):CC Tryz.prog KK 110 [AX [.string nm,.slice a C.length cap]] S (fun v S'=>AL S S'∧eI nm.data.toList C v S'):=by
 refine Ce (c:=AEI) (n:=96) Tryz.func110 rfl rfl rfl AB rfl rfl ?_
 have hl:=BE.start S
 refine zg ?_;refine bL hl fun B1 S1 hl=>?_;refine aL hl ([.string ⟨#[]⟩,.slice none 0 0]) fun B2 S2 hl=>?_;refine zg ?_
 refine zc hl rfl (ANh nm a cap C Ch hn (hv.move (hl.since 0 rfl))) ?_;have GJ:=hl;rintro v S1 AM ⟨w1,w2,rfl,Ud⟩ hl
 refine zg ?_
 constructor<;>intro Cq
 ·
  refine zg ?_;refine rr rfl (A9 rfl rfl (v:=AX [.string ⟨#[]⟩,.slice none 0 0]) (by rfl)) ?_;refine zg ?_;refine CN hl 0 rfl rfl rfl rfl rfl rfl rfl AB rfl ?_;intro S1 hl;refine zg ?_
  refine Ai (BA (Bm rfl (CD (z:=2) AB AB (hl.get 0 rfl) rfl) (BD rfl rfl)) ⟨hl.AD,fq (sz Cq) rfl (AAA _)⟩)
 refine zg ?_
 have h0:(Df nm.data.toList C).1=0:=by simpa using Cq
 have hC:Ki C:=AIH h0
 have hex:=s5 Cq
 obtain⟨ij,Wx,hA⟩:=Ud h0
 obtain⟨a1,a2,fl,rfl,rfl,Iu,uo⟩:=AII AM hC ij Wx hA
 have hl:=GJ.join uo
 refine BC (idx:=[0,1,2,3,4,7,5,6,8]) rfl AB AB ?_;refine zg ?_;refine nM hF hl (c:=[]) rfl rfl rfl rfl rfl Tryz.underlying42 rfl AB ?_;intro B25 S1 hl;refine zg ?_;refine KZ hF hl rfl rfl rfl rfl rfl (z:=[.string ⟨#[]⟩,.slice none 0 0]) AB ?_;intro B7 S7 hl
 have hl:=hl.perm (List.Perm.swap _ _ _)
 have F1:=hv.move (hl.since 0 rfl)
 refine zU hl rfl rfl rfl rfl rfl rfl rfl Tryz.underlying42 Tryz.underlying42 rfl rfl AB F1.cells (Zs C) (gJ C) AB (by unfold Ae;omega) ?_;intro aw tl S1 hT hl
 have hT:=To.oy hT
 have hl:=hl.perm (l':=[(B7,.cells [.string ⟨#[]⟩,.slice none 0 0] 44 false true []),(B2,.cells [.string ⟨#[]⟩,.slice none 0 0] 44 false true []),(B1,.cells [.string nm,.slice a C.length cap] 44 false true [])]++(fl++tl)) ((List.perm_append_comm (l₁:=tl) (l₂:=[(B7,.cells [.string ⟨#[]⟩,.slice none 0 0] 44 false true []),(B2,.cells [.string ⟨#[]⟩,.slice none 0 0] 44 false true []),(B1,.cells [.string nm,.slice a C.length cap] 44 false true [])]++fl)).trans (List.Perm.of_eq (List.append_assoc [(B7,.cells [.string ⟨#[]⟩,.slice none 0 0] 44 false true []),(B2,.cells [.string ⟨#[]⟩,.slice none 0 0] 44 false true []),(B1,.cells [.string nm,.slice a C.length cap] 44 false true [])] fl tl)))
 refine⟨⟨AAp rfl (hl.get 0 rfl) (VJ _ _ (by decide) (BS (V8 _) (BS (Y9 _ _ _) GG))),ON AB,ON AB,CQ rfl rfl (C4 AB (hl.get 2 rfl) rfl) (Dt (V8 _)) rfl,trivial⟩,?_⟩
 refine pr rfl (A9 rfl rfl (v:=AX [.string nm,.slice aw C.length C.length]) (by rfl)) ?_
 refine Hs hl 0 rfl rfl rfl rfl rfl rfl rfl AB rfl ?_;intro S1 hl;refine⟨OM AB,?_⟩
 refine zA ?_;refine AG rfl ?_;refine zS ?_;refine Az rfl ?_
 -- LOOP
 refine AK (L':=[(8,.int .i64 0),(7,ptrTo B7 0),(5,.slice a2 (Cp C).length (Cp C).length),(4,.slice a1 (Cp C).length (Cp C).length),(3,.int .i64 0),(2,ptrTo B2 0),(1,ptrTo B1 0)]) sE ?_
 refine A2 rfl (fun m Le S'=>∃(i:Nat) (D:List Sg) (tl:List (Nat×AF)),i≤(Cp C).length∧m=(Cp C).length-i∧D.length=C.length∧J' C ((Cp C).drop i) D=J' C (Cp C) C∧ND aw D tl∧Af [(8,.int .i64 (i:Int)),(7,ptrTo B7 0),(5,.slice a2 (Cp C).length (Cp C).length),(4,.slice a1 (Cp C).length (Cp C).length),(3,.int .i64 0),(2,ptrTo B2 0),(1,ptrTo B1 0)] Le∧AE S [S] S' ([(B7,.cells [.string nm,.slice aw C.length C.length] 44 false true []),(B2,.cells [.string ⟨#[]⟩,.slice none 0 0] 44 false true []),(B1,.cells [.string nm,.slice a C.length cap] 44 false true [])]++(fl++tl)) []) ?_ (m:=(Cp C).length) ⟨0,C,tl,AA,AA,rfl,rfl,hT,sE,hl⟩
 clear hl hT GJ uo;rintro m Le S' ⟨i,D,tl,hi,rfl,hD,DI,hT,AH,hl⟩;refine AK AH ?_
 refine zg ?_
 constructor<;>intro EU
 ·
  have AN:i<(Cp C).length:=dT EU
  obtain⟨p,hp⟩:=Ad AN
  obtain⟨Dp,u9⟩:=AJZ hC (BV hp)
  have hpn:=AJY hC
  rw[sa hp]at DI
  obtain⟨b1,k1,b2,k2,Fi,FD,rfl⟩:=Iu AA
  obtain⟨b,ks,haw,rfl⟩:=hT.pos AA
  obtain⟨b0,o,cs,ha,AQ,Cy⟩:=hv.row AA
  have hW:=zm u9 Dp
  refine zg ?_;refine BC (idx:=[0,1,2,3,4,5,6,7,8,9,10,11,12,13,14,15,16,17,18,19]) rfl AB AB ?_;refine nM hF hl (c:=[]) rfl rfl rfl rfl rfl Tryz.underlying42 rfl AB ?_;intro B37 S1 hl;refine zA ?_;refine pk rfl (rl hl 3 rfl rfl AB rfl rfl) ?_;refine zA ?_;refine pk rfl (CU rfl rfl (C4 AB (hl.get 4 rfl) (gV hC hp))) ?_;refine zA ?_;refine pk rfl (CU rfl rfl (C4 AB (hl.get 5 rfl) (AAE hC hp))) ?_;refine zA ?_
  obtain⟨a3,ZN,PC,F2⟩:=(hv.move (hl.since 0 rfl)).mid Dp u9 rfl rfl
  refine pk rfl (cT rfl rfl rfl rfl rfl PC) ?_
  refine zU hl rfl rfl rfl rfl rfl rfl rfl Tryz.underlying42 Tryz.underlying42 rfl rfl AB F2.cells (Zs _) (gJ _) AB (by unfold Ae;omega) ?_;intro a4 oT S1 hT4 hl;refine⟨OM AB,?_⟩
  refine zp hl rfl (ANj a4 _ (Ci C p.1 p.2) AA (hl.AD.3 hF) (ND.AT (r:=[]) (To.oy hT4) (hl.sub (List.sublist_append_left oT _)))) ?_;rintro v S2 ED ⟨w,rfl,uW⟩ CY;refine⟨OM AB,?_⟩;have LA:AE S [S] S1 ([(B7,.cells [.string nm,.slice aw C.length C.length] 44 false true []),(B2,.cells [.string ⟨#[]⟩,.slice none 0 0] 44 false true []),(B1,.cells [.string nm,.slice a C.length cap] 44 false true []),(b1,.cells ((CI C C.length).map iv) 3 true true k1),(b2,.cells ((CL C C.length).map iv) 3 true true k2)]++((b,.cells (D.map Sg.cells).flatten 55 true true ks)::Ky 55 ks)) []:=hl.sub (List.sublist_append_right oT _);have hl:AE S [S] S2 ([(B7,.cells [.string nm,.slice aw C.length C.length] 44 false true []),(B2,.cells [.string ⟨#[]⟩,.slice none 0 0] 44 false true []),(B1,.cells [.string nm,.slice a C.length cap] 44 false true []),(b1,.cells ((CI C C.length).map iv) 3 true true k1),(b2,.cells ((CL C C.length).map iv) 3 true true k2)]++((b,.cells (D.map Sg.cells).flatten 55 true true ks)::Ky 55 ks)) []:=CY.sub (List.sublist_append_right oT _)
  refine zg ?_
  constructor<;>intro E3
  ·
   refine zg ?_;refine rr rfl (A9 rfl rfl (v:=AX [.string ⟨#[]⟩,.slice none 0 0]) (by rfl)) ?_;refine zg ?_;refine CN hl 1 rfl rfl rfl rfl rfl rfl rfl AB rfl ?_;intro S1 hl;refine zg ?_
   refine Ai (AR (Ai (Bg (AR (Ai (BA (Bm rfl (CD (z:=2) AB AB (hl.get 1 rfl) rfl) (BD rfl rfl)) ⟨hl.AD,fq (by rw[hex,←DI,s6 (p:=p) E3]) rfl (AAA _)⟩))))))
  rw[E3]at uW
  obtain⟨vb,dw,ew,hlw⟩:=Ln.own ED uW (by show 0<(KS (Ci C p.1 p.2)).length;rw[lT];omega)
  have ew:w= .slice (some ⟨vb,0,none⟩) (Ci C p.1 p.2).length (Ci C p.1 p.2).length:=by rw[←lT (Ci C p.1 p.2)];exact ew
  subst ew
  have hl:=(LA.join hlw).perm (l':=[(B7,.cells [.string nm,.slice aw C.length C.length] 44 false true []),(B2,.cells [.string ⟨#[]⟩,.slice none 0 0] 44 false true []),(B1,.cells [.string nm,.slice a C.length cap] 44 false true []),(b1,.cells ((CI C C.length).map iv) 3 true true k1),(b2,.cells ((CL C C.length).map iv) 3 true true k2),(vb,.cells ((KS (Ci C p.1 p.2)).map iv) 3 true true dw)]++((b,.cells (D.map Sg.cells).flatten 55 true true ks)::Ky 55 ks)) (by rw[List.append_assoc];exact List.Perm.append_left _ List.perm_append_comm)
  refine Ar rfl ?_;refine zS ?_;refine rr rfl (CU rfl rfl (C4 AB (hl.get 3 rfl) (gV hC hp))) ?_;refine zA ?_;refine Az rfl ?_
  -- LOOP
  refine AK (L':=[(11,.int .i64 ((p.1:Int)+((0:Nat):Int))),(9,.slice (some ⟨vb,0,none⟩) (Ci C p.1 p.2).length (Ci C p.1 p.2).length),(8,.int .i64 (i:Int)),(7,ptrTo B7 0),(5,.slice a2 (Cp C).length (Cp C).length),(4,.slice a1 (Cp C).length (Cp C).length),(3,.int .i64 0),(2,ptrTo B2 0),(1,ptrTo B1 0)]) sE ?_
  refine A2 rfl (fun m Le S'=>∃(j:Nat) (E:List Sg) (ks:List Nat),j≤(Ci C p.1 p.2).length∧m=(Ci C p.1 p.2).length-j∧E.length=C.length∧MU C (Ci C p.1 p.2) p.1 ((Ci C p.1 p.2).length-j) j E=MU C (Ci C p.1 p.2) p.1 (Ci C p.1 p.2).length 0 D∧Af [(11,.int .i64 ((p.1:Int)+(j:Int))),(9,.slice (some ⟨vb,0,none⟩) (Ci C p.1 p.2).length (Ci C p.1 p.2).length),(8,.int .i64 (i:Int)),(7,ptrTo B7 0),(5,.slice a2 (Cp C).length (Cp C).length),(4,.slice a1 (Cp C).length (Cp C).length),(3,.int .i64 0),(2,ptrTo B2 0),(1,ptrTo B1 0)] Le∧AE S [S] S' ([(B7,.cells [.string nm,.slice aw C.length C.length] 44 false true []),(B2,.cells [.string ⟨#[]⟩,.slice none 0 0] 44 false true []),(B1,.cells [.string nm,.slice a C.length cap] 44 false true []),(b1,.cells ((CI C C.length).map iv) 3 true true k1),(b2,.cells ((CL C C.length).map iv) 3 true true k2),(vb,.cells ((KS (Ci C p.1 p.2)).map iv) 3 true true dw)]++((b,.cells (E.map Sg.cells).flatten 55 true true ks)::Ky 55 ks)) []) ?_ (m:=(Ci C p.1 p.2).length) ⟨0,D,ks,AA,AA,hD,by rw[Nat.sub_zero],sE,hl⟩
  clear hl;rintro m Le S' ⟨j,E,lP,hj,rfl,hE,Bp,AH,hl⟩;refine AK AH ?_
  refine AG rfl ?_;refine zS ?_;refine rr rfl (CU rfl rfl (C4 AB (hl.get 4 rfl) (AAE hC hp))) ?_;refine zA ?_;refine zi tt rfl ?_
  constructor<;>intro K4
  ·
   have O7:j<(Ci C p.1 p.2).length:=dT K4
   refine Ar rfl ?_;refine AG rfl ?_;refine Az rfl ?_;refine zS ?_;refine rr rfl (rl hl 2 rfl rfl AB rfl rfl) ?_;refine zA ?_;refine rr rfl (CU rfl rfl (Rk (z:=17) AB AB (E6 (hl.since 0 rfl) AQ) (Cy ((p.1:Int)+(j:Int)) AA AA))) ?_;refine aL hl [.int .i64 0,.int .i64 0,.int .i64 0,.int .i64 0,.bool false,.int .i64 0,.bool false,.bool false,.int .i64 0,.int .i64 0,.int .i64 0,.int .i64 0,.bool false,.int .i64 0,.int .i64 0,.int .i64 0,.int .i64 0] fun eG Ko hl=>?_
   refine CN hl 0 rfl rfl rfl rfl rfl rfl rfl AB rfl ?_;intro S1 hl;refine zg ?_;refine BC (idx:=[0,1,2,3,4,5,6,7,8,9,10,11,12,13,14,15,16,17,18,19,20]) rfl AB AB ?_;refine zA ?_;refine pk rfl (rl hl 1 rfl rfl AB rfl rfl) ?_;refine zA ?_;refine pk rfl (CU rfl rfl (C4 AB (hl.get 4 rfl) (gV hC hp))) ?_;refine pr rfl (Ao rfl rfl rfl (congrArg some (congrArg (Value.int .i64) ((IntWalk.i64_in _ AA).trans (show(p.1:Int)+(j:Int)-(p.1:Int)=(j:Int) by omega))))) ?_
   refine pr rfl (Ea rfl rfl rfl (F3 (z:=1) Tryz.underlying38 AB ⟨AA,AA⟩)) ?_;refine pk rfl (CU rfl rfl (C4 AB (hl.get 6 rfl) (ASZ O7))) ?_;refine zA ?_;refine pk rfl (rl hl 0 rfl rfl AB rfl rfl) ?_;refine zA ?_;refine pk rfl (rl hl 0 rfl rfl AB rfl rfl) ?_;refine zA ?_;refine pk rfl (rl hl 0 rfl rfl AB rfl rfl) ?_;refine pr rfl (A9 rfl rfl (v:=(bo (AU C ((p.1:Int)+(j:Int))) (MO (Ci C p.1 p.2) (j:Nat))).v) (by rfl)) ?_;refine zg ?_
   refine AKT ((eG,.cells (AU C ((p.1:Int)+(j:Int))).cells 55 false true [])::[(B7,.cells [.string nm,.slice aw C.length C.length] 44 false true []),(B2,.cells [.string ⟨#[]⟩,.slice none 0 0] 44 false true []),(B1,.cells [.string nm,.slice a C.length cap] 44 false true []),(b1,.cells ((CI C C.length).map iv) 3 true true k1),(b2,.cells ((CL C C.length).map iv) 3 true true k2),(vb,.cells ((KS (Ci C p.1 p.2)).map iv) 3 true true dw)]) hl rfl rfl rfl rfl rfl rfl AB (ANK (bo (AU C ((p.1:Int)+(j:Int))) (MO (Ci C p.1 p.2) (j:Nat))) (i:=p.1+j) AA AA) ?_;intro S1 hl;refine⟨OM AB,?_⟩
   refine zg ?_
   refine⟨(Ci C p.1 p.2).length-(j+1),AA,j+1,E.set (p.1+j) (bo (AU C ((p.1:Int)+(j:Int))) (MO (Ci C p.1 p.2) (j:Nat))),[],AA,rfl,by rw[List.length_set];exact hE,?_,sE,hl.tail⟩
   rw[←Bp,show(Ci C p.1 p.2).length-j=((Ci C p.1 p.2).length-(j+1))+1 by omega];rfl
  refine zg ?_
  have HH:j=(Ci C p.1 p.2).length:=dF K4
  rw[HH,Nat.sub_self]at Bp
  have Bp:E=MU C (Ci C p.1 p.2) p.1 (Ci C p.1 p.2).length 0 D:=Bp
  have hl:=hl.sub (List.Sublist.append_left (l₁:=(b,.cells (E.map Sg.cells).flatten 55 true true lP)::Ky 55 lP) (List.sublist_cons_self (vb,.cells ((KS (Ci C p.1 p.2)).map iv) 3 true true dw) _) ([(B7,.cells [.string nm,.slice aw C.length C.length] 44 false true []),(B2,.cells [.string ⟨#[]⟩,.slice none 0 0] 44 false true []),(B1,.cells [.string nm,.slice a C.length cap] 44 false true []),(b1,.cells ((CI C C.length).map iv) 3 true true k1),(b2,.cells ((CL C C.length).map iv) 3 true true k2)]))
  refine⟨(Cp C).length-(i+1),AA,i+1,E,_,AA,rfl,hE,?_,.inr ⟨b,lP,_,haw,rfl,fun _=>rfl⟩,sE,hl⟩
  rw[←DI,s7 (p:=p) E3,Bp,hW]
 refine zg ?_;refine CN hl 1 rfl rfl rfl rfl rfl rfl rfl AB rfl ?_;intro S1 hl;refine zg ?_
 refine BA (Bm rfl (CD (z:=2) AB AB (hl.get 1 rfl) rfl) (BD rfl rfl)) ⟨hl.AD,fq (X:=D) (by rw[hex,←DI,show i=(Cp C).length from dF EU,List.drop_length];rfl) hD.symm (by rw[hD];have:=hT.AT (r:=[(B7,.cells [.string nm,.slice aw C.length C.length] 44 false true []),(B2,.cells [.string nm,.slice aw C.length C.length] 44 false true []),(B1,.cells [.string nm,.slice a C.length cap] 44 false true [])]++fl) (by rw[List.append_assoc];exact hl);rwa [hD]at this)⟩
end Go.Proofs.YtmfphenhpkgidaaGreatDoor
namespace Go.Proofs.YtmfphenhpkgidaaGreatDoor
open Go.Cm Go
set_option maxRecDepth 100000
variable{S:St}
def gI(a b:Int):Int:=((Nat.gcd a.toNat b.toNat:Nat):Int)
theorem AFr{a:Int}(h:0≤a):gI a 0=a:=by
 unfold gI
 rw[show(0:Int).toNat=0 from rfl,Nat.gcd_zero_right]
 omega
theorem AFq{a b:Int}(ha:0≤a)(hb:0<b):gI b (a.tmod b)=gI a b:=by
 unfold gI
 rw[Int.tmod_eq_emod_of_nonneg ha,Int.toNat_emod ha AA,Nat.gcd_comm a.toNat,Nat.gcd_rec b.toNat a.toNat,Nat.gcd_comm]
theorem gf{a b:Int}(hb:0<b):0<gI a b:=by
 unfold gI
 have:=Nat.gcd_pos_of_pos_right a.toNat (n:=b.toNat) AA
 omega
theorem gd{a b:Int}(hb:0<b):gI a b≤b:=by
 unfold gI
 have:=Nat.gcd_le_right a.toNat (n:=b.toNat) AA
 omega
theorem ml{a b:Int}(hb:0<b)(h:b≤a):1≤a.tdiv b:=by
 rw[Int.tdiv_eq_ediv_of_nonneg AA]
 exact(Int.le_ediv_iff_mul_le hb).2 AA
def VT(t:Ti):Prop:=0≤t.n∧t.n≤1099511627776∧1≤t.d∧t.d≤1048576
theorem GO{a b:Int}{m n:Int}(h0:0≤a)(h1:a≤m)(h2:0≤b)(h3:b≤n):0≤a*b∧a*b≤m*n :=
 ⟨Int.mul_nonneg h0 h2,Int.mul_le_mul h1 h3 h2 AA⟩
def GC(v:Value):Prop:= ∃(t:Ti) (e:Int),v=Aw [t.v,.int .i64 e]∧(e=0→VT t)
theorem c4(a b:Int)(ha:0≤a)(hb:0≤b)(FD:a≤9223372036854775807)(K5:b≤9223372036854775807):CC Tryz.prog KK 276 [.int .i64 a,.int .i64 b] S (fun v S'=>AL S S'∧(v= .int .i64 (gI a b))):=by
 refine ce 14 Tryz.func276 fun hl=>?_;refine zg ?_;refine AK (L':=[(4,.int .i64 0),(0,.int .i64 a),(1,.int .i64 b)]) sE ?_
 refine A2 rfl (fun m Le S'=>∃x y:Int,(0≤x∧0≤y∧x≤9223372036854775807∧y≤9223372036854775807)∧m=y.toNat∧gI x y=gI a b∧Af [(4,.int .i64 0),(0,.int .i64 x),(1,.int .i64 y)] Le∧BE S [S] S' []) ?_ (m:=b.toNat) ⟨a,b,⟨ha,hb,FD,K5⟩,rfl,rfl,sE,hl⟩
 clear hl;rintro m Le S' ⟨x,y,RS,rfl,BH,AH,hl⟩;refine AK AH ?_
 refine zg ?_
 constructor<;>intro h7
 ·
  have hy:0<y:=dT h7
  have hr:=IV (a:=x) hy RS.1
  refine zg ?_
  exact⟨(x.tmod y).toNat,AA,y,x.tmod y,⟨AA,AA,AA,AA⟩,rfl,(AFq RS.1 hy).trans BH,sE,hl.tail⟩
 have hy:y=0:=dF h7
 subst hy
 rw[AFr RS.1]at BH
 refine zg ?_
 refine y1 rfl ⟨hl.AD,congrArg (Value.int .i64) BH⟩
def tB(t:Ti):Bool:=decide (t.n<0)||(decide (t.n>1099511627776)||(decide (t.d<1)||decide (t.d>1048576)))
theorem AR1{t:Ti}(h:tB t=false):VT t:=by
 unfold tB at h
 simp only[Bool.or_eq_false_iff,decide_eq_false_iff_not]at h
 unfold VT
 omega
theorem oD(t:Ti):CC Tryz.prog KK 275 [t.v] S (fun v S'=>AL S S'∧(∃e:Int,v= .int .i64 e∧(e=0→VT t))):=by
 refine ce 27 Tryz.func275 fun hl=>?_;refine zg ?_;refine bL hl fun B1 S1 hl=>?_;refine zA ?_;refine AG rfl ?_;refine AG rfl (CR hl 20 (.bool (tB t)) ?_ rfl ?_)
 ·
  refine zg ?_;refine AZ (d:=6) rfl (fun h6=>?_) (fun h6=>?_)
  ·
   refine zg ?_
   exact⟨rfl,bl (by unfold tB;rw[h6];rfl),sB,hl⟩
  refine zg ?_;refine AZ (d:=11) rfl (fun Ba=>?_) (fun Ba=>?_)
  ·
   refine zg ?_
   exact⟨rfl,bl (by unfold tB;rw[h6,Ba];rfl),sB,hl⟩
  refine zg ?_;refine AZ (d:=16) rfl (fun Bt=>?_) (fun Bt=>?_)
  ·
   refine zg ?_
   exact⟨rfl,bl (by unfold tB;rw[h6,Ba,Bt];rfl),sB,hl⟩
  refine zg ?_
  exact⟨rfl,bl (by unfold tB;rw[h6,Ba,Bt];rfl),sB,hl⟩
 intro S1 hl
 refine zg ?_
 constructor<;>intro Cq
 ·
  refine zg ?_
  exact(z1 rfl ⟨hl.AD,_,rfl,AA⟩)
 have hb:=AR1 Cq
 refine zg ?_
 refine zc hl rfl (c4 t.n t.d hb.1 (by have:=hb.2.2;omega) (by have:=hb.2.1;omega) (by have:=hb.2.2.2;omega)) ?_;rintro v S1 AM rfl hl
 refine zg ?_
 constructor<;>intro C3
 ·
  refine zg ?_
  exact(z1 rfl ⟨hl.AD,_,rfl,AA⟩)
 refine zg ?_
 refine y1 rfl ⟨hl.AD,0,rfl,fun _=>hb⟩
theorem oF(n d:Int)(hn:0≤n)(hd:1≤d)(IB:n≤9223372036854775807)(H':d≤9223372036854775807):CC Tryz.prog KK 316 [.int .i64 n,.int .i64 d] S (fun v S'=>AL S S'∧(GC v)):=by
 refine ce 26 Tryz.func316 fun hl=>?_
 have hg:=gf (a:=n) (b:=d) AA
 have Wx:=gd (a:=n) (b:=d) AA
 have hq1:=Hn (a:=n) hg hn
 have hq2:=Hn (a:=d) hg AA
 have hq3:=ml hg Wx
 refine zg ?_;refine aL hl [.int .i64 0,.int .i64 0] fun B4 S4 hl=>?_;refine zg ?_
 refine zc hl rfl (c4 n d hn AA IB H') ?_;rintro v S1 AM rfl hl
 generalize gI n d=g at *
 refine zA ?_;iterate 2 refine zS ?_
 refine AG rfl ?_;refine AG rfl (CR hl 21 (.bool (decide (n.tdiv g>1099511627776)||decide (d.tdiv g>1048576))) ?_ rfl ?_)
 ·
  refine zg ?_;refine AZ (d:=18) rfl (fun Ct=>?_) (fun Ct=>?_)
  ·
   refine zg ?_
   exact⟨rfl,bl (by rw[Ct];rfl),sB,hl⟩
  refine zg ?_
  exact⟨rfl,bl (by rw[Ct];rfl),sB,hl⟩
 intro S1 hl
 refine zg ?_
 constructor<;>intro Bf
 ·
  refine zg ?_;refine rr rfl (A9 rfl rfl (v:=AX [.int .i64 0,.int .i64 0]) (by rfl)) ?_;refine sL hl 0 [.int .i64 0,.int .i64 0] fun S1 hl=>?_;refine zg ?_
  exact Ai (BA (Bm rfl (lN (z:=2) (hl.get 0 rfl) rfl) (BD rfl rfl)) ⟨hl.AD,⟨0,0⟩,_,rfl,AA⟩)
 refine zg ?_;refine rr rfl (A9 rfl rfl (v:=AX [.int .i64 (n.tdiv g),.int .i64 (d.tdiv g)]) (by rfl)) ?_;refine sL hl 0 [.int .i64 (n.tdiv g),.int .i64 (d.tdiv g)] fun S1 hl=>?_;refine zg ?_
 simp only[Bool.or_eq_false_iff,decide_eq_false_iff_not]at Bf
 exact BA (Bm rfl (lN (z:=2) (hl.get 0 rfl) rfl) (BD rfl rfl)) ⟨hl.AD,⟨n.tdiv g,d.tdiv g⟩,0,rfl,fun _=>⟨hq1.1,by show n.tdiv g≤_;omega,hq3,by show d.tdiv g≤_;omega⟩⟩
theorem YR(a b:Ti):CC Tryz.prog KK 225 [a.v,b.v] S (fun v S'=>AL S S'∧(∃e:Int,v= .int .i64 e∧(e=0→VT a∧VT b))):=by
 refine ce 13 Tryz.func225 fun hl=>?_;refine zg ?_;refine bL hl fun B2 S2 hl=>?_;refine bL hl fun B3 S3 hl=>?_;refine zg ?_
 refine zc hl rfl (oD a) ?_;rintro v S1 AM ⟨e,rfl,he⟩ hl
 refine zg ?_
 constructor<;>intro h9
 ·
  refine zg ?_
  exact(z1 rfl ⟨hl.AD,e,rfl,fun h=>by rw[h]at h9;cases h9⟩)
 have e0:e=0:=by simpa using h9
 refine zg ?_
 refine zc hl rfl (oD b) ?_;rintro v S1 AM ⟨e2,rfl,MI⟩ hl
 refine zg ?_
 refine y1 rfl ⟨hl.AD,e2,rfl,fun h=>⟨he e0,MI h⟩⟩
theorem AOG(n d:Int)(IB:n≤9223372036854775807)(H':d≤9223372036854775807):CC Tryz.prog KK 315 [.int .i64 n,.int .i64 d] S (fun v S'=>AL S S'∧(GC v)):=by
 refine ce 21 Tryz.func315 fun hl=>?_;refine zg ?_;refine aL hl [.int .i64 0,.int .i64 0] fun B4 S4 hl=>?_;refine zA ?_;refine AG rfl ?_;refine AG rfl (CR hl 11 (.bool (decide (n<0)||decide (d<0))) ?_ rfl ?_)
 ·
  refine zg ?_;refine AZ (d:=8) rfl (fun h8=>?_) (fun h8=>?_)
  ·
   refine zg ?_
   exact⟨rfl,bl (by rw[h8];rfl),sB,hl⟩
  refine zg ?_
  exact⟨rfl,bl (by rw[h8];rfl),sB,hl⟩
 intro S1 hl
 refine zg ?_
 constructor<;>intro Ba
 ·
  refine zg ?_;refine rr rfl (A9 rfl rfl (v:=AX [.int .i64 0,.int .i64 0]) (by rfl)) ?_;refine sL hl 0 [.int .i64 0,.int .i64 0] fun S1 hl=>?_;refine zg ?_
  exact Ai (BA (Bm rfl (lN (z:=2) (hl.get 0 rfl) rfl) (BD rfl rfl)) ⟨hl.AD,⟨0,0⟩,_,rfl,AA⟩)
 simp only[Bool.or_eq_false_iff,decide_eq_false_iff_not]at Ba
 refine zg ?_
 constructor<;>intro BZ
 ·
  refine zg ?_;refine rr rfl (A9 rfl rfl (v:=AX [.int .i64 0,.int .i64 0]) (by rfl)) ?_;refine sL hl 0 [.int .i64 0,.int .i64 0] fun S1 hl=>?_;refine zg ?_
  exact Ai (BA (Bm rfl (lN (z:=2) (hl.get 0 rfl) rfl) (BD rfl rfl)) ⟨hl.AD,⟨0,0⟩,_,rfl,AA⟩)
 have H9:d≠0:=by simpa using BZ
 refine zg ?_
 refine zc hl rfl (oF n d AA AA IB H') ?_;rintro v S1 AM ⟨t,e,rfl,he⟩ hl
 refine zg ?_;refine sL hl 0 t.cells fun S1 hl=>?_;refine zg ?_
 exact BA (Bm rfl (lN (z:=2) (hl.get 0 rfl) rfl) (BD rfl rfl)) ⟨hl.AD,t,e,rfl,he⟩
theorem OI(a b:Ti):CC Tryz.prog KK 277 [a.v,b.v] S (fun v S'=>AL S S'∧(GC v)):=by
 refine ce 33 Tryz.func277 fun hl=>?_;refine zg ?_;refine bL hl fun B2 S2 hl=>?_;refine bL hl fun B3 S3 hl=>?_;refine aL hl [.int .i64 0,.int .i64 0] fun B4 S4 hl=>?_;refine zg ?_
 refine zc hl rfl (YR a b) ?_;rintro v S1 AM ⟨e,rfl,he⟩ hl
 refine zg ?_
 constructor<;>intro Ba
 ·
  refine zg ?_;refine rr rfl (A9 rfl rfl (v:=AX [.int .i64 0,.int .i64 0]) (by rfl)) ?_;refine zg ?_;refine sL hl 0 [.int .i64 0,.int .i64 0] fun S1 hl=>?_;refine zg ?_
  exact Ai (BA (Bm rfl (lN (z:=2) (hl.get 0 rfl) rfl) (BD rfl rfl)) ⟨hl.AD,⟨0,0⟩,_,rfl,fun h=>by rw[h]at Ba;cases Ba⟩)
 obtain⟨⟨a1,a2,a3,a4⟩,b1,b2,b3,b4⟩:=he (by simpa using Ba)
 have m1:=GO (a:=a.n) (b:=b.d) a1 a2 AA b4
 have m2:=GO (a:=b.n) (b:=a.d) b1 b2 AA a4
 have m3:=GO (a:=a.d) (b:=b.d) AA a4 AA b4
 have m4:1≤a.d*b.d:=by have:=Int.mul_pos (a:=a.d) (b:=b.d) AA AA;omega
 refine zg ?_
 refine zc hl rfl (oF (a.n*b.d+b.n*a.d) (a.d*b.d) AA m4 AA AA) ?_;rintro v S1 AM ⟨t,e2,rfl,MI⟩ hl
 refine zg ?_;refine sL hl 0 t.cells fun S1 hl=>?_;refine zg ?_
 exact BA (Bm rfl (lN (z:=2) (hl.get 0 rfl) rfl) (BD rfl rfl)) ⟨hl.AD,t,e2,rfl,MI⟩
theorem c5(a b:Ti):CC Tryz.prog KK 280 [a.v,b.v] S (fun v S'=>AL S S'∧(GC v)):=by
 refine ce 45 Tryz.func280 fun hl=>?_;refine zg ?_;refine bL hl fun B2 S2 hl=>?_;refine bL hl fun B3 S3 hl=>?_;refine aL hl [.int .i64 0,.int .i64 0] fun B4 S4 hl=>?_;refine zg ?_
 refine zc hl rfl (YR a b) ?_;rintro v S1 AM ⟨e,rfl,he⟩ hl
 refine zg ?_
 constructor<;>intro Ba
 ·
  refine zg ?_;refine rr rfl (A9 rfl rfl (v:=AX [.int .i64 0,.int .i64 0]) (by rfl)) ?_;refine zg ?_;refine sL hl 0 [.int .i64 0,.int .i64 0] fun S1 hl=>?_;refine zg ?_
  exact Ai (BA (Bm rfl (lN (z:=2) (hl.get 0 rfl) rfl) (BD rfl rfl)) ⟨hl.AD,⟨0,0⟩,_,rfl,fun h=>by rw[h]at Ba;cases Ba⟩)
 obtain⟨⟨a1,a2,a3,a4⟩,b1,b2,b3,b4⟩:=he (by simpa using Ba)
 have m1:=GO (a:=a.n) (b:=b.d) a1 a2 AA b4
 have m2:=GO (a:=b.n) (b:=a.d) b1 b2 AA a4
 have m3:=GO (a:=a.d) (b:=b.d) AA a4 AA b4
 have m4:1≤a.d*b.d:=by have:=Int.mul_pos (a:=a.d) (b:=b.d) AA AA;omega
 refine zg ?_
 constructor<;>intro Ef
 ·
  refine zg ?_;refine rr rfl (A9 rfl rfl (v:=AX [.int .i64 0,.int .i64 0]) (by rfl)) ?_;refine sL hl 0 [.int .i64 0,.int .i64 0] fun S1 hl=>?_;refine zg ?_
  exact Ai (BA (Bm rfl (lN (z:=2) (hl.get 0 rfl) rfl) (BD rfl rfl)) ⟨hl.AD,⟨0,0⟩,_,rfl,fun h=>by cases h⟩)
 have Ef:=Jk Ef
 refine zg ?_
 refine zc hl rfl (oF (a.n*b.d-b.n*a.d) (a.d*b.d) AA m4 AA AA) ?_;rintro v S1 AM ⟨t,e2,rfl,MI⟩ hl
 refine zg ?_;refine sL hl 0 t.cells fun S1 hl=>?_;refine zg ?_
 exact BA (Bm rfl (lN (z:=2) (hl.get 0 rfl) rfl) (BD rfl rfl)) ⟨hl.AD,t,e2,rfl,MI⟩
theorem AAN(n d m c:Int)(hn:0≤n∧n≤1099511627776)(hd:1≤d∧d≤1048576)(hm:0≤m∧m≤1099511627776)(hc:1≤c∧c≤1099511627776):CC Tryz.prog KK 226 [.int .i64 n,.int .i64 d,.int .i64 m,.int .i64 c] S (fun v S'=>AL S S'∧(GC v)):=by
 refine ce 52 Tryz.func226 fun hl=>?_
 have g1:=gf (a:=n) (b:=c) AA
 have g2:=gd (a:=n) (b:=c) AA
 have g3:=gf (a:=m) (b:=d) AA
 have g4:=gd (a:=m) (b:=d) AA
 refine zg ?_;refine aL hl [.int .i64 0,.int .i64 0] fun B8 S8 hl=>?_;refine zg ?_
 refine zc hl rfl (c4 n c AA AA AA AA) ?_;rintro v S1 AM rfl hl
 refine zg ?_
 refine zc hl rfl (c4 m d AA AA AA AA) ?_;rintro v S1 AM rfl hl
 generalize gI n c=g at *
 generalize gI m d=h at *
 have q1:=Hn (a:=n) g1 hn.1
 have q2:=Hn (a:=c) g1 AA
 have q3:=Hn (a:=m) g3 hm.1
 have q4:=Hn (a:=d) g3 AA
 have q5:=ml g1 g2
 have q6:=ml g3 g4
 refine zA ?_;iterate 4 refine zS ?_
 generalize n.tdiv g=N at *
 generalize c.tdiv g=C at *
 generalize m.tdiv h=M at *
 generalize d.tdiv h=D at *
 have m3:=GO (a:=D) (b:=C) AA (show D≤1048576 by omega) AA (show C≤1099511627776 by omega)
 have m4:1≤D*C:=by have:=Int.mul_pos (a:=D) (b:=C) AA AA;omega
 refine AG rfl ?_;refine AG rfl (JF 43 (fun v S'=>∃B:Bool,v= .bool B∧(B=false→(N≤0∨M≤(1099511627776:Int).tdiv N)∧D*C≤1048576)∧AE S [S] S' [(B8,.cells [.int .i64 0,.int .i64 0] 103 false true [])] []) ?_ ?_)
 ·
  refine zg ?_;refine AZ (d:=32) rfl (fun E1=>?_) (fun E1=>?_)
  ·
   have hN:0<N:=dT E1
   iterate 2 refine zg ?_
   refine AZ (d:=38) rfl (fun Fh=>?_) (fun Fh=>?_)
   ·
    refine zg ?_
    exact⟨rfl,_,bl rfl,sB,true,rfl,nofun,hl⟩
   refine zg ?_
   exact⟨rfl,_,bl rfl,sB,_,rfl,fun h=>⟨.inr (dF Fh),dF h⟩,hl⟩
  refine zg ?_
  exact⟨rfl,_,bl rfl,sB,_,rfl,fun h=>⟨.inl (dF E1),dF h⟩,hl⟩
 rintro v S1 ⟨B,rfl,hB,hl⟩
 refine zg ?_
 constructor<;>intro FB
 ·
  refine zg ?_;refine rr rfl (A9 rfl rfl (v:=AX [.int .i64 0,.int .i64 0]) (by rfl)) ?_;refine sL hl 0 [.int .i64 0,.int .i64 0] fun S1 hl=>?_;refine zg ?_
  exact Ai (BA (Bm rfl (lN (z:=2) (hl.get 0 rfl) rfl) (BD rfl rfl)) ⟨hl.AD,⟨0,0⟩,_,rfl,fun h=>by cases h⟩)
 obtain⟨h1,h2⟩:=hB FB
 have uD:0≤N*M∧N*M≤1099511627776:=by
  rcases h1 with h1|h1
  ·have:N=0:=by omega
   rw[this,Int.zero_mul]
   omega
  rcases Int.lt_or_le 0 N with hp|hp
  ·refine⟨Int.mul_nonneg AA AA,?_⟩
   rw[Int.tdiv_eq_ediv_of_nonneg AA]at h1
   have:=(Int.le_ediv_iff_mul_le hp).1 h1
   rw[Int.mul_comm]
   exact this
  have:N=0:=by omega
  rw[this,Int.zero_mul]
  omega
 refine zg ?_;refine rr rfl (A9 rfl rfl (v:=AX [.int .i64 (N*M),.int .i64 (D*C)]) (by rfl)) ?_;refine sL hl 0 [.int .i64 (N*M),.int .i64 (D*C)] fun S1 hl=>?_;refine zg ?_
 exact BA (Bm rfl (lN (z:=2) (hl.get 0 rfl) rfl) (BD rfl rfl)) ⟨hl.AD,⟨N*M,D*C⟩,0,rfl,fun _=>⟨uD.1,uD.2,m4,h2⟩⟩
theorem ANw(a b:Ti):CC Tryz.prog KK 183 [a.v,b.v] S (fun v S'=>AL S S'∧(GC v)):=by
 refine ce 25 Tryz.func183 fun hl=>?_;refine zg ?_;refine bL hl fun B2 S2 hl=>?_;refine bL hl fun B3 S3 hl=>?_;refine aL hl [.int .i64 0,.int .i64 0] fun B4 S4 hl=>?_;refine zg ?_
 refine zc hl rfl (YR a b) ?_;rintro v S1 AM ⟨e,rfl,he⟩ hl
 refine zg ?_
 constructor<;>intro Ba
 ·
  refine zg ?_;refine rr rfl (A9 rfl rfl (v:=AX [.int .i64 0,.int .i64 0]) (by rfl)) ?_;refine zg ?_;refine sL hl 0 [.int .i64 0,.int .i64 0] fun S1 hl=>?_;refine zg ?_
  exact Ai (BA (Bm rfl (lN (z:=2) (hl.get 0 rfl) rfl) (BD rfl rfl)) ⟨hl.AD,⟨0,0⟩,_,rfl,fun h=>by rw[h]at Ba;cases Ba⟩)
 obtain⟨⟨a1,a2,a3,a4⟩,b1,b2,b3,b4⟩:=he (by simpa using Ba)
 have m1:=GO (a:=a.n) (b:=b.d) a1 a2 AA b4
 have m2:=GO (a:=b.n) (b:=a.d) b1 b2 AA a4
 have m3:=GO (a:=a.d) (b:=b.d) AA a4 AA b4
 have m4:1≤a.d*b.d:=by have:=Int.mul_pos (a:=a.d) (b:=b.d) AA AA;omega
 refine zg ?_
 refine zc hl rfl (AAN a.n a.d b.n b.d ⟨a1,a2⟩ ⟨a3,a4⟩ ⟨b1,b2⟩ ⟨b3,AA⟩) ?_;rintro v S1 AM ⟨t,e2,rfl,MI⟩ hl
 refine zg ?_;refine sL hl 0 t.cells fun S1 hl=>?_;refine zg ?_
 exact BA (Bm rfl (lN (z:=2) (hl.get 0 rfl) rfl) (BD rfl rfl)) ⟨hl.AD,t,e2,rfl,MI⟩
theorem AOE(a b:Ti):CC Tryz.prog KK 279 [a.v,b.v] S (fun v S'=>AL S S'∧(GC v)):=by
 refine ce 29 Tryz.func279 fun hl=>?_;refine zg ?_;refine bL hl fun B2 S2 hl=>?_;refine bL hl fun B3 S3 hl=>?_;refine aL hl [.int .i64 0,.int .i64 0] fun B4 S4 hl=>?_;refine zg ?_
 refine zc hl rfl (YR a b) ?_;rintro v S1 AM ⟨e,rfl,he⟩ hl
 refine zg ?_
 constructor<;>intro Ba
 ·
  refine zg ?_;refine rr rfl (A9 rfl rfl (v:=AX [.int .i64 0,.int .i64 0]) (by rfl)) ?_;refine zg ?_;refine sL hl 0 [.int .i64 0,.int .i64 0] fun S1 hl=>?_;refine zg ?_
  exact Ai (BA (Bm rfl (lN (z:=2) (hl.get 0 rfl) rfl) (BD rfl rfl)) ⟨hl.AD,⟨0,0⟩,_,rfl,fun h=>by rw[h]at Ba;cases Ba⟩)
 obtain⟨⟨a1,a2,a3,a4⟩,b1,b2,b3,b4⟩:=he (by simpa using Ba)
 have m1:=GO (a:=a.n) (b:=b.d) a1 a2 AA b4
 have m2:=GO (a:=b.n) (b:=a.d) b1 b2 AA a4
 have m3:=GO (a:=a.d) (b:=b.d) AA a4 AA b4
 have m4:1≤a.d*b.d:=by have:=Int.mul_pos (a:=a.d) (b:=b.d) AA AA;omega
 refine zg ?_
 constructor<;>intro Bt
 ·
  refine zg ?_;refine rr rfl (A9 rfl rfl (v:=AX [.int .i64 0,.int .i64 0]) (by rfl)) ?_;refine sL hl 0 [.int .i64 0,.int .i64 0] fun S1 hl=>?_;refine zg ?_
  exact Ai (BA (Bm rfl (lN (z:=2) (hl.get 0 rfl) rfl) (BD rfl rfl)) ⟨hl.AD,⟨0,0⟩,_,rfl,fun h=>by cases h⟩)
 have Bt:b.n≠0:=by simpa using Bt
 refine zg ?_
 refine zc hl rfl (AAN a.n a.d b.d b.n ⟨a1,a2⟩ ⟨a3,a4⟩ ⟨AA,AA⟩ ⟨AA,b2⟩) ?_;rintro v S1 AM ⟨t,e2,rfl,MI⟩ hl
 refine zg ?_;refine sL hl 0 t.cells fun S1 hl=>?_;refine zg ?_
 exact BA (Bm rfl (lN (z:=2) (hl.get 0 rfl) rfl) (BD rfl rfl)) ⟨hl.AD,t,e2,rfl,MI⟩
theorem AOJ(a b:Ti):CC Tryz.prog KK 339 [a.v,b.v] S (fun v S'=>AL S S'∧(∃c e:Int,v=Aw [.int .i64 c,.int .i64 e])):=by
 refine ce 33 Tryz.func339 fun hl=>?_;refine zg ?_;refine bL hl fun B2 S2 hl=>?_;refine bL hl fun B3 S3 hl=>?_;refine zg ?_
 refine zc hl rfl (YR a b) ?_;rintro v S1 AM ⟨e,rfl,he⟩ hl
 refine zg ?_
 constructor<;>intro EA
 ·
  refine zg ?_
  exact(z2 rfl rfl ⟨hl.AD,_,_,rfl⟩)
 obtain⟨⟨a1,a2,a3,a4⟩,b1,b2,b3,b4⟩:=he (by simpa using EA)
 have m1:=GO (a:=a.n) (b:=b.d) a1 a2 AA b4
 have m2:=GO (a:=b.n) (b:=a.d) b1 b2 AA a4
 refine zg ?_;refine BC (idx:=[0,1,2,3,4,5,6,7,8,9,10,11]) rfl AB AB ?_;refine zg ?_
 constructor<;>intro C'
 ·
  refine zg ?_
  exact AR ((z2 rfl rfl ⟨hl.AD,_,_,rfl⟩))
 refine zg ?_
 constructor<;>intro DA
 ·
  refine zg ?_
  exact AR ((z2 rfl rfl ⟨hl.AD,_,_,rfl⟩))
 refine zg ?_
 exact y2 rfl rfl ⟨hl.AD,_,_,rfl⟩
end Go.Proofs.YtmfphenhpkgidaaGreatDoor
namespace Go.Proofs.YtmfphenhpkgidaaGreatDoor
open Go.Cm Go
set_option maxRecDepth 100000
variable{S:St}
structure It where
 sg:Int
 va:Int
 re:Bool
 co:Bool
 fi:Bool
 cu:Int
 du:Ti
 be:Ti
 af:Ti
def It.cells(x:It):List Value:=[.int .i64 x.sg,.int .i64 x.va,.bool x.re,.bool x.co,.bool x.fi,.int .i64 x.cu,.int .i64 x.du.n,.int .i64 x.du.d,.int .i64 x.be.n,.int .i64 x.be.d,.int .i64 x.af.n,.int .i64 x.af.d]
abbrev Gu:=A0 266 12 It.cells
structure Bd where
 f:Int
 t:Int
 i:Int
def Bd.cells(x:Bd):List Value:=[.int .i64 x.f,.int .i64 x.t,.int .i64 x.i]
abbrev Bds:=A0 325 3 Bd.cells
structure Se where
 f:Int
 t:Int
 l:Int
 r:Int
 fr:Bool
 ct:Ti
def Se.cells(x:Se):List Value:=[.int .i64 x.f,.int .i64 x.t,.int .i64 x.l,.int .i64 x.r,.bool x.fr,.int .i64 x.ct.n,.int .i64 x.ct.d]
abbrev eX:=A0 328 7 Se.cells
theorem I1{C:Nat}{i:Int}(h0:0≤i)(h1:i<C):∃k:Nat,i=(k:Int)∧k<C:=⟨i.toNat,AA,AA⟩
theorem AN7(a:Option Addr)(cap:Nat)(C:List It)(hn:C.length≤1000)(_:BW S)(hv:Gu S (.slice a C.length cap) C):CC Tryz.prog KK 228 [.slice a C.length cap] S (fun v S'=>AL S S'∧(∃e i:Int,v=Aw [.int .i64 e,.int .i64 i])):=by
 refine ce 80 Tryz.func228 fun hl=>?_;refine zS ?_;refine AG rfl ?_;refine zS ?_;refine Az rfl ?_;refine AK (L':=[(4,.int .i64 0),(3,.int .i64 0),(2,.int .i64 0),(0,.slice a C.length cap)]) sE ?_
 refine A2 rfl (fun m Le S'=>∃i:Nat,i≤C.length∧m=C.length-i∧Af [(4,.int .i64 (i:Int)),(3,.int .i64 0),(2,.int .i64 0),(0,.slice a C.length cap)] Le∧AE S [S] S' [] []) ?_ (m:=C.length) ⟨0,AA,AA,sE,hl⟩
 clear hl;rintro m Le S' ⟨i,hi,rfl,AH,hl⟩;refine AK AH ?_
 refine zg ?_
 constructor<;>intro Cf
 ·
  have AN:i<C.length:=dT Cf
  obtain⟨x,hx⟩:=Ad AN
  obtain⟨b1,o1,BF,ha,_,AQ,Aa⟩:=hv.elem hx
  refine zg ?_;refine aL hl [.int .i64 0,.int .i64 0,.bool false,.bool false,.bool false,.int .i64 0,.int .i64 0,.int .i64 0,.int .i64 0,.int .i64 0,.int .i64 0,.int .i64 0] fun B5 S5 hl=>?_;refine sL hl 0 x.cells fun S1 hl=>?_;refine zA ?_;refine AG rfl ?_;refine AG rfl (HW hl 36 Value.bool ?_ rfl ?_)
  ·
   refine zg ?_;refine AZ (d:=22) rfl (fun Dy=>?_) (fun Dy=>?_)
   ·
    refine zg ?_
    exact⟨rfl,⟨_,bl rfl⟩,sB,hl⟩
   refine zg ?_;refine AZ (d:=27) rfl (fun CX=>?_) (fun CX=>?_)
   ·
    refine zg ?_
    exact⟨rfl,⟨_,bl rfl⟩,sB,hl⟩
   refine zg ?_;refine AZ (d:=32) rfl (fun E1=>?_) (fun E1=>?_)
   ·
    refine zg ?_
    exact⟨rfl,⟨_,bl rfl⟩,sB,hl⟩
   refine zg ?_
   exact⟨rfl,⟨_,bl rfl⟩,sB,hl⟩
  intro q36 S1 hl
  refine zg ?_
  constructor<;>intro Eg
  ·
   refine zg ?_
   exact Ai (AR (Ai (Bg (AR ((z2 rfl rfl ⟨hl.AD,_,_,rfl⟩))))))
  refine zg ?_;refine dL hl [.int .i64 x.du.n,.int .i64 x.du.d,.int .i64 x.be.n,.int .i64 x.be.d,.int .i64 x.af.n,.int .i64 x.af.d] Tryz.underlying91 fun QT S1 XC hl=>?_
  have ht:eZ S1 (.slice (some ⟨QT,0,none⟩) 3 3) [x.du,x.be,x.af]:=A0.row (f:=Ti.cells) (C:=[_,_,_]) (fun _=>rfl) XC rfl
  clear ha AQ Aa
  refine zA ?_;refine AG rfl ?_;refine zS ?_;refine Az rfl ?_;refine AK (L':=[(7,.int .i64 0),(6,.slice (some ⟨QT,0,none⟩) 3 3),(5,ptrTo B5 0),(4,.int .i64 (i:Int)),(3,.int .i64 0),(2,.int .i64 0),(0,.slice a C.length cap)]) sE ?_
  have hl:=hl.mark
  refine A2 rfl (fun m Le S'=>∃j:Nat,j≤3∧m=3-j∧Af [(7,.int .i64 (j:Int)),(6,.slice (some ⟨QT,0,none⟩) 3 3),(5,ptrTo B5 0),(4,.int .i64 (i:Int)),(3,.int .i64 0),(2,.int .i64 0),(0,.slice a C.length cap)] Le∧AE S [S1,S] S' [(B5,.cells x.cells 266 false true [])] []) ?_ (m:=3) ⟨0,AA,AA,sE,hl.marks (fun T hT=>by rcases List.mem_cons.1 hT with rfl|hT;exact Al;exact BQ (by simpa using hT))⟩
  clear hl;rintro m Le S' ⟨j,hj,rfl,AH,hl⟩;refine AK AH ?_
  have ht:=ht.move (hl.since 0 rfl)
  refine zg ?_
  constructor<;>intro EK
  ·
   have AN:j<3:=dT EK
   obtain⟨y,hy⟩:=Ad (l:=[x.du,x.be,x.af]) AN
   obtain⟨b2,o2,EH,ha,_,AQ,Aa⟩:=ht.elem hy
   refine zg ?_
   refine zc hl rfl (oD y) ?_;rintro v S1 AM ⟨e,rfl,he⟩ hl
   refine zg ?_
   constructor<;>intro Eh
   ·
    refine zg ?_
    exact AR (Ai (Bg (AR (Ai (AR (Ai (Bg (AR ((z2 rfl rfl ⟨hl.AD,_,_,rfl⟩))))))))))
   refine zg ?_
   exact⟨3-(j+1),AA,j+1,AA,rfl,sE,hl⟩
  refine HB rfl ?_;refine AG rfl (HW hl 78 Value.bool ?_ rfl ?_)
  ·
   refine zg ?_;refine AZ (d:=62) rfl (fun G0=>?_) (fun G0=>?_)
   ·
    refine zg ?_;refine AZ (d:=66) rfl (fun JS=>?_) (fun JS=>?_)
    ·
     refine zg ?_
     exact⟨rfl,⟨_,bl rfl⟩,sB,hl⟩
    refine zg ?_;refine AZ (d:=69) rfl (fun GH=>?_) (fun GH=>?_)
    ·
     refine zg ?_;refine rr rfl (BY rfl rfl rfl) ?_;refine zg ?_
     exact⟨rfl,⟨_,bl rfl⟩,sB,hl⟩
    refine zg ?_;refine AZ (d:=73) rfl (fun O0=>?_) (fun O0=>?_)
    ·
     refine zg ?_;refine rr rfl (BY rfl rfl rfl) ?_;refine zg ?_
     exact⟨rfl,⟨_,bl rfl⟩,sB,hl⟩
    refine zg ?_
    exact⟨rfl,⟨_,bl rfl⟩,sB,hl⟩
   refine zg ?_;refine AZ (d:=69) rfl (fun GH=>?_) (fun GH=>?_)
   ·
    refine zg ?_;refine rr rfl (BY rfl rfl rfl) ?_;refine zg ?_
    exact⟨rfl,⟨_,bl rfl⟩,sB,hl⟩
   refine zg ?_;refine AZ (d:=73) rfl (fun O0=>?_) (fun O0=>?_)
   ·
    refine zg ?_;refine rr rfl (BY rfl rfl rfl) ?_;refine zg ?_
    exact⟨rfl,⟨_,bl rfl⟩,sB,hl⟩
   refine zg ?_
   exact⟨rfl,⟨_,bl rfl⟩,sB,hl⟩
  intro q78 S1 hl
  refine zg ?_
  constructor<;>intro gu
  ·
   refine zg ?_
   exact AR (Ai (Bg (AR ((z2 rfl rfl ⟨hl.AD,_,_,rfl⟩)))))
  refine zg ?_
  exact⟨C.length-(i+1),AA,i+1,AA,rfl,sE,hl.tail.marks (Us:=[S]) (fun T hT=>BQ hT)⟩
 refine zg ?_
 exact y2 rfl rfl ⟨hl.AD,_,_,rfl⟩
theorem AAP(a:Option Addr)(cap:Nat)(C:List It)(x:Bd)(hn:C.length≤1000)(_:BW S)(hb:x.i<C.length)(hv:Gu S (.slice a C.length cap) C):CC Tryz.prog KK 230 [.slice a C.length cap,AX x.cells] S (fun v S'=>AL S S'∧(∃r:Int,v= .int .i64 r∧ -1≤r∧r<C.length)):=by
 refine ce 19 Tryz.func230 fun hl=>?_;refine zg ?_;refine bL hl fun B3 S3 hl=>?_;refine zA ?_;refine AG rfl ?_;refine AG rfl (JF 16 (fun v S'=>∃B:Bool,v= .bool B∧(B=true→0≤x.i)∧AE S [S] S' [(B3,.cells x.cells 325 false true [])] []) ?_ ?_)
 ·
  refine zg ?_;refine AZ (d:=8) rfl (fun h8=>?_) (fun h8=>?_)
  ·
   have Iv:0≤x.i:=dT h8
   obtain⟨k,hk,ED⟩:=I1 Iv hb
   obtain⟨y,hy⟩:=Ad ED
   obtain⟨b1,o1,BF,ha,_,AQ,Aa⟩:=hv.elem hy
   have Cn:x.i.toNat=k:=by omega
   rw[←Cn]at Aa
   refine zg ?_;refine rr rfl (BY rfl rfl rfl) ?_;refine zg ?_
   exact⟨rfl,_,bl rfl,sB,_,rfl,fun _=>Iv,hl⟩
  refine zg ?_
  exact⟨rfl,_,bl rfl,sB,false,rfl,nofun,hl⟩
 rintro v S1 ⟨B,rfl,hB,hl⟩
 refine zg ?_
 constructor<;>intro Bt
 ·
  have:=hB Bt
  refine zg ?_
  exact(z1 rfl ⟨hl.AD,_,rfl,AA,AA⟩)
 refine zg ?_
 exact y1 rfl ⟨hl.AD, -1,rfl,AA,AA⟩
end Go.Proofs.YtmfphenhpkgidaaGreatDoor
