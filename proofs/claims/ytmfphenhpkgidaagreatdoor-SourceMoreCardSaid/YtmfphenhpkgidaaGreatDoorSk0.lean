/-
  The chapter's examples hold: what is known of functions; the start.
-/
import Derived.Test.YtmfphenhpkgidaaGreatDoorRows
import Derived.KernelRfl
import Derived.Laws.Externs
import Derived.Lib.Builder
import Derived.Test.YtmfphenhpkgidaaGreatDoorCm4
namespace Go.Proofs.YtmfphenhpkgidaaGreatDoor
open Go.Cm
def vi(n:Int):Value:= .int .i64 n
def vl(b o n c:Nat):Value:= .slice (some ⟨b,o,none⟩) n c
def vp(b o:Nat):Value:= .pointer (some ⟨b,o,none⟩)
def vt:Value:= .bool true
def vO:Value:= .int .i64 0
def vf:Value:= .bool false
def uu:Value:= .tuple #[]
def Ql:Value:= .slice none 0 0
def y0:Value:= .string ⟨#[97]⟩
theorem AUt{p:Prop}(h:p:=by kernel_rfl):p:=h
abbrev R5:=List Value
abbrev q8:=List (Nat×AF)
def cw(l:List Value)(e:TypeId)(r:List Nat):AF:= .cells l e true true r
def listed:List (Nat×List Value):=[(0,[.bool false,.bool false,.bool false,.bool false,.bool false,.bool false,.bool false,.bool false,.bool false,.bool false,.bool false,.bool false,.bool true,.bool true,.bool true,.bool true,.bool false,.bool false,.bool false,.bool false,.bool false,.bool false,.bool false,.bool false,.bool true,.bool false,.bool false,.bool false,.bool false,.bool false,.bool false,.bool false,.bool false,.bool false,.bool false,.bool false,.bool false,.bool false,.bool false,.bool false,.bool false,.bool false,.bool false,.bool false,.bool false,.bool false,.bool false,.bool false,.bool false,.bool true,.bool true,.bool true,.bool true,.bool true,.bool true,.bool false,.bool false,.bool false,.bool false,.bool false,.bool false,.bool false,.bool false,.bool false,.bool false,.bool false,.bool false,.bool true,.bool true,.bool false,.bool false,.bool false,.bool false,.bool false,.bool false,.bool false,.bool false,.bool false,.bool false,.bool false,.bool false,.bool true,.bool true,.bool false,.bool false,.bool false,.bool false,.bool false,.bool false,.bool false,.bool false,.bool false,.bool false,.bool false,.bool false,.bool true,.bool false,.bool false,.bool false,.bool false,.bool false,.bool false,.bool false,.bool false,.bool false,.bool true,.bool false,.bool false,.bool false,.bool false,.bool false,.bool false,.bool false,.bool false,.bool false,.bool false,.bool false,.bool false,.bool false,.bool false,.bool false,.bool false,.bool false,.bool false,.bool false,.bool false,.bool false,.bool false,.bool false,.bool true,.bool false,.bool false,.bool false,.bool false,.bool false,.bool false,.bool false,.bool false,.bool false,.bool false,.bool false,.bool false,.bool false,.bool false,.bool false,.bool false,.bool false,.bool false,.bool false,.bool false,.bool false,.bool false,.bool false,.bool false,.bool false,.bool false]),(1,[.int .i64 0,.int .i64 1,.int .i64 1,.int .i64 2,.int .i64 1,.int .i64 3,.int .i64 3,.int .i64 4,.int .i64 4,.int .i64 3,.int .i64 3,.int .i64 4,.int .i64 4]),(2,[.int .i64 3,.int .i64 2])]
def gb0:AF:= .cells [.bool false,.bool false,.bool false,.bool false,.bool false,.bool false,.bool false,.bool false,.bool false,.bool false,.bool false,.bool false,.bool true,.bool true,.bool true,.bool true,.bool false,.bool false,.bool false,.bool false,.bool false,.bool false,.bool false,.bool false,.bool true,.bool false,.bool false,.bool false,.bool false,.bool false,.bool false,.bool false,.bool false,.bool false,.bool false,.bool false,.bool false,.bool false,.bool false,.bool false,.bool false,.bool false,.bool false,.bool false,.bool false,.bool false,.bool false,.bool false,.bool false,.bool true,.bool true,.bool true,.bool true,.bool true,.bool true,.bool false,.bool false,.bool false,.bool false,.bool false,.bool false,.bool false,.bool false,.bool false,.bool false,.bool false,.bool false,.bool true,.bool true,.bool false,.bool false,.bool false,.bool false,.bool false,.bool false,.bool false,.bool false,.bool false,.bool false,.bool false,.bool false,.bool true,.bool true,.bool false,.bool false,.bool false,.bool false,.bool false,.bool false,.bool false,.bool false,.bool false,.bool false,.bool false,.bool false,.bool true,.bool false,.bool false,.bool false,.bool false,.bool false,.bool false,.bool false,.bool false,.bool false,.bool true,.bool false,.bool false,.bool false,.bool false,.bool false,.bool false,.bool false,.bool false,.bool false,.bool false,.bool false,.bool false,.bool false,.bool false,.bool false,.bool false,.bool false,.bool false,.bool false,.bool false,.bool false,.bool false,.bool false,.bool true,.bool false,.bool false,.bool false,.bool false,.bool false,.bool false,.bool false,.bool false,.bool false,.bool false,.bool false,.bool false,.bool false,.bool false,.bool false,.bool false,.bool false,.bool false,.bool false,.bool false,.bool false,.bool false,.bool false,.bool false,.bool false,.bool false] 0 false false []
def gb1:AF:= .cells [.int .i64 0,.int .i64 1,.int .i64 1,.int .i64 2,.int .i64 1,.int .i64 3,.int .i64 3,.int .i64 4,.int .i64 4,.int .i64 3,.int .i64 3,.int .i64 4,.int .i64 4] 0 false false []
def gb2:AF:= .cells [.int .i64 3,.int .i64 2] 0 false false []
noncomputable def Vj:St:=Kb listed Tryz.prog.globals.size
def kk(call:FuncId→List Value→St→Option Value):BX:=⟨fun f a S=>match a with
 | [x]=>bif Nat.beq f 92 then some (x,S)else none
 |_=>none,call,fun f=>Nat.beq f 128⟩
def Uq:List (Nat×List Value×Value)→Nat→List Value→Option Value
 | [],_,_=>none
 |(g,eh,v)::r,f,a=>bif Nat.beq g f&&Gp 1000 eh a then some v else Uq r f a
def Vl:List (Nat×List Value×Value):=[(37,[.agg #[vi 5,vO,vO,vO,vf,vO,vf,vf,vi 2,vi 2,vi 3,vi 2,vf,vO,vO,vO,vO]],vO),(62,[vi 12,vi 1],.agg #[vi 12,vi 1]),(215,[.agg #[vO,vi 1],.agg #[vi 4,vi 1]],.tuple #[.agg #[vi 4,vi 1],vO]),(246,[.agg #[vi 2,vi 2,vi 3,vi 2],vi 3],.tuple #[.agg #[vi 6,vi 1],vO]),(37,[.agg #[vi 1,vi 4,vO,vO,vf,vO,vf,vf,vO,vO,vO,vO,vf,vO,vO,vO,vO]],vO),(124,[.agg #[vi 2,vi 1]],vO),(308,[.agg #[vi 2,vi 1],.agg #[vO,vi 1]],.tuple #[.agg #[vi 2,vi 1],vO]),(308,[.agg #[vi 6,vi 1],.agg #[vi 2,vi 1]],.tuple #[.agg #[vi 4,vi 1],vO]),(198,[.agg #[vi 4,vi 1],.agg #[vi 1,vi 1]],.tuple #[.agg #[vi 4,vi 1],vO]),(124,[.agg #[vi 6,vi 1]],vO),(129,[.agg #[vi 1,vi 4,vO,vO,vf,vO,vf,vf,vO,vO,vO,vO,vf,vO,vO,vO,vO]],.int .i64 1),(308,[.agg #[vO,vi 1],.agg #[vO,vi 1]],.tuple #[.agg #[vO,vi 1],vO]),(35,[.string ⟨#[97]⟩],.bool true),(129,[.agg #[vi 1,vi 3,vO,vO,vf,vO,vf,vf,vO,vO,vO,vO,vf,vO,vO,vO,vO]],.int .i64 1),(37,[.agg #[vi 1,vi 3,vO,vO,vf,vO,vf,vf,vO,vO,vO,vO,vf,vO,vO,vO,vO]],vO),(129,[.agg #[vi 5,vO,vO,vO,vf,vO,vf,vf,vi 2,vi 2,vi 3,vi 2,vf,vO,vO,vO,vO]],.int .i64 3),(64,[.agg #[vi 2,vi 2,vi 3,vi 2]],vO),(215,[.agg #[vi 4,vi 1],.agg #[vi 2,vi 1]],.tuple #[.agg #[vi 6,vi 1],vO]),(259,[.agg #[vi 2,vi 2,vi 3,vi 2],vi 3],.tuple #[.agg #[vi 2,vi 1],vO]),(124,[.agg #[vi 4,vi 1]],vO),(77,[.agg #[vi 6,vi 1],.agg #[vi 2,vi 1]],.tuple #[vi 1,vO]),(246,[.agg #[vi 2,vi 2,vi 3,vi 2],vi 4],.tuple #[.agg #[vi 2,vi 1],vO]),(215,[.agg #[vi 8,vi 1],.agg #[vi 4,vi 1]],.tuple #[.agg #[vi 12,vi 1],vO]),(215,[.agg #[vO,vi 1],.agg #[vi 6,vi 1]],.tuple #[.agg #[vi 6,vi 1],vO]),(311,[.agg #[vO,vi 1],.agg #[vi 2,vi 1]],.tuple #[.agg #[vO,vi 1],vO]),(198,[.agg #[vi 6,vi 1],.agg #[vi 1,vi 1]],.tuple #[.agg #[vi 6,vi 1],vO]),(311,[.agg #[vi 2,vi 1],.agg #[vi 2,vi 1]],.tuple #[.agg #[vi 1,vi 1],vO]),(124,[.agg #[vO,vi 1]],vO),(215,[.agg #[vi 6,vi 1],.agg #[vi 6,vi 1]],.tuple #[.agg #[vi 12,vi 1],vO]),(215,[.agg #[vO,vi 1],.agg #[vi 2,vi 1]],.tuple #[.agg #[vi 2,vi 1],vO]),(198,[.agg #[vi 2,vi 1],.agg #[vi 1,vi 1]],.tuple #[.agg #[vi 2,vi 1],vO]),(215,[.agg #[vi 6,vi 1],.agg #[vi 2,vi 1]],.tuple #[.agg #[vi 8,vi 1],vO]),(62,[vi 18,vi 1],.agg #[vi 18,vi 1]),(215,[.agg #[vi 2,vi 1],.agg #[vi 2,vi 1]],.tuple #[.agg #[vi 4,vi 1],vO]),(215,[.agg #[vi 12,vi 1],.agg #[vi 6,vi 1]],.tuple #[.agg #[vi 18,vi 1],vO]),(77,[.agg #[vi 18,vi 1],.agg #[vi 12,vi 1]],.tuple #[vi 1,vO]),(308,[.agg #[vi 4,vi 1],.agg #[vO,vi 1]],.tuple #[.agg #[vi 4,vi 1],vO]),(308,[.agg #[vi 4,vi 1],.agg #[vi 2,vi 1]],.tuple #[.agg #[vi 2,vi 1],vO]),(311,[.agg #[vi 4,vi 1],.agg #[vi 2,vi 1]],.tuple #[.agg #[vi 2,vi 1],vO])]
def xy:FuncId→List Value→St→Option Value:=fun _ _ _=>none
theorem Zo(call:FuncId→List Value→St→Option Value):eJ Tryz.prog (kk call):=by
 intro w0 f args v fn S S' hk hf hb ρ w args' hs hv
 simp only[kk]at hk
 split at hk
 ·rename_i x
  cases hc:Nat.beq f 92 with
  |false=>rw[hc]at hk;cases hk
  |true =>
   rw[hc]at hk
   simp only[cond_true,Option.some.injEq,Prod.mk.injEq]at hk
   obtain⟨rfl,rfl⟩:=hk
   have AGS:=Bc hc
   subst AGS
   obtain rfl:=Option.some.inj (Tryz.func92.symm.trans hf)
   obtain⟨x',l1,e1,hx,hr⟩:=hv.cons_inv
   cases hr.HR
   have e2:args'= #[x']:=by apply Array.ext';simpa using e1
   subst e2
   refine⟨ρ,x',w,?_,Ext.refl _,hx,hs⟩
   rw[run_callFunc_extern Tryz.func92 (by kernel_rfl) (by kernel_rfl) (by kernel_rfl) (e:=Extern.AbiNoEscape.same) (by kernel_rfl),Lib.run_noEscape]
   rfl
 cases hk
theorem follows:Tryz.prog.follows .mixedOrders=true:=by kernel_rfl
end Go.Proofs.YtmfphenhpkgidaaGreatDoor
