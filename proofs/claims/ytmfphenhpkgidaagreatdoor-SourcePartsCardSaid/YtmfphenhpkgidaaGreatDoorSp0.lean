/-
  The chapter's examples hold: what is known of functions; the start.
-/
import Derived.Test.YtmfphenhpkgidaaGreatDoorRows
import Derived.KernelRfl
import Derived.Laws.Externs
import Derived.Lib.Builder
import Derived.Test.YtmfphenhpkgidaaGreatDoorCm4
namespace Go.Proofs.YtmfphenhpkgidaaGreatDoor
open Go.Cm
def vi(n:Int):Value:= .int .i64 n
def vl(b o n c:Nat):Value:= .slice (some ⟨b,o,none⟩) n c
def vp(b o:Nat):Value:= .pointer (some ⟨b,o,none⟩)
def vt:Value:= .bool true
def vf:Value:= .bool false
def uu:Value:= .tuple #[]
def listed:List (Nat×List Value):=[(0,[.bool false,.bool false,.bool false,.bool false,.bool false,.bool false,.bool false,.bool false,.bool false,.bool false,.bool false,.bool false,.bool true,.bool true,.bool true,.bool true,.bool false,.bool false,.bool false,.bool false,.bool false,.bool false,.bool false,.bool false,.bool true,.bool false,.bool false,.bool false,.bool false,.bool false,.bool false,.bool false,.bool false,.bool false,.bool false,.bool false,.bool false,.bool false,.bool false,.bool false,.bool false,.bool false,.bool false,.bool false,.bool false,.bool false,.bool false,.bool false,.bool false,.bool true,.bool true,.bool true,.bool true,.bool true,.bool true,.bool false,.bool false,.bool false,.bool false,.bool false,.bool false,.bool false,.bool false,.bool false,.bool false,.bool false,.bool false,.bool true,.bool true,.bool false,.bool false,.bool false,.bool false,.bool false,.bool false,.bool false,.bool false,.bool false,.bool false,.bool false,.bool false,.bool true,.bool true,.bool false,.bool false,.bool false,.bool false,.bool false,.bool false,.bool false,.bool false,.bool false,.bool false,.bool false,.bool false,.bool true,.bool false,.bool false,.bool false,.bool false,.bool false,.bool false,.bool false,.bool false,.bool false,.bool true,.bool false,.bool false,.bool false,.bool false,.bool false,.bool false,.bool false,.bool false,.bool false,.bool false,.bool false,.bool false,.bool false,.bool false,.bool false,.bool false,.bool false,.bool false,.bool false,.bool false,.bool false,.bool false,.bool false,.bool true,.bool false,.bool false,.bool false,.bool false,.bool false,.bool false,.bool false,.bool false,.bool false,.bool false,.bool false,.bool false,.bool false,.bool false,.bool false,.bool false,.bool false,.bool false,.bool false,.bool false,.bool false,.bool false,.bool false,.bool false,.bool false,.bool false]),(1,[.int .i64 0,.int .i64 1,.int .i64 1,.int .i64 2,.int .i64 1,.int .i64 3,.int .i64 3,.int .i64 4,.int .i64 4,.int .i64 3,.int .i64 3,.int .i64 4,.int .i64 4]),(2,[.int .i64 3,.int .i64 2])]
def gb0:Blk:= .cells [.bool false,.bool false,.bool false,.bool false,.bool false,.bool false,.bool false,.bool false,.bool false,.bool false,.bool false,.bool false,.bool true,.bool true,.bool true,.bool true,.bool false,.bool false,.bool false,.bool false,.bool false,.bool false,.bool false,.bool false,.bool true,.bool false,.bool false,.bool false,.bool false,.bool false,.bool false,.bool false,.bool false,.bool false,.bool false,.bool false,.bool false,.bool false,.bool false,.bool false,.bool false,.bool false,.bool false,.bool false,.bool false,.bool false,.bool false,.bool false,.bool false,.bool true,.bool true,.bool true,.bool true,.bool true,.bool true,.bool false,.bool false,.bool false,.bool false,.bool false,.bool false,.bool false,.bool false,.bool false,.bool false,.bool false,.bool false,.bool true,.bool true,.bool false,.bool false,.bool false,.bool false,.bool false,.bool false,.bool false,.bool false,.bool false,.bool false,.bool false,.bool false,.bool true,.bool true,.bool false,.bool false,.bool false,.bool false,.bool false,.bool false,.bool false,.bool false,.bool false,.bool false,.bool false,.bool false,.bool true,.bool false,.bool false,.bool false,.bool false,.bool false,.bool false,.bool false,.bool false,.bool false,.bool true,.bool false,.bool false,.bool false,.bool false,.bool false,.bool false,.bool false,.bool false,.bool false,.bool false,.bool false,.bool false,.bool false,.bool false,.bool false,.bool false,.bool false,.bool false,.bool false,.bool false,.bool false,.bool false,.bool false,.bool true,.bool false,.bool false,.bool false,.bool false,.bool false,.bool false,.bool false,.bool false,.bool false,.bool false,.bool false,.bool false,.bool false,.bool false,.bool false,.bool false,.bool false,.bool false,.bool false,.bool false,.bool false,.bool false,.bool false,.bool false,.bool false,.bool false] 0 false false []
def gb1:Blk:= .cells [.int .i64 0,.int .i64 1,.int .i64 1,.int .i64 2,.int .i64 1,.int .i64 3,.int .i64 3,.int .i64 4,.int .i64 4,.int .i64 3,.int .i64 3,.int .i64 4,.int .i64 4] 0 false false []
def gb2:Blk:= .cells [.int .i64 3,.int .i64 2] 0 false false []
noncomputable def start0:St:=startS listed Tryz.prog.globals.size
def kk(call:FuncId→List Value→St→Option Value):Known:=⟨fun f a S=>match a with
 | [x]=>bif Nat.beq f 92 then some (x,S)else none
 |_=>none,call,fun f=>Nat.beq f 128⟩
def noCall:FuncId→List Value→St→Option Value:=fun _ _ _=>none
theorem ext_sound(call:FuncId→List Value→St→Option Value):ExtSound Tryz.prog (kk call):=by
 intro w0 f args v fn S S' hk hf hb ρ w args' hs hv
 simp only[kk]at hk
 split at hk
 ·rename_i x
  cases hc:Nat.beq f 92 with
  |false=>rw[hc]at hk;cases hk
  |true =>
   rw[hc]at hk
   simp only[cond_true,Option.some.injEq,Prod.mk.injEq]at hk
   obtain⟨rfl,rfl⟩:=hk
   have hf92:=of_nbeq hc
   subst hf92
   obtain rfl:=Option.some.inj (Tryz.func92.symm.trans hf)
   obtain⟨x',l1,e1,hx,hr⟩:=hv.cons_inv
   cases hr.nil_inv
   have e2:args'= #[x']:=by apply Array.ext';simpa using e1
   subst e2
   refine⟨ρ,x',w,?_,Ext.refl _,hx,hs⟩
   rw[run_callFunc_extern Tryz.func92 (by kernel_rfl) (by kernel_rfl) (by kernel_rfl) (e:=Extern.AbiNoEscape.same) (by kernel_rfl),Lib.run_noEscape]
   rfl
 cases hk
theorem follows:Tryz.prog.follows .mixedOrders=true:=by kernel_rfl
end Go.Proofs.YtmfphenhpkgidaaGreatDoor
