/-
  CM, part 8a: what the model's append does.
-/
import Derived.Test.YtfoonohjjeofhaaGreatDoorCmOps4
namespace Go.Cm
open Go
variable {P : Program} {w0 : Base}

theorem grow_room {need cap bytes : Nat} (h1 : cap < need) (h2 : need ≤ maxNeed) (h3 : bytes ≤ 1024) : ¬ (281474976710656 < Builtin.nextslicecap need cap * bytes) := by
  have h4 := nextslicecap_le h1
  have : Builtin.nextslicecap need cap * bytes ≤ (2 * maxNeed) * 1024 := Nat.mul_le_mul (by omega) h3
  unfold maxNeed at this
  omega

set_option maxHeartbeats 8000000 in
theorem real_fits_nil {ts : Array TypeId} {sT xT ty elem : TypeId} {xd : TypeDesc} {size len n cap : Nat} {x : Value} {new : List Value} {w : World} (h0 : ts[0]? = some sT) (h1 : ts[1]? = some xT) (hu : P.underlying sT = some (.slice elem))
    (hx : P.underlying xT = some xd) (hxi : isIntT xd = false) (hsz : szOf P elem = some size) (hlen : (Builtin.lenOf x).run P w = .ok n w) (hnew : (Builtin.firstCells size n x).run P w = .ok new.toArray w) (hfit : len + n ≤ cap) :
    (Builtin.append_ ts ty #[.slice none len cap, x]).run P w = .ok (.slice none (len + n) cap) w := by
  cases xd <;> first
    | (simp [isIntT] at hxi; done)
    | simp [Builtin.append_, h0, h1, run_und w hu, run_und w hx, run_size w hsz, hlen, hnew, hfit]
set_option maxHeartbeats 8000000 in
theorem real_fits {ts : Array TypeId} {sT xT ty elem : TypeId} {xd : TypeDesc} {size len n cap : Nat} {a : Addr} {x : Value} {new : List Value} {w w' : World} (h0 : ts[0]? = some sT) (h1 : ts[1]? = some xT) (hu : P.underlying sT = some (.slice elem))
    (hx : P.underlying xT = some xd) (hxi : isIntT xd = false) (hsz : szOf P elem = some size) (hlen : (Builtin.lenOf x).run P w = .ok n w) (hnew : (Builtin.firstCells size n x).run P w = .ok new.toArray w) (hfit : len + n ≤ cap)
    (hst : (storeCells (a.add (len * size)) new).run P w = .ok () w') : (Builtin.append_ ts ty #[.slice (some a) len cap, x]).run P w = .ok (.slice (some a) (len + n) cap) w' := by
  cases xd <;> first
    | (simp [isIntT] at hxi; done)
    | simp [Builtin.append_, h0, h1, run_und w hu, run_und w hx, run_size w hsz, hlen, hnew, hfit, hst]
set_option maxHeartbeats 8000000 in
theorem real_grows {ts : Array TypeId} {sT xT ty elem : TypeId} {xd : TypeDesc} {size len n cap : Nat} {base : Option Addr} {x : Value} {old new : List Value} {w : World} (h0 : ts[0]? = some sT) (h1 : ts[1]? = some xT) (hu : P.underlying sT = some (.slice elem))
    (hx : P.underlying xT = some xd) (hxi : isIntT xd = false) (hsz : szOf P elem = some size) (hlen : (Builtin.lenOf x).run P w = .ok n w) (hold : (Builtin.firstCells size len (.slice base len cap)).run P w.drew = .ok old.toArray w.drew)
    (hnew : (Builtin.firstCells size n x).run P w.drew = .ok new.toArray w.drew) (hfit : ¬ (len + n ≤ cap)) {i : TypeInfo} {z : Value} (hi : P.info? elem = some i) (hz : zeroV P elem = some z) (hb : i.bytes ≤ 1024) (hb0 : 0 < i.bytes) (hm : len + n ≤ maxNeed) :
    ∃ cap', len + n ≤ cap' ∧ (Builtin.append_ ts ty #[.slice base len cap, x]).run P w = .ok (.slice (some ⟨w.heap.size, 0, none⟩) (len + n) cap') (w.drew.alloc (.cells (old.toArray ++ new.toArray ++ Builtin.zeroCells z.cells (cap' - (len + n))) elem)) := by
  have g1 := grow_room (bytes := i.bytes) (show cap < len + n by omega) hm hb
  have g2 : ¬ (9223372036854775807 < ((len : Int) + (n : Int))) := by unfold maxNeed at hm; omega
  have g3 : i.bytes ≠ 0 := by omega
  refine ⟨(Question.appendCap (len + n) cap elem).cut (w.tape w.drawn (.appendCap (len + n) cap elem)), by simp [Question.cut], ?_⟩
  have hz' := run_zero w.drew hz
  cases xd <;> first
    | (simp [isIntT] at hxi; done)
    | (simp [Builtin.append_, h0, h1, run_und w hu, run_und w hx, run_size w hsz, hlen, hnew, hold, hfit, run_info w hi, run_info w.drew hi, g1, g2, Question.forced, hz', newRow]; congr 2; apply Array.ext'; simp [List.append_assoc])


end Go.Cm
