/-
  durs; level.first.
-/
import Derived.Test.YtnhalpkekpehpaaGreatDoorSmA
namespace Go.Proofs.YtnhalpkekpehpaaGreatDoor
open Go.Cm Go
set_option maxRecDepth 100000
variable {S : St}
abbrev gT (av : Option Addr) (O : List Ti) : Gr := Eu 88 2 Ti.cells (.slice av O.length O.length) O
abbrev Ah (L : List It) : List Nat := L.map (·.AS)
def C' (s : Nat) : List Nat → List Nat
 | [] => []
 | k :: K => (s + k) :: C' (s + k) K
theorem AAx (K : List Nat) (k : Nat) : ∀ s, C' s (K ++ [k]) = C' s K ++ [s + K.sum + k] := by
 induction K with
 | nil => intro s; simp [C']
 | cons x K ih => intro s; simp [C', ih, Nat.add_assoc]
theorem Qg : ∀ (K : List Nat) (s : Nat), (C' s K).length = K.length
 | [], _ => rfl
 | k :: K, s => by simp [C', Qg K]
theorem AEC (a : Option Addr) (cap : Nat) (L : List It) (hn : L.length ≤ 27) (hv : E4 S (.slice a L.length cap) L) : CC Tryz.prog KK 88 [.slice a L.length cap] S (fun v S' => AG S S' ∧ ∃ av, v = .slice av ((Ah L).map tw).length ((Ah L).map tw).length ∧ AU S S' (gT av ((Ah L).map tw))) := by
 refine ce 19 Tryz.func88 fun hl => ?_; refine zg ?_
 have hl := hl.EP (g := gT none []) (.inl ⟨rfl, rfl, rfl⟩)
 refine AK (L' := [(8, .int .i64 (0 : Int)), (7, .int .i64 L.length), (6, .slice a L.length cap), (3, .slice none ([] : List Ti).length ([] : List Ti).length), (2, .slice none 0 0)]) sE ?_
 refine Au rfl (fun m Le S' => ∃ (i : Nat) (av : Option Addr) (O : List Ti), i ≤ L.length ∧ m = L.length - i ∧ O = (Ah (L.take i)).map tw ∧ Af [(8, .int .i64 (i : Int)), (7, .int .i64 L.length), (6, .slice a L.length cap), (3, .slice av O.length O.length), (2, .slice none 0 0)] Le ∧ AB S [S] S' [] [gT av O]) ?_ (m := L.length) ⟨0, none, [], Q1, Q1, rfl, sE, hl⟩
 clear hl; rintro m Le S' ⟨i, av, O, hi, rfl, hO, AL, hl⟩; refine AK AL ?_
 refine zg ?_
 constructor <;> intro h9
 ·
  have AJ : i < L.length := dT h9
  obtain ⟨x, hx⟩ := Ac AJ
  have DN : O.length = i := by rw [hO, cw, cw, List.length_take]; omega
  obtain ⟨b1, o1, Ai, ha, _, AY, Ab⟩ := hv.elem hx
  refine zg ?_; refine aL hl [.int .i64 0, .int .i64 0, .bool false, .bool false, .bool false, .int .i64 0, .int .i64 0, .int .i64 0, .int .i64 0, .int .i64 0, .int .i64 0, .int .i64 0] fun B5 S5 hl => ?_; refine sL hl 0 x.cells fun S6 hl => ?_; refine zg ?_; refine dL hl ((tw x.AS).cells) Tryz.underlying118 fun Mj Ia Ol hl => ?_; refine DX hl 0 rfl rfl (by simp) rfl rfl rfl rfl rfl rfl rfl Tryz.underlying118 Tryz.underlying118 rfl rfl aP (Bf (new := (tw x.AS).cells) Ol rfl) rfl rfl aP (by show O.length + 1 ≤ AQ; unfold AQ; omega) ?_; intro PU Hs hl
  obtain ⟨AT, rfl⟩ : ∃ x, PU = .slice x (O.length + 1) (O.length + 1) := AU.is (hl.gr _ aQ)
  refine zg ?_
  refine ⟨L.length - (i + 1), Q1, i + 1, AT, O ++ [tw x.AS], Q1, rfl, by rw [Ah, CJ hx, mAp, mAp, hO]; rfl, ⟨rfl, rfl, rfl, congrArg some (congrArg (fun n => Value.slice AT n n) (by rw [ay]; rfl)), rfl, trivial⟩, ?_⟩
  rw [gT, EH]
  exact hl.tail
 obtain rfl : i = L.length := dF h9
 rw [List.take_length] at hO
 subst hO
 refine zg ?_
 exact y1 rfl ⟨hl.AA, av, rfl, hl.gr _ aQ⟩
theorem dA (L : List It) (i : Nat) : (Ah (L.take i)).sum ≤ (Ah L).sum := by
 have := Wx (Ah L) i
 rwa [← List.map_take] at this
theorem cY (a : Option Addr) (cap : Nat) (L : List It) (hF : Ad S) (hn : L.length ≤ 27) (hK : (Ah L).sum ≤ 50000) (hv : E4 S (.slice a L.length cap) L) : CC Tryz.prog KK 189 [.slice a L.length cap] S (fun v S' => AG S S' ∧ ∃ av, v = .slice av ((C' 0 (Ah L)).map tw).length ((C' 0 (Ah L)).map tw).length ∧ AU S S' (gT av ((C' 0 (Ah L)).map tw))) := by
 refine ce 27 Tryz.func189 fun hl => ?_; refine zg ?_; refine rr rfl (Ak rfl rfl (v := (tw 0).v) (by rfl)) ?_; refine aL hl [.int .i64 0, .int .i64 0] fun B4 S4 hl => ?_; refine sL hl 0 ((tw 0).cells) fun S5 hl => ?_; refine zA ?_; refine AV rfl ?_; refine zS ?_; refine BF rfl ?_
 have hl := hl.EP (g := gT none []) (.inl ⟨rfl, rfl, rfl⟩)
 refine AK (L' := [(10, .int .i64 (0 : Int)), (9, .int .i64 L.length), (8, .slice a L.length cap), (4, ptrTo B4 0), (3, .slice none ([] : List Ti).length ([] : List Ti).length), (2, .slice none 0 0)]) sE ?_
 refine Au rfl (fun m Le S' => ∃ (i : Nat) (av : Option Addr) (O : List Ti), i ≤ L.length ∧ m = L.length - i ∧ O = (C' 0 (Ah (L.take i))).map tw ∧ Af [(10, .int .i64 (i : Int)), (9, .int .i64 L.length), (8, .slice a L.length cap), (4, ptrTo B4 0), (3, .slice av O.length O.length), (2, .slice none 0 0)] Le ∧ AB S [S] S' [(B4, .cells (tw ((Ah (L.take i)).sum)).cells 88 false true [])] [gT av O]) ?_ (m := L.length) ⟨0, none, [], Q1, Q1, rfl, sE, hl⟩
 clear hl; rintro m Le S' ⟨i, av, O, hi, rfl, hO, AL, hl⟩; refine AK AL ?_
 refine zg ?_
 constructor <;> intro Dv
 ·
  have AJ : i < L.length := dT Dv
  obtain ⟨x, hx⟩ := Ac AJ
  have DN : O.length = i := by rw [hO, cw, Qg, cw, List.length_take]; omega
  have DO : Ah (L.take (i + 1)) = Ah (L.take i) ++ [x.AS] := by rw [Ah, CJ hx, mAp]; rfl
  have DI := dA L i
  have ZP := dA L (i + 1)
  rw [DO, List.sum_append] at ZP
  have Oo : [x.AS].sum = x.AS := by simp
  obtain ⟨b1, o1, Ai, ha, _, AY, Ab⟩ := hv.elem hx
  refine zg ?_; refine aL hl [.int .i64 0, .int .i64 0, .bool false, .bool false, .bool false, .int .i64 0, .int .i64 0, .int .i64 0, .int .i64 0, .int .i64 0, .int .i64 0, .int .i64 0] fun B5 S5 hl => ?_; refine sL hl 0 x.cells fun S6 hl => ?_; refine zg ?_
  refine zc hl rfl (T3 (Ah (L.take i)).sum x.AS (hl.AA.3 hF) Q1 Q1) ?_; rintro v S9 Ar rfl hl
  refine zg ?_; refine sL hl 1 ((tw ((Ah (L.take i)).sum + x.AS)).cells) fun Co hl => ?_; refine zg ?_; refine dL hl ((tw ((Ah (L.take i)).sum + x.AS)).cells) Tryz.underlying118 fun Mj Ia Ol hl => ?_; refine DX hl 0 rfl rfl (by simp) rfl rfl rfl rfl rfl rfl rfl Tryz.underlying118 Tryz.underlying118 rfl rfl aP (Bf (new := (tw ((Ah (L.take i)).sum + x.AS)).cells) Ol rfl) rfl rfl aP (by show O.length + 1 ≤ AQ; unfold AQ; omega) ?_; intro PU Hs hl
  obtain ⟨AT, rfl⟩ : ∃ x, PU = .slice x (O.length + 1) (O.length + 1) := AU.is (hl.gr _ aQ)
  refine zg ?_
  refine ⟨L.length - (i + 1), Q1, i + 1, AT, O ++ [tw ((Ah (L.take i)).sum + x.AS)], Q1, rfl, by rw [DO, AAx, mAp, hO, Nat.zero_add]; rfl, ⟨rfl, rfl, rfl, rfl, congrArg some (congrArg (fun n => Value.slice AT n n) (by rw [ay]; rfl)), rfl, trivial⟩, ?_⟩
  rw [gT, EH, DO, List.sum_append, Oo]
  exact hl.tail
 obtain rfl : i = L.length := dF Dv
 rw [List.take_length] at hO
 subst hO
 refine zg ?_
 exact y1 rfl ⟨hl.AA, av, rfl, hl.gr _ aQ⟩
theorem oy {a b : Nat} (h : tw a = tw b) : a = b := by
 have h1 := PO a
 have h2 := PO b
 have h3 := IT b
 rw [h] at h1
 rw [h1] at h2
 have := Int.eq_of_mul_eq_mul_right Q1 h2
 omega
theorem ADc (a : Option Addr) (cap : Nat) (K : List Nat) (k : Nat) (hn : K.length ≤ 400) (hv : Ku S (.slice a K.length cap) (K.map tw)) : CC Tryz.prog KK 205 [.slice a K.length cap, (tw k).v] S (fun v S' => AG S S' ∧ ∃ r : Int, v = .int .i64 r ∧ (0 ≤ r ↔ k ∈ K)) := by
 refine ce 19 Tryz.func205 fun hl => ?_; refine zg ?_; refine bL hl fun B3 S3 hl => ?_; refine zA ?_; refine AV rfl ?_; refine zS ?_; refine BF rfl ?_; refine AK (L' := [(8, .int .i64 (0 : Int)), (7, .int .i64 K.length), (6, .slice a K.length cap), (3, ptrTo B3 0), (0, .slice a K.length cap)]) sE ?_
 refine Au rfl (fun m Le S' => ∃ i : Nat, i ≤ K.length ∧ m = K.length - i ∧ (¬ k ∈ K.take i) ∧ Af [(8, .int .i64 (i : Int)), (7, .int .i64 K.length), (6, .slice a K.length cap), (3, ptrTo B3 0), (0, .slice a K.length cap)] Le ∧ AB S [S] S' [(B3, .cells (tw k).cells 88 false true [])] []) ?_ (m := K.length) ⟨0, Q1, Q1, by simp, sE, hl⟩
 clear hl; rintro m Le S' ⟨i, hi, rfl, Dx, AL, hl⟩; refine AK AL ?_
 refine zg ?_
 constructor <;> intro h9
 ·
  have AJ : i < K.length := dT h9
  obtain ⟨x, hx⟩ := Ac AJ
  obtain ⟨b1, o1, Ai, ha, _, AY, Ab⟩ := hv.elem (Dc tw hx)
  refine zg ?_; refine A4 (idx := [0, 1, 2, 3, 4, 5]) rfl aP aP ?_; refine zg ?_
  constructor <;> intro Cj
  ·
   have e := oy (oTr Cj)
   refine zg ?_
   refine CG (Cw (GK (CG (z1 rfl ⟨hl.AA, _, rfl, ⟨fun _ => by rw [e]; exact Am hx, fun _ => by omega⟩⟩))))
  have e : ¬ k = x := fun e => oFa Cj (by rw [e])
  refine zg ?_
  exact ⟨K.length - (i + 1), Q1, i + 1, Q1, rfl, by rw [CJ hx]; simp [Dx, e], sE, hl⟩
 obtain rfl : i = K.length := dF h9
 rw [List.take_length] at Dx
 refine zg ?_
 exact y1 rfl ⟨hl.AA, _, rfl, ⟨fun h => absurd h Q1, fun h => absurd h Dx⟩⟩
theorem ADb (a : Option Addr) (cap : Nat) (K : List Nat) (k : Nat) (hn : K.length ≤ 400) (hv : Ku S (.slice a K.length cap) (K.map tw)) : CC Tryz.prog KK 201 [.slice a K.length cap, (tw k).v] S (fun v S' => AG S S' ∧ v = .bool (decide (k ∈ K))) := by
 refine ce 9 Tryz.func201 fun hl => ?_; refine zg ?_; refine bL hl fun B3 S3 hl => ?_; refine zg ?_
 refine zc hl rfl (ADc a cap K k hn (hv.move (hl.since 0 rfl))) ?_; rintro v S1 Al ⟨r, rfl, hr⟩ hl
 refine zg ?_
 exact y1 rfl ⟨hl.AA, by simp [← hr]⟩
theorem mM : ∀ (K : List Nat) (s n : Nat), K.length = n + 1 → nth (C' s K) n = some (s + K.sum)
 | [], _, _, h => by cases h
 | [k], s, n, h => by
  obtain rfl : n = 0 := by simp at h; omega
  simp [C', nth]
 | k :: k' :: K, s, n, h => by
  obtain ⟨m, rfl⟩ : ∃ m, n = m + 1 := ⟨n - 1, by simp at h; omega⟩
  show nth (C' (s + k) (k' :: K)) m = _
  rw [mM (k' :: K) (s + k) m (by simpa using h), List.sum_cons (a := k), Nat.add_assoc]
theorem mN : ∀ (K : List Nat) (s x : Nat), x ∈ C' s K → x ≤ s + K.sum
 | k :: K, s, x, h => by
  rw [List.sum_cons]
  rcases List.mem_cons.1 h with rfl | h
  ·omega
  have := mN K (s + k) x h
  omega
def LP (K : List Nat) : List Nat := if K = [] then [] else K.sum :: ((C' 0 K).take (K.length - 1)).map (K.sum - ·)
theorem ADW (a : Option Addr) (cap : Nat) (L : List It) (hF : Ad S) (hn : L.length ≤ 27) (hK : (Ah L).sum ≤ 50000) (hv : E4 S (.slice a L.length cap) L) : CC Tryz.prog KK 190 [.slice a L.length cap] S (fun v S' => AG S S' ∧ ∃ av, v = .slice av ((LP (Ah L)).map tw).length ((LP (Ah L)).map tw).length ∧ AU S S' (gT av ((LP (Ah L)).map tw))) := by
 refine ce 47 Tryz.func190 fun hl => ?_; refine zg ?_
 refine zc hl rfl (cY a cap L hF hn hK hv) ?_; rintro v S2 Al ⟨av, rfl, hg⟩ hl
 have hlen : (Ah L).length = L.length := List.length_map ..
 have Cr : ((C' 0 (Ah L)).map tw).length = L.length := by rw [cw, Qg, hlen]
 have hP : Ku S2 (.slice av ((C' 0 (Ah L)).map tw).length ((C' 0 (Ah L)).map tw).length) ((C' 0 (Ah L)).map tw) := AU.ls (f := Ti.cells) (fun _ => rfl) hg
 rw [Cr] at hP ⊢
 refine zg ?_
 constructor <;> intro EI
 ·
  have h0 : Ah L = [] := List.length_eq_zero_iff.1 (dT EI)
  refine zg ?_
  exact z1 rfl ⟨hl.AA, none, by rw [h0]; rfl, by rw [h0]; exact .inl ⟨rfl, rfl, rfl⟩⟩
 have um : L.length ≠ 0 := dF EI
 have AR : Ah L ≠ [] := fun e => um (by rw [← hlen, e]; rfl)
 have DT := hl
 have hl := Jv.start S2
 obtain ⟨n, H6⟩ : ∃ n, L.length = n + 1 := ⟨L.length - 1, Q1⟩
 have xA : nth ((C' 0 (Ah L)).map tw) n = some (tw (Ah L).sum) := by
  have := Dc tw (mM (Ah L) 0 n Q1)
  rwa [Nat.zero_add] at this
 obtain ⟨b1, o1, Ai, ha, _, AY, FI⟩ := hP.elem xA
 have e1 : ((L.length : Int) - 1) = (n : Int) := by omega
 have Ab : takeN 2 (BW (o1 + ((L.length : Int) - 1).toNat * 2) Ai) = some (tw (Ah L).sum).cells := by rw [e1]; exact FI
 clear FI
 refine zg ?_; refine aL hl [.int .i64 0, .int .i64 0] fun B4 S4 hl => ?_; refine sL hl 0 ((tw (Ah L).sum).cells) fun S5 hl => ?_; refine zg ?_; refine Qn hl 2 rfl rfl rfl rfl rfl Tryz.underlying118 rfl (c := (tw (Ah L).sum).cells) aP rfl ?_; intro v5 S6 hl
 obtain ⟨e8, rfl⟩ : ∃ x, v5 = .slice x 1 1 := AU.is (hl.gr _ aQ)
 refine zg ?_
 have hX : ((C' 0 (Ah L)).map tw).take n = ((C' 0 (Ah L)).take n).map tw := List.map_take.symm
 have L4 : (((C' 0 (Ah L)).map tw).take n).length = n := by rw [List.length_take, Cr]; omega
 have NC : ((C' 0 (Ah L)).take n).length = n := by rw [List.length_take, Qg, hlen]; omega
 have iu : ∀ q, q ∈ (C' 0 (Ah L)).take n → q ≤ (Ah L).sum := fun q h => by
  have := mN (Ah L) 0 q (List.mem_of_mem_take h)
  omega
 have wi : LP (Ah L) = (Ah L).sum :: ((C' 0 (Ah L)).take n).map ((Ah L).sum - ·) := by unfold LP; rw [if_neg AR, show (Ah L).length - 1 = n by omega]
 obtain ⟨a2, c2, hs, hQ⟩ := AZ.upto (k := n) hP hl.AA.rk Tryz.underlying118 aP (by rw [Cr]; omega)
 rw [L4, hX] at hQ
 rw [L4, ← e1] at hs
 rw [wi]
 generalize (C' 0 (Ah L)).take n = Q at hQ NC iu ⊢
 generalize (Ah L).sum = s at *
 refine rr rfl (LX rfl rfl rfl rfl rfl hs) ?_; refine zA ?_; refine BF rfl ?_; refine AK (L' := [(29, .int .i64 (0 : Int)), (28, .int .i64 n), (27, .slice a2 n c2), (5, .slice e8 [s].length [s].length), (4, ptrTo B4 0), (2, .slice none 0 0)]) sE ?_
 refine Au rfl (fun m Le S' => ∃ (i : Nat) (av : Option Addr) (O : List Ti), i ≤ n ∧ m = n - i ∧ O = (s :: (Q.take i).map (s - ·)).map tw ∧ Af [(29, .int .i64 (i : Int)), (28, .int .i64 n), (27, .slice a2 n c2), (5, .slice av O.length O.length), (4, ptrTo B4 0), (2, .slice none 0 0)] Le ∧ AB S2 [S2] S' [(B4, .cells (tw s).cells 88 false true [])] [gT av O]) ?_ (m := n) ⟨0, e8, [tw s], Q1, Q1, rfl, sE, hl⟩
 clear hl; rintro m Le S' ⟨i, av, O, hi, rfl, hO, AL, hl⟩; refine AK AL ?_
 refine zg ?_
 constructor <;> intro FU
 ·
  have AJ : i < n := dT FU
  obtain ⟨q, hq⟩ := Ac (l := Q) (by rw [NC]; exact AJ)
  have xK := iu q (Am hq)
  have DN : O.length = i + 1 := by rw [hO, cw, List.length_cons, cw, List.length_take]; omega
  obtain ⟨b1, o1, Ai, ha, _, AY, Ab⟩ := hQ.elem (Dc tw hq)
  refine zg ?_; refine aL hl [.int .i64 0, .int .i64 0] fun B7 S7 hl => ?_; refine sL hl 0 ((tw q).cells) fun S8 hl => ?_; refine zg ?_
  refine zc hl rfl (cU s q (hl.AA.3 (DT.AA.3 hF)) Q1 Q1 xK) ?_; rintro v S9 Ar rfl hl
  refine zg ?_; refine aL hl [.int .i64 0, .int .i64 0] fun B8 Co hl => ?_; refine sL hl 0 ((tw (s - q)).cells) fun D3 hl => ?_; refine zg ?_; refine dL hl ((tw (s - q)).cells) Tryz.underlying118 fun Mj Ia Ol hl => ?_; refine DX hl 0 rfl rfl (by simp) rfl rfl rfl rfl rfl rfl rfl Tryz.underlying118 Tryz.underlying118 rfl rfl aP (Bf (new := (tw (s - q)).cells) Ol rfl) rfl rfl aP (by show O.length + 1 ≤ AQ; unfold AQ; omega) ?_; intro PU Hs hl
  obtain ⟨AT, rfl⟩ : ∃ x, PU = .slice x (O.length + 1) (O.length + 1) := AU.is (hl.gr _ aQ)
  refine zg ?_
  refine ⟨n - (i + 1), Q1, i + 1, AT, O ++ [tw (s - q)], Q1, rfl, by rw [CJ hq, mAp, ← List.cons_append, mAp, hO]; rfl, ⟨rfl, rfl, rfl, congrArg some (congrArg (fun n => Value.slice AT n n) (by rw [ay]; rfl)), rfl, rfl, trivial⟩, ?_⟩
  rw [gT, EH]
  exact hl.tail.tail
 obtain rfl : i = n := dF FU
 rw [List.take_of_length_le Q1] at hO
 subst hO
 refine zg ?_
 exact y1 rfl ⟨DT.AA.trans hl.AA, av, rfl, AU.base (hl.gr _ aQ) DT.AA.1⟩
abbrev Nv (TJ : Value) (k : Int) (u : Nat) (lm : Value) : AD := .cells [TJ, .int .i64 k, .int .i64 (tw u).n, .int .i64 (tw u).d, lm] 234 false true []
theorem cV (BR : Nat) (TJ : Value) (k : Int) (u : Nat) (lm : Value) (x : It) (_ : Ad S) (hx : x.AS ≤ 50000) (hu : u ≤ 50000) (hd : At S BR (Nv TJ k u lm)) : CC Tryz.prog KK 187 [ptrTo BR 0, AM x.cells] S (fun v S' => AG S S' ∧ v = .bool (decide (u < x.AS))) := by
 refine ce 19 Tryz.func187 fun hl => ?_; refine zg ?_; refine bL hl fun B3 S3 hl => ?_; refine zg ?_; refine A4 (idx := [0, 1, 2, 3, 4, 5, 6, 7, 8, 9, 10, 11]) rfl aP aP ?_; refine zg ?_
 refine zp hl rfl (ADa x.AS u Q1 Q1) ?_; rintro v S1 Al rfl hl; refine ⟨zt, ?_⟩
 refine zg ?_
 refine y1 rfl ⟨hl.AA, congrArg Value.bool (decide_eq_decide.2 (by unfold Tz; split <;> (try split) <;> constructor <;> intro h <;> omega))⟩
theorem cW (BR : Nat) (TJ : Value) (k : Int) (u : Nat) (lm : Value) (a : Option Addr) (cap : Nat) (K : List Nat) (w : Nat) (hF : Ad S) (hw : w ≤ 50000) (hu : u ≤ 50000) (hn : K.length ≤ 400) (hv : Ku S (.slice a K.length cap) (K.map tw)) (hd : At S BR (Nv TJ k u lm)) : CC Tryz.prog KK 188 [ptrTo BR 0, .slice a K.length cap, (tw w).v] S (fun v S' => AG S S' ∧ v = .bool (decide (w + u ∈ K))) := by
 refine ce 25 Tryz.func188 fun hl => ?_; refine zg ?_; refine bL hl fun B5 S5 hl => ?_; refine zg ?_; refine A4 (idx := [0, 1, 2, 3, 4, 9, 5, 6, 7, 8, 10, 11]) rfl aP aP ?_; refine zg ?_; refine IM hF hl rfl rfl rfl rfl rfl (z := [.int .i64 0, .int .i64 0]) aP ?_; intro B7 S7 hl
 refine zp hl rfl (T3 w u (hl.AA.3 hF) Q1 Q1) ?_; rintro v S8 Al rfl hl; refine ⟨zt, ?_⟩
 refine zg ?_
 refine pL hl 0 ((tw (w + u)).cells) (h := fun S9 hl => ⟨zt, ?_⟩)
 refine zA ?_; refine AV rfl ?_; refine zg ?_
 refine zc hl rfl (ADb a cap K (w + u) hn (hv.move (hl.since 0 rfl))) ?_; rintro v Co Ar rfl hl
 refine zg ?_
 refine y1 rfl ⟨hl.AA, rfl⟩
structure Bd where
 item : Int
 next : Int
 fin : Bool
def Bd.cells (b : Bd) : List Value := [.int .i64 b.item, .int .i64 b.next, .bool b.fin]
def U1 (L : List It) (i : Int) : Bool := match nth L i.toNat with
 | some x => x.fix
 | none => false
def D5 (L : List It) (b : Bd) : Int := if b.item < 0 then -1 else if U1 L b.item then -1 else b.item
theorem oC (a : Option Addr) (cap : Nat) (L : List It) (b : Bd) (hb : b.item < L.length) (hv : E4 S (.slice a L.length cap) L) : CC Tryz.prog KK 171 [AM [.slice a L.length cap], AM b.cells] S (fun v S' => AG S S' ∧ v = .int .i64 (D5 L b)) := by
 refine ce 19 Tryz.func171 fun hl => ?_; refine zg ?_; refine bL hl fun B2 S2 hl => ?_; refine bL hl fun B3 S3 hl => ?_; refine zA ?_; refine AV rfl ?_; refine AV rfl (Bz hl 16 (.bool (decide (D5 L b = -1))) ?_ rfl ?_)
 ·
  refine zg ?_; refine BH (d := 8) rfl (fun h8 => ?_) (fun h8 => ?_)
  ·
   have e : D5 L b = -1 := by unfold D5; rw [if_pos (oTr h8)]
   refine zg ?_
   exact ⟨rfl, bl (by rw [e]; rfl), sB, hl⟩
  have KI := oFa h8
  obtain ⟨x, hx⟩ := Ac (l := L) (i := b.item.toNat) Q1
  obtain ⟨b1, o1, Ai, ha, _, AY, Ab⟩ := hv.elem hx
  have e : x.fix = decide (D5 L b = -1) := by
   unfold D5 U1
   rw [if_neg KI, hx]
   cases hf : x.fix
   ·exact (decide_eq_false (by simp only [hf]; simp; omega)).symm
   exact (decide_eq_true (by simp [hf])).symm
  refine zg ?_
  exact ⟨rfl, bl e, sB, hl⟩
 intro S4 hl
 refine zg ?_
 constructor <;> intro Cj
 ·
  refine zg ?_
  exact (z1 rfl ⟨hl.AA, by rw [oTr Cj]⟩)
 have e : D5 L b = b.item := by
  have h := oFa Cj
  unfold D5 at h ⊢
  split at h
  ·exact absurd rfl h
  split at h
  ·exact absurd rfl h
  rename_i h1 h2; rw [if_neg h1, if_neg h2]
 refine zg ?_
 refine y1 rfl ⟨hl.AA, by rw [e]⟩
theorem QV (a b : Int) : Ci Tryz.prog EF 3 (.int .i64 a) (.int .i64 b) = some (decide (a = b)) := by
 show some (decide (a = b)) = _
 rfl
def Gq (M : List Int) : List (Int × Value) := M.map fun i => (i, .bool true)
theorem lG : ∀ (M : List Int) (k : Int), (HI (Gq M) k).getD (.bool false) = .bool (decide (k ∈ M))
 | [], k => by simp [Gq, HI, DP]
 | a :: r, k => by
  have ih := lG r k
  show (HI ((a, Value.bool true) :: Gq r) k).getD _ = _
  unfold HI at ih ⊢
  unfold DP
  by_cases h : k = a
  ·rw [if_pos h]; simp [h]
  rw [if_neg h]
  simp only [List.mem_cons, h, false_or]
  rw [← ih]
  cases DP (Gq r) k <;> rfl
structure Se where
 fr : Nat
 to : Nat
 lt : Int
 rt : Int
 free : Bool
 cn : Ti
def Se.cells (s : Se) : List Value := [.int .i64 (s.fr : Int), .int .i64 (s.to : Int), .int .i64 s.lt, .int .i64 s.rt, .bool s.free, .int .i64 s.cn.n, .int .i64 s.cn.d]
theorem r5 {n cap p q : Nat} (h1 : p ≤ q) (h2 : q ≤ cap) : GV n cap (some (.int .i64 (p : Int))) (some (.int .i64 (q : Int))) none = some (p, q, cap) := by
 unfold GV Hj
 simp only
 rw [if_pos ⟨Q1, Q1⟩]
 simp only [Int.toNat_natCast]
 rw [if_pos ⟨Q1, Q1⟩]
theorem AZ.TP {α : Type} {f : α → List Value} {C : List α} {P : Program} {e t : TypeId} {z n cap p q : Nat} {a : Option Addr} {S1 : St} (h : AZ e z f S (.slice a n cap) C) (hk : RK S S1) (hu : P.underlying t = some (.slice e)) (hz : A0 P e = some z) (Sm : p ≤ q) (hq : q ≤ C.length) :
  ∃ a2 c2, Fi P t (.slice a n cap) (some (.int .i64 (p : Int))) (some (.int .i64 (q : Int))) none S1 = some (.slice a2 ((C.take q).drop p).length c2) ∧ AZ e z f S (.slice a2 ((C.take q).drop p).length c2) ((C.take q).drop p) := by
 obtain ⟨a2, c2, h1, h2⟩ := Er.part (lo := some (.int .i64 (p : Int))) (hi := some (.int .i64 (q : Int))) (p := p) (q := q) h hk hu hz Sm (by rw [cw]; exact hq) (fun hc _ => r5 Sm (by rw [cw] at hc; omega))
 have hl : ((C.take q).drop p).length = q - p := by rw [List.length_drop, List.length_take]; omega
 rw [hl]
 refine ⟨a2, c2, h1, ?_⟩
 have e2 : ((C.take q).drop p).map f = ((C.map f).take q).drop p := by rw [List.map_drop, List.map_take]
 unfold AZ
 rw [e2]
 exact h2
def By (L : List It) (s : Se) : List It := (L.take s.to).drop s.fr
theorem dB (L : List It) (p q : Nat) : (Ah ((L.take q).drop p)).sum ≤ (Ah L).sum := by
 have h1 := dA L q
 have h2 : (Ah ((L.take q).take p ++ (L.take q).drop p)).sum = (Ah (L.take q)).sum := by rw [List.take_append_drop]
 unfold Ah at *
 rw [mAp, List.sum_append] at h2
 omega
structure JI (L : List It) (s : Se) : Prop where
 fr : s.fr ≤ s.to
 to : s.to ≤ L.length
 lt : -1 ≤ s.lt ∧ s.lt < L.length
 rt : -1 ≤ s.rt ∧ s.rt < L.length
structure Rn (S : St) (BR BM : Nat) (a : Option Addr) (cap : Nat) (L : List It) (k : Int) (u : Nat) (M : List Int) : Prop where
 d : At S BR (Nv (.slice a L.length cap) k u (.map (some BM)))
 m : At S BM (D7 (fun i : Int => .int .i64 i) (Gq M))
 v : E4 S (.slice a L.length cap) L
 n : L.length ≤ 27
 u : u ≤ 20000
 ok : ∀ x, x ∈ L → Jw x
 s : (Ah L).sum ≤ 50000
def D8 (L : List It) (k : Int) (u : Nat) (M : List Int) (s : Se) : Bool := match nth L s.lt.toNat with
 | none => false
 | some x => decide (0 ≤ s.lt) && (decide (x.val < k) || !decide (s.lt ∈ M)) && decide (u < x.AS) && decide (x.BI + u ∈ C' 0 (Ah (By L s)))
theorem Wh (BR BM : Nat) (a : Option Addr) (cap : Nat) (L : List It) (k : Int) (u : Nat) (M : List Int) (s : Se) (hF : Ad S) (hs : JI L s) (hR : Rn S BR BM a cap L k u M) : CC Tryz.prog KK 178 [ptrTo BR 0, AM s.cells] S (fun v S' => AG S S' ∧ v = .bool (D8 L k u M s)) := by
 refine ce 57 Tryz.func178 fun hl => ?_
 have hd := hR.d
 have hm := hR.m
 have hv := hR.v
 refine zg ?_; refine bL hl fun B3 S3 hl => ?_; refine zg ?_
 constructor <;> intro h8
 ·
  have h0 := oTr h8
  refine zg ?_
  exact (z1 rfl ⟨hl.AA, congrArg Value.bool (by unfold D8; split <;> first | rfl | (rw [decide_eq_false (p := 0 ≤ s.lt) Q1]; rfl))⟩)
 have h0 := oFa h8
 have AJ := hs.lt
 obtain ⟨x, hx⟩ := Ac (l := L) (i := s.lt.toNat) Q1
 have hk := hR.ok x (Am hx)
 obtain ⟨b1, o1, Ai, ha, _, AY, Ab⟩ := hv.elem hx
 refine zg ?_; refine A4 (idx := [0, 1, 2, 3, 4, 5, 6, 7, 8, 9, 10]) rfl aP aP ?_; refine zg ?_; refine IM hF hl rfl rfl rfl rfl rfl (z := [.int .i64 0, .int .i64 0, .bool false, .bool false, .bool false, .int .i64 0, .int .i64 0, .int .i64 0, .int .i64 0, .int .i64 0, .int .i64 0, .int .i64 0]) aP ?_; intro B5 S5 hl
 refine pL hl 0 x.cells (h := fun S6 hl => ⟨zt, ?_⟩)
 refine zA ?_
 have LF : D8 L k u M s = ((decide (x.val < k) || !decide (s.lt ∈ M)) && decide (u < x.AS) && decide (x.BI + u ∈ C' 0 (Ah (By L s)))) := by unfold D8; rw [hx]; simp only []; rw [decide_eq_true (p := 0 ≤ s.lt) Q1, Bool.true_and]
 have LI : (By L s).length ≤ 27 := by have := hR.n; unfold By; rw [List.length_drop, List.length_take]; omega
 have QN : (Ah (By L s)).sum ≤ 50000 := Nat.le_trans (dB L s.fr s.to) hR.s
 have NT : ∀ S', AG S S' → Ji Tryz.prog 232 (.map (some BM)) (.int .i64 s.lt) false S' = some (.bool (decide (s.lt ∈ M))) := fun S' h => (zk (kc := fun i : Int => .int .i64 i) (k := s.lt) Tryz.underlying232 (hm.at_ h) QV (by rfl) (z := .bool false) aP).trans (congrArg some (lG M _))
 refine AV rfl ?_; refine A4 (idx := [0, 1, 2, 3, 4, 5, 6, 7, 8, 9, 10, 11, 12, 13, 14, 15, 16, 17, 18, 19, 20, 21, 22, 23, 24, 25, 26, 27, 28, 29, 30, 31, 32, 33, 35, 36, 34, 37, 38, 39]) rfl aP aP ?_; refine zg ?_; refine Ej (d := 25) rfl (fun EX => ?_) (fun EX => ?_)
 ·
  refine zg ?_
  refine zp hl rfl (cV BR _ k u _ x (hl.AA.3 hF) (by have := hk.AS; omega) (by have := hR.u; omega) ⟨fun h => hd.at_ (hl.AA.trans h)⟩) ?_; rintro v S7 Al rfl hl; refine ⟨zt, ?_⟩
  refine zg ?_; refine Ej (d := 40) rfl (fun HU => ?_) (fun HU => ?_)
  ·
   obtain ⟨a2, c2, DI, h2⟩ := AZ.TP hv hl.AA.rk Tryz.underlying157 aP hs.fr hs.to
   refine zg ?_; refine pk rfl (LX rfl rfl rfl rfl rfl DI) ?_; refine zg ?_
   refine zp hl rfl (cY a2 c2 (By L s) (hl.AA.3 hF) Q1 Q1 (h2.move (hl.since 0 rfl))) ?_; rintro v S8 Ar ⟨av, Fc, hg⟩ hl; refine ⟨zt, ?_⟩
   have hP := AU.ls (f := Ti.cells) (fun _ => rfl) hg
   rw [cw] at Fc hP
   subst Fc
   refine zg ?_
   refine zp hl rfl (cW BR _ k u _ av _ (C' 0 (Ah (By L s))) x.BI (hl.AA.3 hF) (by have := hk.BI; omega) (by have := hR.u; omega) (by rw [Qg, cw]; omega) hP ⟨fun h => hd.at_ (hl.AA.trans h)⟩) ?_; rintro v S9 Bt rfl hl; refine ⟨zt, ?_⟩
   refine zg ?_
   refine y1 rfl ⟨hl.AA, congrArg Value.bool (by rw [LF, HU, EX]; simp)⟩
  refine zg ?_
  refine y1 rfl ⟨hl.AA, congrArg Value.bool (by rw [LF, HU]; simp)⟩
 refine zg ?_; refine pk rfl (mu rfl rfl rfl (NT _ hl.AA)) ?_; refine pr rfl (BC rfl rfl rfl) ?_; refine zg ?_; refine Ej (d := 35) rfl (fun Pv => ?_) (fun Pv => ?_)
 ·
  refine zg ?_
  refine zp hl rfl (cV BR _ k u _ x (hl.AA.3 hF) (by have := hk.AS; omega) (by have := hR.u; omega) ⟨fun h => hd.at_ (hl.AA.trans h)⟩) ?_; rintro v S7 Al rfl hl; refine ⟨zt, ?_⟩
  refine zg ?_; refine Ej (d := 40) rfl (fun HU => ?_) (fun HU => ?_)
  ·
   obtain ⟨a2, c2, DI, h2⟩ := AZ.TP hv hl.AA.rk Tryz.underlying157 aP hs.fr hs.to
   refine zg ?_; refine pk rfl (LX rfl rfl rfl rfl rfl DI) ?_; refine zg ?_
   refine zp hl rfl (cY a2 c2 (By L s) (hl.AA.3 hF) Q1 Q1 (h2.move (hl.since 0 rfl))) ?_; rintro v S8 Ar ⟨av, Fc, hg⟩ hl; refine ⟨zt, ?_⟩
   have hP := AU.ls (f := Ti.cells) (fun _ => rfl) hg
   rw [cw] at Fc hP
   subst Fc
   refine zg ?_
   refine zp hl rfl (cW BR _ k u _ av _ (C' 0 (Ah (By L s))) x.BI (hl.AA.3 hF) (by have := hk.BI; omega) (by have := hR.u; omega) (by rw [Qg, cw]; omega) hP ⟨fun h => hd.at_ (hl.AA.trans h)⟩) ?_; rintro v S9 Bt rfl hl; refine ⟨zt, ?_⟩
   refine zg ?_
   refine y1 rfl ⟨hl.AA, congrArg Value.bool (by rw [LF, HU, Pv]; simp)⟩
  refine zg ?_
  refine y1 rfl ⟨hl.AA, congrArg Value.bool (by rw [LF, HU]; simp)⟩
 refine zg ?_
 refine y1 rfl ⟨hl.AA, congrArg Value.bool (by rw [LF, EX, Pv]; simp)⟩
def MR (k : Int) (u : Nat) (x : It) : Bool := !x.rest && !x.Cz && !x.fix && decide (x.val = k + 1) && decide (x.AS = u)
def Ug (L : List It) (i : Int) : Bool := match nth L i.toNat with
 | none => false
 | some y => decide (y.AE = 0)
def ED (L : List It) (k : Int) (u : Nat) (s : Se) : Bool := if (decide (s.fr = s.to) || s.free) = true then false else match nth L (s.to - 1) with
 | none => false
 | some x => MR k u x && (decide (s.rt < 0) || Ug L s.rt)
theorem AE1 (k : Nat) : decide ((tw k).n = 0) = decide (k = 0) := by
 have h1 := PO k
 have h2 := IT k
 refine decide_eq_decide.2 ⟨fun h => ?_, fun h => by omega⟩
 rw [h, Int.zero_mul] at h1
 rcases Int.mul_eq_zero.1 h1.symm with h3 | h3
 ·omega
 omega
set_option maxHeartbeats 400000 in
theorem Wj (BR BM : Nat) (a : Option Addr) (cap : Nat) (L : List It) (k : Int) (u : Nat) (M : List Int) (s : Se) (hF : Ad S) (Bl : 0 ≤ k ∧ k ≤ 10) (hs : JI L s) (hR : Rn S BR BM a cap L k u M) : CC Tryz.prog KK 180 [ptrTo BR 0, AM s.cells] S (fun v S' => AG S S' ∧ v = .bool (ED L k u s)) := by
 refine ce 78 Tryz.func180 fun hl => ?_
 have hd := hR.d
 have hv := hR.v
 have DO := hs.fr
 have DI := hs.to
 have ZP := hR.n
 have Oo := hs.rt
 refine zg ?_; refine bL hl fun B3 S3 hl => ?_; refine zA ?_; refine AV rfl ?_; refine AV rfl (Bz hl 15 (.bool (decide (s.fr = s.to) || s.free)) ?_ rfl ?_)
 ·
  refine zg ?_; refine BH (d := 12) rfl (fun CL => ?_) (fun CL => ?_)
  ·
   have e : decide (s.fr = s.to) = true := decide_eq_true (dT CL)
   refine zg ?_
   exact ⟨rfl, bl (by rw [e]; rfl), sB, hl⟩
  have e : decide (s.fr = s.to) = false := decide_eq_false (dF CL)
  refine zg ?_
  exact ⟨rfl, bl (by rw [e]; rfl), sB, hl⟩
 intro S1 hl
 refine zg ?_
 constructor <;> intro H3
 ·
  refine zg ?_
  exact (z1 rfl ⟨hl.AA, congrArg Value.bool (by unfold ED; rw [if_pos H3])⟩)
 have h0 : s.fr ≠ s.to := fun e => by rw [decide_eq_true e] at H3; cases H3
 obtain ⟨x, hx⟩ := Ac (l := L) (i := s.to - 1) Q1
 have Yg : ED L k u s = (MR k u x && (decide (s.rt < 0) || Ug L s.rt)) := by unfold ED; rw [if_neg (by rw [H3]; exact Bool.false_ne_true), hx]
 obtain ⟨b1, o1, Ai, ha, _, AY, FI⟩ := hv.elem hx
 have Ab : takeN 12 (BW (o1 + ((s.to : Int) - 1).toNat * 12) Ai) = some x.cells := by rw [show ((s.to : Int) - 1).toNat = s.to - 1 by omega]; exact FI
 clear FI
 refine zg ?_; refine A4 (idx := [0, 1, 2, 3, 4, 5, 6, 7, 8, 9, 10, 11]) rfl aP aP ?_; refine zg ?_; refine IM hF hl rfl rfl rfl rfl rfl (z := [.int .i64 0, .int .i64 0, .bool false, .bool false, .bool false, .int .i64 0, .int .i64 0, .int .i64 0, .int .i64 0, .int .i64 0, .int .i64 0, .int .i64 0]) aP ?_; intro B5 S5 hl
 refine pL hl 0 x.cells (h := fun S6 hl => ⟨zt, ?_⟩)
 refine zA ?_; refine AV rfl (Bz hl 6 (.bool (MR k u x)) ?_ rfl ?_)
 ·
  refine A4 (idx := [0, 1, 2, 3, 4, 5, 6, 7, 8, 9, 10, 11, 12, 13, 14, 15, 16, 17, 18, 19, 20, 21, 22, 23, 24, 25, 26, 27, 28, 29, 30, 31, 32]) rfl aP aP ?_; refine zg ?_; refine pr rfl (BC rfl rfl rfl) ?_; refine zg ?_; refine Ej (d := 29) rfl (fun DG => ?_) (fun DG => ?_)
  ·
   refine zg ?_; refine pr rfl (BC rfl rfl rfl) ?_; refine zg ?_; refine Ej (d := 34) rfl (fun HT => ?_) (fun HT => ?_)
   ·
    refine zg ?_; refine pr rfl (BC rfl rfl rfl) ?_; refine zg ?_; refine Ej (d := 39) rfl (fun K7 => ?_) (fun K7 => ?_)
    ·
     refine zg ?_; refine Ej (d := 49) rfl (fun OQ => ?_) (fun OQ => ?_)
     ·
      have OQ : decide (x.val = k + 1) = true := OQ
      have e : decide (tw x.AS = tw u) = decide (x.AS = u) := decide_eq_decide.2 ⟨oy, fun h => by rw [h]⟩
      refine zg ?_
      exact ⟨rfl, bl (by unfold MR; rw [DG, HT, K7, OQ, e]; rfl), sB, hl⟩
     have OQ : decide (x.val = k + 1) = false := OQ
     refine zg ?_
     exact ⟨rfl, bl (by unfold MR; rw [DG, HT, K7, OQ]; rfl), sB, hl⟩
    refine zg ?_
    exact ⟨rfl, bl (by unfold MR; rw [DG, HT, K7]; rfl), sB, hl⟩
   refine zg ?_
   exact ⟨rfl, bl (by unfold MR; rw [DG, HT]; rfl), sB, hl⟩
  refine zA ?_
  exact ⟨rfl, bl (by unfold MR; rw [DG]; rfl), sB, hl⟩
 intro S7 hl
 refine AV rfl ?_; refine A4 (idx := [0, 1, 2, 3, 4, 5, 6, 7, 8, 9, 10, 11, 12, 13, 14, 15, 16, 17, 18, 19, 20]) rfl aP aP ?_; refine zg ?_; refine Ej (d := 59) rfl (fun OR => ?_) (fun OR => ?_)
 ·
  refine zg ?_; refine Ej (d := 63) rfl (fun Lx => ?_) (fun Lx => ?_)
  ·
   refine zg ?_
   refine y1 rfl ⟨hl.AA, congrArg Value.bool (by rw [Yg, OR, Lx]; rfl)⟩
  have hr0 := oFa Lx
  obtain ⟨y, hy⟩ := Ac (l := L) (i := s.rt.toNat) Q1
  have vR : Ug L s.rt = decide (y.AE = 0) := by unfold Ug; rw [hy]
  clear Ab AY ha
  obtain ⟨b1, o1, Ai, ha, _, AY, Ab⟩ := hv.elem hy
  refine zg ?_
  refine y1 rfl ⟨hl.AA, congrArg Value.bool (by rw [Yg, OR, Lx, vR, ← AE1]; rfl)⟩
 refine zg ?_
 refine y1 rfl ⟨hl.AA, congrArg Value.bool (by rw [Yg, OR]; rfl)⟩
theorem AFS {P : Program} {K : A1} {n : Nat} {ro : Option Nat} {L : Env} {S : St} {Q : Bi} {c : Code} (I : St → Prop) (h : XE P K n ro c L S fun e L' S' => (e = .normal ∧ HH L L' ∧ I S') ∨ (e = .ret ∧ Q .ret L' S')) (hq : ∀ S', I S' → Q .normal L S') : XE P K n ro c L S Q := by
 intro a ha
 obtain ⟨m, e, a', S', L', h1, h2, h3⟩ := h a ha
 rcases h3 with ⟨h3, h4, h5⟩ | ⟨h3, h4⟩
 ·subst h3; exact ⟨m, _, a', S', L, h1, h2.T8 h4, hq S' h5⟩
 subst h3; exact ⟨m, _, a', S', L', h1, h2, h4⟩
def O6 (L : List It) (k : Int) (j : Nat) : Bool := match nth L j with
 | none => false
 | some y => !y.Cz && decide (y.val = k)
theorem AAZ {L : List It} {k : Int} {j : Nat} (h : ¬ j < L.length) : O6 L k j = false := by
 unfold O6
 cases e : nth L j with
 | none => rfl
 | some y => exact absurd (CS e) h
def C6 (L : List It) (k : Int) (u : Nat) (s : Se) : Bool := match nth L s.rt.toNat with
 | none => false
 | some x => decide (0 ≤ s.rt) && !(decide (x.val = k) && !decide (0 < x.cut) && O6 L k (s.rt.toNat + 1)) && decide (u < x.AS) && decide (x.AE + u ∈ LP (Ah (By L s)))
theorem zn (K : List Nat) : (LP K).length ≤ K.length + 1 := by
 unfold LP
 split
 ·exact Nat.zero_le _
 rw [List.length_cons, cw, List.length_take]; omega
theorem Wi (BR BM : Nat) (a : Option Addr) (cap : Nat) (L : List It) (k : Int) (u : Nat) (M : List Int) (s : Se) (hF : Ad S) (hs : JI L s) (hR : Rn S BR BM a cap L k u M) : CC Tryz.prog KK 179 [ptrTo BR 0, AM s.cells] S (fun v S' => AG S S' ∧ v = .bool (C6 L k u s)) := by
 refine ce 86 Tryz.func179 fun hl => ?_
 have hd := hR.d
 have hv := hR.v
 have Oo := hs.rt
 have NY := hR.n
 refine zg ?_; refine bL hl fun B3 S3 hl => ?_; refine zg ?_
 constructor <;> intro h9
 ·
  have h0 := oTr h9
  refine zg ?_
  exact (z1 rfl ⟨hl.AA, congrArg Value.bool (by unfold C6; split <;> first | rfl | (rw [decide_eq_false (p := 0 ≤ s.rt) Q1]; rfl))⟩)
 have h0 := oFa h9
 obtain ⟨x, hx⟩ := Ac (l := L) (i := s.rt.toNat) Q1
 have hk := hR.ok x (Am hx)
 obtain ⟨b1, o1, Ai, ha, _, AY, Ab⟩ := hv.elem hx
 refine zg ?_; refine A4 (idx := [0, 1, 2, 3, 4, 5, 6, 7, 8, 9, 10]) rfl aP aP ?_; refine zg ?_; refine IM hF hl rfl rfl rfl rfl rfl (z := [.int .i64 0, .int .i64 0, .bool false, .bool false, .bool false, .int .i64 0, .int .i64 0, .int .i64 0, .int .i64 0, .int .i64 0, .int .i64 0, .int .i64 0]) aP ?_; intro B5 S5 hl
 refine pL hl 0 x.cells (h := fun S6 hl => ⟨zt, ?_⟩)
 refine zA ?_
 have LF : C6 L k u s = (!(decide (x.val = k) && !decide (0 < x.cut) && O6 L k (s.rt.toNat + 1)) && decide (u < x.AS) && decide (x.AE + u ∈ LP (Ah (By L s)))) := by unfold C6; rw [hx]; simp only []; rw [decide_eq_true (p := 0 ≤ s.rt) Q1, Bool.true_and]
 have LI : (By L s).length ≤ 27 := by have := hR.n; unfold By; rw [List.length_drop, List.length_take]; omega
 have QN : (Ah (By L s)).sum ≤ 50000 := Nat.le_trans (dB L s.fr s.to) hR.s
 refine AV rfl (AFS (fun S' => (decide (x.val = k) && !decide (0 < x.cut) && O6 L k (s.rt.toNat + 1)) = false ∧ AB S [S] S' [(B5, .cells x.cells 183 false true []), (B3, .cells s.cells 248 false true [])] []) ?_ ?_)
 ·
  refine AV rfl (Bz hl 43 (.bool (decide (x.val = k) && decide (s.rt + 1 < (L.length : Int)) && !decide (0 < x.cut))) ?_ rfl ?_)
  ·
   refine A4 (idx := [0, 1, 2, 3, 4, 5, 6, 7, 8, 9, 10, 11, 12, 13, 14, 15, 16, 17, 18, 19, 20, 21, 22, 23, 24]) rfl aP aP ?_; refine zg ?_; refine Ej (d := 26) rfl (fun Gb => ?_) (fun Gb => ?_)
   ·
    have Gb : decide (x.val = k) = true := Gb
    refine zg ?_; refine Ej (d := 38) rfl (fun Ex => ?_) (fun Ex => ?_)
    ·
     have Ex : decide (s.rt + 1 < (L.length : Int)) = true := Ex
     refine zg ?_; refine pr rfl (BC rfl rfl rfl) ?_; refine zg ?_
     exact ⟨rfl, bl (by rw [Gb, Ex]; rfl), sB, hl⟩
    have Ex : decide (s.rt + 1 < (L.length : Int)) = false := Ex
    refine zg ?_
    exact ⟨rfl, bl (by rw [Gb, Ex]; rfl), sB, hl⟩
   have Gb : decide (x.val = k) = false := Gb
   refine zg ?_
   exact ⟨rfl, bl (by rw [Gb]; rfl), sB, hl⟩
  intro S7 hl
  refine zg ?_
  constructor <;> intro Py
  ·
   rw [Bool.and_eq_true, Bool.and_eq_true] at Py
   obtain ⟨⟨h1, h2⟩, h3⟩ := Py
   have h2 := oTr h2
   obtain ⟨y, hy⟩ := Ac (l := L) (i := s.rt.toNat + 1) Q1
   have jq : O6 L k (s.rt.toNat + 1) = (!y.Cz && decide (y.val = k)) := by unfold O6; rw [hy]
   clear Ab AY ha
   obtain ⟨b1, o1, Ai, ha, _, AY, FI⟩ := hv.elem hy
   have Ab : takeN 12 (BW (o1 + (s.rt + 1).toNat * 12) Ai) = some y.cells := by rw [show (s.rt + 1).toNat = s.rt.toNat + 1 by omega]; exact FI
   clear FI
   refine zg ?_; refine A4 (idx := [0, 1, 2, 3, 4, 5, 6, 7, 8, 9, 10, 11]) rfl aP aP ?_; refine zg ?_; refine IM hF hl rfl rfl rfl rfl rfl (z := [.int .i64 0, .int .i64 0, .bool false, .bool false, .bool false, .int .i64 0, .int .i64 0, .int .i64 0, .int .i64 0, .int .i64 0, .int .i64 0, .int .i64 0]) aP ?_; intro B6 S8 hl
   refine pL hl 0 y.cells (h := fun S9 hl => ⟨zt, ?_⟩)
   refine zA ?_; refine AV rfl (Bz hl 65 (.bool (!y.Cz && decide (y.val = k))) ?_ rfl ?_)
   ·
    refine A4 (idx := [0, 1, 2, 3, 4, 5, 6, 7, 8, 9, 10, 11]) rfl aP aP ?_; refine zg ?_; refine pr rfl (BC rfl rfl rfl) ?_; refine zg ?_; refine Ej (d := 57) rfl (fun G2 => ?_) (fun G2 => ?_)
    ·
     refine zg ?_
     exact ⟨rfl, bl (by rw [G2]; rfl), sB, hl⟩
    refine zg ?_
    exact ⟨rfl, bl (by rw [G2]; rfl), sB, hl⟩
   intro Co hl
   refine zg ?_
   constructor <;> intro Il
   ·
    refine zg ?_
    refine .inr ⟨rfl, z1 rfl ⟨hl.AA, congrArg Value.bool (by rw [LF, jq, Il, h1, h3]; rfl)⟩⟩
   refine zg ?_
   exact .inl ⟨rfl, sB, by rw [jq, Il, Bool.and_false], hl.tail⟩
  refine Fl rfl ?_
  refine .inl ⟨rfl, sB, ?_, hl⟩
  by_cases h2 : s.rt + 1 < (L.length : Int)
  ·rw [decide_eq_true h2, Bool.and_true] at Py
   rw [Py]; rfl
  rw [AAZ Q1, Bool.and_false]
 clear hl
 rintro D3 ⟨vg, hl⟩
 clear Ab AY ha
 obtain ⟨a2, c2, DI, h2⟩ := AZ.TP hv hl.AA.rk Tryz.underlying157 aP hs.fr hs.to
 rw [vg, Bool.not_false, Bool.true_and] at LF
 refine AV rfl ?_; refine A4 (idx := [0, 1, 2, 3, 4, 5, 6, 7, 8, 9, 10, 11, 12, 13, 14, 16, 17, 15, 18, 19, 20]) rfl aP aP ?_; refine zg ?_
 refine zp hl rfl (cV BR _ k u _ x (hl.AA.3 hF) (by have := hk.AS; omega) (by have := hR.u; omega) ⟨fun h => hd.at_ (hl.AA.trans h)⟩) ?_; rintro v Ep Al rfl hl; refine ⟨zt, ?_⟩
 refine zg ?_; refine Ej (d := 69) rfl (fun OS => ?_) (fun OS => ?_)
 ·
  clear DI h2
  obtain ⟨a2, c2, DI, h2⟩ := AZ.TP hv hl.AA.rk Tryz.underlying157 aP hs.fr hs.to
  refine zg ?_; refine pk rfl (LX rfl rfl rfl rfl rfl DI) ?_; refine zg ?_
  refine zp hl rfl (ADW a2 c2 (By L s) (hl.AA.3 hF) Q1 Q1 (h2.move (hl.since 0 rfl))) ?_; rintro v EC Ar ⟨av, Fc, hg⟩ hl; refine ⟨zt, ?_⟩
  have hP := AU.ls (f := Ti.cells) (fun _ => rfl) hg
  rw [cw] at Fc hP
  subst Fc
  refine zg ?_
  refine zp hl rfl (cW BR _ k u _ av _ (LP (Ah (By L s))) x.AE (hl.AA.3 hF) (by have := hk.AE; omega) (by have := hR.u; omega) (by have := zn (Ah (By L s)); have : (Ah (By L s)).length = (By L s).length := List.length_map _; omega) hP ⟨fun h => hd.at_ (hl.AA.trans h)⟩) ?_; rintro v E6 Bt rfl hl; refine ⟨zt, ?_⟩
  refine zg ?_
  refine y1 rfl ⟨hl.AA, congrArg Value.bool (by rw [LF, OS, Bool.true_and])⟩
 refine zg ?_
 refine y1 rfl ⟨hl.AA, congrArg Value.bool (by rw [LF, OS]; rfl)⟩
section
variable {P : Program} {K : A1} {n : Nat} {L : Env} {S S0 : St} {Q : Bi} {ops : List Oper} {i d : Nat} {o : Oper} {Ts : List St} {q l : List (Nat × AD)} {AE : List Nat} {pl : List (Oper × Nat)} {j : Nat} {E : List Cb}
def OW (v : Value) (e : TypeId) (z : Nat) (c : List Value) (m : Nat) (fr : List (Nat × AD)) : Prop :=
 (v = .slice none 0 0 ∧ c = [] ∧ m = 0 ∧ fr = []) ∨ ∃ b dd, v = .slice (some ⟨b, 0, none⟩) m m ∧ c.length = m * z ∧ fr = (b, .cells c e true true (dd.map (·.1))) :: dd ∧ ∀ p, p ∈ dd → ∃ c2 own kin, p.2 = .cells c2 e true own kin
theorem OW.is {v : Value} {e : TypeId} {z m : Nat} {c : List Value} {fr : List (Nat × AD)} (h : OW v e z c m fr) : ∃ a, v = .slice a m m := by
 rcases h with ⟨rfl, _, rfl, _⟩ | ⟨b, dd, rfl, _, _⟩
 ·exact ⟨none, rfl⟩
 exact ⟨_, rfl⟩
theorem OW.ls {α : Type} {f : α → List Value} {C : List α} {v : Value} {e : TypeId} {z : Nat} {fr : List (Nat × AD)} (hz : ∀ x, (f x).length = z) (h : OW v e z ((C.map f).flatten) C.length fr) (hl : AB S0 Ts S (q ++ (fr ++ l)) []) : AZ e z f S v C := by
 rcases h with ⟨rfl, _, h3, _⟩ | ⟨b, dd, rfl, _, rfl, _⟩
 ·have : C = [] := List.length_eq_zero_iff.1 h3
  subst this
  exact AZ.nil
 obtain ⟨h1, _, h2⟩ := hl.at_ b _ (List.mem_append.2 (.inr (List.mem_append.2 (.inl aQ))))
 exact AZ.row hz ⟨h2, _, _, h1⟩ rfl
theorem eo {v : Value} {e : TypeId} {z len : Nat} {c : List Value} {fr : List (Nat × AD)} (hl : AB S0 Ts S (q ++ (fr ++ l)) []) (hg : OW v e z c len fr) {ts : Array TypeId} {sT xT : TypeId} {xd : TypeDesc} {x : Value} {m : Nat} {new : List Value}
  (Bv : ts.toList = [sT, xT]) (hu : P.underlying sT = some (.slice e)) (Ee : P.underlying xT = some xd) (hi : F3 xd = false) (hlen : Gp x = some m) (hm : 0 < m) (hz : A0 P e = some z) (hs : El S z m x = some new)
  (CI : new.length = m * z) (hc : new.all E' = true) (GC : KA P e z = true) (Gg : len + m ≤ AQ) :
  ∃ v' AW S', Dj P .append ts.toList [v, x] S = some (v', S') ∧ OW v' e z (c ++ new) (len + m) AW ∧ AB S0 Ts S' (q ++ (AW ++ l)) [] := by
 have hl := hl.perm (List.perm_append_comm_assoc q fr l)
 suffices h : ∃ v' AW S', Dj P .append ts.toList [v, x] S = some (v', S') ∧ OW v' e z (c ++ new) (len + m) AW ∧ AB S0 Ts S' (AW ++ (q ++ l)) [] by
  obtain ⟨v', AW, S', h1, h2, h3⟩ := h
  exact ⟨v', AW, S', h1, h2, h3.perm (List.perm_append_comm_assoc AW q l)⟩
 rcases hg with ⟨rfl, rfl, rfl, rfl⟩ | ⟨b, dd, rfl, Cd, rfl, Od⟩
 ·refine ⟨.slice (some ⟨S.size, 0, none⟩) m m, [(S.size, .cells new e true true [])], (S.new (.cells new e true true [])).2, ?_, .inr ⟨S.size, [], by rw [Nat.zero_add], by rw [Nat.zero_add]; exact CI, rfl, fun _ h => (List.not_mem_nil h).elim⟩, hl.new _⟩
  unfold Dj
  simp only
  have hb : Nat.ble (0 + m) 0 = false := by
   cases hb : Nat.ble (0 + m) 0 with
   | false => rfl
   | true => have := Nat.le_of_ble_eq_true hb; omega
  have : E9 P ts.toList (.slice none 0 0) x S = some (.slice (some ⟨S.size, 0, none⟩) m m, (S.new (.cells new e true true [])).2) := by
   unfold E9
   rw [Bv]
   simp only [hu, Ee, hlen, hi, hz, hs, cond_false]
   unfold F9 F9.OG
   rw [hb, Rv GC Gg, hc]
   simp only [cond_false, Bool.and_self, cond_true]
   unfold OE
   simp only [IJ, cond_true]
   rfl
  rw [this]
 have h0 : S.get b = some (.cells c e true true (dd.map (·.1))) := hl.get 0 rfl
 have KL := hl.at_ b _ aQ
 have QG : AB S0 Ts (S.set b (.cells c e true false (dd.map (·.1)))) ((b, .cells c e true false (dd.map (·.1))) :: (dd ++ (q ++ l))) [] := by
  refine ⟨hl.AA.set KL.2.1 KL.2.2 _, hl.nd, fun k y hk => ?_, fun T ht => (hl.rk T ht).trans (ABs h0), fun g hg => (List.not_mem_nil hg).elim⟩
  rcases List.mem_cons.1 hk with e1 | Ar
  ·cases e1
   exact ⟨by rw [Ev, if_pos rfl], KL.2.1, KL.2.2⟩
  obtain ⟨k1, k2, k3⟩ := hl.at_ k y (cy Ar)
  refine ⟨?_, k2, k3⟩
  rw [Ev, if_neg]
  ·exact k1
  rintro rfl
  have := hl.nd
  exact (List.nodup_cons.1 this).1 (List.mem_map.2 ⟨_, Ar, rfl⟩)
 have Bu := QG.new (.cells (c ++ new) e true true (b :: dd.map (·.1)))
 refine ⟨_, (_, .cells (c ++ new) e true true (b :: dd.map (·.1))) :: (b, .cells c e true false (dd.map (·.1))) :: dd, _, ?_, .inr ⟨_, (b, .cells c e true false (dd.map (·.1))) :: dd, rfl, by rw [ay, Cd, CI, Nat.add_mul], rfl, fun p hp => ?_⟩, Bu⟩
 rotate_left
 ·rcases List.mem_cons.1 hp with rfl | hp
  ·exact ⟨_, _, _, rfl⟩
  exact Od p hp
 unfold Dj
 simp only
 have hb : Nat.ble (len + m) len = false := by
  cases hb : Nat.ble (len + m) len with
  | false => rfl
  | true => have := Nat.le_of_ble_eq_true hb; omega
 have : E9 P ts.toList (.slice (some ⟨b, 0, none⟩) len len) x S = some (.slice (some ⟨(S.set b (.cells c e true false (dd.map (·.1)))).size, 0, none⟩) (len + m) (len + m), ((S.set b (.cells c e true false (dd.map (·.1)))).new (.cells (c ++ new) e true true (b :: dd.map (·.1)))).2) := by
  unfold E9
  rw [Bv]
  simp only [hu, Ee, hlen, hi, hz, hs, cond_false]
  unfold F9 F9.OG
  rw [hb, Rv GC Gg, hc]
  simp only [cond_false, Bool.and_self, cond_true]
  unfold OE
  have ht : takeN (len * z) (BW 0 c) = some c := by
   show takeN (len * z) c = _
   rw [← Cd]; exact oe _
  simp only [h0, ht, Nat.zero_add, Cd, IJ, Bool.and_self, cond_true]
  rfl
 rw [this]
theorem Md {v : Value} {e : TypeId} {z len : Nat} {c : List Value} {fr : List (Nat × AD)} {k : Nat} (hl : AB S0 Ts S (q ++ (fr ++ l)) []) (hg : OW v e z c len fr) {ar : Array Operand} {ts : Array TypeId} {sT xT : TypeId} {xd : TypeDesc} {x : Value} {m : Nat} {new : List Value}
  (ho : nth pl k = some (o, j)) (AH : o.op = .call ⟨.builtin .append, ar, ts⟩) (hw : As ops L o = some true) (LB : o.dst = some d) (AJ : Nat.blt d n = true) (hx : Cm.DE L ar.toList = some [v, x]) (Bv : ts.toList = [sT, xT])
  (hu : P.underlying sT = some (.slice e)) (Ee : P.underlying xT = some xd) (hi : F3 xd = false) (hlen : Gp x = some m) (hm : 0 < m) (hz : A0 P e = some z) (hs : El S z m x = some new)
  (CI : new.length = m * z) (hc : new.all E' = true) (GC : KA P e z = true) (Gg : len + m ≤ AQ)
  (h : ∀ v' AW S', OW v' e z (c ++ new) (len + m) AW → AB S0 Ts S' (q ++ (AW ++ l)) [] → E7 P n S' ((nth AE j).getD 0) E ∧ RP P K n ops AE pl (k + 1) (left ((nth AE j).getD 0) E) ((d, v') :: L) S' Q) : RP P K n ops AE pl k E L S Q := by
 obtain ⟨v', AW, S', h1, h2, h3⟩ := eo hl hg Bv hu Ee hi hlen hm hz hs CI hc GC Gg
 exact bU ho (by rw [AH]; rfl) hw LB AJ (fun a ha => ⟨0, by rw [AH]; unfold CF; simp only [kindOf, Ii ha hx, h1]⟩) (h v' AW S' h2 h3).1 (h v' AW S' h2 h3).2
theorem HB {v : Value} {e : TypeId} {z len : Nat} {c : List Value} {fr : List (Nat × AD)} (hl : AB S0 Ts S (q ++ (fr ++ l)) []) (hg : OW v e z c len fr) {ar : Array Operand} {ts : Array TypeId} {sT xT : TypeId} {xd : TypeDesc} {x : Value} {m : Nat} {new : List Value}
  (ho : nth ops i = some o) (AH : o.op = .call ⟨.builtin .append, ar, ts⟩) (hw : As ops L o = some true) (LB : o.dst = some d) (AJ : Nat.blt d n = true) (hx : Cm.DE L ar.toList = some [v, x]) (Bv : ts.toList = [sT, xT])
  (hu : P.underlying sT = some (.slice e)) (Ee : P.underlying xT = some xd) (hi : F3 xd = false) (hlen : Gp x = some m) (hm : 0 < m) (hz : A0 P e = some z) (hs : El S z m x = some new)
  (CI : new.length = m * z) (hc : new.all E' = true) (GC : KA P e z = true) (Gg : len + m ≤ AQ)
  (h : ∀ v' AW S', OW v' e z (c ++ new) (len + m) AW → AB S0 Ts S' (q ++ (AW ++ l)) [] → RE P K n ops (i + 1) ((d, v') :: L) S' Q) : RE P K n ops i L S Q := by
 obtain ⟨v', AW, S', h1, h2, h3⟩ := eo hl hg Bv hu Ee hi hlen hm hz hs CI hc GC Gg
 exact Kf ho AH hw LB AJ rfl hx h1 (h v' AW S' h2 h3)
theorem OW.push {α : Type} {f : α → List Value} {C : List α} {s : α} {a : Option Addr} {e : TypeId} {z : Nat} {fr : List (Nat × AD)} (h : OW (.slice a (C.length + 1) (C.length + 1)) e z ((C.map f).flatten ++ f s) (C.length + 1) fr) : OW (.slice a (C ++ [s]).length (C ++ [s]).length) e z (((C ++ [s]).map f).flatten) (C ++ [s]).length fr := by
 rw [U2, ay]
 exact h
theorem _root_.Go.Cm.AB.me {r dd : List (Nat × AD)} {b : Nat} {c : List Value} {e : TypeId} (h : AB S0 [S0] S (r ++ (b, .cells c e true true (dd.map (·.1))) :: dd) []) (y : AD) :
  AB S0 [S0] ((S.kill (dd.map (·.1))).set b y) (r ++ [(b, y)]) [] := by
 generalize Ip : dd.map (·.1) = ks at *
 have CW := h.nd
 rw [mAp, List.map_cons, Ip] at CW
 have hb := h.at_ b _ (List.mem_append.2 (.inr aQ))
 have Ip : ∀ k, k ∈ ks → S0.size ≤ k := fun k hk => by
  rw [← Ip] at hk
  obtain ⟨⟨k', x⟩, hx, rfl⟩ := List.mem_map.1 hk
  exact (h.at_ k' x (List.mem_append.2 (.inr (cy hx)))).2.1
 have FY : ∀ j, j ≠ b → j ∉ ks → ((S.kill ks).set b y).get j = S.get j := fun j h1 h2 => by
  rw [Ev, if_neg h1, LN, if_neg h2]
 have Ay : ((S.kill ks).set b y).size = S.size := Nd ks S
 have hold : ∀ j, j < S0.size → ((S.kill ks).set b y).get j = S.get j := fun j hj => FY j (by have := hb.2.1; omega) (fun hm => by have := Ip j hm; omega)
 have VQ := (List.nodup_append.1 CW)
 refine ⟨⟨by rw [Ay]; exact h.AA.1, fun j hj => (hold j hj).trans (h.AA.2 j hj), fun f => ?_⟩, ?_, fun j x hx => ?_, fun T ht => ?_, fun g hg => (List.not_mem_nil hg).elim⟩
 ·intro j hj
  rw [Ay] at hj
  rw [Ev, if_neg (by have := hb.2.2; omega), LN]
  split
  ·rfl
  exact h.AA.3 f j hj
 ·rw [mAp, List.map_cons, List.map_nil]
  refine List.nodup_append.2 ⟨VQ.1, List.nodup_cons.2 ⟨List.not_mem_nil, List.nodup_nil⟩, fun a ha c hc => ?_⟩
  rw [List.mem_singleton.1 hc]
  exact VQ.2.2 a ha b aQ
 ·rw [Ay]
  rcases List.mem_append.1 hx with hx | hx
  ·have hm := h.at_ j x (List.mem_append.2 (.inl hx))
   have hj : j ∈ r.map (·.1) := List.mem_map.2 ⟨(j, x), hx, rfl⟩
   refine ⟨?_, hm.2⟩
   rw [FY j (VQ.2.2 j hj b aQ) (fun hk => VQ.2.2 j hj j (cy hk) rfl)]
   exact hm.1
  cases List.mem_singleton.1 hx
  exact ⟨by rw [Ev, if_pos rfl], hb.2⟩
 rw [List.mem_singleton.1 ht]
 refine ⟨by rw [Ay]; exact h.AA.1, fun j e2 c2 ⟨hj, own, kin, hg⟩ => ⟨by rw [Ay]; exact Nat.lt_of_lt_of_le hj h.AA.1, own, kin, ?_⟩⟩
 rw [hold j hj, h.AA.2 j hj]
 exact hg
def PX (e : TypeId) (S S' : St) : Prop := ∀ b e' c, e' ≠ e → Di S b e' c → Di S' b e' c
theorem oY {v : Value} {e : TypeId} {z m k : Nat} {c c' : List Value} {fr : List (Nat × AD)} {t : TypeId} {u : Value} {a : Option Addr} (hl : AB S0 [S0] S (q ++ (fr ++ l)) []) (hg : OW v e z c m fr) (hm : 0 < m) (hv : v = .slice a m m)
  (hz : Hk P t u = true) (hs : BJ k (AP u) c = some c') (Cd : c'.length = c.length) : ∃ b S' AW, a = some ⟨b, 0, none⟩ ∧ Gv P t (ptrTo b k) u S = some S' ∧ OW v e z c' m AW ∧ AB S0 [S0] S' (q ++ (AW ++ l)) [] ∧ PX e S S' := by
 rcases hg with ⟨_, _, h, _⟩ | ⟨b, dd, rfl, h2, rfl, Od⟩
 ·omega
 have hl := hl.perm (List.perm_append_comm_assoc q _ l)
 have Bu := hl.perm (List.perm_append_comm)
 have hb := Bu.at_ b _ (List.mem_append.2 (.inr aQ))
 cases hv
 refine ⟨b, _, [(b, .cells c' e true true [])], rfl, AEY hz hb.1 hs, .inr ⟨b, [], rfl, by rw [Cd, h2], rfl, fun _ h => (List.not_mem_nil h).elim⟩, ?_, fun j e2 c2 AR ⟨hj, own, kin, hg⟩ => ⟨by rw [show ((S.kill (dd.map (·.1))).set b _).size = S.size from Nd _ S]; exact hj, own, kin, ?_⟩⟩
 ·exact ((Bu.me (.cells c' e true true [])).perm List.perm_append_comm).perm (List.perm_append_comm_assoc [_] q l)
 rw [Ev, if_neg, LN, if_neg]
 ·exact hg
 ·intro SY
  obtain ⟨⟨j', y⟩, hy, rfl⟩ := List.mem_map.1 SY
  obtain ⟨c3, o3, k3, e3⟩ := Od _ hy
  have h3 := (Bu.at_ j' y (List.mem_append.2 (.inr (cy hy)))).1
  simp only at e3
  rw [e3, hg] at h3
  cases h3
  exact AR rfl
 rintro rfl
 rw [hb.1] at hg
 cases hg
 exact AR rfl
theorem Q9 {v : Value} {e : TypeId} {z m k : Nat} {c c' : List Value} {fr : List (Nat × AD)} {t : TypeId} {u : Value} {a : Option Addr} (hl : AB S0 [S0] S (q ++ (fr ++ l)) []) (hg : OW v e z c m fr) (hm : 0 < m) (hv : v = .slice a m m)
  (hz : Hk P t u = true) (hs : BJ k (AP u) c = some c') (Cd : c'.length = c.length) : ∃ b S' AW, a = some ⟨b, 0, none⟩ ∧ Gv P t (ptrTo b k) u S = some S' ∧ OW v e z c' m AW ∧ AB S0 [S0] S' (q ++ (AW ++ l)) [] := by
 obtain ⟨b, S', AW, h1, h2, h3, h4, _⟩ := oY hl hg hm hv hz hs Cd
 exact ⟨b, S', AW, h1, h2, h3, h4⟩
end
theorem Ty {α : Type} : ∀ (C : List α) (k : Nat) (y : α), (C.set k y).length = C.length := fun _ _ _ => List.length_set
theorem Tv {α : Type} {g : α → Value} : ∀ {C : List α} {k : Nat} (y : α), k < C.length → BJ k [g y] ((C.map fun x => [g x]).flatten) = some ((((C.set k y).map fun x => [g x])).flatten)
 | [], _, _, h => by simp at h
 | x :: C, 0, y, _ => by
  show BJ 0 [g y] (g x :: (C.map fun x => [g x]).flatten) = some (g y :: (C.map fun x => [g x]).flatten)
  exact nc _ _ _
 | x :: C, k + 1, y, h => by
  have := Tv (g := g) (C := C) (k := k) y (by simpa using h)
  show BJ (k + 1) [g y] (g x :: (C.map fun x => [g x]).flatten) = some (g x :: (((C.set k y).map fun x => [g x])).flatten)
  unfold BJ
  rw [this]
def GU (k : Int) (i : Nat) (x : It) : List Bd := (bif !x.Cz && decide (x.val ≤ k) then [⟨i, (i : Int) + 1, false⟩] else []) ++ (bif decide (0 < x.cut) && decide (x.cut ≤ k) then [⟨-1, (i : Int) + 1, false⟩] else [])
def Gw (k : Int) : Nat → List It → List Bd
 | _, [] => []
 | i, x :: r => GU k i x ++ Gw k (i + 1) r
def Hw (k : Int) (L : List It) : List Bd := (⟨-1, 0, false⟩ :: Gw k 0 L) ++ [⟨-1, L.length, true⟩]
def I0 (bs : List Bd) : Bd := (bs.getLast?).getD ⟨0, 0, false⟩
def toE (b : Bd) : Int := if 0 ≤ b.item then b.item else b.next
def Jj (L : List It) (c b : Bd) : Se := ⟨c.next.toNat, (toE b).toNat, D5 L c, D5 L b, b.fin, ⟨0, 0⟩⟩
def CX (L : List It) : List Bd → List Se
 | c :: b :: r => Jj L c b :: CX L (b :: r)
 | _ => []
theorem kj (bs : List Bd) (b : Bd) : I0 (bs ++ [b]) = b := by simp [I0]
theorem nj (L : List It) : ∀ (bs : List Bd) (b : Bd), bs ≠ [] → CX L (bs ++ [b]) = CX L bs ++ [Jj L (I0 bs) b]
 | [], _, h => absurd rfl h
 | [_], _, _ => rfl
 | c :: d :: r, b, _ => by
  have ih := nj L (d :: r) b (List.cons_ne_nil _ _)
  show Jj L c d :: CX L ((d :: r) ++ [b]) = Jj L c d :: (CX L (d :: r) ++ [Jj L (I0 (c :: d :: r)) b])
  rw [ih]
  rfl
structure IV (L : List It) (b : Bd) : Prop where
 item : b.item < L.length
 next : 0 ≤ b.next
theorem zO {bs : List Bd} (h : bs ≠ []) : I0 bs ∈ bs := by
 unfold I0
 rw [List.getLast?_eq_some_getLast h]
 exact List.getLast_mem h
theorem cA (L : List It) : ∀ bs : List Bd, (CX L bs).length ≤ bs.length
 | [] => Nat.le_refl _
 | [_] => Nat.zero_le _
 | c :: d :: r => by
  have ih := cA L (d :: r)
  show (CX L (d :: r)).length + 1 ≤ _
  rw [List.length_cons]
  omega
theorem AAN {L : List It} {c b : Bd} (h1 : 0 ≤ c.next) (h2 : 0 ≤ b.next) : (Jj L c b).cells = [.int .i64 c.next, .int .i64 (toE b), .int .i64 (D5 L c), .int .i64 (D5 L b), .bool b.fin, .int .i64 0, .int .i64 0] := by
 have h3 : 0 ≤ toE b := by unfold toE; split <;> omega
 unfold Jj Se.cells
 rw [Int.toNat_of_nonneg h1, Int.toNat_of_nonneg h3]
abbrev HE (av : Option Addr) (N : List Se) (fr : List (Nat × AD)) : Prop := OW (.slice av N.length N.length) 248 7 ((N.map Se.cells).flatten) N.length fr
theorem ADI (a : Option Addr) (n cap : Nat) (k : Int) : CC Tryz.prog KK 170 [.int .i64 k, .slice a n cap] S (fun v S' => ∃ B2 B3, v = .func (.func 186) #[] #[ptrTo B3 0, ptrTo B2 0] ∧ AB S [S] S' [(B3, .cells [.slice a n cap] 157 false true []), (B2, .cells [.int .i64 k] 3 false true [])] []) := by
 refine ce 6 Tryz.func170 fun hl => ?_; refine zg ?_; refine bL hl fun B2 S2 hl => ?_; refine bL hl fun B3 S3 hl => ?_; refine zg ?_; refine rr rfl (Fg rfl rfl rfl) ?_; refine zg ?_
 exact y1 rfl ⟨B2, B3, rfl, hl⟩
noncomputable def Qq : Code := pA (pB (pA (pB (pB (pB (pB (cb Tryz.f157)))))))
structure Fs where
 lb : Nat
 db : Nat
 b2 : Nat
 b5 : Nat
 b6 : Nat
 b7 : Nat
 q2 : Nat
 q3 : Nat
 t : Tm
 a : Option Addr
 cap : Nat
 k : Int
 L : List It
noncomputable def Fs.lp (z : Fs) (st : LoopState) (p : Option Code) : AD := .loop st p 43 z.t (BO Qq) (BL Qq) (BN Qq) z.db
noncomputable def Fs.l (z : Fs) (st : LoopState) (p : Option Code) (av : Option Addr) (bs : List Bd) : List (Nat × AD) := [(z.b7, .cells [.bool bs.isEmpty] 4 false true []), (z.b6, .cells (I0 bs).cells 256 false true []), (z.b5, .cells [.slice av (CX z.L bs).length (CX z.L bs).length] 219 false true []), (z.lb, z.lp st p), (z.db, .defs false), (z.b2, .cells [.slice z.a z.L.length z.cap] 231 false true []), (z.q3, .cells [.slice z.a z.L.length z.cap] 157 false true []), (z.q2, .cells [.int .i64 z.k] 3 false true [])]
abbrev Fs.env (z : Fs) : Env := [(2, ptrTo z.b2 0), (5, ptrTo z.b5 0), (6, ptrTo z.b6 0), (7, ptrTo z.b7 0)]
theorem WH {Sb S : St} (hF : Ad Sb) (z : Fs) (hz : Has 43 ⟨43, z.t, []⟩ z.env) (hv : E4 Sb (.slice z.a z.L.length z.cap) z.L) {own fr : List (Nat × AD)} {av : Option Addr} {bs : List Bd} (b : Bd) (hb : IV z.L b) (H5 : ∀ c, c ∈ bs → IV z.L c) (hn : bs.length ≤ 60) (hO : HE av (CX z.L bs) fr) (hl : AB Sb [Sb] S (own ++ (z.l .ready none av bs ++ fr)) []) :
  CT Tryz.prog KK (.fn (.yield z.lb) #[]) [AM b.cells] S fun r S' => r = .returned (.bool (!b.fin)) ∧ ∃ DR AW, HE DR (CX z.L (bs ++ [b])) AW ∧ AB Sb [Sb] S' (own ++ (z.l (bif b.fin then .done else .ready) (bif b.fin then some (.exit 0) else none) DR (bs ++ [b]) ++ AW)) [] := by
 have hl := hl.perm (List.perm_append_comm.trans (.of_eq (List.append_assoc ..)))
 refine Lq (hl.get 3 rfl) hz rfl rfl ?_; refine zg ?_; refine aL hl ((⟨0, 0, false⟩ : Bd).cells) fun B8 S1 hl => ?_; refine sL hl 0 b.cells fun S2 hl => ?_; refine zg ?_
 refine ⟨rfl, _, _, _, _, _, _, _, hl.get 4 rfl, ?_⟩
 have hl := hl.put (k := 4) rfl rfl (z.lp .busy none)
 refine BF rfl ?_
 refine AV rfl (dY (fun S' => ∃ DR AW, HE DR (CX z.L (bs ++ [b])) AW ∧ AB Sb [Sb] S' ([(B8, .cells b.cells 256 false true []), (z.b7, .cells [.bool bs.isEmpty] 4 false true []), (z.b6, .cells (I0 bs).cells 256 false true []), (z.b5, .cells [.slice DR (CX z.L (bs ++ [b])).length (CX z.L (bs ++ [b])).length] 219 false true []), (z.lb, z.lp .busy none), (z.db, .defs false), (z.b2, .cells [.slice z.a z.L.length z.cap] 231 false true []), (z.q3, .cells [.slice z.a z.L.length z.cap] 157 false true []), (z.q2, .cells [.int .i64 z.k] 3 false true [])] ++ (AW ++ own)) []) ?_ ?_)
 ·
  refine zg ?_; refine rr rfl (BC rfl rfl rfl) ?_; refine zg ?_
  constructor <;> intro Cj
  ·
   have AR : bs ≠ [] := by intro e; rw [e] at Cj; cases Cj
   have hc := H5 _ (zO AR)
   have hp := nj z.L bs b AR
   have hlen : (CX z.L (bs ++ [b])).length = (CX z.L bs).length + 1 := by rw [hp]; simp
   have So := cA z.L bs
   refine zS ?_
   refine AV rfl (PV (fun Le S' => Af ((9, .int .i64 (toE b)) :: (8, ptrTo B8 0) :: (14, AM b.cells) :: z.env) Le ∧ AB Sb [Sb] S' ([(B8, .cells b.cells 256 false true []), (z.b7, .cells [.bool bs.isEmpty] 4 false true []), (z.b6, .cells (I0 bs).cells 256 false true []), (z.b5, .cells [.slice av (CX z.L bs).length (CX z.L bs).length] 219 false true []), (z.lb, z.lp .busy none), (z.db, .defs false), (z.b2, .cells [.slice z.a z.L.length z.cap] 231 false true []), (z.q3, .cells [.slice z.a z.L.length z.cap] 157 false true []), (z.q2, .cells [.int .i64 z.k] 3 false true [])] ++ (fr ++ own)) []) ?_ ?_)
   ·
    refine zg ?_
    constructor <;> intro Ry
    ·
     refine zg ?_
     exact ⟨rfl, ⟨by rw [show toE b = b.item from if_pos (oTr Ry)]; rfl, rfl, rfl, rfl, rfl, rfl, rfl, trivial⟩, hl⟩
    refine zg ?_
    exact ⟨rfl, ⟨by rw [show toE b = b.next from if_neg (oFa Ry)]; rfl, rfl, rfl, rfl, rfl, rfl, rfl, trivial⟩, hl⟩
   clear hl
   rintro Le S3 ⟨AL, hl⟩; refine AK AL ?_
   refine A4 (idx := [0, 1, 2, 3, 4, 5, 7, 8, 10, 11, 6, 9, 12, 13, 14, 15]) rfl aP aP ?_; refine zg ?_
   refine zp hl rfl (oC z.a z.cap z.L (I0 bs) hc.item (hv.move (hl.since 0 rfl))) ?_; rintro v S4 Al rfl hl; refine ⟨zt, ?_⟩
   refine zg ?_
   refine zp hl rfl (oC z.a z.cap z.L b hb.item (hv.move (hl.since 0 rfl))) ?_; rintro v S5 Ar rfl hl; refine ⟨zt, ?_⟩
   refine zg ?_
   have ec := AAN (L := z.L) hc.next hb.next
   refine pr rfl (Ak rfl rfl (v := AM (Jj z.L (I0 bs) b).cells) (by rw [ec]; rfl)) ?_; refine PC hF hl rfl rfl rfl rfl rfl Tryz.underlying219 rfl (c := (Jj z.L (I0 bs) b).cells) aP ?_; intro RC S6 jR Om hl
   refine Md hl hO rfl rfl rfl rfl rfl rfl rfl Tryz.underlying219 Tryz.underlying219 rfl rfl (by decide) aP (Bf (n := 1) (cap := 1) (new := (Jj z.L (I0 bs) b).cells) Om rfl) rfl rfl aP (by show (CX z.L bs).length + 1 ≤ AQ; unfold AQ; omega) ?_; intro o7 BA S7 Aw hl; refine ⟨zt, ?_⟩
   obtain ⟨AT, rfl⟩ := Aw.is
   refine pL hl 3 [.slice AT ((CX z.L bs).length + 1) ((CX z.L bs).length + 1)] (h := fun S8 hl => ⟨zt, ?_⟩)
   refine zA ?_
   refine ⟨rfl, sB, AT, BA, ?_, ?_⟩
   ·rw [hp]; exact Aw.push
   rw [hlen]; exact hl
  have AR : bs = [] := by
   cases bs with
   | nil => rfl
   | cons _ _ => cases Cj
  subst AR
  refine zg ?_
  exact ⟨rfl, sB, av, fr, hO, hl⟩
 clear hl
 rintro S9 ⟨AT, BA, Aw, hl⟩
 refine zg ?_; refine sL hl 2 b.cells fun Co hl => ?_; refine sL hl 1 [.bool false] fun D3 hl => ?_
 have e7 : (bs ++ [b]).isEmpty = false := by simp
 refine zg ?_
 constructor <;> intro hf
 ·
  refine zg ?_
  refine ⟨_, _, _, _, _, _, _, _, hl.get 4 rfl, by rw [hf]; rfl, AT, BA, Aw, ?_⟩
  have hl := (hl.put (k := 4) rfl rfl (z.lp .done (some (.exit 0)))).tail
  rw [hf]
  unfold Fs.l
  rw [e7, kj]
  refine AB.perm ?_ (List.perm_append_comm (l₂ := own))
  refine AB.perm ?_ (.of_eq (List.append_assoc ..).symm)
  exact hl
 refine zg ?_
 refine ⟨_, _, _, _, _, _, _, _, hl.get 4 rfl, by rw [hf]; rfl, AT, BA, Aw, ?_⟩
 have hl := (hl.put (k := 4) rfl rfl (z.lp .ready none)).tail
 rw [hf]
 unfold Fs.l
 rw [e7, kj]
 refine AB.perm ?_ (List.perm_append_comm (l₂ := own))
 refine AB.perm ?_ (.of_eq (List.append_assoc ..).symm)
 exact hl
theorem rY (k : Int) (i : Nat) (x : It) : (GU k i x).length ≤ 2 := by
 unfold GU
 rw [ay]
 have h1 : ∀ (c : Bool) (b : Bd), (bif c then [b] else []).length ≤ 1 := fun c b => by cases c <;> simp
 have := h1 (!x.Cz && decide (x.val ≤ k)) ⟨i, (i : Int) + 1, false⟩
 have := h1 (decide (0 < x.cut) && decide (x.cut ≤ k)) ⟨-1, (i : Int) + 1, false⟩
 omega
theorem aY {L : List It} {bs : List Bd} {b : Bd} (h : ∀ c, c ∈ bs → IV L c) (hb : IV L b) : ∀ c, c ∈ bs ++ [b] → IV L c := fun c hc => by
 rcases List.mem_append.1 hc with hc | hc
 ·exact h c hc
 rw [List.mem_singleton.1 hc]; exact hb
theorem ADU {Sb S : St} (hF : Ad Sb) (z : Fs) (hz : Has 43 ⟨43, z.t, []⟩ z.env) (hn : z.L.length ≤ 27) (hv : E4 Sb (.slice z.a z.L.length z.cap) z.L) (hO : HE none (CX z.L []) []) (hl : AB Sb [Sb] S (z.l .ready none none [] ++ []) []) :
  CC Tryz.prog KK 186 [.func (.yield z.lb) #[] #[], ptrTo z.q3 0, ptrTo z.q2 0] S (fun v S' => v = AN [] ∧ ∃ av fr, HE av (CX z.L (Hw z.k z.L)) fr ∧ AB Sb [Sb] S' (z.l .done (some (.exit 0)) av (Hw z.k z.L) ++ fr) []) := by
 refine ce 58 Tryz.func186 fun _ => ?_; refine zg ?_
 have H5 : ∀ c, c ∈ ([] : List Bd) → IV z.L c := fun _ h => (List.not_mem_nil h).elim
 have G3 : IV z.L ⟨-1, 0, false⟩ := ⟨by show (-1 : Int) < _; omega, by show (0 : Int) ≤ 0; omega⟩
 have D6 : ([] : List Bd).length ≤ 60 := by decide
 refine rr rfl (Ak rfl rfl (v := AM (Bd.cells ⟨-1, 0, false⟩)) (by rfl)) ?_; refine I8 rfl rfl rfl rfl rfl rfl rfl (Es (WH hF z hz hv (own := []) ⟨-1, 0, false⟩ G3 H5 Q1 hO hl) ?_)
 clear hO hl
 rintro r S1 ⟨rfl, av, fr, hO, hl⟩
 show RE Tryz.prog KK 58 _ _ _ S1 _
 refine rr rfl (BC rfl rfl rfl) ?_; refine zg ?_
 have hl : AB Sb [Sb] S1 (z.l .ready none av ([] ++ [⟨-1, 0, false⟩]) ++ fr) [] := hl
 refine AK (L' := [(12, .int .i64 (0 : Int)), (11, .int .i64 z.L.length), (10, .slice z.a z.L.length z.cap), (0, .func (.yield z.lb) #[] #[]), (1, ptrTo z.q3 0), (2, ptrTo z.q2 0)]) sE ?_
 refine Au rfl (fun m Le S9 => ∃ (i : Nat) (av : Option Addr) (bs : List Bd), i ≤ z.L.length ∧ m = z.L.length - i ∧ bs ++ Gw z.k i (z.L.drop i) = ⟨-1, 0, false⟩ :: Gw z.k 0 z.L ∧ bs.length ≤ 1 + 2 * i ∧ (∀ c, c ∈ bs → IV z.L c) ∧ Af [(12, .int .i64 (i : Int)), (11, .int .i64 z.L.length), (10, .slice z.a z.L.length z.cap), (0, .func (.yield z.lb) #[] #[]), (1, ptrTo z.q3 0), (2, ptrTo z.q2 0)] Le ∧ ∃ fr, HE av (CX z.L bs) fr ∧ AB Sb [Sb] S9 (z.l .ready none av bs ++ fr) []) ?_ (m := z.L.length) ⟨0, av, _, Q1, Q1, rfl, by decide, aY H5 G3, sE, fr, hO, hl⟩
 clear hl H5 hO; rintro m Le S2 ⟨i, av, bs, hi, rfl, A8, jF, H5, AL, fr, hO, hl⟩; refine AK AL ?_
 refine zg ?_
 constructor <;> intro Ga
 ·
  have AJ : i < z.L.length := dT Ga
  obtain ⟨x, hx⟩ := Ac AJ
  obtain ⟨b1, o1, Ai, ha, _, AY, Ab⟩ := hv.elem hx
  rw [D4 hx] at A8
  have EJ : IV z.L ⟨i, (i : Int) + 1, false⟩ := ⟨by show (i : Int) < _; omega, by show (0 : Int) ≤ (i : Int) + 1; omega⟩
  have CB : IV z.L ⟨-1, (i : Int) + 1, false⟩ := ⟨by show (-1 : Int) < _; omega, by show (0 : Int) ≤ (i : Int) + 1; omega⟩
  refine zg ?_; refine aL hl [.int .i64 0, .int .i64 0, .bool false, .bool false, .bool false, .int .i64 0, .int .i64 0, .int .i64 0, .int .i64 0, .int .i64 0, .int .i64 0, .int .i64 0] fun B5 S5 hl => ?_; refine zg ?_; refine sL hl 0 x.cells fun S6 hl => ?_; refine zA ?_; refine AV rfl ?_
  refine AV rfl (W5 34 (fun v S9 => v = .bool false ∧ ∃ AT fr, HE AT (CX z.L (bs ++ (bif !x.Cz && decide (x.val ≤ z.k) then [⟨i, (i : Int) + 1, false⟩] else []))) fr ∧ AB Sb [Sb] S9 ([(B5, .cells x.cells 183 false true [])] ++ (z.l .ready none AT (bs ++ (bif !x.Cz && decide (x.val ≤ z.k) then [⟨i, (i : Int) + 1, false⟩] else [])) ++ fr)) []) ?_ ?_)
  ·
   refine zg ?_; refine rr rfl (BC rfl rfl rfl) ?_; refine zg ?_; refine BH (d := 20) rfl (fun HS => ?_) (fun HS => ?_)
   ·
    refine zg ?_; refine BH (d := 26) rfl (fun Gb => ?_) (fun Gb => ?_)
    ·
     refine zg ?_; refine rr rfl (Ak rfl rfl (v := AM (Bd.cells ⟨i, (i : Int) + 1, false⟩)) (by rfl)) ?_; refine I8 rfl rfl rfl rfl rfl rfl rfl (Es (WH hF z hz hv (own := [(B5, .cells x.cells 183 false true [])]) ⟨i, (i : Int) + 1, false⟩ EJ H5 Q1 hO hl) ?_)
     clear hO hl
     rintro r S7 ⟨rfl, AT, fr, hO, hl⟩
     show RE Tryz.prog KK 58 _ _ _ S7 _
     refine rr rfl (BC rfl rfl rfl) ?_; refine zg ?_
     exact ⟨rfl, _, rfl, sB, rfl, AT, fr, by rw [HS, Gb]; exact hO, by rw [HS, Gb]; exact hl⟩
    refine zg ?_
    exact ⟨rfl, _, rfl, sB, rfl, av, fr, by rw [HS, Gb, Bool.and_false, cond_false, List.append_nil]; exact hO, by rw [HS, Gb, Bool.and_false, cond_false, List.append_nil]; exact hl⟩
   refine zg ?_
   exact ⟨rfl, _, rfl, sB, rfl, av, fr, by rw [HS, Bool.false_and, cond_false, List.append_nil]; exact hO, by rw [HS, Bool.false_and, cond_false, List.append_nil]; exact hl⟩
  clear hl hO; rintro v S7 ⟨rfl, AT, fr, hO, hl⟩
  obtain ⟨c1, SJ⟩ : ∃ c, c = (bif !x.Cz && decide (x.val ≤ z.k) then [(⟨i, (i : Int) + 1, false⟩ : Bd)] else []) := ⟨_, rfl⟩
  rw [← SJ] at hl hO
  have jG : (∀ c, c ∈ bs ++ c1 → IV z.L c) ∧ (bs ++ c1).length ≤ 2 + 2 * i := by
   rw [SJ]
   cases !x.Cz && decide (x.val ≤ z.k) with
   | true => exact ⟨aY H5 EJ, by rw [ay]; show bs.length + 1 ≤ _; omega⟩
   | false => exact ⟨by rw [cond_false, List.append_nil]; exact H5, by rw [cond_false, List.append_nil]; omega⟩
  have Yj := jG.1
  have AFt := jG.2
  refine da rfl rfl ?_; refine Fl rfl ?_; refine AV rfl (W5 51 (fun v S9 => v = .bool false ∧ ∃ AT fr, HE AT (CX z.L (bs ++ c1 ++ (bif decide (0 < x.cut) && decide (x.cut ≤ z.k) then [⟨-1, (i : Int) + 1, false⟩] else []))) fr ∧ AB Sb [Sb] S9 ([(B5, .cells x.cells 183 false true [])] ++ (z.l .ready none AT (bs ++ c1 ++ (bif decide (0 < x.cut) && decide (x.cut ≤ z.k) then [⟨-1, (i : Int) + 1, false⟩] else [])) ++ fr)) []) ?_ ?_)
  ·
   refine zg ?_; refine BH (d := 38) rfl (fun Ex => ?_) (fun Ex => ?_)
   ·
    have Ex : decide (0 < x.cut) = true := Ex
    refine zg ?_; refine BH (d := 44) rfl (fun EZ => ?_) (fun EZ => ?_)
    ·
     refine zg ?_; refine rr rfl (Ak rfl rfl (v := AM (Bd.cells ⟨-1, (i : Int) + 1, false⟩)) (by rfl)) ?_; refine I8 rfl rfl rfl rfl rfl rfl rfl (Es (WH hF z hz hv (own := [(B5, .cells x.cells 183 false true [])]) ⟨-1, (i : Int) + 1, false⟩ CB Yj Q1 hO hl) ?_)
     clear hO hl
     rintro r S8 ⟨rfl, Cx, fr, hO, hl⟩
     show RE Tryz.prog KK 58 _ _ _ S8 _
     refine rr rfl (BC rfl rfl rfl) ?_; refine zg ?_
     exact ⟨rfl, _, rfl, sB, rfl, Cx, fr, by rw [Ex, EZ]; exact hO, by rw [Ex, EZ]; exact hl⟩
    refine zg ?_
    exact ⟨rfl, _, rfl, sB, rfl, AT, fr, by rw [Ex, EZ, Bool.and_false, cond_false, List.append_nil]; exact hO, by rw [Ex, EZ, Bool.and_false, cond_false, List.append_nil]; exact hl⟩
   have Ex : decide (0 < x.cut) = false := Ex
   refine zg ?_
   exact ⟨rfl, _, rfl, sB, rfl, AT, fr, by rw [Ex, Bool.false_and, cond_false, List.append_nil]; exact hO, by rw [Ex, Bool.false_and, cond_false, List.append_nil]; exact hl⟩
  clear hl hO; rintro v S8 ⟨rfl, Cx, fr, hO, hl⟩
  obtain ⟨c2, NH⟩ : ∃ c, c = (bif decide (0 < x.cut) && decide (x.cut ≤ z.k) then [(⟨-1, (i : Int) + 1, false⟩ : Bd)] else []) := ⟨_, rfl⟩
  rw [← NH] at hl hO
  have vO : GU z.k i x = c1 ++ c2 := by unfold GU; rw [SJ, NH]
  have vQ : (∀ c, c ∈ bs ++ c1 ++ c2 → IV z.L c) ∧ (bs ++ c1 ++ c2).length ≤ 3 + 2 * i := by
   rw [NH]
   cases decide (0 < x.cut) && decide (x.cut ≤ z.k) with
   | true => exact ⟨aY Yj CB, by rw [ay]; show (bs ++ c1).length + 1 ≤ _; omega⟩
   | false => exact ⟨by rw [cond_false, List.append_nil]; exact Yj, by rw [cond_false, List.append_nil]; omega⟩
  refine zg ?_
  refine ⟨z.L.length - (i + 1), Q1, i + 1, Cx, bs ++ c1 ++ c2, Q1, rfl, ?_, Q1, vQ.1, sE, fr, hO, hl.tail⟩
  rw [← A8]
  show _ = bs ++ (GU z.k i x ++ Gw z.k (i + 1) (z.L.drop (i + 1)))
  rw [vO, List.append_assoc, List.append_assoc, List.append_assoc]
 have C8 : i = z.L.length := dF Ga
 subst C8
 rw [List.drop_eq_nil_of_le (Nat.le_refl _)] at A8
 have A8 : bs = ⟨-1, 0, false⟩ :: Gw z.k 0 z.L := (List.append_nil _).symm.trans A8
 have Io : IV z.L ⟨-1, z.L.length, true⟩ := ⟨by show (-1 : Int) < _; omega, by show (0 : Int) ≤ (z.L.length : Int); omega⟩
 refine zg ?_; refine rr rfl (Ak rfl rfl (v := AM (Bd.cells ⟨-1, z.L.length, true⟩)) (by rfl)) ?_; refine I8 rfl rfl rfl rfl rfl rfl rfl (Es (WH hF z hz hv (own := []) ⟨-1, z.L.length, true⟩ Io H5 Q1 hO hl) ?_)
 clear hO hl
 rintro r S3 ⟨rfl, qa, fr, hO, hl⟩
 show RE Tryz.prog KK 58 _ _ _ S3 _
 refine zg ?_
 rw [A8] at hl hO
 exact Gy rfl ⟨rfl, qa, fr, hO, hl⟩
theorem ACy (a : Option Addr) (cap : Nat) (L : List It) (k : Int) (hF : Ad S) (hn : L.length ≤ 27) (hv : E4 S (.slice a L.length cap) L) : CC Tryz.prog KK 157 [AM [.slice a L.length cap], .int .i64 k] S (fun v S' => ∃ av fr, v = .slice av (CX L (Hw k L)).length (CX L (Hw k L)).length ∧ HE av (CX L (Hw k L)) fr ∧ AB S [S] S' fr []) := by
 refine cm 43 Tryz.func157 fun hl => ?_; refine BX rfl (BE ?_); refine zg ?_; refine bL hl fun B2 S2 hl => ?_; refine zg ?_; refine BX rfl (BE ?_); refine zg ?_; refine aL hl [.slice none 0 0] fun B5 S5 hl => ?_; refine zg ?_; refine BX rfl (BE ?_); refine zg ?_; refine aL hl ((⟨0, 0, false⟩ : Bd).cells) fun B6 S6 hl => ?_; refine zg ?_; refine BX rfl (BE ?_); refine zg ?_; refine aL hl [.bool false] fun B7 S7 hl => ?_; refine sL hl 0 [.bool true] fun S8 hl => ?_; refine zg ?_; refine BX rfl ?_; refine BX rfl (BE ?_); refine zg ?_
 refine Ct rfl rfl rfl rfl rfl rfl rfl (Bp (ADI a L.length cap k) ?_); rintro v S9 ⟨Q2, Q3, rfl, hb⟩
 have hl := hl.join hb
 refine zg ?_; refine Kl rfl (Mh rfl rfl rfl aP ?_)
 intro t ht
 have ht := ht.sub (L' := [(2, ptrTo B2 0), (5, ptrTo B5 0), (6, ptrTo B6 0), (7, ptrTo B7 0)]) sE
 have hl := (hl.new (.defs false)).new (.loop .ready none 43 t (BO Qq) (BL Qq) (BN Qq) S9.size)
 let z : Fs := ⟨S9.size + 1, S9.size, B2, B5, B6, B7, Q2, Q3, t, a, cap, k, L⟩
 have hl := hl.perm (l' := z.l .ready none none []) ((List.perm_append_comm (l₁ := [_, _]) (l₂ := [_, _, _])).append_right [_, _, _])
 refine Es (Lp (Mu (ADU hF z ht hn hv (.inl ⟨rfl, rfl, rfl, rfl⟩) hl))) ?_
 clear hl
 rintro r Co ⟨v, rfl, rfl, av, fr, hO, hl⟩
 refine ⟨_, _, _, _, _, _, _, _, hl.get 3 rfl, rfl, ?_⟩
 have hl := hl.put (k := 3) rfl rfl (z.lp .exhausted (some (.exit 0)))
 refine BX rfl (BE ?_); refine zg ?_; refine BE (Mi rfl ?_)
 have Fy := hl.get 4 rfl
 have hl := hl.put (k := 4) rfl rfl (.defs true)
 exact ⟨_, _, PN Fy, A7 rfl rfl, av, fr, rfl, hO, hl.tail.tail.tail.tail.tail.tail.tail.tail⟩
theorem ADM (x : It) : CC Tryz.prog KK 175 [AM x.cells] S (fun v S' => AG S S' ∧ v = (tw x.BI).v) := by
 refine ce 5 Tryz.func175 fun hl => ?_; refine zg ?_; refine bL hl fun B1 S1 hl => ?_; refine aL hl [.int .i64 0, .int .i64 0] fun B2 S2 hl => ?_; refine zg ?_; refine sL hl 0 ((tw x.BI).cells) fun S3 hl => ?_; refine zg ?_
 refine CK (D9 rfl (lN (z := 2) (hl.get 0 rfl) rfl) rfl) ⟨hl.AA, rfl⟩
theorem ADN (x : It) : CC Tryz.prog KK 176 [AM x.cells] S (fun v S' => AG S S' ∧ v = (tw x.AE).v) := by
 refine ce 5 Tryz.func176 fun hl => ?_; refine zg ?_; refine bL hl fun B1 S1 hl => ?_; refine aL hl [.int .i64 0, .int .i64 0] fun B2 S2 hl => ?_; refine zg ?_; refine sL hl 0 ((tw x.AE).cells) fun S3 hl => ?_; refine zg ?_
 refine CK (D9 rfl (lN (z := 2) (hl.get 0 rfl) rfl) rfl) ⟨hl.AA, rfl⟩
def GJ (g : It → Nat) (L : List It) (i : Int) : Nat := if i < 0 then 0 else match nth L i.toNat with
 | none => 0
 | some x => g x
theorem oE {Sb S : St} (f : FuncId) (B3 B4 B5 B6 Dg DA : Nat) (a : Option Addr) (cap : Nat) (L : List It) (s : Se) (u : Nat) (h e : Int) (c : List Value) (he : h < 0 ∨ e ≠ 0) (hl : AB Sb [Sb] S [(DA, .cells [.int .i64 e] 36 false true []), (Dg, .cells c 88 false true []), (B6, .cells [.int .i64 0, .int .i64 0] 88 false true []), (B5, .cells (tw u).cells 88 false true []), (B4, .cells s.cells 248 false true []), (B3, .cells [.slice a L.length cap] 231 false true [])] []) :
  CC Tryz.prog KK 173 [.int .i64 h, .func (.func f) #[] #[], ptrTo DA 0, ptrTo Dg 0, ptrTo B3 0] S (fun v S' => v = AN [] ∧ AB Sb [Sb] S' [(DA, .cells [.int .i64 e] 36 false true []), (Dg, .cells c 88 false true []), (B6, .cells [.int .i64 0, .int .i64 0] 88 false true []), (B5, .cells (tw u).cells 88 false true []), (B4, .cells s.cells 248 false true []), (B3, .cells [.slice a L.length cap] 231 false true [])] []) := by
 refine ce 27 Tryz.func173 fun _ => ?_; refine AV rfl ?_; refine AV rfl (Bz hl 12 (.bool true) ?_ rfl ?_)
 ·
  refine zg ?_; refine BH (d := 9) rfl (fun h9 => ?_) (fun h9 => ?_)
  ·
   refine zg ?_
   exact ⟨rfl, rfl, sB, hl⟩
  have h9 := oFa h9
  have he : e ≠ 0 := by omega
  refine zg ?_
  exact ⟨rfl, bl (by show (!(e == 0)) = true; simp [he]), sB, hl⟩
 intro S1 hl
 refine zg ?_
 exact Cw (CK rfl ⟨rfl, hl⟩)
theorem ADK {Sb S : St} (f : FuncId) (g : It → Nat) (hf : ∀ (T : St) (x : It), CC Tryz.prog KK f [AM x.cells] T (fun v T' => AG T T' ∧ v = (tw (g x)).v)) (B3 B4 B5 B6 Dg DA : Nat) (a : Option Addr) (cap : Nat) (L : List It) (s : Se) (u : Nat) (h : Int) (t : Nat) (x : It) (hF : Ad Sb) (hh : 0 ≤ h ∧ h < L.length) (hx : nth L h.toNat = some x) (ht : t ≤ 50000) (hg : g x ≤ 50000) (hv : E4 Sb (.slice a L.length cap) L) (hl : AB Sb [Sb] S [(DA, .cells [.int .i64 0] 36 false true []), (Dg, .cells (tw t).cells 88 false true []), (B6, .cells [.int .i64 0, .int .i64 0] 88 false true []), (B5, .cells (tw u).cells 88 false true []), (B4, .cells s.cells 248 false true []), (B3, .cells [.slice a L.length cap] 231 false true [])] []) :
  CC Tryz.prog KK 173 [.int .i64 h, .func (.func f) #[] #[], ptrTo DA 0, ptrTo Dg 0, ptrTo B3 0] S (fun v S' => v = AN [] ∧ if g x ≤ t then AB Sb [Sb] S' [(DA, .cells [.int .i64 0] 36 false true []), (Dg, .cells (tw (t - g x)).cells 88 false true []), (B6, .cells [.int .i64 0, .int .i64 0] 88 false true []), (B5, .cells (tw u).cells 88 false true []), (B4, .cells s.cells 248 false true []), (B3, .cells [.slice a L.length cap] 231 false true [])] [] else AB Sb [Sb] S' [(DA, .cells [.int .i64 14] 36 false true []), (Dg, .cells tz.cells 88 false true []), (B6, .cells [.int .i64 0, .int .i64 0] 88 false true []), (B5, .cells (tw u).cells 88 false true []), (B4, .cells s.cells 248 false true []), (B3, .cells [.slice a L.length cap] 231 false true [])] []) := by
 refine ce 27 Tryz.func173 fun _ => ?_; refine AV rfl ?_; refine AV rfl (Bz hl 12 (.bool false) ?_ rfl ?_)
 ·
  refine zg ?_; refine BH (d := 9) rfl (fun h9 => ?_) (fun h9 => ?_)
  ·
   have h9 := oTr h9
   omega
  refine zg ?_
  exact ⟨rfl, rfl, sB, hl⟩
 intro S1 hl
 obtain ⟨b1, o1, Ai, ha, _, AY, Ab⟩ := hv.elem hx
 refine zg ?_; refine A4 (idx := [0, 1, 2, 3, 4, 5, 6, 7, 8, 9, 10, 11, 12, 13]) rfl aP aP ?_; refine zg ?_
 refine zp hl rfl (hf _ x) ?_; rintro v S2 Al rfl hl; refine ⟨zt, ?_⟩
 by_cases NN : g x ≤ t
 ·
  refine zp hl rfl (cU t (g x) (hl.AA.3 hF) ht hg NN) ?_; rintro v S3 Ar rfl hl; refine ⟨zt, ?_⟩
  refine zg ?_
  refine pL hl 1 ((tw (t - g x)).cells) (h := fun S4 hl => ⟨zt, ?_⟩)
  refine pL hl 0 [.int .i64 0] (h := fun S5 hl => ⟨zt, ?_⟩)
  refine zg ?_
  exact Gy rfl ⟨rfl, by rw [if_pos NN]; exact hl⟩
 refine zp hl rfl (ADL t (g x) (hl.AA.3 hF) ht hg Q1) ?_; rintro v S3 Ar rfl hl; refine ⟨zt, ?_⟩
 refine zg ?_
 refine pL hl 1 tz.cells (h := fun S4 hl => ⟨zt, ?_⟩)
 refine pL hl 0 [.int .i64 2] (h := fun S5 hl => ⟨zt, ?_⟩)
 refine zg ?_; refine sL hl 0 [.int .i64 14] fun S6 hl => ?_; refine zg ?_
 exact Gy rfl ⟨rfl, by rw [if_neg NN]; exact hl⟩
theorem _root_.Go.Cm.AB.noG {S0 S : St} {Ts : List St} {l : List (Nat × AD)} {gs : List Gr} (h : AB S0 Ts S l gs) : AB S0 Ts S l [] := ⟨h.AA, h.nd, h.at_, h.rk, fun _ h => (List.not_mem_nil h).elim⟩
theorem oD {Sb S : St} (f : FuncId) (g : It → Nat) (hf : ∀ (T : St) (x : It), CC Tryz.prog KK f [AM x.cells] T (fun v T' => AG T T' ∧ v = (tw (g x)).v)) (B3 B4 B5 B6 Dg DA : Nat) (a : Option Addr) (cap : Nat) (L : List It) (s : Se) (u : Nat) (h : Int) (t : Nat) (hF : Ad Sb) (hh : h < L.length) (ht : t ≤ 50000) (hg : ∀ x, x ∈ L → g x ≤ 50000) (hv : E4 Sb (.slice a L.length cap) L) (hl : AB Sb [Sb] S [(DA, .cells [.int .i64 0] 36 false true []), (Dg, .cells (tw t).cells 88 false true []), (B6, .cells [.int .i64 0, .int .i64 0] 88 false true []), (B5, .cells (tw u).cells 88 false true []), (B4, .cells s.cells 248 false true []), (B3, .cells [.slice a L.length cap] 231 false true [])] []) :
  CC Tryz.prog KK 173 [.int .i64 h, .func (.func f) #[] #[], ptrTo DA 0, ptrTo Dg 0, ptrTo B3 0] S (fun v S' => v = AN [] ∧ if GJ g L h ≤ t then AB Sb [Sb] S' [(DA, .cells [.int .i64 0] 36 false true []), (Dg, .cells (tw (t - GJ g L h)).cells 88 false true []), (B6, .cells [.int .i64 0, .int .i64 0] 88 false true []), (B5, .cells (tw u).cells 88 false true []), (B4, .cells s.cells 248 false true []), (B3, .cells [.slice a L.length cap] 231 false true [])] [] else AB Sb [Sb] S' [(DA, .cells [.int .i64 14] 36 false true []), (Dg, .cells tz.cells 88 false true []), (B6, .cells [.int .i64 0, .int .i64 0] 88 false true []), (B5, .cells (tw u).cells 88 false true []), (B4, .cells s.cells 248 false true []), (B3, .cells [.slice a L.length cap] 231 false true [])] []) := by
 by_cases h0 : h < 0
 ·refine Bp (oE f B3 B4 B5 B6 Dg DA a cap L s u h 0 _ (.inl h0) hl) fun v S' hv => ⟨hv.1, ?_⟩
  rw [show GJ g L h = 0 from if_pos h0, if_pos (Nat.zero_le _)]
  exact hv.2
 obtain ⟨x, hx⟩ := Ac (l := L) (i := h.toNat) Q1
 have e : GJ g L h = g x := by unfold GJ; rw [if_neg h0, hx]
 rw [e]
 exact ADK f g hf B3 B4 B5 B6 Dg DA a cap L s u h t x hF ⟨Q1, hh⟩ hx ht (hg x (Am hx)) hv hl
def Mv (L : List It) (u : Nat) (s : Se) : Value := if GJ (·.BI) L s.lt + GJ (·.AE) L s.rt ≤ (Ah (By L s)).sum then AN [(red ((Ah (By L s)).sum - (GJ (·.BI) L s.lt + GJ (·.AE) L s.rt)) u).v, .int .i64 0] else AN [tz.v, .int .i64 14]
theorem ACz (a : Option Addr) (cap : Nat) (L : List It) (s : Se) (u : Nat) (hF : Ad S) (hn : L.length ≤ 27) (hs : JI L s) (hu : 0 < u ∧ u ≤ 1000) (A3 : ∀ x, x ∈ L → Jw x) (Sp : (Ah L).sum ≤ 50000) (hv : E4 S (.slice a L.length cap) L) : CC Tryz.prog KK 158 [AM [.slice a L.length cap], AM s.cells, (tw u).v] S (fun v S' => AG S S' ∧ v = Mv L u s) := by
 refine ce 59 Tryz.func158 fun hl => ?_
 have QN : (Ah (By L s)).sum ≤ 50000 := Nat.le_trans (dB L s.fr s.to) Sp
 refine zg ?_; refine bL hl fun B3 S3 hl => ?_; refine bL hl fun B4 S4 hl => ?_; refine bL hl fun B5 S5 hl => ?_; refine aL hl [.int .i64 0, .int .i64 0] fun B6 S6 hl => ?_; refine zg ?_
 obtain ⟨a2, c2, DI, h2⟩ := AZ.TP hv hl.AA.rk Tryz.underlying157 aP hs.fr hs.to
 have h2 : E4 S (.slice a2 (By L s).length c2) (By L s) := h2
 have LI : (By L s).length ≤ 27 := by unfold By; rw [List.length_drop, List.length_take]; omega
 refine rr rfl (LX rfl rfl rfl rfl rfl DI) ?_; refine zA ?_; refine BF rfl ?_
 have hl := hl.EP (g := gT none []) (.inl ⟨rfl, rfl, rfl⟩)
 refine AK (L' := [(22, .int .i64 (0 : Int)), (21, .int .i64 (By L s).length), (20, .slice a2 (By L s).length c2), (8, .slice none ([] : List Ti).length ([] : List Ti).length), (7, .int .i64 0), (6, ptrTo B6 0), (5, ptrTo B5 0), (4, ptrTo B4 0), (3, ptrTo B3 0)]) sE ?_
 refine Au rfl (fun m Le S' => ∃ (i : Nat) (av : Option Addr) (O : List Ti), i ≤ (By L s).length ∧ m = (By L s).length - i ∧ O = (Ah ((By L s).take i)).map tw ∧ Af [(22, .int .i64 (i : Int)), (21, .int .i64 (By L s).length), (20, .slice a2 (By L s).length c2), (8, .slice av O.length O.length), (7, .int .i64 0), (6, ptrTo B6 0), (5, ptrTo B5 0), (4, ptrTo B4 0), (3, ptrTo B3 0)] Le ∧ AB S [S] S' [(B6, .cells [.int .i64 0, .int .i64 0] 88 false true []), (B5, .cells (tw u).cells 88 false true []), (B4, .cells s.cells 248 false true []), (B3, .cells [.slice a L.length cap] 231 false true [])] [gT av O]) ?_ (m := (By L s).length) ⟨0, none, [], Q1, Q1, rfl, sE, hl⟩
 clear hl; rintro m Le S' ⟨i, av, O, hi, rfl, hO, AL, hl⟩; refine AK AL ?_
 refine zg ?_
 constructor <;> intro DF
 ·
  have AJ : i < (By L s).length := dT DF
  obtain ⟨x, hx⟩ := Ac AJ
  have DN : O.length = i := by rw [hO, cw, cw, List.length_take]; omega
  obtain ⟨b1, o1, Ai, ha, _, AY, Ab⟩ := h2.elem hx
  refine zg ?_; refine aL hl [.int .i64 0, .int .i64 0, .bool false, .bool false, .bool false, .int .i64 0, .int .i64 0, .int .i64 0, .int .i64 0, .int .i64 0, .int .i64 0, .int .i64 0] fun Hn Co hl => ?_; refine sL hl 0 x.cells fun D3 hl => ?_; refine zg ?_; refine dL hl ((tw x.AS).cells) Tryz.underlying118 fun Mj Ia Ol hl => ?_; refine DX hl 0 rfl rfl (by simp) rfl rfl rfl rfl rfl rfl rfl Tryz.underlying118 Tryz.underlying118 rfl rfl aP (Bf (new := (tw x.AS).cells) Ol rfl) rfl rfl aP (by show O.length + 1 ≤ AQ; unfold AQ; omega) ?_; intro PU Hs hl
  obtain ⟨AT, rfl⟩ : ∃ x, PU = .slice x (O.length + 1) (O.length + 1) := AU.is (hl.gr _ aQ)
  refine zg ?_
  refine ⟨(By L s).length - (i + 1), Q1, i + 1, AT, O ++ [tw x.AS], Q1, rfl, by rw [Ah, CJ hx, mAp, mAp, hO]; rfl, ⟨rfl, rfl, rfl, congrArg some (congrArg (fun n => Value.slice AT n n) (by rw [ay]; rfl)), rfl, rfl, rfl, rfl, rfl, trivial⟩, ?_⟩
  rw [gT, EH]
  exact hl.tail
 obtain rfl : i = (By L s).length := dF DF
 rw [List.take_length] at hO
 subst hO
 have hP := AU.ls (f := Ti.cells) (fun _ => rfl) (hl.gr _ aQ)
 rw [cw] at hP
 have hl := hl.noG
 rw [cw]
 refine zg ?_
 refine zc hl rfl (ADJ av _ (Ah (By L s)) (hl.AA.3 hF) (by rw [cw]; omega) QN hP) ?_; rintro v Ep Al rfl hl
 refine zg ?_; refine aL hl [.int .i64 0, .int .i64 0] fun Dg EC hl => ?_; refine aL hl [.int .i64 0] fun DA E6 hl => ?_; refine sL hl 1 ((tw (Ah (By L s)).sum).cells) fun IZ hl => ?_; refine sL hl 0 [.int .i64 0] fun OA hl => ?_; refine zg ?_; refine rr rfl (Fg rfl rfl rfl) ?_; refine zg ?_
 refine Ct rfl rfl rfl rfl rfl rfl rfl (Bp (oD 175 (fun x => x.BI) (fun T x => ADM x) B3 B4 B5 B6 Dg DA a cap L s u s.lt _ hF (by have := hs.lt; omega) QN (fun x hx => by have := (A3 x hx).BI; omega) hv hl) ?_); rintro v Ia ⟨rfl, hc⟩
 refine zg ?_
 by_cases h1 : GJ (fun x => x.BI) L s.lt ≤ (Ah (By L s)).sum
 ·
  rw [if_pos h1] at hc
  have hl := hc
  refine zg ?_
  refine Ct rfl rfl rfl rfl rfl rfl rfl (Bp (oD 176 (fun x => x.AE) (fun T x => ADN x) B3 B4 B5 B6 Dg DA a cap L s u s.rt _ hF (by have := hs.rt; omega) Q1 (fun x hx => by have := (A3 x hx).AE; omega) hv hl) ?_); rintro v Hs ⟨rfl, hc⟩
  by_cases h2 : GJ (fun x => x.AE) L s.rt ≤ (Ah (By L s)).sum - GJ (fun x => x.BI) L s.lt
  ·
   rw [if_pos h2] at hc
   have hl := hc
   refine zg ?_
   refine zc hl rfl (ADO _ u (hl.AA.3 hF) Q1 hu.2 hu.1) ?_; rintro v Lc Bt rfl hl
   refine zg ?_; refine sL hl 2 ((red ((Ah (By L s)).sum - GJ (fun x => x.BI) L s.lt - GJ (fun x => x.AE) L s.rt) u).cells) fun Ld hl => ?_; refine zg ?_
   refine CK (D9 rfl (lN (z := 2) (hl.get 2 rfl) rfl) (A7 rfl rfl)) ⟨hl.AA, ?_⟩
   unfold Mv
   rw [if_pos Q1, Nat.sub_sub]
   rfl
  rw [if_neg h2] at hc
  have hl := hc
  refine zg ?_; refine A4 (idx := [0, 1, 2, 3]) rfl aP aP ?_; refine pr rfl (Ak rfl rfl (v := tz.v) (by rfl)) ?_; refine zg ?_
  refine pL hl 2 tz.cells (h := fun Lc hl => ⟨zt, ?_⟩)
  refine zg ?_
  refine Cw (CK (D9 rfl (lN (z := 2) (hl.get 2 rfl) rfl) (A7 rfl rfl)) ⟨hl.AA, ?_⟩)
  unfold Mv
  rw [if_neg Q1]
  rfl
 rw [if_neg h1] at hc
 have hl := hc
 refine zg ?_
 refine Ct rfl rfl rfl rfl rfl rfl rfl (Bp (oE 176 B3 B4 B5 B6 Dg DA a cap L s u s.rt 14 _ (.inr (by decide)) hl) ?_); rintro v Hs ⟨rfl, hl⟩
 refine zg ?_; refine A4 (idx := [0, 1, 2, 3]) rfl aP aP ?_; refine pr rfl (Ak rfl rfl (v := tz.v) (by rfl)) ?_; refine zg ?_
 refine pL hl 2 tz.cells (h := fun Lc hl => ⟨zt, ?_⟩)
 refine zg ?_
 refine Cw (CK (D9 rfl (lN (z := 2) (hl.get 2 rfl) rfl) (A7 rfl rfl)) ⟨hl.AA, ?_⟩)
 unfold Mv
 rw [if_neg Q1]
 rfl
theorem ng {a : Value} {z : List Value} {c : List Value} : ∀ (p : List Value) {k : Nat} {r : List Value}, BJ k (a :: z) c = some r → BJ (p.length + k) (a :: z) (p ++ c) = some (p ++ r)
 | [], k, r, h => by rw [List.length_nil, Nat.zero_add]; exact h
 | x :: p, k, r, h => by
  have e := ng p h
  rw [List.length_cons, show p.length + 1 + k = (p.length + k) + 1 by omega]
  simp only [List.cons_append, BJ, e]
theorem b9 (r : List Value) : ∀ (o : Nat) (w c : List Value) {d : List Value}, BJ o w c = some d → BJ o w (c ++ r) = some (d ++ r)
 | _, [], c, d, h => by
  have e : some c = some d := by rw [← h]; unfold BJ; rfl
  cases e
  unfold BJ; rfl
 | 0, _ :: _, [], _, h => by cases h
 | 0, x :: xs, y :: l, d, h => by
  unfold BJ at h
  split at h
  ·rename_i q hq
   cases h
   have e := b9 r 0 xs l hq
   rw [List.cons_append]
   unfold BJ
   rw [e]
   rfl
  cases h
 | _ + 1, _ :: _, [], _, h => by cases h
 | o + 1, x :: xs, y :: l, d, h => by
  unfold BJ at h
  split at h
  ·rename_i q hq
   cases h
   have e := b9 r o (x :: xs) l hq
   rw [List.cons_append]
   unfold BJ
   rw [e]
   rfl
  cases h
theorem Tu {α : Type} {f : α → List Value} {z : Nat} (hz : ∀ x, (f x).length = z) {a : Value} {w : List Value} {x y : α} {j : Nat} (hw : BJ j (a :: w) (f x) = some (f y)) : ∀ (D : List α) (i : Nat), nth D i = some x → BJ (i * z + j) (a :: w) ((D.map f).flatten) = some (((D.set i y).map f).flatten)
 | [], _, h => by cases h
 | q :: D, 0, h => by
  cases h
  rw [Nat.zero_mul, Nat.zero_add]
  exact b9 _ j _ _ hw
 | q :: D, i + 1, h => by
  have e := ng (f q) (Tu hz hw D i h)
  rw [hz, show z + (i * z + j) = (i + 1) * z + j by rw [Nat.add_mul]; omega] at e
  exact e
structure RF (L : List It) (k : Int) (b : Bd) : Prop where
 it : b.item = -1 ∨ (0 ≤ b.item ∧ b.item < b.next ∧ ∃ x, nth L b.item.toNat = some x ∧ x.Cz = false ∧ x.val ≤ k)
 nx : 0 ≤ b.next ∧ b.next ≤ L.length
structure Ib (L : List It) (k : Int) (s : Se) : Prop where
 ok : JI L s
 lh : 0 ≤ s.lt → s.lt < s.fr ∧ ∃ x, nth L s.lt.toNat = some x ∧ x.fix = false ∧ x.Cz = false ∧ x.val ≤ k
 rh : 0 ≤ s.rt → s.to ≤ s.rt ∧ ∃ x, nth L s.rt.toNat = some x ∧ x.fix = false ∧ x.Cz = false ∧ x.val ≤ k
theorem XZ {L : List It} {k : Int} {i : Nat} {x : It} (hx : nth L i = some x) {b : Bd} (h : b ∈ GU k i x) : RF L k b ∧ (i : Int) ≤ toE b ∧ b.next = (i : Int) + 1 := by
 have AJ := CS hx
 unfold GU at h
 rcases List.mem_append.1 h with h | h
 ·cases hc : !x.Cz && decide (x.val ≤ k) with
  | false => rw [hc] at h; exact (List.not_mem_nil h).elim
  | true =>
   rw [hc] at h
   obtain rfl := List.mem_singleton.1 h
   rw [Bool.and_eq_true] at hc
   refine ⟨⟨.inr ⟨by show (0 : Int) ≤ (i : Int); omega, by show (i : Int) < (i : Int) + 1; omega, x, by rw [Int.toNat_natCast]; exact hx, by simpa using hc.1, oTr hc.2⟩, by show (0 : Int) ≤ (i : Int) + 1; omega, by show (i : Int) + 1 ≤ _; omega⟩, ?_, rfl⟩
   unfold toE
   rw [if_pos (by show (0 : Int) ≤ (i : Int); omega)]
   exact Int.le_refl _
 cases hc : decide (0 < x.cut) && decide (x.cut ≤ k) with
 | false => rw [hc] at h; exact (List.not_mem_nil h).elim
 | true =>
  rw [hc] at h
  obtain rfl := List.mem_singleton.1 h
  refine ⟨⟨.inl rfl, by show (0 : Int) ≤ (i : Int) + 1; omega, by show (i : Int) + 1 ≤ _; omega⟩, ?_, rfl⟩
  show (i : Int) ≤ (i : Int) + 1
  omega
theorem rZ {k : Int} {i : Nat} {x : It} : (GU k i x).Pairwise fun c b => c.next ≤ toE b := by
 unfold GU
 refine List.pairwise_append.2 ⟨?_, ?_, fun c hc b hb => ?_⟩
 ·cases !x.Cz && decide (x.val ≤ k)
  ·exact .nil
  exact List.pairwise_singleton ..
 ·cases decide (0 < x.cut) && decide (x.cut ≤ k)
  ·exact .nil
  exact List.pairwise_singleton ..
 cases h1 : !x.Cz && decide (x.val ≤ k) with
 | false => rw [h1] at hc; exact (List.not_mem_nil hc).elim
 | true =>
  cases h2 : decide (0 < x.cut) && decide (x.cut ≤ k) with
  | false => rw [h2] at hb; exact (List.not_mem_nil hb).elim
  | true =>
   rw [h1] at hc; rw [h2] at hb
   rw [List.mem_singleton.1 hc, List.mem_singleton.1 hb]
   exact Int.le_refl _
theorem fC (L : List It) (k : Int) : ∀ (n i : Nat), i + n = L.length → (∀ b, b ∈ Gw k i (L.drop i) → RF L k b ∧ (i : Int) ≤ toE b) ∧ (Gw k i (L.drop i)).Pairwise fun c b => c.next ≤ toE b
 | 0, i, h => by
  rw [List.drop_eq_nil_of_le Q1]
  exact ⟨fun _ h => (List.not_mem_nil h).elim, .nil⟩
 | n + 1, i, h => by
  obtain ⟨x, hx⟩ := Ac (l := L) (i := i) Q1
  obtain ⟨h1, h2⟩ := fC L k n (i + 1) Q1
  rw [D4 hx]
  refine ⟨fun b hb => ?_, List.pairwise_append.2 ⟨rZ, h2, fun c hc b hb => ?_⟩⟩
  ·rcases List.mem_append.1 (show b ∈ GU k i x ++ Gw k (i + 1) (L.drop (i + 1)) from hb) with hb | hb
   ·exact ⟨(XZ hx hb).1, (XZ hx hb).2.1⟩
   exact ⟨(h1 b hb).1, by have := (h1 b hb).2; omega⟩
  have := (XZ hx hc).2.2
  have := (h1 b hb).2
  omega
theorem fM (L : List It) (k : Int) : (∀ b, b ∈ Hw k L → RF L k b) ∧ (Hw k L).Pairwise fun c b => c.next ≤ toE b := by
 obtain ⟨h1, h2⟩ := fC L k L.length 0 Q1
 rw [List.drop_zero] at h1 h2
 have h3 : ∀ b, b ∈ (⟨-1, 0, false⟩ :: Gw k 0 L : List Bd) → RF L k b := fun b hb => by
  rcases List.mem_cons.1 hb with rfl | hb
  ·exact ⟨.inl rfl, by show (0 : Int) ≤ 0; omega, by show (0 : Int) ≤ _; omega⟩
  exact (h1 b hb).1
 refine ⟨fun b hb => ?_, List.pairwise_append.2 ⟨List.pairwise_cons.2 ⟨fun b hb => ?_, h2⟩, List.pairwise_singleton .., fun c hc b hb => ?_⟩⟩
 ·rcases List.mem_append.1 hb with hb | hb
  ·exact h3 b hb
  rw [List.mem_singleton.1 hb]
  exact ⟨.inl rfl, by show (0 : Int) ≤ (L.length : Int); omega, Int.le_refl _⟩
 ·exact (h1 b hb).2
 rw [List.mem_singleton.1 hb]
 exact (h3 c hc).nx.2
theorem ni {L : List It} {P : Bd → Prop} : ∀ (bs : List Bd), (∀ b, b ∈ bs → P b) → (bs.Pairwise fun c b => c.next ≤ toE b) → ∀ s, s ∈ CX L bs → ∃ c b, s = Jj L c b ∧ P c ∧ P b ∧ c.next ≤ toE b
 | [], _, _, s, h => (List.not_mem_nil h).elim
 | [_], _, _, s, h => (List.not_mem_nil h).elim
 | c :: b :: r, hP, hw, s, h => by
  rcases List.mem_cons.1 (show s ∈ Jj L c b :: CX L (b :: r) from h) with rfl | h
  ·exact ⟨c, b, rfl, hP c aQ, hP b (cy aQ), (List.pairwise_cons.1 hw).1 b aQ⟩
  exact ni (b :: r) (fun d hd => hP d (cy hd)) (List.pairwise_cons.1 hw).2 s h
theorem VP {L : List It} {k : Int} {b : Bd} (h : RF L k b) : D5 L b = -1 ∨ (D5 L b = b.item ∧ 0 ≤ b.item ∧ b.item < b.next ∧ ∃ x, nth L b.item.toNat = some x ∧ x.fix = false ∧ x.Cz = false ∧ x.val ≤ k) := by
 unfold D5
 by_cases h0 : b.item < 0
 ·exact .inl (if_pos h0)
 rw [if_neg h0]
 rcases h.it with h1 | ⟨h1, h2, x, hx, h3, h4⟩
 ·omega
 cases hf : U1 L b.item with
 | true => exact .inl (if_pos rfl)
 | false =>
  refine .inr ⟨if_neg (by decide), h1, h2, x, hx, ?_, h3, h4⟩
  unfold U1 at hf
  rw [hx] at hf
  exact hf
theorem nX {L : List It} {k : Int} {s : Se} (h : s ∈ CX L (Hw k L)) : Ib L k s := by
 obtain ⟨c, b, rfl, hc, hb, hw⟩ := ni _ (fM L k).1 (fM L k).2 s h
 have e0 : 0 ≤ toE b ∧ toE b ≤ b.next ∧ (0 ≤ b.item → toE b = b.item) := by
  unfold toE
  have := hb.nx
  rcases hb.it with h1 | ⟨h1, h2, _⟩
  ·rw [if_neg Q1]; exact ⟨Q1, Q1, fun h => by omega⟩
  rw [if_pos h1]; exact ⟨Q1, Q1, fun _ => rfl⟩
 have h1 := hc.nx
 have h2 := hb.nx
 have Cd : -1 ≤ D5 L c ∧ D5 L c < L.length := by
  rcases VP hc with e | ⟨e, h3, h4, _⟩ <;> rw [e] <;> omega
 have jF : -1 ≤ D5 L b ∧ D5 L b < L.length := by
  rcases VP hb with e | ⟨e, h3, h4, _⟩ <;> rw [e] <;> omega
 refine ⟨⟨by show c.next.toNat ≤ (toE b).toNat; omega, by show (toE b).toNat ≤ _; omega, Cd, jF⟩, fun h => ?_, fun h => ?_⟩
 ·rcases VP hc with e | ⟨e, h3, h4, x, hx⟩
  ·have : (0 : Int) ≤ D5 L c := h
   omega
  refine ⟨by show D5 L c < (c.next.toNat : Int); omega, x, ?_⟩
  show nth L (D5 L c).toNat = some x ∧ _
  rw [e]; exact hx
 rcases VP hb with e | ⟨e, h3, h4, x, hx⟩
 ·have : (0 : Int) ≤ D5 L b := h
  omega
 refine ⟨by show ((toE b).toNat : Int) ≤ D5 L b; have := e0.2.2 h3; omega, x, ?_⟩
 show nth L (D5 L b).toNat = some x ∧ _
 rw [e]; exact hx
def Lo (L : List It) (u : Nat) (s : Se) : Option Ti := if GJ (·.BI) L s.lt + GJ (·.AE) L s.rt ≤ (Ah (By L s)).sum then some (red ((Ah (By L s)).sum - (GJ (·.BI) L s.lt + GJ (·.AE) L s.rt)) u) else none
def GO (L : List It) (u : Nat) : List Se → Option (List Se)
 | [] => some []
 | s :: r => match Lo L u s with
  | none => none
  | some c => bif !s.free && !decide (c.d = 1) then none else (GO L u r).map ({ s with cn := c } :: ·)
def Dr (k : Int) (u : Nat) (L : List It) : Option (List Se) := GO L u (CX L (Hw k L))
theorem s4 {L : List It} {u : Nat} {s : Se} {c : Ti} (h : Lo L u s = some c) : Mv L u s = AN [c.v, .int .i64 0] := by
 unfold Lo at h; unfold Mv
 split at h
 ·rename_i h1; cases h; rw [if_pos h1]
 cases h
theorem sy {L : List It} {u : Nat} {s : Se} (h : Lo L u s = none) : Mv L u s = AN [tz.v, .int .i64 14] := by
 unfold Lo at h; unfold Mv
 split at h
 ·cases h
 rename_i h1; rw [if_neg h1]
theorem fK (k : Int) : ∀ (r : List It) (i : Nat), (Gw k i r).length ≤ 2 * r.length
 | [], _ => Nat.zero_le _
 | x :: r, i => by
  have h1 := fK k r (i + 1)
  have h2 := rY k i x
  show (GU k i x ++ Gw k (i + 1) r).length ≤ _
  rw [ay, List.length_cons]
  omega
theorem nY (k : Int) (L : List It) : (CX L (Hw k L)).length ≤ 2 * L.length + 2 := by
 refine Nat.le_trans (cA L _) ?_
 have := fK k L 0
 unfold Hw
 rw [ay, List.length_cons]
 show _ + 1 + 1 ≤ _
 omega
theorem OW.ne {a : Option Addr} {e : TypeId} {z m : Nat} {c : List Value} {fr : List (Nat × AD)} (h : OW (.slice a m m) e z c m fr) (hm : 0 < m) : ∃ b, a = some ⟨b, 0, none⟩ := by
 rcases h with ⟨h, _⟩ | ⟨b, dd, h, _⟩
 ·cases h; omega
 cases h; exact ⟨b, rfl⟩
theorem Qz {α : Type} (y x : α) (r : List α) : ∀ Q : List α, (Q ++ x :: r).set Q.length y = Q ++ y :: r
 | [] => rfl
 | a :: Q => congrArg (a :: ·) (Qz y x r Q)
theorem nz (a : Option Addr) (cap : Nat) (L : List It) (p q r t : Int) (k : Int) (u : Nat) (hu : u = Bc [p, q, r, t] (k.toNat + 1)) (hm : Ap p q r t = 0) (hk : k ∈ BK [p, q, r, t] 4) (hF : Ad S) (hn : L.length ≤ 27) (Db : 0 < u ∧ u ≤ 1000) (A3 : ∀ x, x ∈ L → Jw x) (Sp : (Ah L).sum ≤ 50000) (hv : E4 S (.slice a L.length cap) L) : CC Tryz.prog KK 126 [mV [p, q, r, t], .int .i64 k, .slice a L.length cap] S (fun v S' => match Dr k u L with
  | none => AG S S' ∧ v = AN [.slice none 0 0, .int .i64 14]
  | some N => ∃ av fr, v = AN [.slice av N.length N.length, .int .i64 0] ∧ HE av N fr ∧ AB S [S] S' fr []) := by
 refine ce 75 Tryz.func126 fun hl => ?_; refine zg ?_; refine bL hl fun B3 S3 hl => ?_; refine zg ?_
 refine zc hl rfl (kg hm hk) ?_; rintro v S4 Al rfl hl
 rw [← hu]
 refine zg ?_; refine aL hl [.int .i64 0, .int .i64 0] fun B8 S8 hl => ?_; refine sL hl 0 ((tw u).cells) fun S9 hl => ?_; refine zg ?_
 refine zc hl rfl (ACx a cap L hn A3 (hv.move (hl.since 0 rfl))) ?_; rintro v Co Ar rfl hl
 refine zg ?_; refine rr rfl (Ak rfl rfl (v := AM [.slice a L.length cap]) (by rfl)) ?_; refine aL hl [.slice none 0 0] fun DA Ep hl => ?_; refine sL hl 0 [.slice a L.length cap] fun EC hl => ?_; refine zg ?_
 refine Ct rfl rfl rfl rfl rfl rfl rfl (Bp (ACy a cap L k (hl.AA.3 hF) hn (hv.move (hl.since 0 rfl))) ?_); rintro v E6 ⟨av, fr, rfl, hO, hb⟩
 have hl := hl.join hb
 obtain ⟨N, hN⟩ : ∃ N, N = CX L (Hw k L) := ⟨_, rfl⟩
 have hE : Dr k u L = GO L u N := by rw [hN]; rfl
 have uv : N.length ≤ 60 := by have := nY k L; rw [← hN] at this; omega
 have hH : ∀ s, s ∈ N → Ib L k s := fun s hs => nX (by rw [← hN]; exact hs)
 rw [← hN] at hO ⊢
 rw [hE]
 have hl : AB S [S] E6 ([(DA, .cells [.slice a L.length cap] 231 false true []), (B8, .cells (tw u).cells 88 false true []), (B3, .cells (AP (mV [p, q, r, t])) 28 false true [])] ++ (fr ++ [])) [] := by rw [List.append_nil]; exact hl
 refine zA ?_; refine AV rfl ?_; refine zS ?_; refine BF rfl ?_; refine AK (L' := [(41, .int .i64 (0 : Int)), (40, .int .i64 N.length), (13, .slice av N.length N.length), (12, ptrTo DA 0), (8, ptrTo B8 0), (7, .int .i64 0), (6, .slice none 0 0)]) sE ?_
 refine Au rfl (fun m Le S' => ∃ (i : Nat) (Q : List Se) (fr : List (Nat × AD)), i ≤ N.length ∧ m = N.length - i ∧ Q.length = i ∧ GO L u N = (GO L u (N.drop i)).map (Q ++ ·) ∧ HE av (Q ++ N.drop i) fr ∧ Af [(41, .int .i64 (i : Int)), (40, .int .i64 N.length), (13, .slice av N.length N.length), (12, ptrTo DA 0), (8, ptrTo B8 0), (7, .int .i64 0), (6, .slice none 0 0)] Le ∧ AB S [S] S' ([(DA, .cells [.slice a L.length cap] 231 false true []), (B8, .cells (tw u).cells 88 false true []), (B3, .cells (AP (mV [p, q, r, t])) 28 false true [])] ++ (fr ++ [])) []) ?_ (m := N.length) ⟨0, [], fr, Q1, Q1, rfl, by rw [List.drop_zero]; cases GO L u N <;> rfl, hO, sE, hl⟩
 clear hl hO hb; rintro m Le IZ ⟨i, Q, fr, hi, rfl, hQ, A8, hO, AL, hl⟩; refine AK AL ?_
 have hlen : (Q ++ N.drop i).length = N.length := by rw [ay, List.length_drop]; omega
 have Oa := hO
 unfold HE at hO
 rw [hlen] at hO
 refine zg ?_
 constructor <;> intro Px
 ·
  have AJ : i < N.length := dT Px
  obtain ⟨s, hs⟩ := Ac AJ
  have MH := hH s (Am hs)
  have hD : nth (Q ++ N.drop i) i = some s := by rw [D4 hs, ← hQ]; exact Qd Q
  have BY : AZ 248 7 Se.cells IZ (.slice av N.length N.length) (Q ++ N.drop i) := by
   have := OW.ls (f := Se.cells) (fun _ => rfl) Oa hl
   rwa [hlen] at this
  obtain ⟨b1, o1, Ai, ha, _, AY, Ab⟩ := BY.elem hD
  rw [D4 hs] at A8
  have A8 : GO L u N = (match Lo L u s with
   | none => none
   | some c => bif !s.free && !decide (c.d = 1) then none else (GO L u (N.drop (i + 1))).map ({ s with cn := c } :: ·)).map (Q ++ ·) := A8
  refine zg ?_; refine A4 (idx := [0, 1, 2, 3, 4, 5, 10, 6, 7, 8, 9, 11, 12]) rfl aP aP ?_; refine zg ?_; refine IM hF hl rfl rfl rfl rfl rfl (z := [.int .i64 0, .int .i64 0]) aP ?_; intro Mj OA hl
  refine zp hl rfl (ACz a cap L s u (hl.AA.3 hF) hn MH.ok Db A3 Sp (hv.move (hl.since 0 rfl))) ?_; rintro v Ia Bt rfl hl; refine ⟨zt, ?_⟩
  cases hc : Lo L u s with
  | none =>
   rw [sy hc]
   rw [hc] at A8
   have A8 : GO L u N = none := A8
   rw [A8]
   refine zg ?_
   refine pL hl 0 tz.cells (h := fun Hs hl => ⟨zt, ?_⟩)
   refine zg ?_
   refine Cw (CG (Cw (GK (CG ((z2 rfl rfl ⟨hl.AA, rfl⟩))))))
  | some c =>
   rw [s4 hc]
   rw [hc] at A8
   have A8 : GO L u N = (bif !s.free && !decide (c.d = 1) then none else (GO L u (N.drop (i + 1))).map ({ s with cn := c } :: ·)).map (Q ++ ·) := A8
   refine zg ?_
   refine pL hl 0 c.cells (h := fun Hs hl => ⟨zt, ?_⟩)
   refine zA ?_
   clear AY Ab ha
   have Na : AZ 248 7 Se.cells Hs (.slice av N.length N.length) (Q ++ N.drop i) := by
    have := OW.ls (f := Se.cells) (q := [_, _, _, _]) (fun _ => rfl) Oa hl
    rwa [hlen] at this
   obtain ⟨b1, o1, Ai, ha, _, AY, Ab⟩ := Na.elem hD
   refine AV rfl ?_; refine zS ?_; refine da rfl rfl ?_; refine Fl rfl ?_; refine AV rfl ?_; refine AV rfl (Bz hl 67 (.bool (!s.free && !decide (c.d = 1))) ?_ rfl ?_)
   ·
    refine zg ?_; refine rr rfl (BC rfl rfl rfl) ?_; refine zg ?_; refine BH (d := 63) rfl (fun Lx => ?_) (fun Lx => ?_)
    ·
     refine zg ?_
     exact ⟨rfl, bl (by rw [Lx]; rfl), sB, hl⟩
    refine zg ?_
    exact ⟨rfl, bl (by rw [Lx]; rfl), sB, hl⟩
   intro Lc hl
   refine zg ?_
   constructor <;> intro P3
   ·
    rw [P3] at A8
    have A8 : GO L u N = none := A8
    rw [A8]
    refine zg ?_
    refine Cw (CG (Cw (GK (CG ((z2 rfl rfl ⟨hl.AA, rfl⟩))))))
   rw [P3] at A8
   have A8 : GO L u N = ((GO L u (N.drop (i + 1))).map ({ s with cn := c } :: ·)).map (Q ++ ·) := A8
   have hl : AB S [S] Lc ([(Mj, .cells c.cells 88 false true []), (DA, .cells [.slice a L.length cap] 231 false true []), (B8, .cells (tw u).cells 88 false true []), (B3, .cells (AP (mV [p, q, r, t])) 28 false true [])] ++ (fr ++ [])) [] := hl
   obtain ⟨bv, rfl⟩ := hO.ne Q1
   cases ha
   obtain ⟨bx, Ld, BA, e1, DO, Aw, Bu⟩ := Q9 (P := Tryz.prog) (k := 0 + ((i : Nat) : Int).toNat * 7 + 5) (t := 88) (u := c.v) hl hO Q1 rfl aP (by rw [Nat.zero_add]; exact Tu (f := Se.cells) (z := 7) (fun _ => rfl) (x := s) (y := { s with cn := c }) (j := 5) rfl _ i hD) ((Da (f := Se.cells) (z := 7) (fun _ => rfl) _).trans ((congrArg (· * 7) List.length_set).trans (Da (f := Se.cells) (z := 7) (fun _ => rfl) _).symm))
   cases e1
   refine zg ?_; refine bJ rfl rfl rfl rfl rfl rfl DO ?_; refine zg ?_
   have GF : (Q ++ N.drop i).set i { s with cn := c } = (Q ++ [{ s with cn := c }]) ++ N.drop (i + 1) := by
    rw [D4 hs, List.append_assoc]
    have := Qz { s with cn := c } s (N.drop (i + 1)) Q
    rw [hQ] at this
    exact this
   rw [GF] at Aw
   refine ⟨N.length - (i + 1), Q1, i + 1, Q ++ [{ s with cn := c }], BA, Q1, rfl, by rw [ay, hQ]; rfl, ?_, ?_, sE, Bu.tail⟩
   ·rw [A8, Option.map_map]
    congr 1
    funext x
    exact (List.append_assoc Q [_] x).symm
   unfold HE
   have e3 : (Q ++ [({ s with cn := c } : Se)] ++ N.drop (i + 1)).length = N.length := by
    rw [ay, ay, List.length_drop, hQ]
    show i + 1 + _ = _
    omega
   rw [e3]
   exact Aw
 have C8 : i = N.length := dF Px
 rw [List.drop_eq_nil_of_le Q1] at A8 Oa
 have A8 : GO L u N = some (Q ++ []) := A8
 rw [List.append_nil] at A8 Oa
 have e : Q.length = N.length := by omega
 rw [A8]
 refine zg ?_
 rw [← e]
 refine y2 rfl rfl ⟨av, fr, rfl, Oa, ?_⟩
 have := hl.tail.tail.tail
 rw [← List.append_nil fr]
 exact this
end Go.Proofs.YtnhalpkekpehpaaGreatDoor
