/- The library's stable sort of a short row, with a comparison that may lay blocks. -/
import Derived.Shelf.GgSortMore.Stable
import Derived.Below
namespace Go.Proofs.YtdnnffbbhijmkaaGreat
open Go.Shelf Go.RowKit Go.Lib Go.Sort Go.Proofs
set_option linter.unusedVariables false
set_option linter.unusedSimpArgs false
variable {P : Program} {ρ : Ren} {α : Type} [Inhabited α]

/-- W comes of w: the row rewritten with dk, new blocks behind. -/
structure SRel (enc : α → Value) (w : World) (blk off : Nat) (dk : Array α) (W : World) : Prop where
  os : W.os = w.os
  tape : W.tape = w.tape
  output : W.output = w.output
  size : w.heap.size ≤ W.heap.size
  at_ : ∀ b, b < w.heap.size → W.heap[b]? = (putRow enc w blk off dk).heap[b]?
section
variable {enc : α → Value} {w W W' : World} {blk off : Nat} {d dk : Array α}
theorem SRel.below (h : SRel enc w blk off dk W) (hb : Below W.heap.size W W') : SRel enc w blk off dk W' :=
  ⟨hb.os.trans h.os, hb.tape.trans h.tape, hb.output.trans h.output, Nat.le_trans h.size hb.size, fun b hl => (hb.block b (Nat.lt_of_lt_of_le hl h.size)).trans (h.at_ b hl)⟩
theorem SRel.start (hH : Holds enc w blk off d) : SRel enc w blk off d w := ⟨rfl, rfl, rfl, Nat.le_refl _, fun b _ => by rw [putRow_self enc w blk off d hH]⟩
theorem SRel.holds (h : SRel enc w blk off dk W) (hblk : blk < w.heap.size) (hH : Holds enc w blk off d) (hs : dk.size = d.size) : Holds enc W blk off dk := fun j hj => by
  have h1 := holds_putRow enc w blk off d dk hH hs j hj
  exact ⟨(World.cell?_of_block (w := putRow enc w blk off dk) (w' := W) (a := ⟨blk, off + j, none⟩) (h.at_ blk hblk)).trans h1.1, (World.frozen?_of_block (w := putRow enc w blk off dk) (w' := W) (a := ⟨blk, off + j, none⟩) (h.at_ blk hblk)).trans h1.2⟩
theorem putRow_other {b : Nat} (hb : b ≠ blk) : (putRow enc w blk off dk).heap[b]? = w.heap[b]? := by
  simp only [putRow, mapBlock, Array.getElem?_modify]
  rw [if_neg (fun e => hb e.symm)]
theorem SRel.cell (h : SRel enc w blk off dk W) {b k : Nat} (hb : b < w.heap.size) (hne : b ≠ blk) : W.cell? ⟨b, k, none⟩ = w.cell? ⟨b, k, none⟩ :=
  World.cell?_of_block (w := w) (w' := W) (a := ⟨b, k, none⟩) ((h.at_ b hb).trans (putRow_other hne))
theorem setCell_at (W : World) (a : Addr) (u : Value) (b : Nat) : ∃ f : Obj → Obj, ∀ X : World, (X.setCell a u).heap[b]? = if a.block = b then (X.heap[b]?).map f else X.heap[b]? := by
  exact ⟨_, fun X => by simp only [World.setCell, Array.getElem?_modify]; rfl⟩
theorem SRel.swap (h : SRel enc w blk off dk W) (hblk : blk < w.heap.size) {i j : Nat} (hi : i < dk.size) (hj : j < dk.size) :
    SRel enc w blk off (swp dk i j) ((W.setCell ⟨blk, off + i, none⟩ (enc dk[j]!)).setCell ⟨blk, off + j, none⟩ (enc dk[i]!)) := by
  refine ⟨h.os, h.tape, h.output, by simp only [World.setCell, Array.size_modify]; exact h.size, fun b hb => ?_⟩
  rw [← putRow_swp enc w blk off dk i j hi hj]
  obtain ⟨f, hf⟩ := setCell_at W ⟨blk, off + j, none⟩ (enc dk[i]!) b
  obtain ⟨g, hg⟩ := setCell_at W ⟨blk, off + i, none⟩ (enc dk[j]!) b
  rw [hf, hf, hg, hg, h.at_ b hb]
/-- The base world without its last block. -/
theorem SRel.base {o : Obj} (hblk : blk < w.heap.size) (h : SRel enc (w.alloc o) blk off dk W) : SRel enc w blk off dk W := by
  refine ⟨h.os, h.tape, h.output, Nat.le_trans (by simp) h.size, fun b hb => ?_⟩
  rw [h.at_ b (by rw [World.size_alloc]; omega)]
  simp only [putRow, mapBlock, Array.getElem?_modify]
  rw [Below.heap_alloc w o b hb]
end
/-- What is asked of 'less': it changes nothing that is there; it may lay blocks. -/
def LessB (P : Program) (g : Nat) (lb : Array Value) (enc : α → Value) (lt : α → α → Bool) (p : α → Prop) (blk off size : Nat) (w : World) : Prop :=
  ∀ (W : World) (dk : Array α), dk.size = size → (∀ i, i < size → p dk[i]!) → SRel enc w blk off dk W → ∀ i j : Nat, i < size → j < size →
    Calls P g (#[.int .i64 i, .int .i64 j] ++ lb) W fun e w' => e = .returned (.bool (lt dk[i]! dk[j]!)) ∧ Below W.heap.size W w'
theorem LessB.alloc {g : Nat} {lb : Array Value} {enc : α → Value} {lt : α → α → Bool} {p : α → Prop} {blk off size : Nat} {w : World} {o : Obj} (hblk : blk < w.heap.size) (h : LessB P g lb enc lt p blk off size w) : LessB P g lb enc lt p blk off size (w.alloc o) :=
  fun W dk hs hp hW i j hi hj => h W dk hs hp (hW.base hblk) i j hi hj
theorem swp_all {p : α → Prop} {d : Array α} {i j : Nat} (hi : i < d.size) (hj : j < d.size) (h : ∀ k, k < d.size → p d[k]!) : ∀ k, k < d.size → p (swp d i j)[k]! := fun k hk => by
  unfold swp
  by_cases h1 : k = j
  · subst h1
    rw [getElem!_set_same _ _ _ (by simpa using hj)]; exact h i hi
  · rw [getElem!_set_other _ _ _ _ h1]
    by_cases h2 : k = i
    · subst h2
      rw [getElem!_set_same _ _ _ hi]; exact h j hj
    · rw [getElem!_set_other _ _ _ _ h2]; exact h k hk

set_option maxHeartbeats 2000000 in
set_option maxRecDepth 100000 in
theorem insertionSort_func_b (L : LaysGg.n26 P ρ) (enc : α → Value) (lt : α → α → Bool) (p : α → Prop) (g : Nat) (lb : Array Value) (sf : Nat) (sb : Array Value) (blk off a b : Nat) (d : Array α) (w : World)
    (eg : ∀ args w, (callFunc g args).run P w = .ok (.enter g args) w) (hless : LessB P g lb enc lt p blk off d.size w) (hswap : SwapSwaps P sf sb enc blk off d.size)
    (hp : ∀ i, i < d.size → p d[i]!)
    (hH : Holds enc w blk off d) (hblk : blk < w.heap.size) (hab : a ≤ b) (hb : b ≤ d.size) (hsz : d.size < 4611686018427387904) :
    Calls P (ρ.f 26) #[.agg #[.func (.func g) #[] lb, .func (.func sf) #[] sb], .int .i64 a, .int .i64 b] w fun e w' =>
      e = .returned (.tuple #[]) ∧ SRel enc w blk off (Sort.insertionSort lt d a b) w' := by
  have mixed := L.mixed; have t0 := L.t0; have a0 := L.a0; have z0 := L.z0; have v0 := L.v0; have t3 := L.t3; have a3 := L.a3; have z3 := L.z3; have v3 := L.v3; have t4 := L.t4; have a4 := L.a4; have z4 := L.z4; have v4 := L.v4; have t26 := L.t26; have a26 := L.a26; have z26 := L.z26; have v26 := L.v26; have t37 := L.t37; have a37 := L.a37; have z37 := L.z37; have v37 := L.v37; have t44 := L.t44; have a44 := L.a44; have z44 := L.z44; have v44 := L.v44
  have u44 := run_underlying L.t44
  have hH1 : Holds enc (w.alloc (.cells #[.func (.func g) #[] lb, .func (.func sf) #[] sb] (ρ.t 44))) blk off d := by rw [alloc_eq_grow]; exact holds_grow enc w _ blk off d hblk hH
  have hless1 := hless.alloc (o := .cells #[.func (.func g) #[] lb, .func (.func sf) #[] sb] (ρ.t 44)) hblk
  have hblk1 : blk < (w.alloc (.cells #[.func (.func g) #[] lb, .func (.func sf) #[] sb] (ρ.t 44))).heap.size := by rw [World.size_alloc]; omega
  have hst := SRel.start hH1
  have fin : ∀ D W, SRel enc (w.alloc (.cells #[.func (.func g) #[] lb, .func (.func sf) #[] sb] (ρ.t 44))) blk off D W → SRel enc w blk off D W := fun D W h => h.base hblk
  have cc : ∀ k v, ((w.alloc (.cells #[.func (.func g) #[] lb, .func (.func sf) #[] sb] (ρ.t 44)))).cell? ⟨w.heap.size, k, none⟩ = some v → ∀ D W, SRel enc (w.alloc (.cells #[.func (.func g) #[] lb, .func (.func sf) #[] sb] (ρ.t 44))) blk off D W → W.cell? ⟨w.heap.size, k, none⟩ = some v := fun k v h D W hW => by
    rw [hW.cell (by rw [World.size_alloc]; omega) (by omega)]; exact h
  have cc0 := cc 0 (.func (.func g) #[] lb) (by simp)
  have cc1 := cc 1 (.func (.func sf) #[] sb) (by simp)
  clear cc
  obtain ⟨w1, hw1⟩ : ∃ w1, w1 = (w.alloc (.cells #[.func (.func g) #[] lb, .func (.func sf) #[] sb] (ρ.t 44))) := ⟨_, rfl⟩
  rw [← hw1] at hH1 hless1 hblk1 hst fin cc0 cc1
  go_enter L.f26, BodyGg.n26_ntmps ρ
  go_wp2
  rw [← hw1]
  go_loopw [6] (fun vi wr => ∃ (i : Nat) (dk : Array α), vi = .int .i64 i ∧ a < i ∧ i ≤ b + 1 ∧ dk.size = d.size ∧ (∀ k, k < d.size → p dk[k]!) ∧ SRel enc w1 blk off dk wr ∧
      insOuter lt a b i dk = insOuter lt a b (a + 1) d) (fun vi _ => b + 1 - (intOf vi).toNat)
  case atStart => exact ⟨a + 1, d, by go_num, by omega, by omega, rfl, hp, hst, rfl⟩
  case round =>
    obtain ⟨i, dk, rfl, hai, hib, hsk, hpk, hwr, hO⟩ := hrel
    have HO : Hid (insOuter lt a b i dk = insOuter lt a b (a + 1) d) := hO
    have HP : Hid (∀ k, k < d.size → p dk[k]!) := hpk
    have HWR : Hid (SRel enc w1 blk off dk wr) := hwr
    have HPP : Hid (∀ i, i < d.size → p d[i]!) := hp
    have HL : Hid (LessB P g lb enc lt p blk off d.size w1) := hless1
    have HLL : Hid (LessB P g lb enc lt p blk off d.size w) := hless
    have HC0 : Hid (∀ D W, SRel enc w1 blk off D W → W.cell? ⟨w.heap.size, 0, none⟩ = some (.func (.func g) #[] lb)) := cc0
    have HC1 : Hid (∀ D W, SRel enc w1 blk off D W → W.cell? ⟨w.heap.size, 1, none⟩ = some (.func (.func sf) #[] sb)) := cc1
    have HF : Hid (∀ D W, SRel enc w1 blk off D W → SRel enc w blk off D W) := fin
    clear hO hpk hwr hp hless1 hless cc0 cc1 fin
    have c0w := HC0.out _ _ HWR.out
    have c1w := HC1.out _ _ HWR.out
    go_wp2
    · -- i < b: the inner loop
      go_loopw [7] (fun vj wr2 => ∃ (j : Nat) (dj : Array α), vj = .int .i64 j ∧ a ≤ j ∧ j ≤ i ∧ dj.size = d.size ∧ (∀ k, k < d.size → p dj[k]!) ∧ SRel enc w1 blk off dj wr2 ∧
          insInner lt a j dj = insInner lt a i dk) (fun vj _ => (intOf vj).toNat)
      case atStart => exact ⟨i, dk, rfl, by omega, Nat.le_refl _, hsk, HP.out, HWR.out, rfl⟩
      case round =>
        clear c0w c1w
        obtain ⟨j, dj, rfl, haj, hji, hsj, hpj, hw2, hI⟩ := hrel
        have hlt : i < b := by assumption
        have hHw := hw2.holds hblk1 hH1 hsj
        have c0 := HC0.out _ _ hw2
        have c1 := HC1.out _ _ hw2
        have HW : Hid (SRel enc w1 blk off dj wr) := hw2
        have HI : Hid (insInner lt a j dj = insInner lt a i dk) := hI
        have HPJ : Hid (∀ k, k < d.size → p dj[k]!) := hpj
        clear hw2 hI hpj
        have out : (j ≤ a ∨ lt dj[j]! dj[j - 1]! = false) → ∀ W, SRel enc w1 blk off dj W → ∃ i' dk', Value.int .i64 ((i : Int) + 1) = .int .i64 (i' : Nat) ∧ a < i' ∧ i' ≤ b + 1 ∧ dk'.size = d.size ∧ (∀ k, k < d.size → p dk'[k]!) ∧
            SRel enc w1 blk off dk' W ∧ insOuter lt a b i' dk' = insOuter lt a b (a + 1) d := fun hs W hW =>
          ⟨i + 1, dj, by go_num, by omega, by omega, hsj, HPJ.out, hW,
            by rw [← HO.out, insOuter_go _ _ _ _ _ hlt, ← HI.out, insInner_stop _ _ _ _ hs]⟩
        have OUT : Hid _ := out
        clear out
        by_cases hja : a < j
        · have hl := HL.out wr dj hsj HPJ.out HW.out j (j - 1) (by omega) (by omega)
          rw [show (((j - 1 : Nat) : Int)) = (j : Int) - 1 by omega] at hl
          cases hlv : lt dj[j]! dj[j - 1]! with
          | true =>
            rw [hlv] at hl
            go_wp2_with (go_at_fn g; refine hl.mono ?_; rintro e w' ⟨rfl, hbw⟩; have hW2 := HW.out.below hbw; have c0' := HC0.out _ _ hW2; have c1' := HC1.out _ _ hW2; have HW2 : Hid (SRel enc w1 blk off dj w') := hW2; have hHw2 := hW2.holds hblk1 hH1 hsj; clear hbw hW2)
            have hs := hswap w' dj hHw2 hsj j (j - 1) (by omega) (by omega)
            rw [show (((j - 1 : Nat) : Int)) = (j : Int) - 1 by omega] at hs
            rw [hs, Oper.upon_value]
            go_wp2
            go_roundw
            case rel =>
              (repeat apply Exists.intro)
              refine ⟨⟨j - 1, swp dj j (j - 1), by congr 1 <;> omega, by omega, by omega, by rw [size_swp]; exact hsj, ?_, ?_, ?_⟩, by rw [decide_eq_true hlt, show ((j - 1 : Nat) : Int) = (j : Int) - 1 by omega]⟩
              · have := swp_all (i := j) (j := j - 1) (d := dj) (by omega) (by omega) (by rw [hsj]; exact HPJ.out)
                rw [hsj] at this; exact this
              · exact HW2.out.swap hblk1 (by omega) (by omega)
              · rw [← HI.out, insInner_go lt a j dj hja hlv]
            case measure => simp [intOf]; omega
          | false =>
            rw [hlv] at hl
            go_wp2_with (go_at_fn g; refine hl.mono ?_; rintro e w' ⟨rfl, hbw⟩)
            go_roundw
            case rel => exact OUT.out (Or.inr hlv) _ (HW.out.below hbw)
            case measure => simp [intOf]; omega
        · go_wp2
          go_roundw
          case rel => exact OUT.out (Or.inl (by omega)) _ HW.out
          case measure => simp [intOf]; omega
    · -- the outer loop is at its end
      have hge : ¬ i < b := by assumption
      go_end0
      exact ⟨rfl, by unfold Sort.insertionSort; rw [← HO.out, insOuter_stop _ _ _ _ _ hge]; exact HF.out _ _ HWR.out⟩

set_option maxHeartbeats 1600000 in
set_option maxRecDepth 100000 in
theorem stable_func_b (L : LaysGt.n15 P ρ) (enc : α → Value) (lt : α → α → Bool) (p : α → Prop) (g : Nat) (lb : Array Value) (sf : Nat) (sb : Array Value) (blk off : Nat) (d : Array α) (W : World)
    (eg : ∀ args w, (callFunc g args).run P w = .ok (.enter g args) w) (hless : LessB P g lb enc lt p blk off d.size W) (hswap : SwapSwaps P sf sb enc blk off d.size)
    (hp : ∀ i, i < d.size → p d[i]!) (hH : Holds enc W blk off d) (hblk : blk < W.heap.size) (h20 : d.size < 20) :
    Calls P (ρ.f 15) #[.agg #[.func (.func g) #[] lb, .func (.func sf) #[] sb], .int .i64 d.size] W fun e w' => e = .returned (.tuple #[]) ∧ SRel enc W blk off (Sort.insertionSort lt d 0 d.size) w' := by
  have mixed := L.mixed; have t0 := L.t0; have a0 := L.a0; have z0 := L.z0; have v0 := L.v0; have t3 := L.t3; have a3 := L.a3; have z3 := L.z3; have v3 := L.v3; have t4 := L.t4; have a4 := L.a4; have z4 := L.z4; have v4 := L.v4; have t26 := L.t26; have a26 := L.a26; have z26 := L.z26; have v26 := L.v26; have t38 := L.t38; have a38 := L.a38; have z38 := L.z38; have v38 := L.v38; have t42 := L.t42; have a42 := L.a42; have z42 := L.z42; have v42 := L.v42; have t47 := L.t47; have a47 := L.a47; have z47 := L.z47; have v47 := L.v47
  have u42 := run_underlying L.t42
  have e29 : ∀ args w, (callFunc (ρ.f 29) args).run P w = .ok (.enter (ρ.f 29) args) w := enters_of L.f29 (by kernel_rfl) rfl
  have LI : LaysGg.n26 P ρ.viaGt := ({ L with } : LaysGt.n29 P ρ).elder
  have hH1 : Holds enc (W.alloc (.cells #[.func (.func g) #[] lb, .func (.func sf) #[] sb] (ρ.t 42))) blk off d := by rw [alloc_eq_grow]; exact holds_grow enc W _ blk off d hblk hH
  have hc : Calls P (ρ.f 29) #[.agg #[.func (.func g) #[] lb, .func (.func sf) #[] sb], .int .i64 (0 : Nat), .int .i64 d.size] (W.alloc (.cells #[.func (.func g) #[] lb, .func (.func sf) #[] sb] (ρ.t 42))) fun e w' => e = .returned (.tuple #[]) ∧ SRel enc W blk off (Sort.insertionSort lt d 0 d.size) w' :=
    (insertionSort_func_b LI enc lt p g lb sf sb blk off 0 d.size d _ eg (hless.alloc hblk) hswap hp hH1 (by rw [World.size_alloc]; omega) (Nat.zero_le _) (Nat.le_refl _) (by omega)).mono fun e w' h => ⟨h.1, h.2.base hblk⟩
  clear hless hswap hH hH1 hp
  go_enter L.f15, BodyGt.n15_ntmps ρ
  go_wp2
  refine wp_loop_rounds 1 ?_
  rw [rounds_succ]
  go_wp2_with (go_at_fn (ρ.f 29); refine hc.mono ?_; rintro e w1 ⟨rfl, hR⟩)
  refine wp_loop_rounds 1 ?_
  rw [rounds_succ]
  go_wp2
  all_goals first | (exfalso; omega) | (go_end0; exact ⟨rfl, hR⟩)

/-- sort.SliceStable at 2 to 19 elements of one cell; 'less' may lay blocks. -/
theorem SliceStable_b (L : LaysGt.n8 P ρ) (t e : TypeId) (i ie : TypeInfo) (hi : P.info? t = some i) (hd : i.desc = .slice e) (hpk : P.packed t = false) (hie : P.info? e = some ie) (ke : Nat) (hke : ∀ w, (Extern.Rtype.kind e).run P w = .ok ke w)
    (hs1 : ie.size = 1) (hagg : ∀ w, (isAgg e).run P w = .ok false w) (enc : α → Value) (h1 : ∀ x, (enc x).oneCell' = true) (lt : α → α → Bool) (p : α → Prop) (g : Nat) (lb : Array Value)
    (eg : ∀ args w, (callFunc g args).run P w = .ok (.enter g args) w) (blk off c : Nat) (d : Array α) (h2 : 2 ≤ d.size) (h20 : d.size < 20)
    (f : Nat) (hf : P.funcs.findIdx? (·.name == "internal/reflectlite" ++ ".Swapper$" ++ toString (swapperK d.size ie ke)) = some f)
    (gS : Bool) (hx : ∀ args W, (callFunc f args).run P W = ((Extern.ReflectliteSwapper.swap gS args).run P W).andThen fun v w' => .ok (.value v) w')
    (w : World) (hless : LessB P g lb enc lt p blk off d.size w) (hp : ∀ i, i < d.size → p d[i]!) (hH : Holds enc w blk off d) (hblk : blk < w.heap.size) :
    Calls P (ρ.f 8) #[.iface t (.slice (some ⟨blk, off, none⟩) d.size c), .func (.func g) #[] lb] w fun e w' =>
      e = .returned (.tuple #[]) ∧ SRel enc w blk off (Sort.insertionSort lt d 0 d.size) w' := by
  refine Any.sort_SliceStable_of_stable L t e i ie hi hd hpk hie ke hke _ d.size c (by omega) f hf (.func g) #[] lb w _ ?_
  have hB : sliceBound P e ie ke (some ⟨blk, off, none⟩) d.size c = #[.slice (some ⟨blk, off, none⟩) d.size c, typeHandle P e] := by
    unfold sliceBound; rw [if_neg (swapperK_gt _ _ _ h2)]
  rw [hB]
  unfold stableWorld
  have hb1 : blk < (w.alloc (.cells #[.slice (some ⟨blk, off, none⟩) d.size c] t)).heap.size := by rw [World.size_alloc]; omega
  have hH1 : Holds enc (w.alloc (.cells #[.slice (some ⟨blk, off, none⟩) d.size c] t)) blk off d := by rw [alloc_eq_grow]; exact holds_grow enc w _ blk off d hblk hH
  refine (stable_func_b (P := P) (ρ := ρ) { L with } enc lt p g lb f _ blk off d _ eg ((hless.alloc hblk).alloc hb1)
    (swapSwaps_of_literal gS f hx e ie hie hs1 hagg enc h1 blk off d.size c) hp (by rw [alloc_eq_grow _ (.cells #[.pointer _, .pointer _, .int .u64 151] _)]; exact holds_grow enc _ _ blk off d hb1 hH1) (by rw [World.size_alloc]; omega) h20).mono ?_
  rintro e w' ⟨rfl, hR⟩
  exact ⟨rfl, (hR.base hb1).base hblk⟩

end Go.Proofs.YtdnnffbbhijmkaaGreat
