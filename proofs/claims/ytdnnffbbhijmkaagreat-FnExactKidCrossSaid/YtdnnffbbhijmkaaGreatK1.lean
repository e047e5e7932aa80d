/- impl's children in the flow: the walk over the library's sort. -/
import Derived.Test.YtdnnffbbhijmkaaGreatFo
import Derived.Shelf.Lay
import Derived.Ground.GgtProg
namespace Go.Proofs.YtdnnffbbhijmkaaGreat
open Go.Shelf Go.RowKit Go.Lib Go.Sort Am
set_option linter.unusedVariables false
set_option linter.unusedSimpArgs false
def isFl (ns : List NNode) (k : Int) : Bool := match ns[(k - 1).toNat]? with | some y => !y.style.hidden && !y.style.apart | none => false
def ordN (ns : List NNode) (k : Int) : Int := match ns[(k - 1).toNat]? with | some y => y.style.order | none => 0
section
variable {F : Nat → Prop} {w w1 w2 w' : World} {m m1 : AM} {h h1 : AH}
theorem step_after (s : Step F w m h w1 m1 h1) (hos : w2.os = w1.os) (htp : w2.tape = w1.tape) (hou : w2.output = w1.output) (hsz : w1.heap.size ≤ w2.heap.size) (hb : ∀ b, b < w1.heap.size → w2.heap[b]? = w1.heap[b]?) : Step F w m h w2 m1 h1 := by
  refine ⟨⟨fun r ab hr => ?_, s.hp.inj, s.hp.len, fun b hb' => Nat.lt_of_lt_of_le (s.hp.old b hb') hsz⟩, s.keeps, hos.trans s.os, htp.trans s.tape, hou.trans s.output, Nat.le_trans s.size hsz, fun b hb' hn => (hb b (Nat.lt_of_lt_of_le hb' s.size)).trans (s.blk b hb' hn), s.own⟩
  rcases s.hp.at_ r ab hr with h3 | ⟨b, c, h3, h4, h5⟩
  · exact .inl h3
  · exact .inr ⟨b, c, h3, h4, RB.ext (fun _ h => h) (fun b' hb' => hb b' (s.hp.old b' hb')) (Keeps.refl _ _) (hb b (s.hp.lt hr h3).2) h5⟩
theorem step_sorted (hH : RH F w m h) {r b cap ty : Nat} {xs : List Int} {d : Array Int} (h1 : h[r]? = some (.live ⟨ty, 1, vw intC xs⟩)) (h2 : m[r]? = some (some (b, cap))) (hd : d.size = xs.length) (hS : SRel (Value.int .i64) w b 0 d w') : Step F w m h w' m (h.set r (.live ⟨ty, 1, vw intC d.toList⟩)) := by
  obtain ⟨_, hF, cur, hc, hs, hle, hmx, hcells⟩ := hH.get h1 h1 h2
  simp only [Nat.mul_one, vw_length] at hs hle
  have hsz : (putCells (Value.int .i64) 0 d cur).size = cur.size := by simp [putCells]
  have hst : Step F w m h (w.setRow b (putCells (Value.int .i64) 0 d cur)) m (h.set r (.live ⟨ty, 1, vw intC d.toList⟩)) := Step.update hH h1 h2 rfl rfl (by simp [vw_length, hd]) (by rw [hsz]; simpa using hs) (fun i x hx => by
    have hi : i < d.size := by have := (List.getElem?_eq_some_iff.1 hx).1; simpa [vw_length] using this
    have hx' : x = lc (intC d[i]!) := by
      have h3 : d.toList[i]? = some d[i]! := by rw [getElem!_pos d i hi]; simp [hi]
      have := vw_at (c := intC) h3
      rw [hx] at this; exact Option.some.inj this
    subst hx'
    refine ⟨rfl, fun j c hj => ?_⟩
    obtain rfl : j = 0 := by
      have := (List.getElem?_eq_some_iff.1 hj).1
      simp [lc, intC] at this; omega
    obtain rfl : c = .imm (.int .i64 d[i]!) := by simpa [lc, intC] using hj.symm
    have hci : i < cur.size := by omega
    exact ⟨.int .i64 d[i]!, by simp [putCells, Array.getElem?_eq_getElem hci, hi], rfl, rfl⟩)
  refine step_after hst hS.os hS.tape hS.output (by simpa using hS.size) (fun b' hb' => ?_)
  rw [hS.at_ b' (by simpa using hb')]
  by_cases hbb : b' = b
  · subst hbb
    rw [setRow_heap w b' cur _ _ _ hc]
    simp only [putRow, mapBlock, Array.getElem?_modify, hc, if_true, Option.map_some, onCells]
  · rw [putRow_other hbb, setRow_other _ _ _ _ hbb]
end
shelf_lay LaysGt.n8 Ggt 8 at Tryz as Tryz.sl8
theorem arr_l {d : List Int} {i : Nat} (h : i < d.length) : d[i]? = some d[i]! := by rw [getElem!_pos d i h]; simp [h]
set_option maxHeartbeats 4000000 in
theorem flowLess_a (ns : List NNode) (dk : List Int) (hl : ns.length ≤ 1048576) (hk : ∀ k ∈ dk, isN ns k = true) (i j : Nat) (hi : i < dk.length) (hj : j < dk.length) : PCon Tryz.prog 123 [ai (i : Int), ai (j : Int), .c (.eptr [.view (vwA NNode.ac ns)] 0), .c (.eptr [.view (vw intC dk)] 0)] fun res rows => res = .t (abl (decide (ordN ns (dk[i]!) < ordN ns (dk[j]!)))) ∧ rows = [] := by
  obtain ⟨V, hV⟩ : ∃ V, V = vwA NNode.ac ns := ⟨_, rfl⟩
  obtain ⟨D, hD⟩ : ∃ D, D = vw intC dk := ⟨_, rfl⟩
  obtain ⟨a, ha⟩ : ∃ a, a = dk[i]! := ⟨_, rfl⟩
  obtain ⟨b, hb⟩ : ∃ b, b = dk[j]! := ⟨_, rfl⟩
  have ga : dk[i]? = some a := by rw [ha]; exact arr_l hi
  have gb : dk[j]? = some b := by rw [hb]; exact arr_l hj
  obtain ⟨a1, a2, xa, hxa⟩ := isN_at (hk a (List.mem_of_getElem? ga))
  obtain ⟨b1, b2, xb, hxb⟩ := isN_at (hk b (List.mem_of_getElem? gb))
  have ya : D[((i : Int)).toNat]? = some (lc (intC a)) := by rw [hD]; exact vw_at ga
  have yb : D[((j : Int)).toNat]? = some (lc (intC b)) := by rw [hD]; exact vw_at gb
  have i0 : (0 : Int) ≤ (i : Int) := Int.natCast_nonneg i
  have j0 : (0 : Int) ≤ (j : Int) := Int.natCast_nonneg j
  have oa : ordN ns a = xa.style.order := by unfold ordN; rw [hxa]
  have ob : ordN ns b = xb.style.order := by unfold ordN; rw [hxb]
  rw [← hV, ← hD, ← ha, ← hb, oa, ob]
  clear oa ob
  obtain ⟨Ka, hKa⟩ : ∃ K, K = vw intC xa.kids := ⟨_, rfl⟩
  obtain ⟨Ra, hRa⟩ : ∃ R, R = vw GRule.c xa.table.rules := ⟨_, rfl⟩
  obtain ⟨Kb, hKb⟩ : ∃ K, K = vw intC xb.kids := ⟨_, rfl⟩
  obtain ⟨Rb, hRb⟩ : ∃ R, R = vw GRule.c xb.table.rules := ⟨_, rfl⟩
  have ca := impl_node_x ns a xa a1 (by omega) hxa V Ka Ra hV hKa hRa
  have cb := impl_node_x ns b xb b1 (by omega) hxb V Kb Rb hV hKb hRb
  obtain ⟨I, hI⟩ : ∃ I : Int, I = (i : Int) := ⟨_, rfl⟩
  obtain ⟨J, hJ⟩ : ∃ J : Int, J = (j : Int) := ⟨_, rfl⟩
  rw [← hI] at ya i0 ⊢
  rw [← hJ] at yb j0 ⊢
  clear hI hJ ga gb hxa hxb
  refine pcon_run (c := body Tryz.f123) fits Tryz.func123 (by kernel_rfl) (by kernel_rfl) (by rfl) (by kernel_rfl) fun g F hg hF => ?_
  cbv
  refine goX hg _ i0 ya rfl ?_
  cbv
  (first | refine call0 hg ca rfl rfl ?_ | refine call0P hg ca rfl rfl ?_)
  cbv
  refine goX hg _ j0 yb rfl ?_
  cbv
  (first | refine call0 hg cb rfl rfl ?_ | refine call0P hg cb rfl rfl ?_)
  cbv
  rw [goLss hg]
  exact fin0b hF rfl
noncomputable def siT : TypeInfo := (Tryz.prog.info? 49).get (by kernel_rfl)
noncomputable def siE : TypeInfo := (Tryz.prog.info? 3).get (by kernel_rfl)
theorem siK (n : Nat) (h2 : 2 ≤ n) : Lib.swapperK n siE 2 = 5 := by
  have a : siE.hasPointers = false := by kernel_rfl
  have b : siE.bytes = 8 := by kernel_rfl
  have c : (n == 0) = false := by simp; omega
  have d : (n == 1) = false := by simp; omega
  simp [Lib.swapperK, a, b, c, d]
/-- The library's sort at a row of whole numbers. -/
theorem sort_row {w : World} {g blk c : Nat} {lb : Array Value} {d : Array Int} (f : Int → Int) (p : Int → Prop) (hg : ∀ args w, (callFunc g args).run Tryz.prog w = .ok (.enter g args) w) (h2 : 2 ≤ d.size) (h20 : d.size < 20)
    (hless : LessB Tryz.prog g lb (Value.int .i64) (ltF f) p blk 0 d.size w) (hp : ∀ i, i < d.size → p d[i]!) (hH : Holds (Value.int .i64) w blk 0 d) (hblk : blk < w.heap.size) :
    Calls Tryz.prog 122 #[.iface 49 (.slice (some ⟨blk, 0, none⟩) d.size c), .func (.func g) #[] lb] w fun e w' => e = .returned (.tuple #[]) ∧ SRel (Value.int .i64) w blk 0 (Sort.insertionSort (ltF f) d 0 d.size) w' := by
  have hS := SliceStable_b Tryz.sl8 49 3 siT siE (by kernel_rfl) (by kernel_rfl) (by kernel_rfl) (by kernel_rfl) 2 (fun _ => by kernel_rfl) (by kernel_rfl) (fun _ => by kernel_rfl) (Value.int .i64) (fun _ => rfl) (ltF f) p g lb
    hg blk 0 c d h2 h20 291 (by rw [siK _ h2]; kernel_rfl) true
    (fun args W => run_callFunc_extern Tryz.func291 (by kernel_rfl) (by kernel_rfl) (by kernel_rfl) (e := Extern.ReflectliteSwapper.swap true) (by kernel_rfl) args W) w hless hp hH hblk
  exact hS
theorem sort_tiny {w : World} {p : Option Addr} {n c : Nat} (hn : n ≤ 1) (lf : Fn) (la lb : Array Value) :
    Calls Tryz.prog 122 #[.iface 49 (.slice p n c), .func lf la lb] w fun e w' => e = .returned (.tuple #[]) ∧ ∃ os, w' = grow w os := by
  rcases Nat.le_one_iff_eq_zero_or_eq_one.1 hn with rfl | rfl
  · exact Any.sort_SliceStable_tiny Tryz.sl8 49 3 siT siE (by kernel_rfl) (by kernel_rfl) (by kernel_rfl) (by kernel_rfl) 2 (fun _ => by kernel_rfl) p 0 c (by omega) 287 (by kernel_rfl) lf la lb w
  · exact Any.sort_SliceStable_tiny Tryz.sl8 49 3 siT siE (by kernel_rfl) (by kernel_rfl) (by kernel_rfl) (by kernel_rfl) 2 (fun _ => by kernel_rfl) p 1 c (by omega) 288 (by kernel_rfl) lf la lb w

end Go.Proofs.YtdnnffbbhijmkaaGreat
