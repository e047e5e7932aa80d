/- From values as they came in to data of the framework AM; a law's call from its contract. -/
import Derived.Test.YtenbloaopcfdlaaB
import Derived.Test.YtenbloaopcfdlaaAmAE
namespace Go.Proofs.Ytenbloaopcfdlaa
open Go.ChangeShapes Go.WideShapes Go.ChangeAt Go.RowKit Am
set_option linter.unusedVariables false
set_option linter.unusedSimpArgs false

/-- Cells as data. -/
def lc (a : Array Value) : List AC := a.toList.map .imm
/-- A list of values, each of some cells, as data. -/
def vw {α : Type} (c : α → Array Value) (xs : List α) : List (List AC) := xs.map fun x => lc (c x)
theorem vw_length {α : Type} (c : α → Array Value) (xs : List α) : (vw c xs).length = xs.length := by simp [vw]
theorem vw_at {α : Type} {c : α → Array Value} {xs : List α} {i : Nat} {x : α} (h : xs[i]? = some x) : (vw c xs)[i]? = some (lc (c x)) := by simp [vw, h]
theorem at_z {α : Type} {xs : List α} {z : Int} (h0 : 0 ≤ z) (h1 : z < xs.length) : ∃ x, xs[z.toNat]? = some x := ⟨xs[z.toNat]'(by omega), List.getElem?_eq_getElem _⟩
theorem rc_of_rep {α : Type} {k : Nat} {c : α → Array Value} {w : World} {v : Value} {xs : List α} (h : RepS k c w v xs) (hk0 : 0 < k) (hk : ∀ x, (c x).size = k) (h1 : ∀ x, (c x).toList.all one = true) : RT (fun b => b < w.heap.size) w [] [] (.c (.view (vw c xs))) v := by
  obtain ⟨p, cap, rfl, g1, g2, g3⟩ := h
  show RP (fun b => b < w.heap.size) w (.view (vw c xs)) _
  unfold RP
  refine ⟨p, cap, by rw [vw_length], by rw [vw_length]; exact g1, g2, ?_⟩
  by_cases h0 : 0 < xs.length
  · right
    obtain ⟨b, o, rfl, hc⟩ := g3 h0
    · have hb : b < w.heap.size := by
        obtain ⟨u, _, hu⟩ := hc 0 h0 0 hk0
        exact World.block_lt_of_cell? w _ hu
      refine ⟨b, o, k, rfl, hb, RPE.mk fun i y hy => ?_⟩
      simp only [vw, List.getElem?_map, Option.map_eq_some_iff] at hy
      obtain ⟨x, hx, rfl⟩ := hy
      have hi := (List.getElem?_eq_some_iff.1 hx).1
      have hxe := (List.getElem?_eq_some_iff.1 hx).2
      refine ⟨by simp [lc, hk], RPL.mk fun j d hd => ?_⟩
      simp only [lc, List.getElem?_map, Option.map_eq_some_iff] at hd
      obtain ⟨u, hu, rfl⟩ := hd
      have hj : j < k := by
        have := (List.getElem?_eq_some_iff.1 hu).1
        simpa [hk] using this
      obtain ⟨u', h2, h3⟩ := hc i hi j hj
      rw [hxe] at h2
      have : u' = u := by
        rw [← Array.getElem?_toList, hu] at h2
        exact (Option.some.inj h2).symm
      subst this
      exact ⟨u', h3, List.all_eq_true.1 (h1 x) u' (List.mem_of_getElem? hu), by unfold RP; rfl⟩
  · left
    have : xs = [] := by cases xs with | nil => rfl | cons => simp at h0
    subst this
    rfl
theorem rt_int {F : Nat → Prop} {w : World} {m : AM} {h : AH} (v : Value) : RT F w m h (.c (.imm v)) v := rfl
theorem rt_agg {F : Nat → Prop} {w : World} {m : AM} {h : AH} {cs : Array Value} (h1 : cs.toList.all one = true) : RT F w m h (.agg (lc cs)) (.agg cs) := by
  refine ⟨cs.toList, rfl, by simp [lc], fun j c hj => ?_⟩
  simp only [lc, List.getElem?_map, Option.map_eq_some_iff] at hj
  obtain ⟨u, hu, rfl⟩ := hj
  exact ⟨u, hu, List.all_eq_true.1 h1 u (List.mem_of_getElem? hu), rfl⟩
/-- A law's call, from its contract. -/
theorem law_calls {P : Program} {f : FuncId} {args : List AT} {vs : List Value} {w : World} (hc : PCon P f args fun res rows => res = .t (.c (.imm (.bool true))) ∧ rows = []) (hl : vs.length = args.length)
    (ha : ∀ (j : Nat) (x : AT), args[j]? = some x → ∃ v, vs[j]? = some v ∧ RT (fun b => b < w.heap.size) w [] [] x v) : Calls P f vs.toArray w fun e w' => e = .returned (.bool true) ∧ Below w.heap.size w w' :=
  (hc.2 (fun b => b < w.heap.size) w [] vs (RH.empty (fun _ h => h) (Nat.zero_le _)) hl ha).mono fun e w' ⟨v, res, h', m', F', he, ⟨rows, hh, hres, hr⟩, hG, hs, hv⟩ => by
    subst hres hr
    simp only [List.map_nil] at hh
    subst hh
    have hv : v = .bool true := hv
    subst hv
    exact ⟨he, ⟨hs.os, hs.tape, hs.output, hs.size, fun b hb => hs.blk b hb (fun r ab c hr => by simp at hr)⟩⟩

end Go.Proofs.Ytenbloaopcfdlaa
