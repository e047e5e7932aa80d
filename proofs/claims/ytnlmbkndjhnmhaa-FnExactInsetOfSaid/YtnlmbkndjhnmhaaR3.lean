/- Contracts of SnapFrame. -/
import Derived.Test.YtnlmbkndjhnmhaaF2
import Derived.Test.YtnlmbkndjhnmhaaS
import Derived.StillTailTactics
namespace Go.Proofs.Ytnlmbkndjhnmhaa
open Go.ChangeShapes Go.WideShapes Go.ChangeAt Go.RowKit
set_option linter.unusedVariables false
set_option linter.unusedSimpArgs false
set_option maxRecDepth 100000

/-- A region that draws its order and of which only the last n operations write: its head stands still in a world of which no more is told than that it is a later one. -/
theorem wp_tail {P : Program} {id : Nat} {Q : Exit → Act → World → Prop} {a : Act} {w : World} {l : List Oper} (n : Nat) (hm : P.follows .mixedOrders = true) (hB : Region.lexTailB .any l.toArray n = true)
    (h : ∀ W, Below w.heap.size w W → wpStill P l.toArray W (fun a' => wpList P l.toArray Q (l.drop n) a' W) (l.take n) a) : (Code.region id l.toArray true).wp P Q a w :=
  wp_region_still_tail n hm hB (h _ (Below.drew (ext_refl w)))
/-- A frame whose edges are moved to the grid. -/
def snapFrame (f : GFrame) (s : Int) : GFrame := ⟨f.node, snapTo f.x s, snapTo f.y s, wrap64 (snapTo (wrap64 (f.x + f.wide)) s - snapTo f.x s), wrap64 (snapTo (wrap64 (f.y + f.high)) s - snapTo f.y s)⟩

set_option maxHeartbeats 1600000 in
theorem spec_SnapFrame_c (f : GFrame) (s : Int) (w : World) :
    Calls Try.prog 78 #[.agg #[.int .i64 f.node, .int .i64 f.x, .int .i64 f.y, .int .i64 f.wide, .int .i64 f.high], .int .i64 s] w fun e w' => e = .returned (.agg #[.int .i64 (snapFrame f s).node, .int .i64 (snapFrame f s).x, .int .i64 (snapFrame f s).y, .int .i64 (snapFrame f s).wide, .int .i64 (snapFrame f s).high]) ∧ Below w.heap.size w w' := by
  go_enter Try.func78, Try.ntmps78
  go_wp2_with (go_at_call 121; refine (spec_SnapTo_c _ _ _).mono ?_; rintro e w' ⟨rfl, rfl⟩)
  refine wp_tail 11 (by kernel_rfl) (by kernel_rfl) ?_
  simp only [List.take_succ_cons, List.take_zero, List.drop_succ_cons, List.drop_zero]
  intro w1 hb
  (first | ((with_reducible replace hE := ext_trans hE hb); clear hc hf hl hz) | (have hE := hb)); clear hb; obtain ⟨hc, hf, hl, hz⟩ := keep hE; (try simp only [World.size_alloc, World.size_setCell, World.size_drew] at hz); (try have hl0 := hl w.heap.size (by first | (simp; done) | (simp; omega))); (try have hl1 := hl (w.heap.size + 1) (by first | (simp; done) | (simp; omega))); (try have hl2 := hl (w.heap.size + 1 + 1) (by first | (simp; done) | (simp; omega))); (try have hl3 := hl (w.heap.size + 1 + 1 + 1) (by first | (simp; done) | (simp; omega)))
  (repeat (first | (still_call (spec_SnapTo_c _ _ _).mono (fun e w' h => ⟨h.1, h.2.symm⟩)) | still_step))
  refine wpStill_nil ?_
  go_wp2_with fail
  refine wp_tail 11 (by kernel_rfl) (by kernel_rfl) ?_
  simp only [List.take_succ_cons, List.take_zero, List.drop_succ_cons, List.drop_zero]
  intro w2 hb
  (first | ((with_reducible replace hE := ext_trans hE hb); clear hc hf hl hz) | (have hE := hb)); clear hb; obtain ⟨hc, hf, hl, hz⟩ := keep hE; (try simp only [World.size_alloc, World.size_setCell, World.size_drew] at hz); (try have hl0 := hl w.heap.size (by first | (simp; done) | (simp; omega))); (try have hl1 := hl (w.heap.size + 1) (by first | (simp; done) | (simp; omega))); (try have hl2 := hl (w.heap.size + 1 + 1) (by first | (simp; done) | (simp; omega))); (try have hl3 := hl (w.heap.size + 1 + 1 + 1) (by first | (simp; done) | (simp; omega)))
  (repeat (first | (still_call (spec_SnapTo_c _ _ _).mono (fun e w' h => ⟨h.1, h.2.symm⟩)) | still_step))
  refine wpStill_nil ?_
  go_wp2
  refine bodyPost_ret (v := .agg #[.int .i64 (snapFrame f s).node, .int .i64 (snapFrame f s).x, .int .i64 (snapFrame f s).y, .int .i64 (snapFrame f s).wide, .int .i64 (snapFrame f s).high]) (by simp [results, Try.results78, go_sem, snapFrame, *]) rfl ?_
  exact ⟨rfl, by repeat (first | (with_reducible exact ext_refl _) | (with_reducible assumption) | (with_reducible refine Below.setCell ?_ (by first | omega | (simp; done) | (simp; omega)) _) | (with_reducible refine below_drewN ?_ _) | (with_reducible refine Below.drew ?_) | (with_reducible refine ext_trans ?_ (by with_reducible assumption)) | (with_reducible refine ext_trans ?_ (ext_alloc _ _)))⟩

set_option maxHeartbeats 1600000 in
theorem impl_SnapFrame_c (f : GFrame) (s : Int) (w : World) :
    Calls Try.prog 79 #[.agg #[.int .i64 f.node, .int .i64 f.x, .int .i64 f.y, .int .i64 f.wide, .int .i64 f.high], .int .i64 s] w fun e w' => e = .returned (.agg #[.int .i64 (snapFrame f s).node, .int .i64 (snapFrame f s).x, .int .i64 (snapFrame f s).y, .int .i64 (snapFrame f s).wide, .int .i64 (snapFrame f s).high]) ∧ Below w.heap.size w w' := by
  go_enter Try.func79, Try.ntmps79
  go_wp2_with fail
  refine wp_region_quiet_below (by kernel_rfl) (by kernel_rfl) ?_; (repeat (go_big_quiet_step ((first | (go_at_call 122; exact Calls.regrown_of ((impl_SnapTo_c _ _ _).mono (fun e w' h => ⟨h.1, h.2 ▸ ext_refl _⟩))))))); refine wpQuiet_nil ?_; intro w1 hw1; have hb := below_of_regrown hw1; clear hw1; (first | ((with_reducible replace hE := ext_trans hE hb); clear hc hf hl hz) | (have hE := hb)); clear hb; obtain ⟨hc, hf, hl, hz⟩ := keep hE; (try simp only [World.size_alloc, World.size_setCell, World.size_drew] at hz); (try have hl0 := hl w.heap.size (by first | (simp; done) | (simp; omega))); (try have hl1 := hl (w.heap.size + 1) (by first | (simp; done) | (simp; omega))); (try have hl2 := hl (w.heap.size + 1 + 1) (by first | (simp; done) | (simp; omega))); (try have hl3 := hl (w.heap.size + 1 + 1 + 1) (by first | (simp; done) | (simp; omega)))
  go_wp2_with fail
  refine wp_tail 23 (by kernel_rfl) (by kernel_rfl) ?_
  simp only [List.take_succ_cons, List.take_zero, List.drop_succ_cons, List.drop_zero]
  intro w2 hb
  (first | ((with_reducible replace hE := ext_trans hE hb); clear hc hf hl hz) | (have hE := hb)); clear hb; obtain ⟨hc, hf, hl, hz⟩ := keep hE; (try simp only [World.size_alloc, World.size_setCell, World.size_drew] at hz); (try have hl0 := hl w.heap.size (by first | (simp; done) | (simp; omega))); (try have hl1 := hl (w.heap.size + 1) (by first | (simp; done) | (simp; omega))); (try have hl2 := hl (w.heap.size + 1 + 1) (by first | (simp; done) | (simp; omega))); (try have hl3 := hl (w.heap.size + 1 + 1 + 1) (by first | (simp; done) | (simp; omega)))
  (repeat (first | (still_call (impl_SnapTo_c _ _ _).mono (fun e w' h => ⟨h.1, h.2.symm⟩)) | still_step))
  refine wpStill_nil ?_
  go_wp2
  refine bodyPost_ret (v := .agg #[.int .i64 (snapFrame f s).node, .int .i64 (snapFrame f s).x, .int .i64 (snapFrame f s).y, .int .i64 (snapFrame f s).wide, .int .i64 (snapFrame f s).high]) (by simp [results, Try.results79, go_sem, snapFrame, *]) rfl ?_
  exact ⟨rfl, by repeat (first | (with_reducible exact ext_refl _) | (with_reducible assumption) | (with_reducible refine Below.setCell ?_ (by first | omega | (simp; done) | (simp; omega)) _) | (with_reducible refine below_drewN ?_ _) | (with_reducible refine Below.drew ?_) | (with_reducible refine ext_trans ?_ (by with_reducible assumption)) | (with_reducible refine ext_trans ?_ (ext_alloc _ _)))⟩

end Go.Proofs.Ytnlmbkndjhnmhaa
