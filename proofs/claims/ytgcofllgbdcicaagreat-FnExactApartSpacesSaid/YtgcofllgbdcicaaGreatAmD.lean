/- A part of AM, a framework of the prover own: functions of any program as maps of data. -/
import Derived.Test.YtgcofllgbdcicaaGreatAmC
namespace Go.Proofs.YtgcofllgbdcicaaGreat.Am
open Go.RowKit
set_option linter.unusedVariables false
set_option linter.unusedSimpArgs false
section
variable {P : Program} {F : Nat → Prop} {w : World} {m : AM} {g h : AH} {n : Nat} {T : Nat → AV} {a : Act} {K : AV → List AB → Prop}

/-- What an operation comes to. -/
def Does (P : Program) (F : Nat → Prop) (w : World) (m : AM) (h : AH) (n : Nat) (s : Sem Next) (K : AV → List AB → Prop) : Prop :=
  ∃ res rows, K res rows ∧ ∃ v w', s.run P w = .ok (.value v) w' ∧ Out F w m h n res rows v w'
theorem does0 {s : Sem Next} {res : AV} {v : Value} (hK : K res []) (hs : s.run P w = .ok (.value v) w) (hr : RV F w m h res v) : Does P F w m h n s K := ⟨res, [], hK, v, w, hs, out0 hr⟩
theorem doesL {s : Sem Value} {q : Option Nat} {t : TypeId} {x : List AC} {b o off : Nat} (hl : ldA q x off (fun v => K v [])) (ha : aggOf P t = some q)
    (hx : ∀ (j : Nat) (c : AC), x[j]? = some c → ∃ u, w.cell? ⟨b, o + j, none⟩ = some u ∧ one u = true ∧ RC F w m h c u) (hs : s = loadVar t ⟨b, o + off, none⟩) :
    Does P F w m h n (do pure (Next.value (← s))) K := by
  obtain ⟨res, v, hK, hr, hv⟩ := load_part ha hx hl
  subst hs
  exact does0 hK (run_v hr) hv

theorem ev_t {x : Operand} {y : AT} (hT : RTm F w m h T a) (he : ev T x = .t y) : RT F w m h y (a.eval x) := by
  have := ev_sound hT x; rw [he] at this; exact this
theorem ev_imm {x : Operand} {u : Value} (hT : RTm F w m h T a) (he : ev T x = .t (.c (.imm u))) : a.eval x = u := ev_t hT he
theorem RH.get (hH : RH F w m h) {r : Nat} {ab ab' : AB} {b cap : Nat} (h0 : h[r]? = some (.live ab)) (h1 : h[r]? = some (.live ab')) (hm : m[r]? = some (some (b, cap))) : ab' = ab ∧ ¬ F b ∧ RB F w m h b cap ab := by
  rcases hH.at_ r ab h0 with ⟨h2, _⟩ | ⟨b', cap', h2, h3, h4⟩
  · rw [hm] at h2; cases h2
  rw [hm] at h2
  cases h2
  rw [h0] at h1
  cases h1
  exact ⟨rfl, h3, h4⟩

theorem do_alloc (hH : RH F w m h) {t : TypeId} {z : List Value} {k : Nat} (hz : zeroOf P t = some z) (hk : sizeOfT P t = some k) (hl : z.length = k) (h1 : z.all one = true) (hK : K (.t (.c (.ptr n 0 0))) [⟨t, k, [z.map .imm]⟩]) :
    Does P F w m h n (do pure (Next.value (← Instr.alloc t true (.tuple #[])))) K := by
  obtain ⟨i, v, hi, hv, rfl⟩ := zeroOf_spec hz
  refine ⟨_, _, hK, .pointer (some ⟨w.heap.size, 0, none⟩), w.alloc (.cells v.cells t), ?_, out1 hH (cap := 1) (by simpa using hl) (Nat.le_refl _) (by simp [maxLen]) (fun i x hx => ?_) (fun m' h' h2 h3 => .inr ⟨_, _, _, h2, h3, by simp⟩)⟩
  · simp [Instr.alloc, zeroValue, typeInfo, hi, hv, newVar, newRow]
  · cases i with
    | succ i => simp at hx
    | zero =>
      simp at hx
      subst hx
      refine ⟨by simpa using hl, fun j c hj => ?_⟩
      simp only [List.getElem?_map, Option.map_eq_some_iff] at hj
      obtain ⟨u, hu, rfl⟩ := hj
      exact ⟨u, by simpa using hu, all_one h1 hu, rfl⟩
theorem do_box (hC : Cp g h) (hH : RH F w m h) {t : TypeId} {y : AT} {k : Nat} {v : Value} (hv : RT F w m h y v) (hk : sizeOfT P t = some k) (hl : y.cells.length = k) (h1 : y.cells.all (okc g) = true) (hK : K (.t (.c (.ptr n 0 0))) [⟨t, k, [y.cells]⟩]) :
    Does P F w m h n (do pure (Next.value (← Instr.box t v))) K := by
  obtain ⟨hs, hc⟩ := cells_of hC hv h1
  refine ⟨_, _, hK, .pointer (some ⟨w.heap.size, 0, none⟩), w.alloc (.cells v.cells t), ?_, out1 hH (cap := 1) (by rw [hs, hl]; omega) (Nat.le_refl _) (by simp [maxLen]) (fun i x hx => ?_) (fun m' h' h2 h3 => .inr ⟨_, _, _, h2, h3, by simp⟩)⟩
  · simp [Instr.box, newVar, newRow]
  · cases i with
    | succ i => simp at hx
    | zero =>
      simp at hx
      subst hx
      exact ⟨hl, fun j c hj => by simpa using hc j c hj⟩
theorem bo_run {op : BinOp} {k k' : IntKind} {x y : Int} {z : Value} (hz : bo op (.int k x) (.int k' y) = some z) (t : TypeId) (p q : Operand) : (do eqGuard op t p q (.int k x) (.int k' y); binOp op t (.int k x) (.int k' y) : Sem Value).run P w = .ok z w := by
  have hg : (eqGuard op t p q (.int k x) (.int k' y)).run P w = .ok () w := by
    unfold eqGuard; split <;> rfl
  simp only [Sem.run_bind, hg, Result.andThen_ok]
  unfold bo at hz
  simp only at hz
  split at hz
  · rename_i hk
    subst hk
    cases op <;> simp only [Option.some.injEq] at hz <;> first
      | (cases hz; done)
      | (subst hz; simp [binOp, Op.intArith, Op.intCmp]; done)
      | (split at hz
         · cases hz
         · rename_i hb
           cases hz
           simp [binOp, Op.intDiv, hb])
  · cases hz
theorem bob_run {op : BinOp} {x y : Bool} {z : Value} (hz : bob op x y = some z) (t : TypeId) (ht : P.underlying t = some .bool) (p q : Operand) : (do eqGuard op t p q (.bool x) (.bool y); binOp op t (.bool x) (.bool y) : Sem Value).run P w = .ok z w := by
  have hg : (eqGuard op t p q (.bool x) (.bool y)).run P w = .ok () w := by
    unfold eqGuard; split <;> rfl
  simp only [Sem.run_bind, hg, Result.andThen_ok]
  have he : (Op.equal t (.bool x) (.bool y)).run P w = .ok (x == y) w := by
    show (Op.equalIn (9999 + 1) t (.bool x) (.bool y)).run P w = _
    rw [Op.equalIn]
    simp only [Sem.run_bind, run_underlying ht, Result.andThen_ok]
    rfl
  unfold bob at hz
  split at hz <;> cases hz
  · show (do pure (.bool (← Op.equal t (.bool x) (.bool y))) : Sem Value).run P w = _
    simp only [Sem.run_bind, he, Result.andThen_ok]; rfl
  · show (do pure (.bool (!(← Op.equal t (.bool x) (.bool y)))) : Sem Value).run P w = _
    simp only [Sem.run_bind, he, Result.andThen_ok]; rfl
theorem uo_run {op : UnOp} {x z : Value} (hz : uo op x = some z) : (Op.unary op x).run P w = .ok z w := by
  unfold uo at hz
  split at hz <;> cases hz <;> simp [Op.unary, Op.intArith]
end
end Go.Proofs.YtgcofllgbdcicaaGreat.Am
