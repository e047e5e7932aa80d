/- The law of MemoFor: what is kept is copied, marked, and the answers stay. -/
import Derived.Test.YtenbloaopcfdlaaW2
namespace Go.Proofs.Ytenbloaopcfdlaa
open Go.ChangeShapes Go.WideShapes Go.ChangeAt Go.RowKit Am
set_option linter.unusedVariables false
set_option linter.unusedSimpArgs false
set_option maxRecDepth 100000

section
variable {P : Program} {n0 N : Nat} {g : Gd}
theorem callTup {β : BP} (hg : g = G0 P n0 N) {h : EH} {f : FuncId} {args args' : List AT} {K : AV → EH → Prop} {a b c : Int} {t : Bool} {ab : AB} (hc : PCon P f args' fun res rows => res = .tup [.agg [.imm (.int .i64 a), .imm (.int .i64 b), .imm (.int .i64 c), .own 0], .c (.imm (.bool t))] ∧ rows = [ab]) (hd : dwA args args') (hp : plainE ab.es = true)
    (hK : K (.tup [.agg [.imm (.int .i64 a), .imm (.int .i64 b), .imm (.int .i64 c), .own (lenL h)], .c (.imm (.bool t))]) (h ++ [.rw ab])) : g .C f h args K :=
  callDw hg hc hd fun res rows hpost => by
    obtain ⟨rfl, rfl⟩ := hpost
    rw [lenL_eq] at hK
    refine ⟨[.rw ab], by simp only [List.map_cons, List.map_nil, shift_row hp]; rfl, ?_⟩
    rw [toH_len]; exact hK
theorem callTupP {β : BP} (hg : g = G0 P n0 N) {h : EH} {n : Nat} {f : FuncId} {args args' : List AT} {K : AV → EH → Prop} {a b c : Int} {t : Bool} {ab : AB} (hc : PCon P f args' fun res rows => res = .tup [.agg [.imm (.int .i64 a), .imm (.int .i64 b), .imm (.int .i64 c), .own 0], .c (.imm (.bool t))] ∧ rows = [ab]) (hd : dwA args args') (hp : plainE ab.es = true)
    (hK : K (.tup [.agg [.imm (.int .i64 a), .imm (.int .i64 b), .imm (.int .i64 c), .own n], .c (.imm (.bool t))]) [.rw ab]) : g .PC f h n args K := by
  subst hg
  refine ⟨.tup [.agg [.imm (.int .i64 a), .imm (.int .i64 b), .imm (.int .i64 c), .own n], .c (.imm (.bool t))], [ab], ⟨args', _, hc, .inl ⟨hd, fun res rows hpost => ?_⟩⟩, [.rw ab], rfl, hK⟩
  obtain ⟨rfl, rfl⟩ := hpost
  exact ⟨rfl, by simp only [List.map_cons, List.map_nil, shift_row hp]⟩
theorem Con.to {β : BP} {f : FuncId} {h : AH} {args : List AT} {Post : AV → AH → Prop} (hc : @Con bp0 P f h args Post) : Con P f h args Post :=
  ⟨hc.1, fun F w m vs hH hl ha => (hc.2 F w m vs (hH.bp (Nat.zero_le _)) hl ha).mono fun e w' ⟨v, res, h', m', F', he, hp, hG, hs, hv⟩ => by
    refine ⟨v, res, h', m', F', he, hp, hG, ?_, hv⟩
    obtain ⟨h1, h2, h3, h4, h5, h6, h7, h8⟩ := hs
    exact ⟨h1.bp (Nat.le_trans hH.lo h6), h2, h3, h4, h5, h6, h7, h8⟩⟩
/-- A call that marks a box's own row of plain cells. -/
theorem callMB {β : BP} (hg : g = G0 P n0 N) {H : EH} {f : FuncId} {args : List AT} {K : AV → EH → Prop} (r : Nat) {ab ab' : AB} {R k a b c : Int}
    (hc : @Con bp0 P f (toH [.rw ab]) [.agg [.imm (.int .i64 a), .imm (.int .i64 b), .imm (.int .i64 c), .own 0], ai k] fun res h' => ∃ eh, toH eh = h' ∧ (res = .t (ai R) ∧ eh = [.rw ab'])) (hr : nth H r = some (.rw ab)) (hp : plainE ab.es = true) (hp' : plainE ab'.es = true) (ha : args = [.agg [.imm (.int .i64 a), .imm (.int .i64 b), .imm (.int .i64 c), .own r], ai k])
    (hK : K (.t (.c (.imm (.int .i64 R)))) (setL H r (.rw ab'))) : g .C f H args K := by
  subst ha
  have hrl : r < H.length := by rw [nth_eq] at hr; exact (List.getElem?_eq_some_iff.1 hr).1
  refine callH hg [r] (Con.to hc) (by simp) (by simpa using hrl) ⟨⟨ab, ab, rfl, by rw [hr]; rfl, rfl, rfl, .inl ⟨rfl, hp⟩⟩, trivial⟩ ⟨.inr ⟨rfl, rfl, rfl, rfl, trivial⟩, rfl, trivial⟩ fun res eh ⟨h1, h2⟩ => ?_
  subst h1 h2
  rw [setL_eq] at hK
  simp only [putBack, EE.mv, mv_row hp', List.map_nil, List.append_nil]
  exact hK
end
theorem endMkMemo_bound : ∀ (ls : List Nat) (k : Int), (∀ l ∈ ls, l ≤ 1048576) → endMkMemo k ls ≤ k + 5242889 * (ls.length : Int)
  | [], k, _ => by simp [endMkMemo]
  | l :: ls, k, h => by
    have h1 := endMkMemo_bound ls (nxMkMemo k l) fun l' hl => h l' (List.mem_cons_of_mem _ hl)
    have h2 := h l (List.mem_cons_self ..)
    unfold endMkMemo
    unfold nxMkMemo at h1 ⊢
    simp only [List.length_cons]
    omega
theorem endMkAsked_bound : ∀ (ls : List Unit) (k : Int), endMkAsked k ls ≤ k + 6 * (ls.length : Int)
  | [], k => by simp [endMkAsked]
  | () :: ls, k => by
    have h1 := endMkAsked_bound ls (nxMkAsked k)
    unfold endMkAsked
    unfold nxMkAsked at h1 ⊢
    simp only [List.length_cons]
    omega
theorem memoF_small (n : Int) (w h : GSpace) (rtl : Bool) (x : NKept) (hs : x.small) : (memoF n w h rtl x.memos).1.frames.length ≤ 1048576 := by
  obtain ⟨ms, qs⟩ := x
  obtain ⟨-, u0, -⟩ := hs
  show (memoF n w h rtl ms).1.frames.length ≤ 1048576
  induction ms with
  | nil => exact Nat.zero_le _
  | cons m ms ih =>
    unfold memoF
    split
    · have := u0 m (List.mem_cons_self ..)
      obtain ⟨a0, ⟨a1, a2⟩, ⟨a3, a4⟩, a5, ⟨a6, a7, a8, a9⟩⟩ := m
      exact this.1
    · exact ih fun y hy => u0 y (List.mem_cons_of_mem _ hy)
/-- What marking a copy of what is kept comes to. -/
theorem markKept_of (x : NKept) (hs : x.small) : ∃ (R0 R1 : List (List AC)) (K : Int), 0 ≤ K ∧ ∀ b0 b1 : List Nat, (b0 ++ b1).Nodup → MCon Try.prog 13 [.agg [.fv b0 (vwA NMemo.ac x.memos), .fv b1 (vw GAsked.c x.asked)], ai 1] [(b0, vwA NMemo.ac x.memos, R0), (b1, vw GAsked.c x.asked, R1)] (.int .i64 K) := by
  obtain ⟨ms, qs⟩ := x
  obtain ⟨h0, u0, h1, -⟩ := hs
  have k0 := endMkMemo_le (ms.map fun m => m.box.frames.length) 1
  have k1 := endMkAsked_le (qs.map fun _ => ()) (endMkMemo 1 (ms.map fun m => m.box.frames.length))
  have k2 := endMkMemo_bound (ms.map fun m => m.box.frames.length) 1 (fun l hl => by
    obtain ⟨m, hm, rfl⟩ := List.mem_map.1 hl
    have := u0 m hm
    obtain ⟨a0, ⟨a1, a2⟩, ⟨a3, a4⟩, a5, ⟨a6, a7, a8, a9⟩⟩ := m
    exact this.1)
  have k3 := endMkAsked_bound (qs.map fun _ => ()) (endMkMemo 1 (ms.map fun m => m.box.frames.length))
  rw [List.length_map] at k2 k3
  refine ⟨_, _, _, Int.le_trans (Int.le_trans (by decide) k0) k1, fun b0 b1 hnd => laws_markKept_m 1 b0 b1 _ _ (ms.map fun m => m.box.frames.length) (qs.map fun _ => ()) (by simp [vwA]) (by simpa [vwA] using h0) (fun i x l hx hl => ?_) (by simp [vw]) (by simpa [vw] using h1) (fun i x l hx hl => ?_) hnd (by decide) ?_⟩
  · simp only [vwA, List.getElem?_map, Option.map_eq_some_iff] at hx hl
    obtain ⟨m, hm, rfl⟩ := hx
    obtain ⟨m', hm', rfl⟩ := hl
    rw [hm] at hm'
    cases hm'
    have := u0 m (List.mem_of_getElem? hm)
    obtain ⟨a0, ⟨a1, a2⟩, ⟨a3, a4⟩, a5, ⟨a6, a7, a8, a9⟩⟩ := m
    exact ⟨_, _, _, _, _, _, _, _, _, _, rfl, by simp [vw], by simpa [vw] using this.1, vw_imm _ _, vw_k (c := GFrame.c) (k := 5) fun _ => rfl⟩
  · simp only [vw, List.getElem?_map, Option.map_eq_some_iff] at hx
    obtain ⟨q, hq, rfl⟩ := hx
    exact ⟨_, _, _, _, _, _, rfl⟩
  · have : (ms.length : Int) ≤ 1048576 := by omega
    have : (qs.length : Int) ≤ 1048576 := by omega
    omega
set_option maxHeartbeats 16000000 in
theorem laws_FnExactMemoFor_w (w : World) (a0 : NKept) (f0 : a0.fit) (v0 : Value) (r0 : RT (fun b => b < w.heap.size) w [] [] (.agg a0.ac) v0) (a1 : Int) (a2 a3 : GSpace) (a4 : Bool) :
    Calls Try.prog 3 #[v0, .int .i64 a1, .agg #[.int .i64 a2.mode, .int .i64 a2.n], .agg #[.int .i64 a3.mode, .int .i64 a3.n], .bool a4] w fun e w' => e = .returned (.bool true) ∧ Below w.heap.size w w' := by
  have cz := laws_szKept_n a0 1048576 f0 (by decide) (by decide)
  have ck : a0.small → _ := fun hs => laws_toKept_n a0 hs
  have ct : a0.small → _ := fun hs => laws_toKept_t a0 hs
  have ce : a0.small → _ := fun hs => laws_eqKept_n a0 hs
  have cs : a0.small → _ := fun hs => spec_MemoFor_a a0 hs a1 a2 a3 a4
  have ci : a0.small → _ := fun hs => impl_MemoFor_a a0 hs a1 a2 a3 a4
  have cm : a0.small → _ := fun hs => markKept_of a0 hs
  have hbs : a0.small → (memoF a1 a2 a3 a4 a0.memos).1.frames.length ≤ 1048576 := fun hs => memoF_small a1 a2 a3 a4 a0 hs
  obtain ⟨ms, qs⟩ := a0
  obtain ⟨s0, s1⟩ := a2
  obtain ⟨t0, t1⟩ := a3
  obtain ⟨V0, hV0⟩ : ∃ V, V = vwA NMemo.ac ms := ⟨_, rfl⟩
  obtain ⟨V1, hV1⟩ : ∃ V, V = vw GAsked.c qs := ⟨_, rfl⟩
  obtain ⟨mf, hmf⟩ : ∃ m, m = memoF a1 ⟨s0, s1⟩ ⟨t0, t1⟩ a4 ms := ⟨_, rfl⟩
  replace r0 : RT (fun b => b < w.heap.size) w [] [] (.agg [.view V0, .view V1]) v0 := by rw [hV0, hV1]; exact r0
  obtain ⟨S, hS⟩ : ∃ S : Prop, S = NKept.small ⟨ms, qs⟩ := ⟨_, rfl⟩
  rw [← hS] at ck ct ce cs ci cm hbs
  replace cz : PCon Try.prog 6 [.agg [.view V0, .view V1], ai 1048576] (fun res rows => ∃ R : Int, res = .t (ai R) ∧ rows = [] ∧ (R ≤ 1048576 ∨ R < 0) ∧ (0 ≤ R → S)) := by rw [hV0, hV1, hS]; exact cz
  replace ck : S → PCon Try.prog 8 [.agg [.view V0, .view V1]] (fun res rows => res = .t (.agg [.view V0, .view V1]) ∧ rows = []) := by rw [hV0, hV1]; exact ck
  replace ct : S → TCon Try.prog 8 [.agg [.view V0, .view V1]] (fun lo res rows => (∃ b0 b1, res = .t (.agg [.fv b0 V0, .fv b1 V1]) ∧ NewB lo (b0 ++ b1)) ∧ plainV res = true ∧ rows = []) := by rw [hV0, hV1]; exact ct
  replace ce : S → PCon Try.prog 12 [.agg [.view V0, .view V1], .agg [.view V0, .view V1]] (fun res rows => res = .t (abl true) ∧ rows = []) := by rw [hV0, hV1]; exact ce
  obtain ⟨⟨W, H, BB, fr⟩, t⟩ := mf
  obtain ⟨G, hG⟩ : ∃ G, G = vw GFrame.c fr := ⟨_, rfl⟩
  have iG : immE G = true := by rw [hG]; exact vw_imm _ _
  have kG : ∀ y ∈ G, y.length = 5 := by rw [hG]; exact vw_k (c := GFrame.c) (k := 5) fun _ => rfl
  have dG : ∀ y ∈ G, y.all dat = true := by rw [hG]; exact vw_dat
  have pG := imm_plainE iG
  simp only [← hmf] at hbs cs ci
  replace cs : S → PCon Try.prog 7 [.agg [.view V0, .view V1], ai a1, .agg [.imm (.int .i64 s0), .imm (.int .i64 s1)], .agg [.imm (.int .i64 t0), .imm (.int .i64 t1)], .c (.imm (.bool a4))] (fun res rows => res = .tup [.agg [.imm (.int .i64 W), .imm (.int .i64 H), .imm (.int .i64 BB), .own 0], .c (.imm (.bool t))] ∧ rows = [⟨79, 5, G⟩]) := by rw [hV0, hV1, hG]; exact cs
  replace ci : S → PCon Try.prog 10 [.agg [.view V0, .view V1], ai a1, .agg [.imm (.int .i64 s0), .imm (.int .i64 s1)], .agg [.imm (.int .i64 t0), .imm (.int .i64 t1)], .c (.imm (.bool a4))] (fun res rows => res = .tup [.agg [.imm (.int .i64 W), .imm (.int .i64 H), .imm (.int .i64 BB), .own 0], .c (.imm (.bool t))] ∧ rows = [⟨79, 5, G⟩]) := by rw [hV0, hV1, hG]; exact ci
  have cb : S → PCon Try.prog 11 [.agg [.imm (.int .i64 W), .imm (.int .i64 H), .imm (.int .i64 BB), .view G], .agg [.imm (.int .i64 W), .imm (.int .i64 H), .imm (.int .i64 BB), .view G]] (fun res rows => res = .t (abl true) ∧ rows = []) := fun hs => by rw [hG]; exact laws_eqBox_n ⟨W, H, BB, fr⟩ ⟨hbs hs, trivial⟩
  replace cm : S → ∃ (R0 R1 : List (List AC)) (K : Int), 0 ≤ K ∧ ∀ b0 b1 : List Nat, (b0 ++ b1).Nodup → MCon Try.prog 13 [.agg [.fv b0 V0, .fv b1 V1], ai 1] [(b0, V0, R0), (b1, V1, R1)] (.int .i64 K) := by rw [hV0, hV1]; exact cm
  have hGl : S → G.length ≤ 1048576 := fun hs => by rw [hG, vw_length]; exact hbs hs
  clear hS hV0 hV1 hmf hG hbs f0
  refine law_run [(5, .hand), (7, .hand), (13, .hand), (24, .hand)] [] (args := fun lo => [.agg [.old lo V0, .old lo V1], ai a1, .agg [.imm (.int .i64 s0), .imm (.int .i64 s1)], .agg [.imm (.int .i64 t0), .imm (.int .i64 t1)], .c (.imm (.bool a4))]) (c := body Try.f3) fits Try.func3 (by kernel_rfl) (by kernel_rfl) (fun _ => by rfl) (by kernel_rfl) (fun β g eff hd F hex heff hhd hg hF => ?_) (vs := [v0, .int .i64 a1, .agg #[.int .i64 s0, .int .i64 s1], .agg #[.int .i64 t0, .int .i64 t1], .bool a4]) rfl (argsR_cons (rt_old (xs := [.view V0, .view V1]) rfl r0) (argsR_cons rfl (argsR_cons (rt_agg (cs := #[.int .i64 s0, .int .i64 s1]) rfl) (argsR_cons (rt_agg (cs := #[.int .i64 t0, .int .i64 t1]) rfl) (argsR_cons rfl argsR_nil)))))
  clear r0
  cbv
  refine callDw hg cz ⟨⟨rfl, rfl, trivial⟩, rfl, trivial⟩ (fun res rows ⟨R, hres, hrows, hR1, hR2⟩ => ?_)
  subst hres hrows
  refine ⟨[], rfl, ?_⟩
  cbv
  cases hlt : g .q .lss R 0
  case true =>
    cbv
    rw [hF]
  rw [goLss hg, decide_eq_false_iff_not] at hlt
  have hsm : S := hR2 (by omega)
  replace ck := ck hsm
  replace ct := ct hsm
  replace ce := ce hsm
  replace cs := cs hsm
  replace ci := ci hsm
  replace cb := cb hsm
  replace cm := cm hsm
  replace hGl := hGl hsm
  clear hR1 hR2 hlt hsm cz
  have cS := laws_toSpace_a (⟨s0, s1⟩ : GSpace)
  have cT := laws_toSpace_a (⟨t0, t1⟩ : GSpace)
  replace cS : PCon Try.prog 9 [.agg [.imm (.int .i64 s0), .imm (.int .i64 s1)]] (fun res rows => res = .t (.agg [.imm (.int .i64 s0), .imm (.int .i64 s1)]) ∧ rows = []) := cS
  replace cT : PCon Try.prog 9 [.agg [.imm (.int .i64 t0), .imm (.int .i64 t1)]] (fun res rows => res = .t (.agg [.imm (.int .i64 t0), .imm (.int .i64 t1)]) ∧ rows = []) := cT
  have eT : g .qb .neq t t = false := by rw [goNeqB hg]; simp
  cbv
  -- the reference's answer, in a drawn order
  refine hand_cut [] [(5, 13, [11], [([], .op 13 (.op 14 .done .none) .none), ([11], .op 11 (.op 13 (.op 14 .done .none) .none) (.op 13 (.op 11 (.op 14 .done .none) .none) .none))])] heff hhd hg fits
    [(1, .t (ai (a1))), (4, .t (abl (a4))), (5, .t (.c (.ptr 0 0 0))), (7, .t (.c (.ptr 1 0 0))), (8, .t (.c (.ptr 2 0 0))), (12, .t (.c (.ptr 4 0 0))), (13, .t (abl (t)))] [.bx 25 2 [.old β.lo V0, .old β.lo V1], .bx 27 2 [.imm (.int .i64 s0), .imm (.int .i64 s1)], .bx 27 2 [.imm (.int .i64 t0), .imm (.int .i64 t1)], .rw ⟨79, 5, G⟩, .bx 31 4 [.imm (.int .i64 W), .imm (.int .i64 H), .imm (.int .i64 BB), .own 3]] (by kernel_rfl) (fun B hB => ?_) ?_
  · cbv
    refine call0DwP hg ck ⟨⟨rfl, rfl, trivial⟩, trivial⟩ rfl ?_
    cbv
    refine call0P hg cS rfl rfl ?_
    cbv
    refine call0P hg cT rfl rfl ?_
    cbv
    refine callTupP hg cs (dwA_same rfl) pG ?_
    cbv
    repeat' apply And.intro
    all_goals first | exact trivial | exact hB _ _ (Wk.weak (wkG [some _, some _, some _, some _, some _] ⟨rfl, rfl, rfl, rfl, rfl, rfl, rfl, trivial⟩ ⟨⟨_, _, rfl, rfl, rfl, rfl, .inl ⟨rfl, rfl⟩⟩, ⟨_, _, rfl, rfl, rfl, rfl, .inl ⟨rfl, rfl⟩⟩, ⟨_, _, rfl, rfl, rfl, rfl, .inl ⟨rfl, rfl⟩⟩, ⟨_, _, rfl, rfl, rfl, rfl, .inl ⟨rfl, pG⟩⟩, ⟨_, _, rfl, rfl, rfl, rfl, .inr ⟨⟨rfl, rfl, rfl, rfl, trivial⟩, trivial⟩⟩, trivial⟩ (by decide) no_lt))
  cbv
  -- the copy that is to be marked
  refine callT0 hg ct ⟨⟨rfl, rfl, trivial⟩, trivial⟩ (fun lo res q1 q2 q3 ⟨b0, b1, hres, hn⟩ => ?_)
  subst hres
  replace hn := hn.mono q1
  clear q1 q2 q3
  cbv
  refine hand_cut [] [(7, 12, [10], [([], .op 12 (.op 13 .done .none) .none), ([10], .op 10 (.op 12 (.op 13 .done .none) .none) (.op 12 (.op 10 (.op 13 .done .none) .none) .none))])] heff hhd hg fits
    [(1, .t (ai (a1))), (4, .t (abl (a4))), (5, .t (.c (.ptr 0 0 0))), (7, .t (.c (.ptr 1 0 0))), (8, .t (.c (.ptr 2 0 0))), (12, .t (.c (.ptr 4 0 0))), (13, .t (abl (t))), (14, .t (.c (.ptr 5 0 0))), (15, .t (.c (.ptr 7 0 0))), (16, .t (abl (t)))] [.bx 25 2 [.old β.lo V0, .old β.lo V1], .bx 27 2 [.imm (.int .i64 s0), .imm (.int .i64 s1)], .bx 27 2 [.imm (.int .i64 t0), .imm (.int .i64 t1)], .rw ⟨79, 5, G⟩, .bx 31 4 [.imm (.int .i64 W), .imm (.int .i64 H), .imm (.int .i64 BB), .own 3], .bx 37 2 [.fv b0 V0, .fv b1 V1], .rw ⟨79, 5, G⟩, .bx 31 4 [.imm (.int .i64 W), .imm (.int .i64 H), .imm (.int .i64 BB), .own 6]] (by kernel_rfl) (fun B hB => ?_) ?_
  · cbv
    refine call0P hg cS rfl rfl ?_
    cbv
    refine call0P hg cT rfl rfl ?_
    cbv
    refine callTupP hg ci ⟨⟨.inl rfl, .inl rfl, trivial⟩, rfl, ⟨rfl, rfl, trivial⟩, ⟨rfl, rfl, trivial⟩, rfl, trivial⟩ pG ?_
    cbv
    repeat' apply And.intro
    all_goals first | exact trivial | exact hB _ _ (Wk.weak (wkG [some _, some _, some _, some _, some _, some _, some _, some _] ⟨rfl, rfl, rfl, rfl, rfl, rfl, rfl, rfl, rfl, rfl, trivial⟩ ⟨⟨_, _, rfl, rfl, rfl, rfl, .inl ⟨rfl, rfl⟩⟩, ⟨_, _, rfl, rfl, rfl, rfl, .inl ⟨rfl, rfl⟩⟩, ⟨_, _, rfl, rfl, rfl, rfl, .inl ⟨rfl, rfl⟩⟩, ⟨_, _, rfl, rfl, rfl, rfl, .inl ⟨rfl, pG⟩⟩, ⟨_, _, rfl, rfl, rfl, rfl, .inr ⟨⟨rfl, rfl, rfl, rfl, trivial⟩, trivial⟩⟩, ⟨_, _, rfl, rfl, rfl, rfl, .inl ⟨rfl, rfl⟩⟩, ⟨_, _, rfl, rfl, rfl, rfl, .inl ⟨rfl, pG⟩⟩, ⟨_, _, rfl, rfl, rfl, rfl, .inr ⟨⟨rfl, rfl, rfl, rfl, trivial⟩, trivial⟩⟩, trivial⟩ (by decide) no_lt))
  cbv
  -- both answers are equal, and the copy is as the argument
  refine callXR hg cb (.agg (.cons (.imm _) (.cons (.imm _) (.cons (.imm _) (.cons (resRow (ab := ⟨_, _, G⟩) rfl kG dG) .nil)))) (.agg (.cons (.imm _) (.cons (.imm _) (.cons (.imm _) (.cons (resRow (ab := ⟨_, _, G⟩) rfl kG dG) .nil)))) .nil)) rfl ?_
  cbv
  rw [eT]
  cbv
  refine call0DwP hg ck ⟨⟨rfl, rfl, trivial⟩, trivial⟩ rfl ?_
  cbv
  refine call0DwP hg ce ⟨⟨.inl rfl, .inl rfl, trivial⟩, ⟨rfl, rfl, trivial⟩, trivial⟩ rfl ?_
  cbv
  -- the copy is marked
  obtain ⟨R0, R1, K, hK0, cm⟩ := cm
  have hm := cm b0 b1 hn.1
  clear cm
  refine hand_mark hg hhd fits 2 (by kernel_rfl) (fun mk hmk => ?_)
  cbv
  subst hmk
  refine ⟨_, _, _, [(b0, V0, R0), (b1, V1, R1)], _, [(1, .t (ai (a1))), (4, .t (abl (a4))), (5, .t (.c (.ptr 0 0 0))), (7, .t (.c (.ptr 1 0 0))), (8, .t (.c (.ptr 2 0 0))), (12, .t (.c (.ptr 4 0 0))), (13, .t (abl (t))), (15, .t (.c (.ptr 7 0 0))), (16, .t (abl (t)))], [.bx 25 2 [.old β.lo V0, .old β.lo V1], .bx 27 2 [.imm (.int .i64 s0), .imm (.int .i64 s1)], .bx 27 2 [.imm (.int .i64 t0), .imm (.int .i64 t1)], .rw ⟨79, 5, G⟩, .bx 31 4 [.imm (.int .i64 W), .imm (.int .i64 H), .imm (.int .i64 BB), .own 3], .bx 37 2 [.dead, .dead], .rw ⟨79, 5, G⟩, .bx 31 4 [.imm (.int .i64 W), .imm (.int .i64 H), .imm (.int .i64 BB), .own 6]], rfl, rfl, rfl, rfl, rfl, hm, fun u hu b hb => ?_, fun u hu => ?_,
    ⟨.inr (.inl ⟨rfl, trivial⟩), .inr (.inl ⟨rfl, trivial⟩), .inr (.inl ⟨rfl, trivial⟩), .inr (.inl ⟨rfl, trivial⟩), .inr (.inl ⟨rfl, trivial⟩), .inr (.inl ⟨rfl, trivial⟩), .inr (.inl ⟨rfl, trivial⟩), .inr (.inl ⟨rfl, trivial⟩), .inr (.inl ⟨rfl, trivial⟩), trivial⟩,
    ⟨⟨rfl, rfl, .inr (.inl ⟨rfl, fun u hu b hb => ?_⟩), .inr (.inl ⟨rfl, fun u hu b hb => ?_⟩), trivial⟩, ⟨rfl, rfl, .inr (.inl ⟨rfl, trivial⟩), .inr (.inl ⟨rfl, trivial⟩), trivial⟩, ⟨rfl, rfl, .inr (.inl ⟨rfl, trivial⟩), .inr (.inl ⟨rfl, trivial⟩), trivial⟩, .inl ⟨rfl, iG⟩, ⟨rfl, rfl, .inr (.inl ⟨rfl, trivial⟩), .inr (.inl ⟨rfl, trivial⟩), .inr (.inl ⟨rfl, trivial⟩), .inr (.inl ⟨rfl, trivial⟩), trivial⟩, ⟨rfl, rfl, .inl rfl, .inl rfl, trivial⟩, .inl ⟨rfl, iG⟩, ⟨rfl, rfl, .inr (.inl ⟨rfl, trivial⟩), .inr (.inl ⟨rfl, trivial⟩), .inr (.inl ⟨rfl, trivial⟩), .inr (.inl ⟨rfl, trivial⟩), trivial⟩, trivial⟩, ?_⟩
  · rcases List.mem_cons.1 hu with rfl | hu
    · exact hex b (hn.2 b (List.mem_append_left _ hb))
    · rw [List.mem_singleton.1 hu] at hb; exact hex b (hn.2 b (List.mem_append_right _ hb))
  · rcases List.mem_cons.1 hu with rfl | hu
    · exact ⟨_, List.mem_cons_self .., List.mem_cons_self ..⟩
    · rw [List.mem_singleton.1 hu]; exact ⟨_, List.mem_cons_self .., List.mem_cons_of_mem _ (List.mem_cons_self ..)⟩
  · rcases List.mem_cons.1 hu with rfl | hu
    · exact hn.2 b (List.mem_append_left _ hb)
    · rw [List.mem_singleton.1 hu] at hb; exact hn.2 b (List.mem_append_right _ hb)
  · rcases List.mem_cons.1 hu with rfl | hu
    · exact hn.2 b (List.mem_append_left _ hb)
    · rw [List.mem_singleton.1 hu] at hb; exact hn.2 b (List.mem_append_right _ hb)
  clear hm hn
  have eK : g .q .lss K 0 = false := by rw [goLss hg]; exact decide_eq_false (by omega)
  cbv
  rw [eK]
  cbv
  refine callXR hg cb (.agg (.cons (.imm _) (.cons (.imm _) (.cons (.imm _) (.cons (resRow (ab := ⟨_, _, G⟩) rfl kG dG) .nil)))) (.agg (.cons (.imm _) (.cons (.imm _) (.cons (.imm _) (.cons (resRow (ab := ⟨_, _, G⟩) rfl kG dG) .nil)))) .nil)) rfl ?_
  cbv
  rw [eT]
  cbv
  -- the answer is marked
  have cg := laws_markBox_a 1 W H BB G kG pG hGl (by decide) (by decide)
  have ch := laws_heldBox_a 1 W H BB G.length hGl (by decide) (by decide)
  rw [← lenI_eq] at ch
  obtain ⟨M, hM⟩ : ∃ M : Int, M = 1 + 5 * lenI G := ⟨_, rfl⟩
  obtain ⟨Y, hY⟩ : ∃ Y, Y = vw GFrame.c (marksFrame 1 G.length) := ⟨_, rfl⟩
  have pY : plainE Y = true := by rw [hY]; exact vw_plain _ _
  have kY : ∀ y ∈ Y, y.length = 5 := by rw [hY]; exact vw_k (c := GFrame.c) (k := 5) fun _ => rfl
  have dY : ∀ y ∈ Y, y.all dat = true := by rw [hY]; exact vw_dat
  have bM : ¬ M < 0 := by rw [hM, lenI_eq]; omega
  rw [← hM, ← hY] at cg ch
  have eM : g .q .lss M 0 = false := by rw [goLss hg]; exact decide_eq_false bM
  have eN : g .q .neq M M = false := by rw [goNeq hg]; simp
  refine callMB hg 6 cg rfl pG pY rfl ?_
  cbv
  refine callXR hg ch (.agg (.cons (.imm _) (.cons (.imm _) (.cons (.imm _) (.cons (resRow (ab := ⟨_, _, Y⟩) rfl kY dY) .nil)))) (.c (.imm _) .nil)) rfl ?_
  cbv
  rw [eM]
  cbv
  rw [eN]
  cbv
  -- a second answer leaves the first one as it is
  refine hand_cut [] [(24, 13, [11], [([], .op 13 (.op 14 .done .none) .none), ([11], .op 11 (.op 13 (.op 14 .done .none) .none) (.op 13 (.op 11 (.op 14 .done .none) .none) .none))])] heff hhd hg fits
    [(12, .t (.c (.ptr 4 0 0))), (13, .t (abl (t))), (15, .t (.c (.ptr 7 0 0))), (18, .t (ai (M))), (20, .t (.c (.ptr 9 0 0))), (21, .t (abl (t)))] [.bx 25 2 [.old β.lo V0, .old β.lo V1], .bx 27 2 [.imm (.int .i64 s0), .imm (.int .i64 s1)], .bx 27 2 [.imm (.int .i64 t0), .imm (.int .i64 t1)], .rw ⟨79, 5, G⟩, .bx 31 4 [.imm (.int .i64 W), .imm (.int .i64 H), .imm (.int .i64 BB), .own 3], .bx 37 2 [.dead, .dead], .rw ⟨79, 5, Y⟩, .bx 31 4 [.imm (.int .i64 W), .imm (.int .i64 H), .imm (.int .i64 BB), .own 6], .rw ⟨79, 5, G⟩, .bx 31 4 [.imm (.int .i64 W), .imm (.int .i64 H), .imm (.int .i64 BB), .own 8]] (by kernel_rfl) (fun B hB => ?_) ?_
  · cbv
    refine call0DwP hg ck ⟨⟨rfl, rfl, trivial⟩, trivial⟩ rfl ?_
    cbv
    refine call0P hg cS rfl rfl ?_
    cbv
    refine call0P hg cT rfl rfl ?_
    cbv
    refine callTupP hg ci (dwA_same rfl) pG ?_
    cbv
    repeat' apply And.intro
    all_goals first | exact trivial | exact hB _ _ (Wk.weak (wkG [some 0, some 1, some 2, some 3, some 4, some 5, some 6, some 7, some 8, some 9] ⟨rfl, rfl, rfl, rfl, rfl, rfl, trivial⟩ ⟨⟨_, _, rfl, rfl, rfl, rfl, .inl ⟨rfl, rfl⟩⟩, ⟨_, _, rfl, rfl, rfl, rfl, .inl ⟨rfl, rfl⟩⟩, ⟨_, _, rfl, rfl, rfl, rfl, .inl ⟨rfl, rfl⟩⟩, ⟨_, _, rfl, rfl, rfl, rfl, .inl ⟨rfl, pG⟩⟩, ⟨_, _, rfl, rfl, rfl, rfl, .inr ⟨⟨rfl, rfl, rfl, rfl, trivial⟩, trivial⟩⟩, ⟨_, _, rfl, rfl, rfl, rfl, .inl ⟨rfl, rfl⟩⟩, ⟨_, _, rfl, rfl, rfl, rfl, .inl ⟨rfl, pY⟩⟩, ⟨_, _, rfl, rfl, rfl, rfl, .inr ⟨⟨rfl, rfl, rfl, rfl, trivial⟩, trivial⟩⟩, ⟨_, _, rfl, rfl, rfl, rfl, .inl ⟨rfl, pG⟩⟩, ⟨_, _, rfl, rfl, rfl, rfl, .inr ⟨⟨rfl, rfl, rfl, rfl, trivial⟩, trivial⟩⟩, trivial⟩ (by decide) no_lt))
  cbv
  refine callXR hg cb (.agg (.cons (.imm _) (.cons (.imm _) (.cons (.imm _) (.cons (resRow (ab := ⟨_, _, G⟩) rfl kG dG) .nil)))) (.agg (.cons (.imm _) (.cons (.imm _) (.cons (.imm _) (.cons (resRow (ab := ⟨_, _, G⟩) rfl kG dG) .nil)))) .nil)) rfl ?_
  cbv
  rw [eT]
  cbv
  refine callXR hg ch (.agg (.cons (.imm _) (.cons (.imm _) (.cons (.imm _) (.cons (resRow (ab := ⟨_, _, Y⟩) rfl kY dY) .nil)))) (.c (.imm _) .nil)) rfl ?_
  cbv
  rw [eM]
  cbv
  rw [eN]
  cbv
  rw [hF]

end Go.Proofs.Ytenbloaopcfdlaa
