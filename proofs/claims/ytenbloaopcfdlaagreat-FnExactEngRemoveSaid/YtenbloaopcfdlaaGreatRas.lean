/- The laws' copies of structs that hold slices, with the blocks that they make. Frames on a grid: one and all. -/
import Derived.Test.YtenbloaopcfdlaaGreatRar
namespace Go.Proofs.YtenbloaopcfdlaaGreat
open Go.ChangeShapes Go.WideShapes Go.ChangeAt Go.RowKit Am
set_option linter.unusedVariables false
set_option linter.unusedSimpArgs false
set_option maxRecDepth 100000
def NewB (lo : Nat) (bs : List Nat) : Prop := bs.Nodup ∧ ∀ b ∈ bs, lo ≤ b
theorem NewB.mono {lo lo' : Nat} {bs : List Nat} (h : lo ≤ lo') (hn : NewB lo' bs) : NewB lo bs := ⟨hn.1, fun b hb => Nat.le_trans h (hn.2 b hb)⟩
theorem NewB.nil (lo : Nat) : NewB lo [] := ⟨List.nodup_nil, fun b hb => by simp at hb⟩
theorem NewB.app {lo lo' : Nat} {ps bs : List Nat} (h : lo ≤ lo') (ha : NewB lo ps) (hb : NewB lo' bs) (hlt : ∀ b ∈ ps, b < lo') : NewB lo (ps ++ bs) :=
  ⟨List.nodup_append.2 ⟨ha.1, hb.1, fun a h1 b h2 he => by have := hlt a h1; have := hb.2 b h2; omega⟩, fun b hb' => (List.mem_append.1 hb').elim (ha.2 b) fun h2 => Nat.le_trans h (hb.2 b h2)⟩
theorem NewB.left {lo : Nat} {ps bs : List Nat} (h : NewB lo (ps ++ bs)) : NewB lo ps := ⟨(List.nodup_append.1 h.1).1, fun b hb => h.2 b (List.mem_append_left _ hb)⟩
theorem NewB.right {lo : Nat} {ps bs : List Nat} (h : NewB lo (ps ++ bs)) : NewB lo bs := ⟨(List.nodup_append.1 h.1).2.1, fun b hb => h.2 b (List.mem_append_right _ hb)⟩
theorem imm_of {V : List (List AC)} (h : immE V = true) : ∀ y ∈ V, ∀ c ∈ y, ∃ u, c = .imm u := fun y hy c hc => by
  unfold immE at h
  have := List.all_eq_true.1 (List.all_eq_true.1 h y hy) c hc
  cases c <;> first | exact ⟨_, rfl⟩ | cases this
theorem imm_vw {V : List (List AC)} (h : immE V = true) : V.map (·.map vwC) = V := by
  refine (List.map_congr_left (g := id) fun x hx => ?_).trans (List.map_id V)
  refine (List.map_congr_left (g := id) fun c hc => ?_).trans (List.map_id x)
  obtain ⟨u, rfl⟩ := imm_of h x hx c hc
  rfl
theorem imm_fp {V : List (List AC)} (h : immE V = true) : fpE V = [] := by
  unfold fpE
  rw [List.flatMap_eq_nil_iff]
  intro y hy
  unfold fpL
  rw [List.flatMap_eq_nil_iff]
  intro c hc
  obtain ⟨u, rfl⟩ := imm_of h y hy c hc
  rfl
theorem bare_plainL {e : List AC} (h : e.all bareF = true) : e.all plain = true := List.all_eq_true.2 fun c hc => by
  have := List.all_eq_true.1 h c hc
  cases c <;> first | rfl | cases this
theorem bare_plainE {es : List (List AC)} (h : ∀ e ∈ es, e.all bareF = true) : plainE es = true := List.all_eq_true.2 fun e he => bare_plainL (h e he)
theorem ress_bareC {bl : Nat → Nat} {h : AH} {c : AC} (hb : bareF c = true) : ResS bl h c c := by
  cases c <;> first | exact .imm _ | exact .fv _ _ | cases hb
theorem ress_bareRow {bl : Nat → Nat} {h : AH} {r : Nat} {ab : AB} (hr : h[r]? = some (.live ab)) (hb : ∀ e ∈ ab.es, e.all bareF = true) : ResS bl h (.own r) (.fv (hd1 (bl r) ab.es ++ fpE ab.es) (ab.es.map (·.map vwC))) :=
  .row r ab ab.es hr rfl (fun i x y hx hy => by rw [hx] at hy; cases hy; rfl) fun i x y hx hy j c d hc hd => by
    rw [hx] at hy
    cases hy
    rw [hc] at hd
    cases hd
    exact ress_bareC (List.all_eq_true.1 (hb x (List.mem_of_getElem? hx)) c (List.mem_of_getElem? hc))
theorem ress_immRow {bl : Nat → Nat} {h : AH} {r : Nat} {ab : AB} (hr : h[r]? = some (.live ab)) (hi : immE ab.es = true) : ResS bl h (.own r) (.fv (hd1 (bl r) ab.es) ab.es) := by
  have := ress_bareRow (bl := bl) hr (fun e he => List.all_eq_true.2 fun c hc => by obtain ⟨u, rfl⟩ := imm_of hi e he c hc; rfl)
  rwa [imm_vw hi, imm_fp hi, List.append_nil] at this
theorem blk_new {lo : Nat} {bl : Nat → Nat} {h : AH} {xs : List AT} (hb : BlkOk lo bl h xs) {r : Nat} {ab : AB} (hr : h[r]? = some (.live ab)) : NewB lo (hd1 (bl r) ab.es) := by
  cases he : ab.es with
  | nil => exact NewB.nil lo
  | cons e es => exact ⟨by simp [hd1], fun b hb' => by simp only [hd1, List.mem_singleton] at hb'; subst hb'; exact (hb r ab hr (by rw [he]; simp)).1⟩
theorem blk_row {lo : Nat} {bl : Nat → Nat} {h : AH} {xs : List AT} (hb : BlkOk lo bl h xs) {r : Nat} {ab : AB} (hr : h[r]? = some (.live ab)) (hn : NewB lo (fpE ab.es)) : NewB lo (hd1 (bl r) ab.es ++ fpE ab.es) := by
  refine ⟨List.nodup_append.2 ⟨(blk_new hb hr).1, hn.1, fun a h1 b h2 he => ?_⟩, fun b hb' => (List.mem_append.1 hb').elim ((blk_new hb hr).2 b) (hn.2 b)⟩
  subst he
  cases hes : ab.es with
  | nil => rw [hes] at h1; simp [hd1] at h1
  | cons e es =>
    rw [hes] at h1
    simp only [hd1, List.mem_singleton] at h1
    subst h1
    obtain ⟨x, hx, hb'⟩ := List.mem_flatMap.1 h2
    obtain ⟨c, hc, hb''⟩ := List.mem_flatMap.1 hb'
    exact (hb r ab hr (by rw [hes]; simp)).2.2.1 r ab hr x hx c hc hb''
theorem blk_tail {lo : Nat} {bl : Nat → Nat} {h : AH} {xs : List AT} (hb : BlkOk lo bl h xs) {r : Nat} {ab : AB} (hr : h[r]? = some (.live ab)) {ps : List Nat} {ys : List (List AC)} {x : AT} (hx : x ∈ xs) (hc : .fv ps ys ∈ x.cells) (hn : NewB lo ps) : NewB lo (ps ++ hd1 (bl r) ab.es) := by
  refine ⟨List.nodup_append.2 ⟨hn.1, (blk_new hb hr).1, fun a h1 b h2 he => ?_⟩, fun b hb' => (List.mem_append.1 hb').elim (hn.2 b) ((blk_new hb hr).2 b)⟩
  subst he
  cases hes : ab.es with
  | nil => rw [hes] at h2; simp [hd1] at h2
  | cons e es =>
    rw [hes] at h2
    simp only [hd1, List.mem_singleton] at h2
    subst h2
    exact (hb r ab hr (by rw [hes]; simp)).2.2.2 x hx _ hc h1
theorem fpE_set : ∀ (es : List (List AC)) (j : Nat) (y : List AC), j < es.length → (∀ (i : Nat) (e : List AC), j ≤ i → es[i]? = some e → fpL e = []) → fpE (es.set j y) = fpE es ++ fpL y
  | [], j, y, hj, _ => by simp at hj
  | e :: es, 0, y, _, hz => by
    have h1 : fpE es = [] := by
      unfold fpE
      rw [List.flatMap_eq_nil_iff]
      intro x hx
      obtain ⟨i, hi, rfl⟩ := List.getElem_of_mem hx
      exact hz (i + 1) _ (Nat.zero_le _) (by simp [hi])
    have h2 := hz 0 e (Nat.le_refl _) rfl
    show fpL y ++ fpE es = fpL e ++ fpE es ++ fpL y
    rw [h1, h2]; simp
  | e :: es, j + 1, y, hj, hz => by
    have := fpE_set es j y (by simpa using hj) (fun i x hi hx => hz (i + 1) x (by omega) (by simpa using hx))
    show fpL e ++ fpE (es.set j y) = fpL e ++ fpE es ++ fpL y
    rw [this, List.append_assoc]
structure FillT (k : Nat) (V es : List (List AC)) (z : Int) (lo : Nat) : Prop where
  z0 : 0 ≤ z
  z1 : z ≤ lenI V
  len : es.length = V.length
  kk : ∀ e ∈ es, e.length = k
  bare : ∀ e ∈ es, e.all bareF = true
  done : ∀ i : Nat, (i : Int) < z → (es[i]?).map (·.map vwC) = V[i]?
  zero : ∀ (i : Nat) (e : List AC), z ≤ (i : Int) → es[i]? = some e → fpL e = []
  new : NewB lo (fpE es)
theorem FillT.start {k : Nat} {V : List (List AC)} {row : List AC} {n : Int} {lo : Nat} (hk : row.length = k) (hi : immE [row] = true) (hn : n = lenI V) : FillT k V (List.replicate n.toNat row) 0 lo := by
  have hrow := imm_of hi row (by simp)
  have hfp : fpL row = [] := by unfold fpL; rw [List.flatMap_eq_nil_iff]; intro c hc; obtain ⟨u, rfl⟩ := hrow c hc; rfl
  rw [lenI_eq] at hn
  refine ⟨Int.le_refl 0, by rw [lenI_eq]; omega, by simp [hn], fun e he => ?_, fun e he => ?_, fun i hi => by omega, fun i e _ he => ?_, ?_⟩
  · rw [List.eq_of_mem_replicate he]; exact hk
  · rw [List.eq_of_mem_replicate he]; exact List.all_eq_true.2 fun c hc => by obtain ⟨u, rfl⟩ := hrow c hc; rfl
  · rw [List.eq_of_mem_replicate (List.mem_of_getElem? he)]; exact hfp
  · have : fpE (List.replicate n.toNat row) = [] := by unfold fpE; rw [List.flatMap_eq_nil_iff]; intro e he; rw [List.eq_of_mem_replicate he]; exact hfp
    rw [this]; exact NewB.nil lo
theorem FillT.step {k : Nat} {V es : List (List AC)} {z : Int} {lo lo' j : Nat} {y v : List AC} (hs : FillT k V es z lo) (hc : z < lenI V) (hj : j = z.toNat) (hv : V[z.toNat]? = some v) (hy : y.map vwC = v) (hk : y.length = k) (hb : y.all bareF = true) (hlo : lo ≤ lo') (hn : NewB lo' (fpL y)) (hlt : ∀ b ∈ fpE es, b < lo') : FillT k V (es.set j y) (z + 1) lo := by
  have h0 := hs.z0
  have hjl : j < es.length := by rw [hs.len]; rw [lenI_eq] at hc; omega
  subst hj
  refine ⟨by omega, by omega, by simp [hs.len], fun e he => ?_, fun e he => ?_, fun i hi => ?_, fun i e hi he => ?_, ?_⟩
  · rcases List.mem_or_eq_of_mem_set he with h | h
    · exact hs.kk e h
    · rw [h]; exact hk
  · rcases List.mem_or_eq_of_mem_set he with h | h
    · exact hs.bare e h
    · rw [h]; exact hb
  · by_cases hiz : i = z.toNat
    · subst hiz
      rw [List.getElem?_set_self hjl, Option.map_some, hv, hy]
    · rw [List.getElem?_set_ne (fun h => hiz h.symm)]
      exact hs.done i (by omega)
  · rw [List.getElem?_set_ne (by omega)] at he
    exact hs.zero i e (by omega) he
  · rw [fpE_set es z.toNat y hjl (fun i e hi he => hs.zero i e (by omega) he)]
    exact NewB.app hlo hs.new hn hlt
theorem FillT.all {k : Nat} {V es : List (List AC)} {z : Int} {lo : Nat} (hs : FillT k V es z lo) (hz : ¬ z < lenI V) : es.map (·.map vwC) = V := by
  refine List.ext_getElem? fun i => ?_
  rw [List.getElem?_map]
  by_cases hi : i < V.length
  · exact hs.done i (by rw [lenI_eq] at hz; omega)
  · rw [List.getElem?_eq_none (by rw [hs.len]; omega), List.getElem?_eq_none (by omega)]; rfl
theorem FillT.mem {k : Nat} {V es : List (List AC)} {z : Int} {lo j : Nat} (hs : FillT k V es z lo) (hj : j < es.length) : ∃ e, es[j]? = some e ∧ e.length = k := ⟨es[j], List.getElem?_eq_getElem hj, hs.kk _ (List.getElem_mem hj)⟩
theorem goYt {P : Program} {n0 N : Nat} {β : BP} {g : Gd} (hg : g = G0 P n0 N) {xs : List (List AC)} {z : Int} {j k : Nat} {K : Nat → Prop} (hz : 0 ≤ z) (hj : j = z.toNat) (hy : j < xs.length) (hK : K j) : g .Y k xs z K := by subst hg hj; exact ⟨hz, hy, hK⟩
set_option maxHeartbeats 8000000 in
theorem laws_toBox_t (x : NBox) (hs : x.small) : TCon Tryz.prog 137 [.agg x.ac] fun lo res rows => (∃ b3, res = .t (.agg [.imm (.int .i64 x.wide), .imm (.int .i64 x.high), .imm (.int .i64 x.base), .fv b3 (vw GFrame.c x.frames)]) ∧ NewB lo b3) ∧ plainV res = true ∧ rows = [] := by
  obtain ⟨a0, a1, a2, a3⟩ := x
  obtain ⟨sa3, -⟩ := hs
  show TCon _ _ [.agg [.imm (.int .i64 a0), .imm (.int .i64 a1), .imm (.int .i64 a2), .view (vw GFrame.c a3)]] (fun lo res rows => (∃ b3, res = .t (.agg [.imm (.int .i64 a0), .imm (.int .i64 a1), .imm (.int .i64 a2), .fv b3 (vw GFrame.c a3)]) ∧ NewB lo b3) ∧ plainV res = true ∧ rows = [])
  have c3 := toRow (laws_toFrameS_a a3 sa3)
  obtain ⟨Va3, hVa3⟩ : ∃ Va3, Va3 = vw GFrame.c a3 := ⟨_, rfl⟩
  have hVa3l : Va3.length = a3.length := by rw [hVa3, vw_length]
  have iVa3 : immE Va3 = true := by rw [hVa3]; exact vw_imm _ _
  have kVa3 : ∀ y ∈ Va3, y.length = 5 := by rw [hVa3]; exact vw_k (c := GFrame.c) (k := 5) fun _ => rfl
  have dVa3 : ∀ y ∈ Va3, y.all dat = true := by rw [hVa3]; exact vw_dat
  rw [← hVa3] at c3
  rw [← hVa3]
  refine tcon_run ([]) ([]) (c := body Tryz.f137) fits Tryz.func137 (by kernel_rfl) (by kernel_rfl) (by rfl) (by kernel_rfl) fun β g eff hd F heff hhd hg hF => ?_
  cbv
  repeat' (first | (refine callRow hg c3 (dat_data rfl) iVa3 ?_; cbv) | (refine callRowP hg c3 (dat_data rfl) iVa3 ?_; cbv))
  refine finTS hF fun bl hbl => ⟨[.agg [.imm (.int .i64 a0), .imm (.int .i64 a1), .imm (.int .i64 a2), .fv (hd1 (bl 3) Va3) Va3]], .agg (.cons (.imm _) (.cons (.imm _) (.cons (.imm _) (.cons (ress_immRow (r := 3) (ab := ⟨_, _, Va3⟩) rfl iVa3) .nil)))) .nil, ⟨_, rfl, blk_new hbl (r := 3) (ab := ⟨_, _, Va3⟩) rfl⟩, rfl, rfl⟩
set_option maxHeartbeats 8000000 in
theorem laws_toMemo_t (x : NMemo) (hs : x.small) : TCon Tryz.prog 120 [.agg x.ac] fun lo res rows => (∃ b9, res = .t (.agg [.imm (.int .i64 x.node), .imm (.int .i64 x.wide.mode), .imm (.int .i64 x.wide.n), .imm (.int .i64 x.high.mode), .imm (.int .i64 x.high.n), .imm (.bool x.rtl), .imm (.int .i64 x.box.wide), .imm (.int .i64 x.box.high), .imm (.int .i64 x.box.base), .fv b9 (vw GFrame.c x.box.frames)]) ∧ NewB lo b9) ∧ plainV res = true ∧ rows = [] := by
  obtain ⟨a0, ⟨a1, a2⟩, ⟨a3, a4⟩, a5, ⟨a6, a7, a8, a9⟩⟩ := x
  obtain ⟨sa9, -⟩ := hs
  show TCon _ _ [.agg [.imm (.int .i64 a0), .imm (.int .i64 a1), .imm (.int .i64 a2), .imm (.int .i64 a3), .imm (.int .i64 a4), .imm (.bool a5), .imm (.int .i64 a6), .imm (.int .i64 a7), .imm (.int .i64 a8), .view (vw GFrame.c a9)]] (fun lo res rows => (∃ b9, res = .t (.agg [.imm (.int .i64 a0), .imm (.int .i64 a1), .imm (.int .i64 a2), .imm (.int .i64 a3), .imm (.int .i64 a4), .imm (.bool a5), .imm (.int .i64 a6), .imm (.int .i64 a7), .imm (.int .i64 a8), .fv b9 (vw GFrame.c a9)]) ∧ NewB lo b9) ∧ plainV res = true ∧ rows = [])
  have c6 := laws_toBox_t ⟨a6, a7, a8, a9⟩ ⟨sa9, trivial⟩
  replace c6 : TCon Tryz.prog 137 [.agg [.imm (.int .i64 a6), .imm (.int .i64 a7), .imm (.int .i64 a8), .view (vw GFrame.c a9)]] (fun lo res rows => (∃ b3, res = .t (.agg [.imm (.int .i64 a6), .imm (.int .i64 a7), .imm (.int .i64 a8), .fv b3 (vw GFrame.c a9)]) ∧ NewB lo b3) ∧ plainV res = true ∧ rows = []) := c6
  obtain ⟨Va9, hVa9⟩ : ∃ V, V = vw GFrame.c a9 := ⟨_, rfl⟩
  rw [← hVa9] at c6
  rw [← hVa9]
  refine tcon_run ([]) ([]) (c := body Tryz.f120) fits Tryz.func120 (by kernel_rfl) (by kernel_rfl) (by rfl) (by kernel_rfl) fun β g eff hd F heff hhd hg hF => ?_
  cbv
  repeat' (first | (refine call0 hg (laws_toSpace_a (⟨a1, a2⟩ : GSpace)) rfl rfl ?_; cbv) | (refine call0 hg (laws_toSpace_a (⟨a3, a4⟩ : GSpace)) rfl rfl ?_; cbv))
  refine callT0 hg c6 (dwA_same rfl) (fun lo res h1 h2 h3 ⟨b9, hres, hn⟩ => ?_)
  subst hres
  cbv
  exact finT0 hF rfl ⟨⟨b9, rfl, hn.mono h1⟩, rfl, rfl⟩
set_option maxHeartbeats 8000000 in
theorem laws_toMemoS_t (xs : List NMemo) (hl : xs.length ≤ 1048576) (hs : ∀ y ∈ xs, y.small) : TCon Tryz.prog 81 [.c (.view (vwA NMemo.ac xs))] fun lo res rows => (∃ bs, res = .t (.c (.fv bs (vwA NMemo.ac xs))) ∧ NewB lo bs) ∧ plainV res = true ∧ rows = [] := by
  obtain ⟨V, hV⟩ : ∃ V, V = vwA NMemo.ac xs := ⟨_, rfl⟩
  have hVl : V.length = xs.length := by rw [hV, vwA_length]
  have hVx : lenI V = (xs.length : Int) := by rw [lenI_eq]; omega
  have hV1 : lenI V ≤ 1048576 := by omega
  rw [← hV]
  refine tcon_run ([]) ([]) (c := body Tryz.f81) fits Tryz.func81 (by kernel_rfl) (by kernel_rfl) (by rfl) (by kernel_rfl) fun β g eff hd F heff hhd hg hF => ?_
  cbv
  refine goMk hg (by decide) (by rw [hVl]; exact hl) ?_
  cbv
  have hst : FillT 10 V (List.replicate (g .ln V).toNat [.imm (.int .i64 0), .imm (.int .i64 0), .imm (.int .i64 0), .imm (.int .i64 0), .imm (.int .i64 0), .imm (.bool false), .imm (.int .i64 0), .imm (.int .i64 0), .imm (.int .i64 0), .imm (.slice none 0 0)]) 0 β.lo := FillT.start rfl rfl (goLn hg V)
  refine loop_runW4 [] [] heff hhd hg fits (by kernel_rfl) (fun s : Int × List (List AC) => [(0, .t (.c (.view V))), (3, .t (.c (.own 0))), (4, .t (ai s.1))]) (fun s => [.rw ⟨166, 10, s.2⟩]) (fun s => FillT 10 V s.2 s.1 β.lo) (fun s => (lenI V).toNat - s.1.toNat)
    (0, g .rp (g .ln V) [.imm (.int .i64 0), .imm (.int .i64 0), .imm (.int .i64 0), .imm (.int .i64 0), .imm (.int .i64 0), .imm (.bool false), .imm (.int .i64 0), .imm (.int .i64 0), .imm (.int .i64 0), .imm (.slice none 0 0)]) ?_ (Wk.weak (wkS [0] (by decide) ⟨⟨_, rfl, rfl, ?_⟩, trivial⟩ ⟨rfl, rfl, rfl, trivial⟩)) (fun s B hs' hB => ?_)
  · simp only [goRp hg]; exact hst
  · simp only [goRp hg]; exact bare_plainE hst.bare
  · obtain ⟨z, es⟩ := s
    simp only at hs'
    have h0 := hs'.z0
    have h1 := hs'.z1
    have hlen := hs'.len
    cbv
    cases hc : g .q .lss z (g .ln V)
    · cbv
      rw [goLss hg, goLn hg, decide_eq_false_iff_not] at hc
      have hall := hs'.all hc
      refine finTS hF fun bl hbl => ⟨[.c (.fv (hd1 (bl 0) es ++ fpE es) V)], .c (by have := ress_bareRow (bl := bl) (h := toH [.rw ⟨166, 10, es⟩]) (r := 0) (ab := ⟨166, 10, es⟩) rfl hs'.bare; rw [hall] at this; exact this) .nil, ⟨_, rfl, blk_row hbl (r := 0) (ab := ⟨_, _, es⟩) rfl hs'.new⟩, rfl, rfl⟩
    · cbv
      rw [goLss hg, goLn hg, decide_eq_true_eq] at hc
      obtain ⟨x, hx⟩ := at_z (xs := xs) h0 (lt_viaN hVx hc)
      have hsx := hs x (List.mem_of_getElem? hx)
      have hyy : V[z.toNat]? = some x.ac := by rw [hV]; exact vwA_at hx
      have cx := laws_toMemo_t x hsx
      obtain ⟨a0, ⟨a1, a2⟩, ⟨a3, a4⟩, a5, ⟨a6, a7, a8, a9⟩⟩ := x
      replace hyy : V[z.toNat]? = some [.imm (.int .i64 a0), .imm (.int .i64 a1), .imm (.int .i64 a2), .imm (.int .i64 a3), .imm (.int .i64 a4), .imm (.bool a5), .imm (.int .i64 a6), .imm (.int .i64 a7), .imm (.int .i64 a8), .view (vw GFrame.c a9)] := hyy
      replace cx : TCon _ _ [.agg [.imm (.int .i64 a0), .imm (.int .i64 a1), .imm (.int .i64 a2), .imm (.int .i64 a3), .imm (.int .i64 a4), .imm (.bool a5), .imm (.int .i64 a6), .imm (.int .i64 a7), .imm (.int .i64 a8), .view (vw GFrame.c a9)]] (fun lo res rows => (∃ b9, res = .t (.agg [.imm (.int .i64 a0), .imm (.int .i64 a1), .imm (.int .i64 a2), .imm (.int .i64 a3), .imm (.int .i64 a4), .imm (.bool a5), .imm (.int .i64 a6), .imm (.int .i64 a7), .imm (.int .i64 a8), .fv b9 (vw GFrame.c a9)]) ∧ NewB lo b9) ∧ plainV res = true ∧ rows = []) := cx
      obtain ⟨Va9, hVa9⟩ : ∃ V, V = vw GFrame.c a9 := ⟨_, rfl⟩
      rw [← hVa9] at hyy cx
      refine goX hg _ h0 hyy rfl ?_
      cbv
      refine callT0 hg cx (dwA_same rfl) (fun lo res q1 q2 q3 ⟨b9, hres, hn⟩ => ?_)
      subst hres
      have hlt : ∀ b ∈ fpE es, b < lo := fun b hb => q2 b (List.mem_append_left _ hb)
      clear q2 q3
      cbv
      obtain ⟨j, hj⟩ : ∃ j, j = z.toNat := ⟨_, rfl⟩
      refine goYt hg h0 hj (lt_lenJ h0 (lt_eqI hlen hc) hj) ?_
      cbv
      refine goN hg (hs'.mem (lt_lenJ h0 (lt_eqI hlen hc) hj)) ?_
      cbv
      have h2 : g .w .add .i64 z 1 = z + 1 := by rw [goAdd hg, wrap_small _ (by omega)]
      rw [h2, goSt hg]
      have hs2 := hs'.step (y := [.imm (.int .i64 a0), .imm (.int .i64 a1), .imm (.int .i64 a2), .imm (.int .i64 a3), .imm (.int .i64 a4), .imm (.bool a5), .imm (.int .i64 a6), .imm (.int .i64 a7), .imm (.int .i64 a8), .fv b9 Va9]) hc hj hyy rfl rfl rfl q1 (by simpa [fpL, fpC] using hn) hlt
      rw [hB]
      exact ⟨(z + 1, _), hs2, by show (lenI V).toNat - (z + 1).toNat < (lenI V).toNat - z.toNat; omega, Wk.weak (wkS [0] (by decide) ⟨⟨_, rfl, rfl, bare_plainE hs2.bare⟩, trivial⟩ ⟨rfl, rfl, rfl, trivial⟩)⟩
set_option maxHeartbeats 8000000 in
theorem laws_toKept_t (x : NKept) (hs : x.small) : TCon Tryz.prog 37 [.agg x.ac] fun lo res rows => (∃ b0 b1, res = .t (.agg [.fv b0 (vwA NMemo.ac x.memos), .fv b1 (vw GAsked.c x.asked)]) ∧ NewB lo (b0 ++ b1)) ∧ plainV res = true ∧ rows = [] := by
  obtain ⟨a0, a1⟩ := x
  obtain ⟨sa0, ua0, sa1, -⟩ := hs
  show TCon _ _ [.agg [.view (vwA NMemo.ac a0), .view (vw GAsked.c a1)]] (fun lo res rows => (∃ b0 b1, res = .t (.agg [.fv b0 (vwA NMemo.ac a0), .fv b1 (vw GAsked.c a1)]) ∧ NewB lo (b0 ++ b1)) ∧ plainV res = true ∧ rows = [])
  have c0 := laws_toMemoS_t a0 sa0 ua0
  have c1 := toRow (laws_toAskedS_a a1 sa1)
  obtain ⟨Va0, hVa0⟩ : ∃ V, V = vwA NMemo.ac a0 := ⟨_, rfl⟩
  obtain ⟨Va1, hVa1⟩ : ∃ Va1, Va1 = vw GAsked.c a1 := ⟨_, rfl⟩
  have hVa1l : Va1.length = a1.length := by rw [hVa1, vw_length]
  have iVa1 : immE Va1 = true := by rw [hVa1]; exact vw_imm _ _
  have kVa1 : ∀ y ∈ Va1, y.length = 6 := by rw [hVa1]; exact vw_k (c := GAsked.c) (k := 6) fun _ => rfl
  have dVa1 : ∀ y ∈ Va1, y.all dat = true := by rw [hVa1]; exact vw_dat
  rw [← hVa0] at c0
  rw [← hVa1] at c1
  rw [← hVa0, ← hVa1]
  refine tcon_run ([]) ([]) (c := body Tryz.f37) fits Tryz.func37 (by kernel_rfl) (by kernel_rfl) (by rfl) (by kernel_rfl) fun β g eff hd F heff hhd hg hF => ?_
  cbv
  refine callT0 hg c0 (dwA_same rfl) (fun lo res q1 q2 q3 ⟨b0, hres, hn⟩ => ?_)
  subst hres
  clear q2 q3
  cbv
  refine callRow hg c1 (dat_data rfl) iVa1 ?_
  cbv
  refine finTS hF fun bl hbl => ⟨[.agg [.fv b0 Va0, .fv (hd1 (bl 3) Va1) Va1]], .agg (.cons (.fv _ _) (.cons (ress_immRow (r := 3) (ab := ⟨_, _, Va1⟩) rfl iVa1) .nil)) .nil, ⟨_, _, rfl, blk_tail hbl (r := 3) (ab := ⟨_, _, Va1⟩) rfl (List.mem_singleton.2 rfl) (ps := b0) (ys := Va0) (List.mem_cons_self ..) (hn.mono q1)⟩, rfl, rfl⟩
end Go.Proofs.YtenbloaopcfdlaaGreat
namespace Go.Proofs.YtenbloaopcfdlaaGreat
open Go.ChangeShapes Go.WideShapes Go.ChangeAt Go.RowKit Am
set_option linter.unusedVariables false
set_option linter.unusedSimpArgs false
set_option maxRecDepth 100000
structure Grow (G es : List (List AC)) (z : Int) : Prop where
  z0 : 0 ≤ z
  z1 : z ≤ lenI G
  eq : es = G.take z.toNat
theorem Grow.start (G : List (List AC)) : Grow G [] 0 := ⟨Int.le_refl 0, by rw [lenI_eq]; omega, by simp⟩
theorem Grow.step {G es : List (List AC)} {z : Int} {y : List AC} (h : Grow G es z) (hy : G[z.toNat]? = some y) : Grow G (es ++ [y]) (z + 1) := by
  have h0 := h.z0
  have hl := (List.getElem?_eq_some_iff.1 hy).1
  refine ⟨by omega, by rw [lenI_eq]; omega, ?_⟩
  rw [show (z + 1).toNat = z.toNat + 1 by omega, List.take_add_one, hy, h.eq]
  rfl
theorem Grow.done {G es : List (List AC)} {z : Int} (h : Grow G es z) (hz : ¬ z < lenI G) : es = G := by
  rw [lenI_eq] at hz
  rw [h.eq, List.take_of_length_le (by omega)]
theorem Grow.len {G es : List (List AC)} {z : Int} (h : Grow G es z) : es.length ≤ G.length := by rw [h.eq]; simp; omega
theorem Grow.plain {G es : List (List AC)} {z : Int} (h : Grow G es z) (hp : plainE G = true) : plainE es = true := by
  rw [h.eq, plainE, List.all_eq_true]
  intro x hx
  exact List.all_eq_true.1 hp x (List.mem_of_mem_take hx)
end Go.Proofs.YtenbloaopcfdlaaGreat
