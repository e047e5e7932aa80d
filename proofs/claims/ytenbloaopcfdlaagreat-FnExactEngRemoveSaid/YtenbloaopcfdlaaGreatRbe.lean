/- Copies as data with blocks; engines' copies. A node's style is set. Engines whose tree has changed. -/
import Derived.Test.YtenbloaopcfdlaaGreatRbd
namespace Go.Proofs.YtenbloaopcfdlaaGreat
open Go.ChangeShapes Go.WideShapes Go.ChangeAt Go.RowKit Am
set_option linter.unusedVariables false
set_option linter.unusedSimpArgs false
set_option maxRecDepth 100000
theorem impl_copyKept_f (x : NKept) (hs : x.small) : TCon Tryz.prog 84 [.agg x.ac] fun lo res rows => (∃ b0 b1, res = .t (.agg [.fv b0 (vwA NMemo.ac x.memos), .fv b1 (vw GAsked.c x.asked)]) ∧ NewB lo (b0 ++ b1)) ∧ plainV res = true ∧ rows = [] :=
  tcon_seal (impl_copyKept_t x hs) fun lo res rows ⟨E, h1, h2, h3⟩ => by
    subst h1 h2
    exact ⟨[.agg [.own 0, .own 1]], rfl, fun bl hbl => ⟨[.agg [.fv (hd1 (bl 0) E ++ fpE E) (vwA NMemo.ac x.memos), .fv (hd1 (bl 1) (vw GAsked.c x.asked)) (vw GAsked.c x.asked)]], .agg (.cons (ress_copy rfl h3) (.cons (ress_immRow (r := 1) (ab := ⟨_, _, vw GAsked.c x.asked⟩) rfl (vw_imm _ _)) .nil)) .nil, ⟨⟨_, _, rfl, blk_two hbl (r := 0) (q := 1) (ab := ⟨_, _, E⟩) (ab' := ⟨_, _, vw GAsked.c x.asked⟩) rfl rfl (by decide) h3.new⟩, rfl, rfl⟩⟩⟩
theorem spec_l21Copy_f (x : NKept) (hs : x.small) : TCon Tryz.prog 78 [.agg x.ac] fun lo res rows => (∃ b0 b1, res = .t (.agg [.fv b0 (vwA NMemo.ac x.memos), .fv b1 (vw GAsked.c x.asked)]) ∧ NewB lo (b0 ++ b1)) ∧ plainV res = true ∧ rows = [] :=
  tcon_seal (spec_l21Copy_t x hs) fun lo res rows ⟨E, h1, h2, h3⟩ => by
    subst h1 h2
    exact ⟨[.agg [.own 0, .own 1]], rfl, fun bl hbl => ⟨[.agg [.fv (hd1 (bl 0) E ++ fpE E) (vwA NMemo.ac x.memos), .fv (hd1 (bl 1) (vw GAsked.c x.asked)) (vw GAsked.c x.asked)]], .agg (.cons (ress_copy rfl h3) (.cons (ress_immRow (r := 1) (ab := ⟨_, _, vw GAsked.c x.asked⟩) rfl (vw_imm _ _)) .nil)) .nil, ⟨⟨_, _, rfl, blk_two hbl (r := 0) (q := 1) (ab := ⟨_, _, E⟩) (ab' := ⟨_, _, vw GAsked.c x.asked⟩) rfl rfl (by decide) h3.new⟩, rfl, rfl⟩⟩⟩
theorem impl_copyTree_f (ns : List NNode) (hl : ns.length ≤ 1048576) (hs : ∀ y ∈ ns, NNode.small y) : TCon Tryz.prog 61 [.agg [.view (vwA NNode.ac ns)]] fun lo res rows => (∃ b0, res = .t (.agg [.fv b0 (vwA NNode.ac ns)]) ∧ NewB lo b0) ∧ plainV res = true ∧ rows = [] :=
  tcon_seal (impl_copyTree_t ns hl hs) fun lo res rows ⟨E, h1, h2, h3⟩ => by
    subst h1 h2
    exact ⟨[.agg [.own 0]], rfl, fun bl hbl => ⟨[.agg [.fv (hd1 (bl 0) E ++ fpE E) (vwA NNode.ac ns)]], .agg (.cons (ress_copy rfl h3) .nil) .nil, ⟨⟨_, rfl, blk_row hbl (r := 0) (ab := ⟨_, _, E⟩) rfl h3.new⟩, rfl, rfl⟩⟩⟩
theorem spec_l10Copy_f (ns : List NNode) (hl : ns.length ≤ 1048576) (hs : ∀ y ∈ ns, NNode.small y) : TCon Tryz.prog 77 [.agg [.view (vwA NNode.ac ns)]] fun lo res rows => (∃ b0, res = .t (.agg [.fv b0 (vwA NNode.ac ns)]) ∧ NewB lo b0) ∧ plainV res = true ∧ rows = [] :=
  tcon_seal (spec_l10Copy_t ns hl hs) fun lo res rows ⟨E, h1, h2, h3⟩ => by
    subst h1 h2
    exact ⟨[.agg [.own 0]], rfl, fun bl hbl => ⟨[.agg [.fv (hd1 (bl 0) E ++ fpE E) (vwA NNode.ac ns)]], .agg (.cons (ress_copy rfl h3) .nil) .nil, ⟨⟨_, rfl, blk_row hbl (r := 0) (ab := ⟨_, _, E⟩) rfl h3.new⟩, rfl, rfl⟩⟩⟩
set_option maxHeartbeats 8000000 in
theorem impl_copyEngine_t (x : NEngine) (hs : x.small) : TCon Tryz.prog 42 [.agg x.ac] fun lo res rows => (∃ b0 b1 b2 b3, res = .t (.agg [.fv b0 (vwA NNode.ac x.tree.nodes), .fv b1 (vwA NMemo.ac x.kept.memos), .fv b2 (vw GAsked.c x.kept.asked), .fv b3 (vw GFrame.c x.frames), .imm (.int .i64 x.root), .imm (.int .i64 x.wide), .imm (.int .i64 x.high), .imm (.bool x.rtl)]) ∧ NewB lo (b0 ++ b1 ++ b2 ++ b3)) ∧ plainV res = true ∧ rows = [] := by
  obtain ⟨⟨ns⟩, ⟨ms, qs⟩, fs, x0, x1, x2, x3⟩ := x
  obtain ⟨s0, s1, s2, s3, s4, s5, -⟩ := hs
  have c0 := impl_copyTree_f ns s0 s1
  have c1 := impl_copyKept_f ⟨ms, qs⟩ ⟨s2, s3, s4, trivial⟩
  have c2 := impl_copyFrames_t fs s5
  show TCon _ _ [.agg [.view (vwA NNode.ac ns), .view (vwA NMemo.ac ms), .view (vw GAsked.c qs), .view (vw GFrame.c fs), .imm (.int .i64 x0), .imm (.int .i64 x1), .imm (.int .i64 x2), .imm (.bool x3)]] (fun lo res rows => (∃ b0 b1 b2 b3, res = .t (.agg [.fv b0 (vwA NNode.ac ns), .fv b1 (vwA NMemo.ac ms), .fv b2 (vw GAsked.c qs), .fv b3 (vw GFrame.c fs), .imm (.int .i64 x0), .imm (.int .i64 x1), .imm (.int .i64 x2), .imm (.bool x3)]) ∧ NewB lo (b0 ++ b1 ++ b2 ++ b3)) ∧ plainV res = true ∧ rows = [])
  obtain ⟨N, hN⟩ : ∃ V, V = vwA NNode.ac ns := ⟨_, rfl⟩
  obtain ⟨M, hM⟩ : ∃ V, V = vwA NMemo.ac ms := ⟨_, rfl⟩
  obtain ⟨Q, hQ⟩ : ∃ V, V = vw GAsked.c qs := ⟨_, rfl⟩
  obtain ⟨V, hV⟩ : ∃ V, V = vw GFrame.c fs := ⟨_, rfl⟩
  replace c1 : TCon Tryz.prog 84 [.agg [.view M, .view Q]] (fun lo res rows => (∃ b0 b1, res = .t (.agg [.fv b0 M, .fv b1 Q]) ∧ NewB lo (b0 ++ b1)) ∧ plainV res = true ∧ rows = []) := by rw [hM, hQ]; exact c1
  rw [← hN] at c0
  rw [← hV] at c2
  rw [← hN, ← hM, ← hQ, ← hV]
  refine tcon_run ([]) ([]) (c := body Tryz.f42) fits Tryz.func42 (by kernel_rfl) (by kernel_rfl) (by rfl) (by kernel_rfl) fun β g eff hd F heff hhd hg hF => ?_
  cbv
  refine callT0 hg c0 (dwA_same rfl) (fun l0 res p1 p2 p3 ⟨b0, hres, hn0⟩ => ?_)
  subst hres
  clear p2 p3
  cbv
  refine callT0 hg c1 (dwA_same rfl) (fun l1 res q1 q2 q3 ⟨b1, b2, hres, hn1⟩ => ?_)
  subst hres
  have u1 : ∀ b ∈ b0, b < l1 := fun b hb => q2 b (by simp [fpH, fpL, fpC, hb])
  clear q2 q3
  cbv
  refine callT0 hg c2 (dwA_same rfl) (fun l2 res r1 r2 r3 ⟨b3, hres, hn2⟩ => ?_)
  subst hres
  have u2 : ∀ b ∈ b0 ++ (b1 ++ b2), b < l2 := fun b hb => r2 b (by simpa [fpH, fpL, fpC] using hb)
  clear r2 r3
  cbv
  refine finT0 hF rfl ⟨⟨b0, b1, b2, b3, rfl, ?_⟩, rfl, rfl⟩
  have := ((hn0.mono p1).app q1 hn1 u1).app r1 hn2 u2
  simpa [List.append_assoc] using this
set_option maxHeartbeats 8000000 in
theorem spec_l22Copy_t (x : NEngine) (hs : x.small) : TCon Tryz.prog 34 [.agg x.ac] fun lo res rows => (∃ b0 b1 b2 b3, res = .t (.agg [.fv b0 (vwA NNode.ac x.tree.nodes), .fv b1 (vwA NMemo.ac x.kept.memos), .fv b2 (vw GAsked.c x.kept.asked), .fv b3 (vw GFrame.c x.frames), .imm (.int .i64 x.root), .imm (.int .i64 x.wide), .imm (.int .i64 x.high), .imm (.bool x.rtl)]) ∧ NewB lo (b0 ++ b1 ++ b2 ++ b3)) ∧ plainV res = true ∧ rows = [] := by
  obtain ⟨⟨ns⟩, ⟨ms, qs⟩, fs, x0, x1, x2, x3⟩ := x
  obtain ⟨s0, s1, s2, s3, s4, s5, -⟩ := hs
  have c0 := spec_l10Copy_f ns s0 s1
  have c1 := spec_l21Copy_f ⟨ms, qs⟩ ⟨s2, s3, s4, trivial⟩
  show TCon _ _ [.agg [.view (vwA NNode.ac ns), .view (vwA NMemo.ac ms), .view (vw GAsked.c qs), .view (vw GFrame.c fs), .imm (.int .i64 x0), .imm (.int .i64 x1), .imm (.int .i64 x2), .imm (.bool x3)]] (fun lo res rows => (∃ b0 b1 b2 b3, res = .t (.agg [.fv b0 (vwA NNode.ac ns), .fv b1 (vwA NMemo.ac ms), .fv b2 (vw GAsked.c qs), .fv b3 (vw GFrame.c fs), .imm (.int .i64 x0), .imm (.int .i64 x1), .imm (.int .i64 x2), .imm (.bool x3)]) ∧ NewB lo (b0 ++ b1 ++ b2 ++ b3)) ∧ plainV res = true ∧ rows = [])
  obtain ⟨N, hN⟩ : ∃ V, V = vwA NNode.ac ns := ⟨_, rfl⟩
  obtain ⟨M, hM⟩ : ∃ V, V = vwA NMemo.ac ms := ⟨_, rfl⟩
  obtain ⟨Q, hQ⟩ : ∃ V, V = vw GAsked.c qs := ⟨_, rfl⟩
  obtain ⟨V, hV⟩ : ∃ V, V = vw GFrame.c fs := ⟨_, rfl⟩
  have hVl : V.length = fs.length := by rw [hV, vw_length]
  have iV : immE V = true := by rw [hV]; exact vw_imm _ _
  have kV : ∀ y ∈ V, y.length = 5 := by rw [hV]; exact vw_k (c := GFrame.c) (k := 5) fun _ => rfl
  have dV : ∀ y ∈ V, y.all dat = true := by rw [hV]; exact vw_dat
  replace c1 : TCon Tryz.prog 78 [.agg [.view M, .view Q]] (fun lo res rows => (∃ b0 b1, res = .t (.agg [.fv b0 M, .fv b1 Q]) ∧ NewB lo (b0 ++ b1)) ∧ plainV res = true ∧ rows = []) := by rw [hM, hQ]; exact c1
  rw [← hN] at c0
  rw [← hN, ← hM, ← hQ, ← hV]
  refine tcon_run ([(3, .hand)]) ([]) (c := body Tryz.f34) fits Tryz.func34 (by kernel_rfl) (by kernel_rfl) (by rfl) (by kernel_rfl) fun β g eff hd F heff hhd hg hF => ?_
  cbv
  refine callT0 hg c0 (dwA_same rfl) (fun l0 res p1 p2 p3 ⟨b0, hres, hn0⟩ => ?_)
  subst hres
  clear p2 p3
  cbv
  refine callT0 hg c1 (dwA_same rfl) (fun l1 res q1 q2 q3 ⟨b1, b2, hres, hn1⟩ => ?_)
  subst hres
  have u1 : ∀ b ∈ b0, b < l1 := fun b hb => q2 b (by simp [fpH, fpL, fpC, hb])
  clear q2 q3
  cbv
  refine hand_nm hhd fits [] [] 3 V (imm_bareE iV) rfl (by kernel_rfl) (fun g2 eff2 hd2 B2 he2 hh2 hg2 hB2 => ?_)
  cbv
  refine goNV0 hg2 kV (by decide) (by rw [hVl]; exact s5) ?_
  cbv
  rw [goAp hg2, List.nil_append]
  refine hB2 _ _ _ _ rfl rfl (fun l2 b3 r1 hn2 => ?_)
  rw [fv_imm iV]
  obtain ⟨c3, hc3⟩ : ∃ c, c = hd1 b3 V := ⟨_, rfl⟩
  rw [← hc3] at hn2 ⊢
  clear hc3
  refine ⟨[(1, .t (.c (.ptr 0 0 0))), (2, .t (.c (.ptr 1 0 0)))], [.bx 50 8 [.fv b0 N, .fv b1 M, .fv b2 Q, .fv c3 V, .imm (.int .i64 x0), .imm (.int .i64 x1), .imm (.int .i64 x2), .imm (.bool x3)], .bx 50 8 [.imm (.slice none 0 0), .imm (.slice none 0 0), .imm (.slice none 0 0), .imm (.slice none 0 0), .imm (.int .i64 0), .imm (.int .i64 0), .imm (.int .i64 0), .imm (.bool false)], .gn, .gn], ⟨.inl rfl, .inl rfl, trivial⟩, ⟨⟨rfl, rfl, ⟨.inl rfl, .inl rfl, .inl rfl, .inr (.inl ⟨rfl, rfl⟩), .inl rfl, .inl rfl, .inl rfl, .inl rfl, trivial⟩⟩, ⟨rfl, rfl, ⟨.inl rfl, .inl rfl, .inl rfl, .inl rfl, .inl rfl, .inl rfl, .inl rfl, .inl rfl, trivial⟩⟩, trivial, rfl, trivial⟩, ?_⟩
  clear hB2 hg2 hh2 he2
  have u2 : ∀ b ∈ b0 ++ (b1 ++ b2), b < l2 := fun b hb => hn2.old b (by simpa [fpH, fpL, fpC] using hb)
  have n2 : NewB l2 c3 := ⟨hn2.nd, hn2.ge⟩
  cbv
  refine finT0 hF rfl ⟨⟨b0, b1, b2, c3, rfl, ?_⟩, rfl, rfl⟩
  have := ((hn0.mono p1).app q1 hn1 u1).app r1 n2 u2
  simpa [List.append_assoc] using this
end Go.Proofs.YtenbloaopcfdlaaGreat
namespace Go.Proofs.YtenbloaopcfdlaaGreat
open Go.ChangeShapes Go.WideShapes Go.ChangeAt Go.RowKit Am
set_option linter.unusedVariables false
set_option linter.unusedSimpArgs false
set_option maxRecDepth 100000
def nodeA (u : Int) (K R : List (List AC)) (s : GStyle) (m : Bool) : List AC := .imm (.int .i64 u) :: .view K :: (lc (GStyle.c s) ++ [.imm (.bool m), .view R])
def nodeE (u : Int) (K R : List (List AC)) (s : GStyle) (m : Bool) (b1 b2 : List Nat) : List AC := .imm (.int .i64 u) :: .fv b1 K :: (lc (GStyle.c s) ++ [.imm (.bool m), .fv b2 R])
theorem imm_cells : ∀ (L e : List AC), e.all bareF = true → e.map vwC = L → (L.all fun c => match c with | .imm _ => true | _ => false) = true → e = L
  | [], e, _, h, _ => by cases e <;> first | rfl | simp at h
  | c :: L, e, hb, h, hi => by
    cases e with
    | nil => simp at h
    | cons d e =>
      simp only [List.map_cons, List.cons.injEq] at h
      simp only [List.all_cons, Bool.and_eq_true] at hb hi
      have h1 := imm_cells L e hb.2 h.2 hi.2
      cases c <;> first | (cases hi.1; done) | skip
      rw [bare_imm hb.1 h.1, h1]
theorem style_imm (s : GStyle) : ((lc (GStyle.c s)).all fun c => match c with | .imm _ => true | _ => false) = true := rfl
theorem CopyE.node {lo : Nat} {E M : List (List AC)} (h : CopyE 64 E M lo) {j : Nat} {u : Int} {K R : List (List AC)} {s : GStyle} {m : Bool} (hj : M[j]? = some (nodeA u K R s m)) : ∃ b1 b2, E[j]? = some (nodeE u K R s m b1 b2) := by
  have hl := (List.getElem?_eq_some_iff.1 hj).1
  have hE : j < E.length := by rw [h.len]; exact hl
  obtain ⟨e, he⟩ : ∃ e, E[j]? = some e := ⟨_, List.getElem?_eq_getElem hE⟩
  have hev : e.map vwC = nodeA u K R s m := by
    have h1 : (E.map (·.map vwC))[j]? = some (e.map vwC) := by rw [List.getElem?_map, he]; rfl
    rw [h.eq, hj] at h1
    exact (Option.some.inj h1).symm
  have heb := h.bare e (List.mem_of_getElem? he)
  unfold nodeA at hev
  cases e with
  | nil => simp at hev
  | cons c0 e => cases e with
    | nil => simp at hev
    | cons c1 r =>
      rw [List.map_cons, List.map_cons, List.cons.injEq, List.cons.injEq] at hev
      rw [List.all_cons, List.all_cons, Bool.and_eq_true, Bool.and_eq_true] at heb
      obtain ⟨h0, h1, h2⟩ := hev
      obtain ⟨r1, r2, hr, k1, k2⟩ := List.map_eq_append_iff.1 h2
      subst hr
      rw [List.all_append, Bool.and_eq_true] at heb
      have hr1 := imm_cells _ _ heb.2.2.1 k1 (style_imm s)
      cases r2 with
      | nil => cases k2
      | cons c2 r2 => cases r2 with
        | nil => simp at k2
        | cons c3 r2 =>
          have hn : r2 = [] := by
            have := congrArg List.length k2
            cases r2 with
            | nil => rfl
            | cons _ _ => simp at this
          subst hn
          simp only [List.map_cons, List.map_nil, List.cons.injEq, and_true] at k2
          simp only [List.all_cons, List.all_nil, Bool.and_true, Bool.and_eq_true] at heb
          obtain ⟨b1, hb1⟩ := bare_fv heb.2.1 h1
          obtain ⟨b2, hb2⟩ := bare_fv heb.2.2.2.2 k2.2
          have e0 := bare_imm heb.1 h0
          have e2 := bare_imm heb.2.2.2.1 k2.1
          refine ⟨b1, b2, ?_⟩
          rw [he, e0, hb1, hr1, e2, hb2]; rfl
theorem CopyE.set {k lo : Nat} {E V : List (List AC)} (h : CopyE k E V lo) {j : Nat} {e y v : List AC} (he : E[j]? = some e) (hy : y.map vwC = v) (hk : y.length = k) (hb : y.all bareF = true) (hf : fpL y = fpL e) : CopyE k (E.set j y) (V.set j v) lo :=
  ⟨fun x hx => (List.mem_or_eq_of_mem_set hx).elim (h.kk x) fun h1 => by rw [h1]; exact hk, fun x hx => (List.mem_or_eq_of_mem_set hx).elim (h.bare x) fun h1 => by rw [h1]; exact hb, by rw [List.map_set, h.eq, hy], by rw [fpE_same he hf]; exact h.new⟩
theorem vwA_set (ns : List NNode) (j : Nat) (x : NNode) : vwA NNode.ac (ns.set j x) = (vwA NNode.ac ns).set j x.ac := by simp [vwA]
end Go.Proofs.YtenbloaopcfdlaaGreat
namespace Go.Proofs.YtenbloaopcfdlaaGreat
open Go.ChangeShapes Go.WideShapes Go.ChangeAt Go.RowKit Am
set_option linter.unusedVariables false
set_option linter.unusedSimpArgs false
set_option maxRecDepth 100000
theorem NewB.perm {lo : Nat} {a b : List Nat} (h : NewB lo a) (hp : a.Perm b) : NewB lo b := ⟨hp.nodup_iff.1 h.1, fun x hx => h.2 x (hp.mem_iff.2 hx)⟩
theorem NewB.sub {lo : Nat} {a b : List Nat} (h : NewB lo b) (hp : a.Sublist b) : NewB lo a := ⟨h.1.sublist hp, fun x hx => h.2 x (hp.subset hx)⟩
def engR (b0 b1 b2 b3 : List Nat) : NEngine → List AC
  | ⟨⟨ns⟩, ⟨ms, qs⟩, fs, x0, x1, x2, x3⟩ => [.fv b0 (vwA NNode.ac ns), .fv b1 (vwA NMemo.ac ms), .fv b2 (vw GAsked.c qs), .fv b3 (vw GFrame.c fs), .imm (.int .i64 x0), .imm (.int .i64 x1), .imm (.int .i64 x2), .imm (.bool x3)]
def kpM (ns : List NNode) (ms : List NMemo) (code n : Int) : List NMemo := if code = 0 then fgM ns ms n else ms
def setT : NEngine → List NNode → Int → Int → NEngine
  | ⟨⟨_⟩, ⟨ms, qs⟩, fs, x0, x1, x2, x3⟩, ns, code, n => ⟨⟨ns⟩, ⟨kpM ns ms code n, qs⟩, fs, x0, x1, x2, x3⟩
set_option maxHeartbeats 16000000 in
theorem impl_changed_t (x : NEngine) (hs : x.small) (bt : List Nat) (ns' : List NNode) (hl : ns'.length ≤ 1048576) (hs' : ∀ y ∈ ns', NNode.small y) (code n : Int) (hc : code ≠ 0 → ns' = x.tree.nodes) : TCon Tryz.prog 60 [.agg x.ac, .agg [.fv bt (vwA NNode.ac ns')], ai code, ai n] fun lo res rows => (∃ b0 b1 b2 b3, res = .tup [.agg (engR b0 b1 b2 b3 (setT x ns' code n)), ai code] ∧ ∀ l0, NewB l0 bt → l0 ≤ lo → (∀ b ∈ bt, b < lo) → NewB l0 (b0 ++ b1 ++ b2 ++ b3)) ∧ plainV res = true ∧ rows = [] := by
  have c0 := impl_copyEngine_t x hs
  obtain ⟨⟨ns⟩, ⟨ms, qs⟩, fs, x0, x1, x2, x3⟩ := x
  obtain ⟨s0, s1, s2, s3, s4, s5, -⟩ := hs
  have c1 := impl_Forget_t ns' hl hs' ⟨ms, qs⟩ ⟨s2, s3, s4, trivial⟩ n
  obtain ⟨N, hN⟩ : ∃ V, V = vwA NNode.ac ns := ⟨_, rfl⟩
  obtain ⟨N', hN'⟩ : ∃ V, V = vwA NNode.ac ns' := ⟨_, rfl⟩
  obtain ⟨M, hM⟩ : ∃ V, V = vwA NMemo.ac ms := ⟨_, rfl⟩
  obtain ⟨M', hM'⟩ : ∃ V, V = vwA NMemo.ac (fgM ns' ms n) := ⟨_, rfl⟩
  obtain ⟨Q, hQ⟩ : ∃ V, V = vw GAsked.c qs := ⟨_, rfl⟩
  obtain ⟨V, hV⟩ : ∃ V, V = vw GFrame.c fs := ⟨_, rfl⟩
  replace c0 : TCon Tryz.prog 42 [.agg [.view N, .view M, .view Q, .view V, .imm (.int .i64 x0), .imm (.int .i64 x1), .imm (.int .i64 x2), .imm (.bool x3)]] (fun lo res rows => (∃ b0 b1 b2 b3, res = .t (.agg [.fv b0 N, .fv b1 M, .fv b2 Q, .fv b3 V, .imm (.int .i64 x0), .imm (.int .i64 x1), .imm (.int .i64 x2), .imm (.bool x3)]) ∧ NewB lo (b0 ++ b1 ++ b2 ++ b3)) ∧ plainV res = true ∧ rows = []) := by rw [hN, hM, hQ, hV]; exact c0
  replace c1 : TCon Tryz.prog 105 [.agg [.view N'], .agg [.view M, .view Q], ai n] (fun lo res rows => (∃ b0 b1, res = .t (.agg [.fv b0 M', .fv b1 Q]) ∧ NewB lo (b0 ++ b1)) ∧ plainV res = true ∧ rows = []) := by rw [hN', hM, hQ, hM']; exact c1
  have e0 : code = 0 → ∀ b0 b1 b2 b3 : List Nat, engR b0 b1 b2 b3 (setT ⟨⟨ns⟩, ⟨ms, qs⟩, fs, x0, x1, x2, x3⟩ ns' code n) = [.fv b0 N', .fv b1 M', .fv b2 Q, .fv b3 V, .imm (.int .i64 x0), .imm (.int .i64 x1), .imm (.int .i64 x2), .imm (.bool x3)] := fun h b0 b1 b2 b3 => by rw [hN', hM', hQ, hV]; simp only [setT, engR, kpM, if_pos h]
  have e1 : code ≠ 0 → ∀ b0 b1 b2 b3 : List Nat, engR b0 b1 b2 b3 (setT ⟨⟨ns⟩, ⟨ms, qs⟩, fs, x0, x1, x2, x3⟩ ns' code n) = [.fv b0 N, .fv b1 M, .fv b2 Q, .fv b3 V, .imm (.int .i64 x0), .imm (.int .i64 x1), .imm (.int .i64 x2), .imm (.bool x3)] := fun h b0 b1 b2 b3 => by rw [hN, hM, hQ, hV]; have h2 : ns' = ns := hc h; subst h2; simp only [setT, engR, kpM, if_neg h]
  rw [← hN']
  show TCon _ _ [.agg [.view (vwA NNode.ac ns), .view (vwA NMemo.ac ms), .view (vw GAsked.c qs), .view (vw GFrame.c fs), .imm (.int .i64 x0), .imm (.int .i64 x1), .imm (.int .i64 x2), .imm (.bool x3)], _, _, _] _
  rw [← hN, ← hM, ← hQ, ← hV]
  obtain ⟨E, hE⟩ : ∃ E : List Nat → List Nat → List Nat → List Nat → List AC, E = fun b0 b1 b2 b3 => engR b0 b1 b2 b3 (setT ⟨⟨ns⟩, ⟨ms, qs⟩, fs, x0, x1, x2, x3⟩ ns' code n) := ⟨_, rfl⟩
  have hEE : ∀ b0 b1 b2 b3, engR b0 b1 b2 b3 (setT ⟨⟨ns⟩, ⟨ms, qs⟩, fs, x0, x1, x2, x3⟩ ns' code n) = E b0 b1 b2 b3 := fun _ _ _ _ => by rw [hE]
  simp only [hEE] at e0 e1 ⊢
  clear hEE hE hN hN' hM hM' hQ hV s0 s1 s2 s3 s4 s5 hl hs' hc
  refine tcon_run ([]) ([]) (c := body Tryz.f60) fits Tryz.func60 (by kernel_rfl) (by kernel_rfl) (by rfl) (by kernel_rfl) fun β g eff hd F heff hhd hg hF => ?_
  cbv
  refine callT0 hg c0 (dwA_same rfl) (fun l1 res p1 p2 p3 ⟨b0, b1, b2, b3, hres, hn⟩ => ?_)
  subst hres
  have u0 : ∀ b ∈ bt, b < l1 := fun b hb => p2 b (by simp [fpH, fpL, fpC, hb])
  clear p2 p3
  cbv
  cases hC : g .q .eql code 0
  case false =>
    rw [goEql hg, beq_eq_false_iff_ne] at hC
    cbv
    refine finT0 hF rfl ⟨⟨b0, b1, b2, b3, by rw [e1 hC]; rfl, fun l0 h1 h2 h3 => hn.mono (Nat.le_trans h2 p1)⟩, rfl, rfl⟩
  rw [goEql hg, beq_iff_eq] at hC
  cbv
  refine callT0 hg c1 ⟨⟨.inl rfl, trivial⟩, ⟨rfl, rfl, trivial⟩, rfl, trivial⟩ (fun l2 res q1 q2 q3 ⟨b4, b5, hres, hn2⟩ => ?_)
  subst hres
  have u1 : ∀ b ∈ b3, b < l2 := fun b hb => q2 b (by simp [fpH, fpL, fpC, hb])
  clear q2 q3
  cbv
  refine finT0 hF rfl ⟨⟨bt, b4, b5, b3, by rw [e0 hC]; rfl, fun l0 h1 h2 h3 => ?_⟩, rfl, rfl⟩
  have hb3 : NewB l1 b3 := hn.sub (List.sublist_append_right _ _)
  have h4 := (hb3.mono p1).app q1 hn2 u1
  exact (h1.app h2 h4 h3).perm (List.perm_iff_count.2 fun a => by simp only [List.count_append]; omega)
set_option maxHeartbeats 16000000 in
theorem spec_l22Forget_t (x : NEngine) (hs : x.small) (d0 d1 d2 d3 : List Nat) (n code : Int) : TCon Tryz.prog 56 [.agg (engR d0 d1 d2 d3 x), ai n, ai code] fun lo res rows => (∃ b0 b1 b2 b3, res = .tup [.agg (engR b0 b1 b2 b3 (setT x x.tree.nodes code n)), ai code] ∧ ∀ l0, NewB l0 (d0 ++ d1 ++ d2 ++ d3) → l0 ≤ lo → (∀ b ∈ d0 ++ d1 ++ d2 ++ d3, b < lo) → NewB l0 (b0 ++ b1 ++ b2 ++ b3)) ∧ plainV res = true ∧ rows = [] := by
  obtain ⟨⟨ns⟩, ⟨ms, qs⟩, fs, x0, x1, x2, x3⟩ := x
  obtain ⟨s0, s1, s2, s3, s4, s5, -⟩ := hs
  have c1 := spec_Forget_t ns s0 s1 ⟨ms, qs⟩ ⟨s2, s3, s4, trivial⟩ n
  obtain ⟨N, hN⟩ : ∃ V, V = vwA NNode.ac ns := ⟨_, rfl⟩
  obtain ⟨M, hM⟩ : ∃ V, V = vwA NMemo.ac ms := ⟨_, rfl⟩
  obtain ⟨M', hM'⟩ : ∃ V, V = vwA NMemo.ac (fgM ns ms n) := ⟨_, rfl⟩
  obtain ⟨Q, hQ⟩ : ∃ V, V = vw GAsked.c qs := ⟨_, rfl⟩
  obtain ⟨V, hV⟩ : ∃ V, V = vw GFrame.c fs := ⟨_, rfl⟩
  replace c1 : TCon Tryz.prog 101 [.agg [.view N], .agg [.view M, .view Q], ai n] (fun lo res rows => (∃ b0 b1, res = .t (.agg [.fv b0 M', .fv b1 Q]) ∧ NewB lo (b0 ++ b1)) ∧ plainV res = true ∧ rows = []) := by rw [hN, hM, hQ, hM']; exact c1
  have e0 : code = 0 → ∀ b0 b1 b2 b3 : List Nat, engR b0 b1 b2 b3 (setT ⟨⟨ns⟩, ⟨ms, qs⟩, fs, x0, x1, x2, x3⟩ ns code n) = [.fv b0 N, .fv b1 M', .fv b2 Q, .fv b3 V, .imm (.int .i64 x0), .imm (.int .i64 x1), .imm (.int .i64 x2), .imm (.bool x3)] := fun h b0 b1 b2 b3 => by rw [hN, hM', hQ, hV]; simp only [setT, engR, kpM, if_pos h]
  have e1 : code ≠ 0 → ∀ b0 b1 b2 b3 : List Nat, engR b0 b1 b2 b3 (setT ⟨⟨ns⟩, ⟨ms, qs⟩, fs, x0, x1, x2, x3⟩ ns code n) = [.fv b0 N, .fv b1 M, .fv b2 Q, .fv b3 V, .imm (.int .i64 x0), .imm (.int .i64 x1), .imm (.int .i64 x2), .imm (.bool x3)] := fun h b0 b1 b2 b3 => by rw [hN, hM, hQ, hV]; simp only [setT, engR, kpM, if_neg h]
  show TCon _ _ [.agg [.fv d0 (vwA NNode.ac ns), .fv d1 (vwA NMemo.ac ms), .fv d2 (vw GAsked.c qs), .fv d3 (vw GFrame.c fs), .imm (.int .i64 x0), .imm (.int .i64 x1), .imm (.int .i64 x2), .imm (.bool x3)], _, _] fun lo res rows => (∃ b0 b1 b2 b3, res = .tup [.agg (engR b0 b1 b2 b3 (setT ⟨⟨ns⟩, ⟨ms, qs⟩, fs, x0, x1, x2, x3⟩ ns code n)), ai code] ∧ ∀ l0, NewB l0 (d0 ++ d1 ++ d2 ++ d3) → l0 ≤ lo → (∀ b ∈ d0 ++ d1 ++ d2 ++ d3, b < lo) → NewB l0 (b0 ++ b1 ++ b2 ++ b3)) ∧ plainV res = true ∧ rows = []
  rw [← hN, ← hM, ← hQ, ← hV]
  obtain ⟨E, hE⟩ : ∃ E : List Nat → List Nat → List Nat → List Nat → List AC, E = fun b0 b1 b2 b3 => engR b0 b1 b2 b3 (setT ⟨⟨ns⟩, ⟨ms, qs⟩, fs, x0, x1, x2, x3⟩ ns code n) := ⟨_, rfl⟩
  have hEE : ∀ b0 b1 b2 b3, engR b0 b1 b2 b3 (setT ⟨⟨ns⟩, ⟨ms, qs⟩, fs, x0, x1, x2, x3⟩ ns code n) = E b0 b1 b2 b3 := fun _ _ _ _ => by rw [hE]
  simp only [hEE] at e0 e1 ⊢
  clear hEE hE hN hM hM' hQ hV s0 s1 s2 s3 s4 s5
  refine tcon_run ([]) ([]) (c := body Tryz.f56) fits Tryz.func56 (by kernel_rfl) (by kernel_rfl) (by rfl) (by kernel_rfl) fun β g eff hd F heff hhd hg hF => ?_
  cbv
  cases hC : g .q .eql code 0
  case false =>
    rw [goEql hg, beq_eq_false_iff_ne] at hC
    cbv
    refine finT0 hF rfl ⟨⟨d0, d1, d2, d3, by rw [e1 hC]; rfl, fun l0 h1 h2 h3 => h1⟩, rfl, rfl⟩
  rw [goEql hg, beq_iff_eq] at hC
  cbv
  refine callT0 hg c1 ⟨⟨.inl rfl, trivial⟩, ⟨.inl rfl, .inl rfl, trivial⟩, rfl, trivial⟩ (fun l2 res q1 q2 q3 ⟨b4, b5, hres, hn2⟩ => ?_)
  subst hres
  clear q2 q3
  cbv
  refine finT0 hF rfl ⟨⟨d0, b4, b5, d3, by rw [e0 hC]; rfl, fun l0 h1 h2 h3 => ?_⟩, rfl, rfl⟩
  have h4 : NewB l0 (d0 ++ d3) := h1.sub (by rw [List.append_assoc, List.append_assoc]; exact List.Sublist.append (List.Sublist.refl _) ((List.sublist_append_right _ _).trans (List.sublist_append_right _ _)))
  exact (h4.app (Nat.le_trans h2 q1) hn2 fun b hb => Nat.lt_of_lt_of_le (h3 b (by simp only [List.mem_append] at hb ⊢; rcases hb with h | h <;> simp [h])) q1).perm (List.perm_iff_count.2 fun a => by simp only [List.count_append]; omega)
end Go.Proofs.YtenbloaopcfdlaaGreat
