/- A part of AM, a framework of the prover own: functions of any program as maps of data. -/
import Derived.Test.YtgcofllgbdcicaaGreatAmP
namespace Go.Proofs.YtgcofllgbdcicaaGreat.Am
open Go.RowKit
set_option linter.unusedVariables false
set_option linter.unusedSimpArgs false
theorem min_of : ∀ (l : List Nat), l ≠ [] → ∃ i ∈ l, ∀ j ∈ l, i ≤ j
  | [], h => absurd rfl h
  | [x], _ => ⟨x, by simp, by simp⟩
  | x :: y :: l, _ => by
    obtain ⟨i, hi, hm⟩ := min_of (y :: l) (by simp)
    by_cases h : x ≤ i
    · refine ⟨x, by simp, fun j hj => ?_⟩
      rcases List.mem_cons.1 hj with rfl | hj
      · exact Nat.le_refl _
      · exact Nat.le_trans h (hm j hj)
    · refine ⟨i, List.mem_cons_of_mem _ hi, fun j hj => ?_⟩
      rcases List.mem_cons.1 hj with rfl | hj
      · omega
      · exact hm j hj
theorem put_ne (T : Nat → AV) (v : AV) {dst : Option Tmp} {d : Nat} (h : dst ≠ some d) : put T dst v d = T d := by
  unfold put
  cases dst with
  | none => rfl
  | some e => simp only; rw [if_neg (fun hx => h (by rw [hx]))]
/-- A list with a part of it put anew. -/
def repl {α : Type} (l : List α) (n : Nat) (r : List α) : List α := l.take n ++ r ++ l.drop (n + r.length)
theorem repl_len {α : Type} (l : List α) (n : Nat) (r : List α) (h : n + r.length ≤ l.length) : (repl l n r).length = l.length := by simp [repl]; omega
theorem repl_get {α : Type} (l : List α) (n : Nat) (r : List α) (h : n + r.length ≤ l.length) (i : Nat) : (repl l n r)[i]? = if n ≤ i ∧ i < n + r.length then r[i - n]? else l[i]? := by
  unfold repl
  by_cases h1 : i < n
  · rw [if_neg (by omega), List.append_assoc, List.getElem?_append_left (by simp; omega), List.getElem?_take, if_pos h1]
  · by_cases h2 : i < n + r.length
    · rw [if_pos (by omega), List.append_assoc, List.getElem?_append_right (by simp; omega), List.getElem?_append_left (by simp; omega)]
      congr 1; simp; omega
    · rw [if_neg (by omega), List.getElem?_append_right (by simp; omega), List.getElem?_drop]
      congr 1; simp; omega

section
variable {P : Program} {F : Nat → Prop} {w0 : World} {m0 : AM} {h0 : AH} {N mm : Nat} {ops : Array Oper} {T : Nat → AV} {h : AH} {Ts : Nat → Nat → AV} {Hs : Nat → AH} {R : Nat → AV} {Rw : Nat → List AB} {W : Nat → Bool}
theorem head_get (htr : Trace P ops (ops.toList.take mm) T h Ts Hs R Rw W) {i : Nat} (hi : i < mm) {o : Oper} (ho : ops[i]? = some o) : (ops.toList.take mm)[i]? = some o := by
  rw [List.getElem?_take, if_pos hi]; simpa using ho
theorem Trace.len (htr : Trace P ops (ops.toList.take mm) T h Ts Hs R Rw W) (hle : mm ≤ ops.size) {i : Nat} (hi : i < mm) : (Hs (i + 1)).length = (Hs i).length + (Rw i).length := by
  have ho : ops[i]? = some ops[i] := by simp
  rw [(htr.at_ i _ (head_get htr hi ho)).2.2.2.2]; simp
theorem Trace.mono (htr : Trace P ops (ops.toList.take mm) T h Ts Hs R Rw W) (hle : mm ≤ ops.size) {i : Nat} : ∀ (d : Nat), i + d ≤ mm → (Hs i).length ≤ (Hs (i + d)).length ∧ ∀ (r : Nat) (e : AE), (Hs i)[r]? = some e → (Hs (i + d))[r]? = some e
  | 0, _ => ⟨Nat.le_refl _, fun r e h => h⟩
  | d + 1, hd => by
    obtain ⟨h1, h2⟩ := htr.mono hle (i := i) d (by omega)
    have ho : ops[i + d]? = some ops[i + d] := by simp
    have h3 := (htr.at_ (i + d) _ (head_get htr (by omega) ho)).2.2.2.2
    rw [← Nat.add_assoc, h3]
    refine ⟨by simp; omega, fun r e hr => ?_⟩
    have h4 := h2 r e hr
    rw [List.getElem?_append_left (List.getElem?_eq_some_iff.1 h4).1]
    exact h4
theorem Trace.temp (htr : Trace P ops (ops.toList.take mm) T h Ts Hs R Rw W) (hle : mm ≤ ops.size) {i d : Nat} : ∀ (k : Nat), i + k ≤ mm → (∀ (j : Nat) (o : Oper), i ≤ j → j < i + k → ops[j]? = some o → o.dst ≠ some d) → Ts (i + k) d = Ts i d
  | 0, _, _ => rfl
  | k + 1, hk, hj => by
    have ho : ops[i + k]? = some ops[i + k] := by simp
    have h3 := (htr.at_ (i + k) _ (head_get htr (by omega) ho)).2.2.2.1
    rw [← Nat.add_assoc, h3]
    have hne := hj (i + k) _ (by omega) (by omega) ho
    have h4 := htr.temp hle (i := i) k (by omega) (fun j o h1 h2 h3 => hj j o h1 (by omega) h3)
    rw [put_ne _ _ hne]
    exact h4
/-- The state in the middle of the head, whatever has come up. -/
structure Mid (F : Nat → Prop) (w0 : World) (m0 : AM) (h0 : AH) (N mm : Nat) (ops : Array Oper) (Ts : Nat → Nat → AV) (Hs : Nat → AH) (Rw : Nat → List AB) (listed : Array Bool) (U : List Nat) (a : Act) (w : World) (m : AM) (hS : AH) : Prop where
  inv : HeadInv .any ops mm listed
  nodup : U.Nodup
  un : ∀ i, i ∈ U ↔ i < mm ∧ listed.getD i true = false
  len : hS.length = (Hs mm).length
  same : ∀ r : Nat, hS[r]? = (Hs mm)[r]? ∨ ∃ i ∈ U, (Hs i).length ≤ r ∧ r < (Hs i).length + (Rw i).length
  hole : ∀ i ∈ U, ∀ r : Nat, (Hs i).length ≤ r → r < (Hs i).length + (Rw i).length → hS[r]? = some .hole
  tm : ∀ d, (∃ i ∈ U, ∃ o, ops[i]? = some o ∧ o.dst = some d) ∨ RV F w m hS (Ts mm d) (a.tmps.getD d undef)
  st : Step F w0 m0 h0 w m hS
  df : a.defers = []
  sz : a.tmps.size = N
theorem headB_spec (hB : headB ops mm = true) {i : Nat} (hi : i < mm) : ∃ o, ops[i]? = some o ∧ (∀ e ∈ o.after, Region.binds .any e = true → e.on < i) ∧
    ∀ (j : Nat) (o' : Oper) (d : Nat), j < mm → ops[j]? = some o' → o'.dst = some d → (i ≠ j → o.dst ≠ some d) ∧ (d ∈ o.looksAt ops → j < i ∧ Region.waitsFor .any ops i j = true) := by
  unfold headB at hB
  have h1 := List.all_eq_true.1 hB i (List.mem_range.2 hi)
  cases ho : ops[i]? with
  | none => rw [ho] at h1; cases h1
  | some o =>
    rw [ho] at h1
    simp only [Bool.and_eq_true] at h1
    refine ⟨o, rfl, fun e he hb => ?_, fun j o' d hj hj' hd => ?_⟩
    · have h2 := (Array.all_eq_true'.1 h1.1) e he
      simp only [Bool.or_eq_true, Bool.not_eq_true', decide_eq_true_eq] at h2
      rcases h2 with h2 | h2
      · rw [hb] at h2; cases h2
      · exact h2
    · have h2 := List.all_eq_true.1 h1.2 j (List.mem_range.2 hj)
      rw [hj'] at h2
      simp only [Option.bind_some, hd, Bool.and_eq_true, Bool.or_eq_true, beq_iff_eq, bne_iff_ne, ne_eq, Bool.not_eq_true', decide_eq_true_eq] at h2
      refine ⟨fun hne hx => ?_, fun hm => ?_⟩
      · rcases h2.1 with h3 | h3
        · exact hne h3
        · exact h3 hx
      · rcases h2.2 with h3 | h3
        · have : (o.looksAt ops).contains d = true := by simpa using hm
          rw [this] at h3; cases h3
        · exact h3
theorem looks_op {o : Oper} {t : Tmp} (h : Operand.tmp t ∈ o.op.operands) : t ∈ o.looksAt ops := by
  unfold Oper.looksAt
  exact List.mem_append_left _ (List.mem_filterMap.2 ⟨.tmp t, by simpa using h, rfl⟩)
theorem looks_guard {o : Oper} {g : Nat × Bool} {t : Tmp} (h : o.guard = some g) (h2 : (ops[g.1]?).bind (·.dst) = some t) : t ∈ o.looksAt ops := by
  unfold Oper.looksAt
  refine List.mem_append_right _ ?_
  rw [h]
  simp only
  rw [h2]
  simp
/-- One operation of the head comes up. -/
theorem Mid.step (htr : Trace P ops (ops.toList.take mm) T h Ts Hs R Rw W) (hle : mm ≤ ops.size) (hB : headB ops mm = true) (hg : guardOk N ops = true) (hd : ops.toList.all (dstOk N) = true)
    {listed : Array Bool} {U : List Nat} {a : Act} {w : World} {m : AM} {hS : AH} (M : Mid F w0 m0 h0 N mm ops Ts Hs Rw listed U a w m hS) {i : Nat} (hr : i ∈ Region.ready .any ops listed) (hi : i < mm) {Q' : Exit → Act → World → Prop} {K : Act → World → Prop}
    (hK : ∀ F1 a' w' m' hS', Grow F F1 w m hS → Mid F1 w0 m0 h0 N mm ops Ts Hs Rw (listed.setIfInBounds i true) (U.erase i) a' w' m' hS' → K a' w') : wpOp P ops Q' i K a w := by
  obtain ⟨o, ho, haft, hdep⟩ := headB_spec hB hi
  obtain ⟨hun, o2, ho2, hall⟩ := mem_ready.1 hr
  rw [ho] at ho2
  cases ho2
  have hiU : i ∈ U := (M.un i).2 ⟨hi, hun⟩
  obtain ⟨hgv, hpop, hskip, hT1, hH1⟩ := htr.at_ i o (head_get htr hi ho)
  have hdo : dstOk N o = true := List.all_eq_true.1 hd o (List.mem_of_getElem? (by simpa using ho : ops.toList[i]? = some o))
  have hmemo : o ∈ ops.toList := List.mem_of_getElem? (by simpa using ho : ops.toList[i]? = some o)
  -- what the operation looks at
  have hlook : ∀ d, d ∈ o.looksAt ops → RV F w m hS (Ts i d) (a.tmps.getD d undef) := fun d hd' => by
    have hTd : Ts mm d = Ts i d := by
      have := htr.temp hle (i := i) (d := d) (mm - i) (by omega) (fun j o' h1 h2 h3 h4 => by
        have := ((hdep j o' d (by omega) h3 h4).2 hd').1
        omega)
      rwa [show i + (mm - i) = mm by omega] at this
    rcases M.tm d with ⟨j, hjU, o', hj, hjd⟩ | h1
    · obtain ⟨hjm, hjun⟩ := (M.un j).1 hjU
      obtain ⟨_, hw⟩ := (hdep j o' d hjm hj hjd).2 hd'
      obtain ⟨oi, hoi, e, he, hb, hon⟩ := Region.waitsFor_spec hw
      rw [ho] at hoi
      cases hoi
      have h2 := hall e he hb
      rw [hon, getD_both hjun] at h2
      cases h2
    · rwa [hTd] at h1
  have hwant : Region.wanted o (yielded ops a.tmps) = W i := gval_sound (F := F) (w := w) (m := m) (h := hS) (fun g t h1 h2 => by rw [M.sz]; exact guardOk_spec hg hmemo g t h1 h2) (fun g t h1 h2 => hlook t (looks_guard h1 h2)) hgv
  have hpre := htr.mono hle (i := i + 1) (mm - (i + 1)) (by omega)
  rw [show i + 1 + (mm - (i + 1)) = mm by omega] at hpre
  have hlen1 := htr.len hle hi
  have hsp : (Hs i).length + (Rw i).length ≤ hS.length := by rw [M.len]; omega
  have hTd : ∀ d, o.dst = some d → Ts mm d = R i := fun d hd' => by
    have := htr.temp hle (i := i + 1) (d := d) (mm - (i + 1)) (by omega) (fun j o' h1 h2 h3 h4 => by
      exact (hdep j o' d (by omega) h3 h4).1 (by omega) hd')
    rw [show i + 1 + (mm - (i + 1)) = mm by omega] at this
    rw [this, hT1]
    unfold put
    rw [hd']
    simp
  have inv' := M.inv.set hr hi
  have un' : ∀ j, j ∈ U.erase i ↔ j < mm ∧ (listed.setIfInBounds i true).getD j true = false := fun j => by
    rw [M.nodup.mem_erase_iff, M.un j]
    by_cases hij : i = j
    · subst hij
      have hil : i < listed.size := by rw [M.inv.size]; exact (Array.getElem?_eq_some_iff.1 ho).1
      simp [hil]
    · rw [getD_set_ne true hij]
      exact ⟨fun ⟨_, h2⟩ => h2, fun h2 => ⟨fun e => hij e.symm, h2⟩⟩
  -- the ranges of the rows
  have hdis : ∀ j, j ∈ U.erase i → ∀ r, (Hs j).length ≤ r → r < (Hs j).length + (Rw j).length → r < (Hs i).length ∨ (Hs i).length + (Rw i).length ≤ r := fun j hj r h1 h2 => by
    rw [M.nodup.mem_erase_iff] at hj
    have hjm := ((M.un j).1 hj.2).1
    rcases Nat.lt_or_gt_of_ne hj.1 with hlt | hlt
    · have h3 := (htr.mono hle (i := j + 1) (i - (j + 1)) (by omega)).1
      rw [show j + 1 + (i - (j + 1)) = i by omega, htr.len hle hjm] at h3
      omega
    · have h3 := (htr.mono hle (i := i + 1) (j - (i + 1)) (by omega)).1
      rw [show i + 1 + (j - (i + 1)) = j by omega, hlen1] at h3
      omega
  unfold wpOp
  rw [ho]
  simp only
  cases hWi : W i with
  | false =>
    rw [hwant, hWi]
    simp only [Bool.false_eq_true, if_false]
    obtain ⟨hR, hRw⟩ := hskip hWi
    refine hK F _ _ m hS (Grow.refl _ _ _ _) ⟨inv', M.nodup.erase i, un', M.len, fun r => ?_, fun j hj r h1 h2 => M.hole j (List.mem_of_mem_erase hj) r h1 h2, fun d => ?_, M.st, by rw [put_defers]; exact M.df, by rw [put_size]; exact M.sz⟩
    · rcases M.same r with h1 | ⟨j, hj, h1, h2⟩
      · exact .inl h1
      · by_cases hij : j = i
        · subst hij; rw [hRw] at h2; simp at h2; omega
        · exact .inr ⟨j, (M.nodup.mem_erase_iff).2 ⟨hij, hj⟩, h1, h2⟩
    · by_cases hdd : o.dst = some d
      · right
        rw [put_get]
        have hlt : d < N := by unfold dstOk at hdo; rw [hdd] at hdo; simpa using hdo
        rw [if_pos ⟨hdd, by rw [M.sz]; exact hlt⟩, hTd d hdd, hR]
        rfl
      · rw [put_get, if_neg (fun hx => hdd hx.1)]
        rcases M.tm d with ⟨j, hj, o', ho', hjd⟩ | h1
        · left
          refine ⟨j, (M.nodup.mem_erase_iff).2 ⟨fun e => ?_, hj⟩, o', ho', hjd⟩
          subst e
          rw [ho] at ho'
          cases ho'
          exact hdd hjd
        · exact .inr h1
  | true =>
    rw [hwant, hWi]
    simp only [if_true]
    left
    -- the heap of the text's order, and the one that is there
    have hCp : Cp (Hs i) hS := fun r ab hr' => by
      have h1 := (htr.mono hle (i := i) (mm - i) (by omega)).2 r _ hr'
      rw [show i + (mm - i) = mm by omega] at h1
      rcases M.same r with h2 | ⟨j, hj, h2, h3⟩
      · rw [h2, h1]
        exact ⟨(by intro he; cases he), (fun ab' he => by cases he; rfl)⟩
      · rw [M.hole j hj r h2 h3]
        exact ⟨(by intro he; cases he), (fun ab' he => by cases he)⟩
    have hT' : RTm F w m hS (fun d => if d ∈ o.looksAt ops then Ts i d else .t (.c .dead)) a := fun d => by
      by_cases hd' : d ∈ o.looksAt ops
      · simp only [hd', if_true]; exact hlook d hd'
      · simp only [hd', if_false]; exact (trivial : RC F w m hS .dead _)
    have hp' := popP_congr (T' := fun d => if d ∈ o.looksAt ops then Ts i d else .t (.c .dead)) (fun x hx => by
      cases x with
      | tmp t => simp only [ev, looks_op (ops := ops) hx, if_true]
      | const v => rfl
      | global g => rfl
      | func f => rfl) (hpop hWi)
    refine (popP_sound o hCp hT' M.st.hp hp').wp (fun v w' ⟨res, rows, ⟨hres, hrows⟩, hout⟩ => ?_)
    subst hres
    subst hrows
    obtain ⟨F1, hF1, hF2, hF3, hbel, nb, hnl, hnb, hnd, hplace⟩ := hout
    have hml : m.length = hS.length := M.st.hp.len
    have gh : ∀ r, (repl hS (Hs i).length ((Rw i).map AE.live))[r]? = if (Hs i).length ≤ r ∧ r < (Hs i).length + (Rw i).length then ((Rw i).map AE.live)[r - (Hs i).length]? else hS[r]? := fun r => by
      have := repl_get hS (Hs i).length ((Rw i).map AE.live) (by simpa using hsp) r
      simpa using this
    have gm : ∀ r, (repl m (Hs i).length nb)[r]? = if (Hs i).length ≤ r ∧ r < (Hs i).length + (Rw i).length then nb[r - (Hs i).length]? else m[r]? := fun r => by
      have := repl_get m (Hs i).length nb (by rw [hnl, hml]; exact hsp) r
      rw [hnl] at this
      exact this
    have hkeep : Keeps m hS (repl m (Hs i).length nb) (repl hS (Hs i).length ((Rw i).map AE.live)) := fun r => by
      rw [gh r, gm r]
      by_cases hin : (Hs i).length ≤ r ∧ r < (Hs i).length + (Rw i).length
      · have := M.hole i hiU r hin.1 hin.2
        rw [this]
        exact ⟨(fun h1 => by cases h1), (fun ab h1 => by cases h1)⟩
      · rw [if_neg hin, if_neg hin]
        exact ⟨id, fun ab h1 => .inr ⟨ab, h1, rfl, rfl, rfl⟩⟩
    have hpl : ∀ (j : Nat) (ab : AB), (Rw i)[j]? = some ab → (repl hS (Hs i).length ((Rw i).map AE.live))[(Hs i).length + j]? = some (.live ab) ∧ (repl m (Hs i).length nb)[(Hs i).length + j]? = nb[j]? := fun j ab hj => by
      have hjl := (List.getElem?_eq_some_iff.1 hj).1
      rw [gh, gm, if_pos (by omega), if_pos (by omega), Nat.add_sub_cancel_left]
      exact ⟨by simp [hj], rfl⟩
    have hout2 := hplace _ _ hkeep hpl
    have hstep : Step F1 w m hS w' (repl m (Hs i).length nb) (repl hS (Hs i).length ((Rw i).map AE.live)) := by
      refine Step.of_out_at (n := (Hs i).length) M.st.hp hF1 hF2 hF3 hbel hnl hnb hnd hout2 hkeep (by rw [repl_len _ _ _ (by rw [hnl, hml]; exact hsp), repl_len _ _ _ (by simpa using hsp)]; exact hml) (fun r ab hr' => ?_)
      rw [gh r] at hr'
      rw [gm r]
      by_cases hin : (Hs i).length ≤ r ∧ r < (Hs i).length + (Rw i).length
      · right
        rw [if_pos hin] at hr'
        rw [if_pos hin]
        obtain ⟨ab', h1, h2⟩ := rowsOf hr'
        cases h2
        exact ⟨r - (Hs i).length, by omega, h1, rfl⟩
      · left
        rw [if_neg hin] at hr'
        rw [if_neg hin]
        exact ⟨hr', rfl⟩
    refine hK F1 _ _ _ _ ⟨hF1, fun b hb => (hF2 b hb).imp id .inl⟩ ⟨inv', M.nodup.erase i, un', by rw [repl_len _ _ _ (by simpa using hsp)]; exact M.len, fun r => ?_, fun j hj r h1 h2 => ?_, fun d => ?_, M.st.trans hstep, by rw [put_defers]; exact M.df, by rw [put_size]; exact M.sz⟩
    · rw [gh r]
      by_cases hin : (Hs i).length ≤ r ∧ r < (Hs i).length + (Rw i).length
      · left
        rw [if_pos hin]
        have hrl : r - (Hs i).length < ((Rw i).map AE.live).length := by simp; omega
        rw [List.getElem?_eq_getElem hrl]
        refine (hpre.2 r _ ?_).symm
        rw [hH1, List.getElem?_append_right hin.1, List.getElem?_eq_getElem hrl]
      · rw [if_neg hin]
        rcases M.same r with h1 | ⟨j, hj, h1, h2⟩
        · exact .inl h1
        · by_cases hij : j = i
          · subst hij; exact (hin ⟨h1, h2⟩).elim
          · exact .inr ⟨j, (M.nodup.mem_erase_iff).2 ⟨hij, hj⟩, h1, h2⟩
    · rw [gh r, if_neg (by have := hdis j hj r h1 h2; omega)]
      exact M.hole j (List.mem_of_mem_erase hj) r h1 h2
    · by_cases hdd : o.dst = some d
      · right
        rw [put_get]
        have hlt : d < N := by unfold dstOk at hdo; rw [hdd] at hdo; simpa using hdo
        rw [if_pos ⟨hdd, by rw [M.sz]; exact hlt⟩, hTd d hdd]
        exact hout2.1
      · rw [put_get, if_neg (fun hx => hdd hx.1)]
        rcases M.tm d with ⟨j, hj, o', ho', hjd⟩ | h1
        · left
          refine ⟨j, (M.nodup.mem_erase_iff).2 ⟨fun e => ?_, hj⟩, o', ho', hjd⟩
          subst e
          rw [ho] at ho'
          cases ho'
          exact hdd hjd
        · exact .inr (RV.stepG hstep hF1 M.st.hp h1)
end
end Go.Proofs.YtgcofllgbdcicaaGreat.Am
