/- The children in the flow: an insertion sort, as the library has it and as the reference has it. -/
import Derived.Test.YtdnnffbbhijmkaaGreatSo
import Derived.Test.YtdnnffbbhijmkaaGreatN10
namespace Go.Proofs.YtdnnffbbhijmkaaGreat
open Go.Shelf Go.RowKit Go.Lib Go.Sort Am
set_option linter.unusedVariables false
set_option linter.unusedSimpArgs false

/-- x put into a row that stands the last first: behind those that are not above it. -/
def insW (f : Int → Int) (x : Int) : List Int → List Int
  | [] => [x]
  | y :: r => if f x < f y then y :: insW f x r else x :: y :: r
def ltF (f : Int → Int) (x y : Int) : Bool := decide (f x < f y)
theorem arr_get {d : Array Int} {pre post : List Int} {x : Int} (h : d.toList = pre ++ x :: post) : d[pre.length]! = x := by
  have hl : pre.length < d.size := by rw [← Array.length_toList, h]; simp
  rw [getElem!_pos d _ hl, ← Array.getElem_toList]
  simp [h]
theorem swp_list {d : Array Int} {pre post : List Int} {x y : Int} (h : d.toList = pre ++ y :: x :: post) : (swp d (pre.length + 1) pre.length).toList = pre ++ x :: y :: post := by
  have e1 : d[pre.length]! = y := arr_get h
  have e2 : d[pre.length + 1]! = x := by
    have := arr_get (d := d) (pre := pre ++ [y]) (post := post) (x := x) (by rw [h]; simp)
    simpa using this
  unfold swp
  rw [e1, e2, Array.toList_setIfInBounds, Array.toList_setIfInBounds, h]
  apply List.ext_getElem?
  intro i
  simp only [List.getElem?_set, List.length_set, List.length_append, List.length_cons, List.getElem?_append, List.getElem?_cons]
  split <;> split <;> split <;> (try split) <;> (try split) <;> first | rfl | omega | (simp_all <;> omega)
theorem inner_list (f : Int → Int) : ∀ (j : Nat) (d : Array Int) (pre post : List Int) (x : Int), pre.length = j → d.toList = pre ++ x :: post → (insInner (ltF f) 0 j d).toList = (insW f x pre.reverse).reverse ++ post
  | 0, d, pre, post, x, hj, h => by
    obtain rfl := List.length_eq_zero_iff.1 hj
    rw [insInner]
    simpa [insW] using h
  | j + 1, d, pre, post, x, hj, h => by
    rcases List.eq_nil_or_concat pre with rfl | ⟨pre', y, rfl⟩
    · simp at hj
    have hj' : pre'.length = j := by simpa using hj
    have h' : d.toList = pre' ++ y :: x :: post := by rw [h]; simp
    have e1 : d[j]! = y := by rw [← hj']; exact arr_get h'
    have e2 : d[j + 1]! = x := by
      have := arr_get (d := d) (pre := pre' ++ [y]) (post := post) (x := x) (by rw [h']; simp)
      rw [← hj']; simpa using this
    rw [insInner, e1, e2]
    have hr : (pre'.concat y).reverse = y :: pre'.reverse := by simp
    rw [hr, insW]
    by_cases hlt : f x < f y
    · have : (decide (j + 1 > 0) && ltF f x y) = true := by simp [ltF, hlt]
      rw [if_pos this, if_pos hlt, inner_list f j _ pre' (y :: post) x hj' (by rw [← hj']; exact swp_list h')]
      simp
    · have : (decide (j + 1 > 0) && ltF f x y) = false := by simp [ltF, hlt]
      rw [if_neg (by rw [this]; simp), if_neg hlt, h']
      simp
theorem size_inner (lt : Int → Int → Bool) (a : Nat) : ∀ (j : Nat) (d : Array Int), (insInner lt a j d).size = d.size
  | 0, d => by rw [insInner]
  | j + 1, d => by
    rw [insInner]
    split
    · rw [size_inner lt a j, size_swp]
    · rfl
theorem outer_list (f : Int → Int) (b : Nat) : ∀ (rest A : List Int) (d : Array Int), d.toList = A ++ rest → A.length + rest.length = b → (insOuter (ltF f) 0 b A.length d).toList = (rest.foldl (fun acc x => insW f x acc) A.reverse).reverse
  | [], A, d, h, hb => by
    rw [insOuter, if_neg (by simp at hb; omega)]
    simpa using h
  | x :: post, A, d, h, hb => by
    simp only [List.length_cons] at hb
    rw [insOuter, if_pos (by omega)]
    have hi := inner_list f A.length d A post x rfl h
    have hl : (insW f x A.reverse).reverse.length = A.length + 1 := by
      have h1 := congrArg List.length hi
      have h2 : (insInner (ltF f) 0 A.length d).size = d.size := size_inner _ _ _ _
      rw [Array.length_toList, h2, ← Array.length_toList, h] at h1
      simp only [List.length_append, List.length_cons] at h1
      omega
    have := outer_list f b post (insW f x A.reverse).reverse _ hi (by omega)
    rw [hl, List.reverse_reverse] at this
    rw [this, List.foldl_cons]
theorem sort_list (f : Int → Int) (xs : List Int) : (Sort.insertionSort (ltF f) xs.toArray 0 xs.toArray.size).toList = (xs.foldl (fun acc x => insW f x acc) []).reverse := by
  unfold Sort.insertionSort
  cases xs with
  | nil =>
    rw [insOuter, if_neg (by simp)]; rfl
  | cons x post =>
    have := outer_list f (x :: post).toArray.size post [x] (x :: post).toArray rfl (by simp; omega)
    simpa [insW] using this
/-- The reference's way: from the end, while the one before is above. -/
theorem insB_drop (f : Int → Int) (x : Int) : ∀ (out : List Int) (a : Nat), a ≤ out.length → (∀ i y, a ≤ i → out[i]? = some y → f x < f y) → (insW f x out.reverse).reverse = (insW f x (out.take a).reverse).reverse ++ out.drop a := by
  intro out
  induction h : out.length generalizing out with
  | zero =>
    intro a ha _
    obtain rfl := List.length_eq_zero_iff.1 h
    simp
  | succ n ih =>
    intro a ha hy
    rcases List.eq_nil_or_concat out with rfl | ⟨o, y, rfl⟩
    · simp at h
    rw [List.concat_eq_append] at *
    simp only [List.length_append, List.length_singleton, Nat.add_right_cancel_iff] at h
    by_cases ha2 : a = (o ++ [y]).length
    · subst ha2
      rw [List.take_length, List.drop_length, List.append_nil]
    · have hal : a ≤ o.length := by simp at ha ha2; omega
      have h1 := hy o.length y hal (by simp)
      have := ih o h a (by omega) (fun i z hi hz => hy i z hi (by rw [List.getElem?_append_left (List.getElem?_eq_some_iff.1 hz).1]; exact hz))
      rw [List.reverse_append, List.reverse_singleton, List.singleton_append, insW, if_pos h1, List.reverse_cons, this, List.take_append_of_le_length hal, List.drop_append_of_le_length hal]
      simp
theorem insB_stop (f : Int → Int) (x : Int) (out : List Int) (a : Nat) (ha : a ≤ out.length) (hs : a = 0 ∨ ∃ y, out[a - 1]? = some y ∧ ¬ f x < f y) (hy : ∀ i y, a ≤ i → out[i]? = some y → f x < f y) : (insW f x out.reverse).reverse = out.take a ++ x :: out.drop a := by
  rw [insB_drop f x out a ha hy]
  rcases hs with rfl | ⟨y, h1, h2⟩
  · simp [insW]
  · have hl : a - 1 < out.length := (List.getElem?_eq_some_iff.1 h1).1
    have h0 : 0 < a := by
      rcases Nat.eq_zero_or_pos a with rfl | h
      · exact absurd (hy 0 y (Nat.le_refl _) (by simpa using h1)) h2
      · exact h
    have e : out.take a = out.take (a - 1) ++ [y] := by
      conv => lhs; rw [show a = a - 1 + 1 by omega]
      rw [List.take_add_one, h1]; rfl
    rw [e, List.reverse_append, List.reverse_singleton, List.singleton_append, insW, if_neg h2]
    simp
theorem insB_len (f : Int → Int) (x : Int) : ∀ l : List Int, (insW f x l).length = l.length + 1
  | [] => rfl
  | y :: r => by
    rw [insW]; split
    · simp [insB_len f x r]
    · simp
theorem insB_mem (f : Int → Int) (x k : Int) : ∀ l : List Int, k ∈ insW f x l ↔ k = x ∨ k ∈ l
  | [] => by simp [insW]
  | y :: r => by
    rw [insW]; split
    · simp only [List.mem_cons, insB_mem f x k r]
      constructor
      · rintro (h | h | h) <;> simp [h]
      · rintro (h | h | h) <;> simp [h]
    · simp
def sortF (f : Int → Int) (xs : List Int) : List Int := (xs.foldl (fun acc x => insW f x acc) []).reverse
theorem foldB_mem (f : Int → Int) (k : Int) : ∀ (xs acc : List Int), k ∈ xs.foldl (fun acc x => insW f x acc) acc ↔ k ∈ xs ∨ k ∈ acc
  | [], acc => by simp
  | x :: xs, acc => by
    rw [List.foldl_cons, foldB_mem f k xs, insB_mem]
    simp only [List.mem_cons]
    constructor
    · rintro (h | h | h) <;> simp [h]
    · rintro ((h | h) | h) <;> simp [h]
theorem sortF_mem (f : Int → Int) (k : Int) (xs : List Int) : k ∈ sortF f xs ↔ k ∈ xs := by simp [sortF, foldB_mem]
theorem foldB_len (f : Int → Int) : ∀ (xs acc : List Int), (xs.foldl (fun acc x => insW f x acc) acc).length = xs.length + acc.length
  | [], acc => by simp
  | x :: xs, acc => by rw [List.foldl_cons, foldB_len f xs, insB_len]; simp; omega
theorem sortF_len (f : Int → Int) (xs : List Int) : (sortF f xs).length = xs.length := by simp [sortF, foldB_len]
theorem sortF_app (f : Int → Int) (xs : List Int) (x : Int) : sortF f (xs ++ [x]) = (insW f x (sortF f xs).reverse).reverse := by simp [sortF]
theorem rpl_move {F F' : Nat → Prop} {w w' : World} {b : Nat} (hF : ∀ b, F b → F' b) (hw : ∀ b, F b → w'.heap[b]? = w.heap[b]?) (hb : w'.heap[b]? = w.heap[b]?) {cs : List AC} (h : RPL F w b 0 cs) : RPL F' w' b 0 cs :=
  RPL.mk fun j c hj => by
    obtain ⟨u, hu, ho, hr⟩ := RPL.get h hj
    exact ⟨u, by rw [cell_block hb]; exact hu, ho, RP.ext hF hw hr⟩
/-- A closure over two boxed variables, the row that is sorted (the first) and data (the second), as a comparison. -/
theorem less_of_pcon {P : Program} {g : FuncId} {f : Int → Int} {p : Int → Prop} {cs : List AC} {n : Nat}
    (hc : ∀ (dk : List Int) (i j : Nat), dk.length = n → (∀ k ∈ dk, p k) → i < n → j < n → PCon P g [ai (i : Int), ai (j : Int), .c (.eptr cs 0), .c (.eptr [.view (vw intC dk)] 0)] fun res rows => res = .t (abl (decide (f (dk[i]!) < f (dk[j]!)))) ∧ rows = [])
    {F : Nat → Prop} {w : World} {blk bo bt cap : Nat} {d : Array Int} (hF : ∀ b, F b → b < w.heap.size) (hFb : ¬ F blk) (hblk : blk < w.heap.size) (hbo : bo < w.heap.size) (hbt : bt < w.heap.size) (ho : bo ≠ blk) (ht : bt ≠ blk)
    (hco : w.cell? ⟨bo, 0, none⟩ = some (.slice (some ⟨blk, 0, none⟩) n cap)) (hn : n ≤ cap) (hm : cap ≤ maxLen) (hct : RPL F w bt 0 cs) (hd : d.size = n) (hH : Holds (Value.int .i64) w blk 0 d) :
    LessB P g #[.pointer (some ⟨bt, 0, none⟩), .pointer (some ⟨bo, 0, none⟩)] (Value.int .i64) (ltF f) p blk 0 n w := fun W dk hs hp hW i j hi hj => by
  obtain ⟨F', hF'⟩ : ∃ F' : Nat → Prop, F' = fun b => F b ∨ b = bo ∨ b = bt ∨ b = blk := ⟨_, rfl⟩
  have hkeep : ∀ b, F b → W.heap[b]? = w.heap[b]? := fun b hb => (hW.at_ b (hF b hb)).trans (putRow_other (fun e => hFb (e ▸ hb)))
  have hHW := hW.holds hblk hH (hs.trans hd.symm)
  have hco' : W.cell? ⟨bo, 0, none⟩ = some (.slice (some ⟨blk, 0, none⟩) n cap) := by rw [hW.cell hbo ho]; exact hco
  have hct' : RPL F' W bt 0 cs := rpl_move (fun b hb => by rw [hF']; exact .inl hb) hkeep ((hW.at_ bt hbt).trans (putRow_other ht)) hct
  have hlen : (vw intC dk.toList).length = n := by rw [vw_length]; simpa using hs
  have hrow : RP F' W (.view (vw intC dk.toList)) (.slice (some ⟨blk, 0, none⟩) n cap) := by
    unfold RP
    refine ⟨_, cap, by rw [hlen], by rw [hlen]; exact hn, hm, .inr ⟨blk, 0, 1, rfl, by rw [hF']; exact .inr (.inr (.inr rfl)), RPE.mk fun q x hq => ?_⟩⟩
    have hql : q < dk.size := by have := (List.getElem?_eq_some_iff.1 hq).1; rw [hlen] at this; omega
    have hx : x = lc (intC dk[q]!) := by
      have h1 : dk.toList[q]? = some dk[q]! := by rw [getElem!_pos dk q hql]; simp [hql]
      have := vw_at (c := intC) h1
      rw [hq] at this; exact Option.some.inj this
    subst hx
    refine ⟨rfl, RPL.mk fun t c ht => ?_⟩
    have : t = 0 := by
      have := (List.getElem?_eq_some_iff.1 ht).1
      simp [lc, intC] at this; omega
    subst this
    have : c = .imm (.int .i64 dk[q]!) := by simpa [lc, intC] using ht.symm
    subst this
    refine ⟨.int .i64 dk[q]!, ?_, rfl, by unfold RP; rfl⟩
    have := (hHW q hql).1
    simpa using this
  have hcc := hc dk.toList i j (by simpa using hs) (fun k hk => by
    obtain ⟨q, hq⟩ := List.mem_iff_getElem?.1 hk
    have hql : q < dk.size := by have := (List.getElem?_eq_some_iff.1 hq).1; simpa using this
    have := hp q (by omega)
    rw [getElem!_pos dk q hql] at this
    have h2 : k = dk[q] := by simp [hql] at hq; exact hq.symm
    rw [h2]; exact this) hi hj
  have hg1 : ∀ q, q < n → dk.toList[q]! = dk[q]! := fun q hq => by
    rw [getElem!_pos dk q (by omega), getElem!_pos dk.toList q (by simp; omega)]; simp
  rw [hg1 i hi, hg1 j hj] at hcc
  have hsz : ∀ b, F' b → b < W.heap.size := fun b hb => by
    rw [hF'] at hb
    refine Nat.lt_of_lt_of_le ?_ hW.size
    rcases hb with hb | rfl | rfl | rfl
    · exact hF b hb
    · exact hbo
    · exact hbt
    · exact hblk
  refine (hcc.2 F' W [] [.int .i64 i, .int .i64 j, .pointer (some ⟨bt, 0, none⟩), .pointer (some ⟨bo, 0, none⟩)] (RH.empty hsz) rfl (fun q x hq => ?_)).mono ?_
  · match q, hq with
    | 0, hq => obtain rfl := Option.some.inj hq.symm; exact ⟨_, rfl, rfl⟩
    | 1, hq => obtain rfl := Option.some.inj hq.symm; exact ⟨_, rfl, rfl⟩
    | 2, hq => obtain rfl := Option.some.inj hq.symm; exact ⟨_, rfl, bt, 0, rfl, by rw [hF']; exact .inr (.inr (.inl rfl)), hct'⟩
    | 3, hq =>
      obtain rfl := Option.some.inj hq.symm
      refine ⟨_, rfl, bo, 0, rfl, by rw [hF']; exact .inr (.inl rfl), RPL.mk fun t c ht => ?_⟩
      have h0 : t = 0 := by
        have := (List.getElem?_eq_some_iff.1 ht).1
        simp at this; omega
      subst h0
      obtain rfl := Option.some.inj ht.symm
      exact ⟨_, hco', rfl, hrow⟩
    | q + 4, hq => simp at hq
  · rintro e w' ⟨v, res, h', m', F'', rfl, ⟨rows, rfl, hq, _⟩, hG, hS, hV⟩
    subst hq
    refine ⟨?_, hS.os, hS.tape, hS.output, hS.size, fun b hb => hS.blk b hb (fun r ab c h => by simp at h)⟩
    have : v = .bool (decide (f dk[i]! < f dk[j]!)) := hV
    rw [this]; rfl

end Go.Proofs.YtdnnffbbhijmkaaGreat
