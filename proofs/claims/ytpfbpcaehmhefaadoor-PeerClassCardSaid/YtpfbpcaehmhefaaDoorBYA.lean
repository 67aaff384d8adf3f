/- The engine, part A: what 'append' and 'make' come to, whatever is appended: plain laws of the model. -/
import Derived.Laws.AppendOwn
import Derived.Laws.Tables
namespace Go.Proofs.YtpfbpcaehmhefaaDoorB.Sx
set_option linter.unusedSimpArgs false
set_option linter.unusedVariables false
variable {P : Program}

theorem run_append_grow' (w : World) (t t' ty e : TypeId) (i : TypeInfo) (z : Value) (ht : P.underlying t = some (.slice e)) (hi : P.info? e = some i) (hz : i.zero = some z)
    (ht' : (∃ e', P.underlying t' = some (.slice e')) ∨ P.underlying t' = some .string)
    (base : Option Addr) (sLen sCap : Nat) (X : Value) (m : Nat) (olds news : List Value)
    (hlen : ∀ w, (Builtin.lenOf X).run P w = .ok m w) (ho : ∀ w' : World, w'.heap = w.heap → (Builtin.firstCells i.size sLen (.slice base sLen sCap)).run P w' = .ok olds.toArray w')
    (hn : ∀ w' : World, w'.heap = w.heap → (Builtin.firstCells i.size m X).run P w' = .ok news.toArray w')
    (hg : sCap < sLen + m) (h63 : ((sLen + m : Nat) : Int) ≤ 9223372036854775807) (hfit : Builtin.nextslicecap (sLen + m) sCap * i.bytes ≤ 281474976710656) :
    (Builtin.append_ #[t, t'] ty #[.slice base sLen sCap, X]).run P w =
      .ok (.slice (some ⟨w.heap.size, 0, none⟩) (sLen + m) (grownCap w (sLen + m) sCap e))
        (w.drew.alloc (.cells (olds.toArray ++ news.toArray ++ Builtin.zeroCells z.cells (grownCap w (sLen + m) sCap e - (sLen + m))) e)) := by
  have hn1 : ¬ (sLen + m ≤ sCap) := by omega
  have h63' : ¬ (9223372036854775807 < ((sLen : Int) + (m : Int))) := by omega
  have h48' : ¬ (281474976710656 < Builtin.nextslicecap (sLen + m) sCap * i.bytes) := by omega
  have hf := hn w.drew rfl
  have hfo := ho w.drew rfl
  rcases ht' with ⟨e', ht'⟩ | ht' <;> simp [Builtin.append_, run_underlying ht, run_underlying ht', sizeOf, typeInfo, zeroValue, hi, hz, hlen, hn1, h63', h48', Question.forced, hf, hfo, newRow, grownCap]
  all_goals (congr 2; apply Array.ext'; simp [List.append_assoc])

theorem run_append_room' (w : World) (t t' ty e : TypeId) (i : TypeInfo) (ht : P.underlying t = some (.slice e)) (hi : P.info? e = some i)
    (ht' : (∃ e', P.underlying t' = some (.slice e')) ∨ P.underlying t' = some .string)
    (g sLen sCap : Nat) (cur : Array Value) (hg : w.heap[g]? = some (.cells cur e (0, 0))) (X : Value) (m : Nat) (news : List Value)
    (hlen : ∀ w, (Builtin.lenOf X).run P w = .ok m w) (hn : ∀ w' : World, w'.heap = w.heap → (Builtin.firstCells i.size m X).run P w' = .ok news.toArray w')
    (h1 : ∀ u ∈ news, u.oneCell' = true) (hroom : sLen + m ≤ sCap) (hfit : sLen * i.size + news.length ≤ cur.size) :
    (Builtin.append_ #[t, t'] ty #[.slice (some ⟨g, 0, none⟩) sLen sCap, X]).run P w =
      .ok (.slice (some ⟨g, 0, none⟩) (sLen + m) sCap) (w.setRow g (cur.toList.take (sLen * i.size) ++ news ++ cur.toList.drop (sLen * i.size + news.length)).toArray) := by
  have hst := run_storeCells_at P g (sLen * i.size) e news 0 cur w hg (by simpa using hfit) h1
  simp only [Nat.add_zero] at hst
  have hf := hn w rfl
  rcases ht' with ⟨e', ht'⟩ | ht' <;> simp [Builtin.append_, run_underlying ht, run_underlying ht', sizeOf, typeInfo, hi, hlen, hroom, hf, Addr.add_lit, hst]

theorem run_append_nil0' (w : World) (t t' ty e : TypeId) (i : TypeInfo) (ht : P.underlying t = some (.slice e)) (hi : P.info? e = some i)
    (ht' : (∃ e', P.underlying t' = some (.slice e')) ∨ P.underlying t' = some .string) (X : Value) (sCap : Nat)
    (hlen : ∀ w, (Builtin.lenOf X).run P w = .ok 0 w) (hn : ∀ w' : World, w'.heap = w.heap → (Builtin.firstCells i.size 0 X).run P w' = .ok #[] w') :
    (Builtin.append_ #[t, t'] ty #[.slice none 0 sCap, X]).run P w = .ok (.slice none 0 sCap) w := by
  have hf := hn w rfl
  rcases ht' with ⟨e', ht'⟩ | ht' <;> simp [Builtin.append_, run_underlying ht, run_underlying ht', sizeOf, typeInfo, hi, hlen, hf]

/-- A row that has grown. -/
theorem grown_row {w : World} {e : TypeId} {i : TypeInfo} {z : Value} (hzs : z.cells.size = i.size) (n m old : Nat) (xs news : List Value) (hx : xs.length = n * i.size) (hl : news.length = m * i.size) (h63 : n + m ≤ maxLen) :
    (w.drew.alloc (.cells (xs.toArray ++ news.toArray ++ Builtin.zeroCells z.cells (grownCap w (n + m) old e - (n + m))) e)).ownsRow 0 e i.size
      (.slice (some ⟨w.heap.size, 0, none⟩) (n + m) (grownCap w (n + m) old e)) (n + m) (xs ++ news) := by
  have hlen : (xs ++ news).length = (n + m) * i.size := by rw [List.length_append, hx, hl, Nat.add_mul]
  have hge := grownCap_ge w (n + m) old e
  have hcm : grownCap w (n + m) old e ≤ maxLen := grownCap_le_maxLen w (n + m) old e h63
  refine ⟨hlen, .inr ⟨w.heap.size, _, _, rfl, Nat.zero_le _, heap_alloc_new w.drew _, hge, hcm, ?_, ?_⟩⟩
  · simp only [Array.size_append, List.size_toArray, size_zeroCells, hzs, hx, hl, ← Nat.add_mul]
    congr 1
    omega
  · simp only [Array.toList_append, List.append_assoc]
    rw [← List.append_assoc, ← hlen]
    exact List.take_left
theorem grown_by (w : World) (o : Obj) (row : Option Nat) : w.grownBy (w.drew.alloc o) row := ⟨rfl, rfl, rfl, by simp, fun k hk _ => heap_alloc_old w.drew o k hk⟩

/-- Onto a whole row of the call's own. -/
theorem run_append_own' (w : World) (t t' ty e : TypeId) (i : TypeInfo) (z : Value) (ht : P.underlying t = some (.slice e)) (hi : P.info? e = some i) (hz : i.zero = some z)
    (ht' : (∃ e', P.underlying t' = some (.slice e')) ∨ P.underlying t' = some .string) (hzs : z.cells.size = i.size)
    (v : Value) (n : Nat) (xs : List Value) (hown : w.ownsRow 0 e i.size v n xs) (X : Value) (m : Nat) (news : List Value)
    (hlen : ∀ w, (Builtin.lenOf X).run P w = .ok m w) (hn : ∀ w' : World, w'.heap = w.heap → (Builtin.firstCells i.size m X).run P w' = .ok news.toArray w')
    (hl : news.length = m * i.size) (h1 : ∀ u ∈ news, u.oneCell' = true) (h63 : n + m ≤ maxLen) (hbytes : (n + m) * i.bytes ≤ 140737488355328) :
    ∃ v' w', (Builtin.append_ #[t, t'] ty #[v, X]).run P w = .ok v' w' ∧ w'.ownsRow 0 e i.size v' (n + m) (xs ++ news) ∧ w.grownBy w' v.ownBlock ∧
      (∀ k, v'.ownBlock = some k → v.ownBlock = some k ∨ w.heap.size ≤ k) := by
  have hlen' : (xs ++ news).length = (n + m) * i.size := by rw [List.length_append, hown.1, hl, Nat.add_mul]
  have h63i : ((n + m : Nat) : Int) ≤ 9223372036854775807 := by simp only [maxLen] at h63; omega
  rcases hown.2 with ⟨rfl, rfl⟩ | ⟨g, cap, cur, rfl, hbg, hg, hnc, hcm, hcs, htake⟩
  · have hx : xs = [] := List.eq_nil_of_length_eq_zero (by simpa using hown.1)
    subst hx
    by_cases hm : m = 0
    · subst hm
      have hnw : news = [] := List.eq_nil_of_length_eq_zero (by simpa using hl)
      subst hnw
      exact ⟨_, _, run_append_nil0' w t t' ty e i ht hi ht' X 0 hlen (by simpa using hn), World.ownsRow_nil w 0 e i.size, ⟨rfl, rfl, rfl, Nat.le_refl _, fun _ _ _ => rfl⟩, fun k hk => .inl hk⟩
    · have hr := run_append_grow' w t t' ty e i z ht hi hz ht' none 0 0 X m [] news hlen (fun w' _ => by simp [Builtin.firstCells]) hn (by omega) h63i (growslice_fits (by omega) hbytes)
      have hgr := grown_row (w := w) (e := e) hzs 0 m 0 [] news (by simp) hl h63
      exact ⟨_, _, hr, hgr, grown_by _ _ _, fun k hk => .inr (by simp [Value.ownBlock] at hk; omega)⟩
  · by_cases hroom : n + m ≤ cap
    · have hfit : n * i.size + news.length ≤ cur.size := by rw [hl, hcs, ← Nat.add_mul]; exact Nat.mul_le_mul_right _ hroom
      have hr := run_append_room' w t t' ty e i ht hi ht' g n cap cur hg X m news hlen hn h1 hroom hfit
      refine ⟨_, _, hr, ⟨hlen', .inr ⟨g, cap, _, rfl, hbg, setRow_heap w g cur _ e _ hg, hroom, hcm, ?_, ?_⟩⟩, ⟨rfl, rfl, rfl, by simp, fun k _ hk => setRow_other w g k _ (fun e => hk (by simp [Value.ownBlock, e]))⟩, fun k hk => .inl hk⟩
      · simp only [List.size_toArray, List.length_append, List.length_take, List.length_drop, Array.length_toList]
        omega
      · rw [htake, ← hlen']
        exact List.take_left
    · have holds : ∀ j u, xs[j]? = some u → w.cell? ((⟨g, 0, none⟩ : Addr).add j) = some u := hown.cells (g := g) rfl
      have hr := run_append_grow' w t t' ty e i z ht hi hz ht' (some ⟨g, 0, none⟩) n cap X m xs news hlen
        (fun w' hw' => run_firstCells_some (P := P) w' i.size n ⟨g, 0, none⟩ n cap xs hown.1 (fun j u hu => by have := holds j u hu; unfold World.cell? at this ⊢; rw [hw']; exact this)) hn (by omega) h63i (growslice_fits (by omega) hbytes)
      have hgr := grown_row (w := w) (e := e) hzs n m cap xs news hown.1 hl h63
      exact ⟨_, _, hr, hgr, grown_by _ _ _, fun k hk => .inr (by simp [Value.ownBlock] at hk; omega)⟩

/-- A new row of zeros. -/
theorem run_makeSlice' (w : World) (t e : TypeId) (i : TypeInfo) (z : Value) (ht : P.underlying t = some (.slice e)) (hi : P.info? e = some i) (hz : i.zero = some z) (kl kc : IntKind) (l c : Int)
    (h0 : 0 ≤ l) (hlc : l ≤ c) (hc : c ≤ 1073741824) (hb : (i.bytes : Int) * c ≤ 281474976710656) (hs : 0 < i.size) :
    (Instr.makeSlice t (.int kl l) (.int kc c)).run P w = .ok (.slice (some ⟨w.heap.size, 0, none⟩) l.toNat c.toNat) (w.alloc (.cells ((Array.range (c.toNat * i.size)).map (z.cells[· % z.cells.size]!)) e)) := by
  have wl : IntKind.i64.wrap l = l := by rw [IntKind.wrap_i64]; omega
  have wc : IntKind.i64.wrap c = c := by rw [IntKind.wrap_i64]; omega
  have n1 : ¬ c < 0 := by omega
  have n2 : ¬ (281474976710656 < (i.bytes : Int) * c) := by omega
  have n3 : ¬ l < 0 := by omega
  have n4 : ¬ c < l := by omega
  by_cases h00 : c.toNat * i.size = 0
  · have h0' : c.toNat = 0 := by
      rcases Nat.mul_eq_zero.1 h00 with h | h
      · exact h
      · omega
    have hl0 : l.toNat = 0 := by omega
    have e0 : Array.range 0 = #[] := rfl
    by_cases hr : c.toNat * i.bytes > roomBytes
    · simp [h0'] at hr
    · simp [Instr.makeSlice, run_underlying ht, typeInfo, sizeOf, zeroValue, asInt, asIntOf, hi, hz, wl, wc, n1, n2, n3, n4, h0', newRow, askRoom, e0]
  · by_cases hr : c.toNat * i.bytes > roomBytes
    · simp [Instr.makeSlice, run_underlying ht, typeInfo, sizeOf, zeroValue, asInt, asIntOf, hi, hz, wl, wc, n1, n2, n3, n4, h00, newRow, askRoom, hr]
    · simp [Instr.makeSlice, run_underlying ht, typeInfo, sizeOf, zeroValue, asInt, asIntOf, hi, hz, wl, wc, n1, n2, n3, n4, h00, newRow, askRoom, hr]
end Go.Proofs.YtpfbpcaehmhefaaDoorB.Sx
