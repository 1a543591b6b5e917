/-
  An abstract machine over the model's code and its soundness; what the functions compute, as plain functions (printed by a program of this repo's own, checked here by the kernel); plain laws of them: part 2. Helper text, no statement of the claim stands here.
-/
import Derived.Test.YtbehddacclfckaaGreatDoorTxtEa
import Derived.Laws.MakeOwn
import Derived.Laws.Append
import Derived.Lib.ConvBytes
import Derived.Laws.BytesArg
import Derived.Laws.BytesString
import Derived.Laws.AppendOwn
import Derived.Orders
/-
  What makes and writes boxes: variables, literals, stores.
-/
set_option linter.unusedVariables false
set_option linter.unusedSimpArgs false
namespace Go.Ab
open Go
theorem qAB : ∀ {a b : Value}, veq a b = true → a = b := by
  intro a b h
  unfold veq at h
  split at h
  · simp only [Bool.and_eq_true, decide_eq_true_eq] at h; rw [h.1, h.2]
  · simp only [beq_iff_eq] at h; rw [h]
  · simp only [Bool.and_eq_true, beq_iff_eq] at h
    have : ∀ s : ByteArray, s.size = 0 → s = ByteArray.empty := by
      intro s hs
      apply ByteArray.ext
      exact Array.eq_empty_of_size_eq_zero hs
    rw [this _ h.1, this _ h.2]
  · rfl
  · rfl
  · cases h
theorem qCw : ∀ {a b : List Value}, qsB a b = true → a = b
  | [], [], _ => rfl
  | [], _ :: _, h => by simp [qsB] at h
  | _ :: _, [], h => by simp [qsB] at h
  | _ :: _, _ :: _, h => by
    simp only [qsB, Bool.and_eq_true] at h
    rw [qAB h.1, qCw h.2]
theorem qyd {w : World} {N : Nat → Prop} : ∀ {t : Ty}, PRd w N t (qja t) (qFg t)
  | .int _ => rfl
  | .bool => rfl
  | .str => rfl
  | .arr n e => ⟨List.length_replicate, Cat.replicate (qyd (t := e)) n⟩
  | .pair a b => ⟨_, _, rfl, qyd, qyd⟩
  | .unit => rfl
  | .slice _ => ⟨none, 0, rfl, Nat.le_refl _, .inl rfl⟩
  | .fn => rfl
theorem qsn {w : World} {N : Bool → Nat → Prop} {K : Kn} : ∀ {t : Ty}, ARd w N K t (qrw t) (qFg t)
  | .int _ => rfl
  | .bool => rfl
  | .str => rfl
  | .arr n e => ⟨List.length_replicate, Cat.replicate (qyd (t := e)) n⟩
  | .pair a b => ⟨_, _, rfl, qsn, qsn⟩
  | .unit => rfl
  | .slice _ => rfl
  | .fn => rfl
theorem qSc {P : Program} {w : World} {T : TypeId} {t : Ty} (h : qYf P T t = true) : ∃ v, (zeroValue T).run P w = .ok v w ∧ v.cells.toList = qFg t ∧ ∃ i, P.info? T = some i ∧ i.zero = some v := by
  unfold qYf at h
  split at h
  · rename_i i hi
    split at h
    · rename_i v hv
      simp only [Bool.and_eq_true] at h
      refine ⟨v, ?_, qCw h.2, i, hi, hv⟩
      simp [zeroValue, qyf hi, hv]
    · cases h
  · cases h
section
variable {c : Cx} {P : Program} {GT : qvf} {H lk : qzb} {K : Kn} {w : World} {ev : Operand → TV} {ρ : Operand → Value} {nl : Nat}
theorem qto : ∀ {t : Ty} {x y : qfd t} {n n' : Nat} {rows : List (Nat × Obj)}, qeh t x n = (y, rows, n') → n ≤ n'
  | .pair a b, x, y, n, n', rows, h => by
    simp only [qeh] at h
    rcases ha : qeh a x.1 n with ⟨u, r, n1⟩
    rcases hb : qeh b x.2 n1 with ⟨v, s, n2⟩
    rw [ha] at h
    simp only [hb, Prod.mk.injEq] at h
    obtain ⟨rfl, rfl, rfl⟩ := h
    have := qto ha; have := qto hb; omega
  | .slice e, x, y, n, n', rows, h => by
    cases x <;> simp only [qeh, Prod.mk.injEq] at h <;> omega
  | .int _, x, y, n, n', rows, h => by simp only [qeh, Prod.mk.injEq] at h; omega
  | .bool, x, y, n, n', rows, h => by simp only [qeh, Prod.mk.injEq] at h; omega
  | .str, x, y, n, n', rows, h => by simp only [qeh, Prod.mk.injEq] at h; omega
  | .arr _ _, x, y, n, n', rows, h => by simp only [qeh, Prod.mk.injEq] at h; omega
  | .unit, x, y, n, n', rows, h => by simp only [qeh, Prod.mk.injEq] at h; omega
  | .fn, x, y, n, n', rows, h => by simp only [qeh, Prod.mk.injEq] at h; omega
theorem qso : ∀ {t : Ty} {x y : qfd t} {n n' : Nat} {rows : List (Nat × Obj)}, qeh t x n = (y, rows, n') → ∀ q ∈ rows, n ≤ q.1 ∧ q.1 < n'
  | .pair a b, x, y, n, n', rows, h => by
    simp only [qeh] at h
    rcases ha : qeh a x.1 n with ⟨u, r, n1⟩
    rcases hb : qeh b x.2 n1 with ⟨v, s, n2⟩
    rw [ha] at h
    simp only [hb, Prod.mk.injEq] at h
    obtain ⟨rfl, rfl, rfl⟩ := h
    have h1 := qto ha
    have h2 := qto hb
    intro q hq
    rcases List.mem_append.1 hq with hq | hq
    · have := qso hb q hq; omega
    · have := qso ha q hq; omega
  | .slice e, x, y, n, n', rows, h => by
    cases x <;> simp only [qeh, Prod.mk.injEq] at h <;> obtain ⟨_, rfl, rfl⟩ := h <;> intro q hq <;> simp at hq
    subst hq; simp
  | .int _, x, y, n, n', rows, h => by simp only [qeh, Prod.mk.injEq] at h; obtain ⟨_, rfl, rfl⟩ := h; intro q hq; cases hq
  | .bool, x, y, n, n', rows, h => by simp only [qeh, Prod.mk.injEq] at h; obtain ⟨_, rfl, rfl⟩ := h; intro q hq; cases hq
  | .str, x, y, n, n', rows, h => by simp only [qeh, Prod.mk.injEq] at h; obtain ⟨_, rfl, rfl⟩ := h; intro q hq; cases hq
  | .arr _ _, x, y, n, n', rows, h => by simp only [qeh, Prod.mk.injEq] at h; obtain ⟨_, rfl, rfl⟩ := h; intro q hq; cases hq
  | .unit, x, y, n, n', rows, h => by simp only [qeh, Prod.mk.injEq] at h; obtain ⟨_, rfl, rfl⟩ := h; intro q hq; cases hq
  | .fn, x, y, n, n', rows, h => by simp only [qeh, Prod.mk.injEq] at h; obtain ⟨_, rfl, rfl⟩ := h; intro q hq; cases hq
theorem qbq {l : Nat} : ∀ {rs : List (Nat × Obj)}, (∀ q ∈ rs, q.1 ≠ l) → lookL (qRb rs) l = none
  | [], _ => rfl
  | q :: rs, h => by
    simp only [qRb, List.map_cons, lookL]
    rw [if_neg (h q (by simp))]
    exact qbq (fun q' h' => h q' (by simp [h']))
theorem qnn (hng : c.ng ≤ c.w0.heap.size) : ∀ {t : Ty} {x y : qfd t} {n n' : Nat} {rows : List (Nat × Obj)} {H : qzb} {K : Kn}, Inv c H K w → qeh t x n = (y, rows, n') → nl ≤ n → n' ≤ nl + 8 → (∀ l, n ≤ l → l < n' → K l = none) →
    n ≤ n' ∧ ∃ K', Stp c H K w (qRb rows) nl K' w ∧ (∀ l, K' l = K l ∨ (n ≤ l ∧ l < n')) ∧ (∀ cs, ARd w (NN c H K w) K t x cs → ARd w (NN c (qbb H (qRb rows)) K' w) K' t y cs)
  | .pair a b, x, y, n, n', rows, H, K, hi, h, h1, h2, hf => by
    simp only [qeh] at h
    rcases ha : qeh a x.1 n with ⟨u, r, n1⟩
    rcases hb : qeh b x.2 n1 with ⟨v, s, n2⟩
    rw [ha] at h
    simp only [hb, Prod.mk.injEq] at h
    obtain ⟨rfl, rfl, rfl⟩ := h
    have hle : n1 ≤ n2 := qto hb
    obtain ⟨l1, K1, S1, F1, R1⟩ := qnn hng hi ha h1 (by omega) (fun l g1 g2 => hf l g1 (by omega))
    obtain ⟨l2, K2, S2, F2, R2⟩ := qnn hng S1.inv hb (by omega) h2 (fun l g1 g2 => by
      rcases F1 l with e | e
      · rw [e]; exact hf l (by omega) g2
      · omega)
    refine ⟨by omega, K2, ?_, fun l => ?_, fun cs hr => ?_⟩
    · have := S1.trans S2
      rwa [show qRb s ++ qRb r = qRb (s ++ r) by simp [qRb]] at this
    · rcases F2 l with e | e
      · rcases F1 l with e' | e'
        · exact .inl (e.trans e')
        · exact .inr ⟨e'.1, by omega⟩
      · exact .inr ⟨by omega, e.2⟩
    · obtain ⟨c1, c2, e, g1, g2⟩ := hr
      have hu := qZe H (qRb s) (qRb r)
      rw [show qRb (s ++ r) = qRb s ++ qRb r by simp [qRb], hu]
      exact ⟨c1, c2, e, (R1 c1 g1).keep S2.keep, R2 c2 (g2.keep S1.keep)⟩
  | .slice e, x, y, n, n', rows, H, K, hi, h, h1, h2, hf => by
    cases x with
    | nil =>
      simp only [qeh, Prod.mk.injEq] at h
      obtain ⟨rfl, rfl, rfl⟩ := h
      refine ⟨by omega, _, qmq hi hng ⟨h1, by omega⟩ (hf n (Nat.le_refl _) (by omega)) e, fun l => ?_, fun cs hr => ?_⟩
      · by_cases hl : l = n
        · exact .inr (by omega)
        · exact .inl (qJd hl)
      · simp only [ARd] at hr; subst hr
        exact ⟨_, rfl, 0, none, ⟨[], qGa⟩, Nat.le_refl _, fun _ => ⟨rfl, rfl⟩, rfl, rfl⟩
    | pure fr xs =>
      simp only [qeh, Prod.mk.injEq] at h
      obtain ⟨rfl, rfl, rfl⟩ := h
      exact ⟨Nat.le_refl _, K, Stp.refl hi nl, fun l => .inl rfl, fun cs hr => hr⟩
    | ref l off len wh =>
      simp only [qeh, Prod.mk.injEq] at h
      obtain ⟨rfl, rfl, rfl⟩ := h
      exact ⟨Nat.le_refl _, K, Stp.refl hi nl, fun l => .inl rfl, fun cs hr => hr⟩
    | junk =>
      simp only [qeh, Prod.mk.injEq] at h
      obtain ⟨rfl, rfl, rfl⟩ := h
      exact ⟨Nat.le_refl _, K, Stp.refl hi nl, fun l => .inl rfl, fun cs hr => hr⟩
    | lng n =>
      simp only [qeh, Prod.mk.injEq] at h
      obtain ⟨rfl, rfl, rfl⟩ := h
      exact ⟨Nat.le_refl _, K, Stp.refl hi nl, fun l => .inl rfl, fun cs hr => hr⟩
  | .int _, x, y, n, n', rows, H, K, hi, h, h1, h2, hf => by
    simp only [qeh, Prod.mk.injEq] at h
    obtain ⟨rfl, rfl, rfl⟩ := h
    exact ⟨Nat.le_refl _, K, Stp.refl hi nl, fun l => .inl rfl, fun cs hr => hr⟩
  | .bool, x, y, n, n', rows, H, K, hi, h, h1, h2, hf => by
    simp only [qeh, Prod.mk.injEq] at h
    obtain ⟨rfl, rfl, rfl⟩ := h
    exact ⟨Nat.le_refl _, K, Stp.refl hi nl, fun l => .inl rfl, fun cs hr => hr⟩
  | .str, x, y, n, n', rows, H, K, hi, h, h1, h2, hf => by
    simp only [qeh, Prod.mk.injEq] at h
    obtain ⟨rfl, rfl, rfl⟩ := h
    exact ⟨Nat.le_refl _, K, Stp.refl hi nl, fun l => .inl rfl, fun cs hr => hr⟩
  | .arr _ _, x, y, n, n', rows, H, K, hi, h, h1, h2, hf => by
    simp only [qeh, Prod.mk.injEq] at h
    obtain ⟨rfl, rfl, rfl⟩ := h
    exact ⟨Nat.le_refl _, K, Stp.refl hi nl, fun l => .inl rfl, fun cs hr => hr⟩
  | .unit, x, y, n, n', rows, H, K, hi, h, h1, h2, hf => by
    simp only [qeh, Prod.mk.injEq] at h
    obtain ⟨_, rfl, rfl⟩ := h
    exact ⟨Nat.le_refl _, K, Stp.refl hi nl, fun l => .inl rfl, fun cs hr => hr⟩
  | .fn, x, y, n, n', rows, H, K, hi, h, h1, h2, hf => by
    simp only [qeh, Prod.mk.injEq] at h
    obtain ⟨rfl, rfl, rfl⟩ := h
    exact ⟨Nat.le_refl _, K, Stp.refl hi nl, fun l => .inl rfl, fun cs hr => hr⟩
theorem qSa (w : World) (o : Go.Obj) : (w.alloc o).heap.size = w.heap.size + 1 := by
  show (w.heap.push o).size = _
  simp
theorem qhp (w : World) (o : Go.Obj) : (w.alloc o).heap[w.heap.size]? = some o := by
  show (w.heap.push o)[w.heap.size]? = _
  simp
theorem InBlk.new (w : World) (arr : Array Value) (T : TypeId) : InBlk (w.alloc (.cells arr T)) ⟨w.heap.size, 0, arr.size⟩ arr.toList := by
  refine ⟨arr, T, (0, 0), qhp _ _, rfl, rfl, by simp, fun j v hj => ?_⟩
  simpa using hj
theorem qdb (w : World) (o : Go.Obj) : (w.alloc o).os = w.os ∧ (w.alloc o).tape = w.tape ∧ (w.alloc o).output = w.output ∧ w.heap.size ≤ (w.alloc o).heap.size ∧ ∀ k, k < w.heap.size → (w.alloc o).heap[k]? = w.heap[k]? := by
  refine ⟨rfl, rfl, rfl, by rw [qSa]; omega, fun k hk => ?_⟩
  show (w.heap.push o)[k]? = _
  rw [Array.getElem?_push, if_neg (by omega)]
theorem qfs (A : At c P GT H lk K w ev ρ nl) {t : Ty} {x : qfd t} {arr : Array Value} {T : TypeId} (hx : ARd w (NN c H K w) K t x arr.toList) {out : Out} (h : qEq nl t x = some out) :
    Lands c H K w nl out (.pointer (some ⟨w.heap.size, 0, none⟩)) (w.alloc (.cells arr T)) := by
  simp only [qEq] at h
  rcases hm : qeh t x (nl + 1) with ⟨y, rows, n'⟩
  rw [hm] at h
  split at h
  · rename_i hle
    simp only [Option.some.injEq] at h; subst h
    simp only at hle
    obtain ⟨l1, K1, S1, F1, R1⟩ := qnn (w := w) A.ng A.inv hm (by omega) hle (fun l g1 g2 => A.fresh l (by omega) (by omega))
    have hfr : K1 nl = none := by
      rcases F1 nl with e | e
      · rw [e]; exact A.fresh nl (Nat.le_refl _) (by omega)
      · omega
    have S2 := Stp.new (w' := w.alloc (.cells arr T)) S1.inv A.ng nl nl ⟨Nat.le_refl _, by omega⟩ hfr (.box t y) ⟨.box t, some ⟨w.heap.size, 0, arr.size⟩⟩ (qdb w _) (fun p hp => by
      injection hp with hp; subst hp
      exact ⟨Nat.le_refl _, by rw [qSa]; exact Nat.lt_succ_self _⟩) (fun N' K' hNlow hk => ⟨rfl, _, arr.toList, rfl, InBlk.new w arr T, (R1 _ hx).keep hk⟩)
    refine ⟨_, S1.trans S2, ⟨_, ⟨w.heap.size, 0, arr.size⟩, 0, qGa, .inl ⟨rfl, by simp [qkh, qya]⟩, by simp⟩⟩
  · cases h
theorem qjw (A : At c P GT H lk K w ev ρ nl) {o : Oper} {T : TypeId} (ho : o.op = .alloc T) {orc : Option COrc} {out : Out} (h : qfb P GT ev lk nl orc o.type o.op = some out) :
    Does P o ρ w (Lands c H K w nl out) := by
  rw [ho] at h
  simp only [qfb] at h
  split at h
  · split at h
    · rename_i hz
      simp only [Option.some.injEq] at h; subst h
      obtain ⟨v, hv, hcs, _⟩ := qSc (P := P) (w := w) hz
      have hc1 : v.cells = #[.nilFunc] := by
        apply Array.ext'
        rw [hcs]; rfl
      refine Does.value (v := .pointer (some ⟨w.heap.size, 0, none⟩)) (w' := w.alloc (.cells v.cells T)) ?_ ⟨_, Stp.new A.inv A.ng nl nl ⟨Nat.le_refl _, by omega⟩ (A.fresh nl (Nat.le_refl _) (by omega)) (.cell .nilFunc) ⟨.cell, some ⟨w.heap.size, 0, 1⟩⟩ (qdb w _) (fun p hp => by
        injection hp with hp; subst hp
        exact ⟨Nat.le_refl _, by rw [qSa]; exact Nat.lt_succ_self _⟩) (fun N' K' hNlow hk => ⟨rfl, _, .nilFunc, rfl, ?_, rfl⟩), ⟨.cell, _, qGa, rfl⟩⟩
      · simp only [execOp, ho, Instr.alloc, Sem.run_bind, hv, Result.andThen_ok]
        rfl
      · rw [hc1]; exact InBlk.new w #[.nilFunc] T
    · cases h
  · rename_i t hT hnf
    split at h
    · rename_i hz
      obtain ⟨v, hv, hcs, _⟩ := qSc (P := P) (w := w) hz
      refine Does.value (v := .pointer (some ⟨w.heap.size, 0, none⟩)) (w' := w.alloc (.cells v.cells T)) ?_ (qfs A (by rw [hcs]; exact qsn) h)
      simp only [execOp, ho, Instr.alloc, Sem.run_bind, hv, Result.andThen_ok]
      rfl
    · cases h
  · split at h
    · rename_i hz
      simp only [Option.some.injEq] at h; subst h
      have hv : (zeroValue T).run P w = .ok (.map none) w := by
        unfold qyx at hz
        split at hz
        · rename_i i hi
          split at hz
          · rename_i hv
            simp [zeroValue, qyf hi, hv]
          · cases hz
        · cases hz
      have hrun : (execOp ρ o).run P w = .ok (.value (.pointer (some ⟨w.heap.size, 0, none⟩))) (w.alloc (.cells #[.map none] T)) := by
        simp only [execOp, ho, Instr.alloc, Sem.run_bind, hv, Result.andThen_ok]
        rfl
      refine Does.value hrun ⟨_, Stp.new A.inv A.ng nl nl ⟨Nat.le_refl _, by omega⟩ (A.fresh nl (Nat.le_refl _) (by omega)) (.cell .nilMap) ⟨.cell, some ⟨w.heap.size, 0, 1⟩⟩ (qdb w _) (fun p hp => by
        injection hp with hp; subst hp
        exact ⟨Nat.le_refl _, by rw [qSa]; exact Nat.lt_succ_self _⟩) (fun N' K' hNlow hk => ⟨rfl, _, .map none, rfl, ?_, rfl⟩), ⟨.cell, _, qGa, rfl⟩⟩
      exact InBlk.new w #[.map none] T
    · cases h
theorem qlm {N : Bool → Nat → Prop} {a : AV} {v : Value} (h : qEs a = true) (hr : VRd w N K a v) : v.oneCell' = true := by
  cases a <;> simp only [qEs] at h <;> first | (cases h; done) | skip
  · obtain ⟨sh, pl, po, _, _, rfl⟩ := hr; rfl
  · obtain ⟨sh, pl, _, rfl⟩ := hr; rfl
  · obtain ⟨vs, rfl, _⟩ := hr; rfl
  · simp only [VRd] at hr; subst hr; rfl
  · simp only [VRd] at hr; subst hr; rfl
  · simp only [VRd] at hr; subst hr; rfl
  · obtain ⟨sh, pl, _, rfl⟩ := hr; rfl
  · simp only [VRd] at hr; subst hr; rfl
theorem qho {v : Value} (h : v.oneCell' = true) : v.cells = #[v] := by cases v <;> simp_all [Value.oneCell', Value.cells]
theorem qDz (A : At c P GT H lk K w ev ρ nl) {o : Oper} {T : TypeId} {x : Operand} (ho : o.op = .box T x) {orc : Option COrc} {out : Out} (h : qfb P GT ev lk nl orc o.type o.op = some out) :
    Does P o ρ w (Lands c H K w nl out) := by
  have hrun : (execOp ρ o).run P w = .ok (.value (.pointer (some ⟨w.heap.size, 0, none⟩))) (w.alloc (.cells (ρ x).cells T)) := by
    simp only [execOp, ho]
    rfl
  rw [ho] at h
  simp only [qfb] at h
  split at h
  · rename_i a ha
    have hx := A.one ha
    split at h
    · rename_i t hT
      split at h
      · rename_i y hy
        exact Does.value hrun (qfs A (qOl hx hy).1 h)
      · split at h
        · rename_i hcv
          simp only [Option.some.injEq] at h; subst h
          have hca : qEs a = true := by
            unfold qgC at hcv
            split at hcv
            · rfl
            · cases hcv
          have h1 := qlm hca hx
          refine Does.value hrun ⟨_, Stp.new A.inv A.ng nl nl ⟨Nat.le_refl _, by omega⟩ (A.fresh nl (Nat.le_refl _) (by omega)) (.cell a) ⟨.cell, some ⟨w.heap.size, 0, (ρ x).cells.size⟩⟩ (qdb w _) (fun p hp => by
            injection hp with hp; subst hp
            exact ⟨Nat.le_refl _, by rw [qSa]; exact Nat.lt_succ_self _⟩) (fun N' K' hNlow hk => ⟨rfl, _, ρ x, rfl, ?_, hx.keep hk⟩), ⟨.cell, _, qGa, rfl⟩⟩
          have := InBlk.new w (ρ x).cells T
          rw [qho h1] at this ⊢
          exact this
        · cases h
    · split at h
      · rename_i hca
        simp only [Option.some.injEq] at h; subst h
        have h1 := qlm hca hx
        refine Does.value hrun ⟨_, Stp.new A.inv A.ng nl nl ⟨Nat.le_refl _, by omega⟩ (A.fresh nl (Nat.le_refl _) (by omega)) (.cell a) ⟨.cell, some ⟨w.heap.size, 0, (ρ x).cells.size⟩⟩ (qdb w _) (fun p hp => by
          injection hp with hp; subst hp
          exact ⟨Nat.le_refl _, by rw [qSa]; exact Nat.lt_succ_self _⟩) (fun N' K' hNlow hk => ⟨rfl, _, ρ x, rfl, ?_, hx.keep hk⟩), ⟨.cell, _, qGa, rfl⟩⟩
        have := InBlk.new w (ρ x).cells T
        rw [qho h1] at this ⊢
        exact this
      · cases h
  · cases h
theorem qIv {N : Bool → Nat → Prop} (hN : ∀ b, N true b → N false b) {obj obj' : Obj} {gh : Gh} {p : List PS} {po : Nat} {t : Ty} {y : qfd t} {s : List Value} {pl : Plc} (h : ORd w N K obj gh) (hp : gh.pl = some pl) (hs : qkh gh.sh p = some (po, t)) (hy : ARd w N K t y s) (e : qAf obj p t y = some obj') :
    ∃ cs, InBlk w pl cs ∧ po + t.sz ≤ cs.length ∧ ∀ (w' : World) (N' : Bool → Nat → Prop) (K' : Kn), (∀ b, N' true b → N' false b) → KeepK w w' N N' K K' → InBlk w' pl (put cs po s) → ORd w' N' K' obj' gh := by
  cases obj with
  | box t0 x =>
    obtain ⟨h1, p', cs, h2, h3, h4⟩ := h
    rw [hp] at h2; injection h2 with h2; subst h2
    rw [h1] at hs
    simp only [qkh] at hs
    simp only [qAf] at e
    split at e
    · rename_i z hz
      simp only [Option.some.injEq] at e; subst e
      exact ⟨cs, h3, by rw [h4.length]; exact qlb hs, fun w' N' K' _ hk hb => ⟨h1, pl, _, hp, hb, (qOi hN h4 hs hy hz).keep hk⟩⟩
    · cases e
  | row e0 fr xs =>
    obtain ⟨h1, h2⟩ := h
    rw [hp] at h2
    obtain ⟨cs, h3, h4⟩ := h2
    rw [h1] at hs
    cases p with
    | nil => simp [qkh] at hs
    | cons st p =>
      cases st <;> simp only [qkh] at hs <;> first | (cases hs; done) | skip
      rename_i i
      split at hs
      · rename_i o3 t3 hp3
        split at hs
        · rename_i hi
          simp only [Option.some.injEq, Prod.mk.injEq] at hs; obtain ⟨rfl, rfl⟩ := hs
          simp only [qAf] at e
          split at e
          · rename_i z hz
            split at e
            · rename_i u hu
              simp only [Option.some.injEq] at e; subst e
              have hg := h4.get (fun _ _ => PRd.length) i _ (getD_some (d := qja e0) hi)
              have hz' := qOi hN (qog (K := K) hN fr hg) hp3 hy hz
              have hu' := qvn hN hz' hu
              have hl := h4.length (n := e0.sz) (fun _ _ => PRd.length)
              have hm : (i + 1) * e0.sz ≤ xs.length * e0.sz := Nat.mul_le_mul_right _ hi
              rw [Nat.succ_mul] at hm
              have hple := qlb hp3
              refine ⟨cs, h3, by omega, fun w' N' K' hN' hk hb => ⟨by rw [h1, List.length_set], ?_⟩⟩
              rw [hp]
              refine ⟨_, hb, ?_⟩
              have low : ∀ f g : Bool, ∀ b, N' f b → N' (f && g) b := fun f g b hb => by
                cases f <;> cases g <;> first | exact hb | exact hN' b hb
              have r1 : Cat (PRd w' (N' (fr && qjp e0 z)) e0) xs cs := h4.imp (fun _ _ q => q.keep ⟨fun b hb => ⟨low _ _ b ((hk.n fr).k b hb).1, ((hk.n fr).k b hb).2⟩⟩)
              have r2 : PRd w' (N' (fr && qjp e0 z)) e0 u (put (cut cs (i * e0.sz) e0.sz) o3 s) := hu'.keep ⟨fun b hb => ⟨by rw [Bool.and_comm]; exact low _ _ b ((hk.n _).k b hb).1, ((hk.n _).k b hb).2⟩⟩
              have r3 := r1.set (n := e0.sz) (fun _ _ => PRd.length) i u _ hi r2
              rw [qit (by rw [hy.length]; exact hple) (by omega)] at r3
              exact r3
            · cases e
          · cases e
        · cases hs
      · cases hs
  | cell v =>
    rw [h.1] at hs
    simp [qkh] at hs
  | map k v es =>
    rw [h.1] at hs
    simp [qkh] at hs
  | chan e fr cap xs cl =>
    rw [h.1] at hs
    simp [qkh] at hs
  | famS a0 e0 xs =>
    exfalso
    obtain ⟨_, _, ps, h1, _⟩ := h
    rw [h1] at hs
    cases p with
    | nil => simp [qkh] at hs
    | cons s p =>
      cases s <;> simp only [qkh] at hs <;> first | (cases hs; done) | skip
      cases p with
      | nil => simp [qAf] at e
      | cons s2 p =>
        cases s2 with
        | fst => simp [qAf] at e
        | idx j => simp [qAf] at e
        | snd =>
          cases p with
          | nil => simp [qAf] at e
          | cons s3 p =>
            cases s3 with
            | snd => simp [qAf] at e
            | idx j => simp [qAf] at e
            | fst =>
              cases p with
              | nil =>
                simp only [qya] at hs
                split at hs
                · simp only [Option.some.injEq, Prod.mk.injEq] at hs; obtain ⟨_, rfl⟩ := hs
                  simp [qAf, qkt] at e
                · cases hs
              | cons s4 p => cases s4 <;> simp [qya] at hs
  | fam e0 xss =>
    exfalso
    obtain ⟨_, ps, h1, _⟩ := h
    rw [h1] at hs
    cases p with
    | nil => simp [qkh] at hs
    | cons s p =>
      cases s <;> simp only [qkh] at hs <;> first | (cases hs; done) | skip
      cases p with
      | nil =>
        simp only [qya] at hs
        split at hs
        · simp only [Option.some.injEq, Prod.mk.injEq] at hs; obtain ⟨_, rfl⟩ := hs
          simp [qAf, qkt] at e
        · cases hs
      | cons s2 p => cases s2 <;> simp [qya] at hs
theorem FamRd.set {w w' : World} {e : Ty} (hf : e.flat = true) {ys : List (qFa e)} {cl' : List Value} : ∀ {xss : List (List (qFa e))} {ps : List (Nat × Option Plc)} {cs : List Value} {i m : Nat} {p : Plc}, FamRd w e xss ps cs → ps[i]? = some (m, some p) →
    (∀ j n q, j ≠ i → ps[j]? = some (n, some q) → w'.heap[q.blk]? = w.heap[q.blk]?) → ys.length = m → InBlk w' p cl' → Cat (PRd w' (fun _ => False) e) ys cl' → FamRd w' e (xss.set i ys) ps cs
  | [], _, _, i, m, p, h, hi, _, _, _, _ => by obtain ⟨rfl, rfl⟩ := h; simp at hi
  | xs :: r, _, _, i, m, p, h, hi, ho, hl, hb, hc => by
    obtain ⟨q, ps', v, cs', rfl, rfl, h1, h2⟩ := h
    cases i with
    | zero =>
      simp only [List.getElem?_cons_zero, Option.some.injEq, Prod.mk.injEq] at hi
      obtain ⟨rfl, rfl⟩ := hi
      obtain ⟨o, cap, cl, a1, a2, a3, a4, a5⟩ := h1
      simp only [List.set_cons_zero]
      refine ⟨some p, ps', v, cs', by rw [hl], rfl, ⟨o, cap, cl', by rw [hl]; exact a1, by rw [hl]; exact a2, a3, hb, hc⟩, FamRd.keep hf (fun q hq => ?_) h2⟩
      obtain ⟨⟨n, q'⟩, hm, rfl⟩ := List.mem_map.1 hq
      obtain ⟨j, hj⟩ := List.getElem?_of_mem hm
      exact ho (j + 1) n q (by omega) (by simpa using hj)
    | succ i =>
      simp only [List.getElem?_cons_succ] at hi
      simp only [List.set_cons_succ]
      refine ⟨q, ps', v, cs', rfl, rfl, ?_, FamRd.set hf h2 hi (fun j n q hj hq => ho (j + 1) n q (by omega) (by simpa using hq)) hl hb hc⟩
      cases q with
      | none => exact h1
      | some q =>
        obtain ⟨o, cap, cl, a1, a2, a3, a4, a5⟩ := h1
        exact ⟨o, cap, cl, a1, a2, a3, a4.keep (ho 0 _ q (by omega) rfl), a5.imp (fun _ _ q => q.flat hf)⟩
theorem FamSRd.set {w w' : World} {a e : Ty} (ha : a.flat = true) (hf : e.flat = true) {ys : List (qFa e)} {cl' : List Value} : ∀ {xs : List (qFa a × List (qFa e))} {ps : List (Nat × Option Plc)} {cs : List Value} {i m : Nat} {p : Plc}, FamSRd w a e xs ps cs → ps[i]? = some (m, some p) →
    (∀ j n q, j ≠ i → ps[j]? = some (n, some q) → w'.heap[q.blk]? = w.heap[q.blk]?) → ys.length = m → InBlk w' p cl' → Cat (PRd w' (fun _ => False) e) ys cl' → FamSRd w' a e (xs.set i ((xs.getD i (qja a, [])).1, ys)) ps cs
  | [], _, _, i, m, p, h, hi, _, _, _, _ => by obtain ⟨rfl, rfl⟩ := h; simp at hi
  | x :: r, _, _, i, m, p, h, hi, ho, hl, hb, hc => by
    obtain ⟨q, ps', c, v, cs', rfl, rfl, h0, h1, h2⟩ := h
    cases i with
    | zero =>
      simp only [List.getElem?_cons_zero, Option.some.injEq, Prod.mk.injEq] at hi
      obtain ⟨rfl, rfl⟩ := hi
      obtain ⟨o, cap, cl, a1, a2, a3, a4, a5⟩ := h1
      simp only [List.set_cons_zero]
      refine ⟨some p, ps', c, v, cs', by rw [hl], rfl, h0.flat ha, ⟨o, cap, cl', by rw [hl]; exact a1, by rw [hl]; exact a2, a3, hb, hc⟩, FamSRd.keep ha hf (fun q hq => ?_) h2⟩
      obtain ⟨⟨n, q'⟩, hm, rfl⟩ := List.mem_map.1 hq
      obtain ⟨j, hj⟩ := List.getElem?_of_mem hm
      exact ho (j + 1) n q (by omega) (by simpa using hj)
    | succ i =>
      simp only [List.getElem?_cons_succ] at hi
      simp only [List.set_cons_succ]
      exact ⟨q, ps', c, v, cs', rfl, rfl, h0.flat ha, h1.keep hf (fun q' hq => ho 0 _ q' (by omega) (by rw [hq]; rfl)), FamSRd.set ha hf h2 hi (fun j n q hj hq => ho (j + 1) n q (by omega) (by simpa using hq)) hl hb hc⟩
theorem qio {N : Bool → Nat → Prop} (hN : ∀ b, N true b → N false b) {obj obj' : Obj} {gh : Gh} {p : List PS} {po : Nat} {t : Ty} {y : qfd t} {s : List Value} {pl : Plc} (h : ORd w N K obj gh) (hs : GhAt gh p t pl po) (hy : ARd w N K t y s) (e : qAf obj p t y = some obj') :
    ∃ cs, InBlk w pl cs ∧ po + t.sz ≤ cs.length ∧ ∀ (w' : World) (N' : Bool → Nat → Prop) (K' : Kn), (∀ b, N' true b → N' false b) → KeepK w w' N N' K K' → (∀ q, Has gh q → q.blk ≠ pl.blk → w'.heap[q.blk]? = w.heap[q.blk]?) → InBlk w' pl (put cs po s) → ORd w' N' K' obj' gh := by
  rcases hs with ⟨hp, hs⟩ | ⟨e1, n, ps, i, q, m, hs, rfl, hi, hq⟩ | ⟨a1, e1, n, ps, i, q, m, hs, rfl, hi, hq⟩
  · obtain ⟨cs, h1, h2, h3⟩ := qIv hN h hp hs hy e
    exact ⟨cs, h1, h2, fun w' N' K' a b _ d => h3 w' N' K' a b d⟩
  · cases obj with
    | fam e0 xss =>
      obtain ⟨hf, ps', h1, ha, h2⟩ := h
      have h1' := h1
      rw [h1] at hs
      simp only [Shp.row.injEq, Ty.slice.injEq] at hs
      obtain ⟨rfl, rfl, rfl⟩ := hs
      cases hpl : gh.pl with
      | none => rw [hpl] at h2; obtain ⟨_, rfl⟩ := h2; simp at hi
      | some p0 =>
        rw [hpl] at h2
        obtain ⟨cs, h3, h4⟩ := h2
        obtain ⟨b1, rfl, o, cap, cl, v, b3, b4, b5, b6, b7, b8⟩ := h4.get hi
        have hA : ARd w N K (.arr (xss.getD i []).length e0) (xss.getD i []) cl := ⟨rfl, b8.imp (fun _ _ q => q.flat hf)⟩
        simp only [qAf] at e
        split at e
        · rename_i z hz
          simp only [Option.some.injEq] at e; subst e
          have hz' := qOi hN hA hq hy hz
          refine ⟨cl, b7, by rw [hA.length]; exact qlb hq, fun w' N' K' hN' hk hsm hb => ?_⟩
          have hmem : some pl ∈ ps'.map (·.2) := List.mem_map.2 ⟨_, List.mem_of_getElem? hi, rfl⟩
          refine ⟨hf, ps', by rw [h1', List.length_set], ha, ?_⟩
          rw [hpl]
          rw [hpl] at ha
          refine ⟨cs, h3.keep (hsm p0 (.inl hpl) (fun e => ha.2 p0 pl rfl hmem e.symm)), h4.set hf hi (fun j n q hj hq2 => hsm q (.inr ?_) (fun e => hj ?_)) hz'.1 hb (hz'.2.imp (fun _ _ q => q.flat hf))⟩
          · rw [h1']; exact List.mem_map.2 ⟨_, List.mem_of_getElem? hq2, rfl⟩
          · refine ha.1 j i q pl ?_ ?_ e
            · simp [List.getElem?_map, hq2]
            · simp [List.getElem?_map, hi]
        · cases e
    | row e0 fr xs =>
      rw [h.1] at hs
      simp only [Shp.row.injEq] at hs
      obtain ⟨_, _, rfl⟩ := hs
      simp at hi
    | box t0 x => rw [h.1] at hs; cases hs
    | cell v => rw [h.1] at hs; cases hs
    | map k v es => rw [h.1] at hs; cases hs
    | chan e fr cap xs cl => rw [h.1] at hs; cases hs
    | famS a0 e0 xs =>
      obtain ⟨_, _, ps', h1, _⟩ := h
      rw [h1] at hs; cases hs
  · cases obj with
    | famS a0 e0 xs =>
      obtain ⟨ha0, hf, ps', h1, ha, h2⟩ := h
      have h1' := h1
      rw [h1] at hs
      simp only [Shp.row.injEq, Ty.pair.injEq, Ty.slice.injEq, and_true] at hs
      obtain ⟨⟨rfl, rfl⟩, rfl, rfl⟩ := hs
      cases hpl : gh.pl with
      | none => rw [hpl] at h2; obtain ⟨_, rfl⟩ := h2; simp at hi
      | some p0 =>
        rw [hpl] at h2
        obtain ⟨cs, h3, h4⟩ := h2
        obtain ⟨b1, rfl, v, cc, b2, b3, o, cap, cl, b4, b5, b6, b7, b8⟩ := h4.get hi
        have hA : ARd w N K (.arr (xs.getD i (qja a0, [])).2.length e0) (xs.getD i (qja a0, [])).2 cl := ⟨rfl, b8.imp (fun _ _ q => q.flat hf)⟩
        simp only [qAf] at e
        split at e
        · rename_i z hz
          simp only [Option.some.injEq] at e; subst e
          have hz' := qOi hN hA hq hy hz
          refine ⟨cl, b7, by rw [hA.length]; exact qlb hq, fun w' N' K' hN' hk hsm hb => ?_⟩
          have hmem : some pl ∈ ps'.map (·.2) := List.mem_map.2 ⟨_, List.mem_of_getElem? hi, rfl⟩
          refine ⟨ha0, hf, ps', by rw [h1', List.length_set], ha, ?_⟩
          rw [hpl]
          rw [hpl] at ha
          refine ⟨cs, h3.keep (hsm p0 (.inl hpl) (fun e => ha.2 p0 pl rfl hmem e.symm)), h4.set ha0 hf hi (fun j n q hj hq2 => hsm q (.inr ?_) (fun e => hj ?_)) hz'.1 hb (hz'.2.imp (fun _ _ q => q.flat hf))⟩
          · rw [h1']; exact List.mem_map.2 ⟨_, List.mem_of_getElem? hq2, rfl⟩
          · refine ha.1 j i q pl ?_ ?_ e
            · simp [List.getElem?_map, hq2]
            · simp [List.getElem?_map, hi]
        · cases e
    | row e0 fr xs =>
      rw [h.1] at hs
      simp only [Shp.row.injEq] at hs
      obtain ⟨_, _, rfl⟩ := hs
      simp at hi
    | fam e xss =>
      obtain ⟨_, ps', h1, _⟩ := h
      rw [h1] at hs; cases hs
    | box t0 x => rw [h.1] at hs; cases hs
    | cell v => rw [h.1] at hs; cases hs
    | map k v es => rw [h.1] at hs; cases hs
    | chan e fr cap xs cl => rw [h.1] at hs; cases hs
theorem qcw (A : At c P GT H lk K w ev ρ nl) {o : Oper} {T : TypeId} {x y : Operand} (ho : o.op = .store T x y) {orc : Option COrc} {out : Out} (h : qfb P GT ev lk nl orc o.type o.op = some out) :
    Does P o ρ w (Lands c H K w nl out) := by
  rw [ho] at h
  simp only [qfb] at h
  split at h
  · rename_i t l p a hv ha
    obtain ⟨sh, pl, po, k1, k2, k3⟩ := A.one hv
    have hx := A.one ha
    split at h
    · rename_i hT
      split at h
      · rename_i z hz
        obtain ⟨z1, z2⟩ := qOl hx hz
        split at h
        · rename_i obj hlk
          rcases hm : qeh t z nl with ⟨z', rows, n'⟩
          rw [hm] at h
          simp only at h
          split at h
          · rename_i obj' hset
            split at h
            · rename_i hle
              simp only [Option.some.injEq] at h; subst h
              obtain ⟨l1, K1, S1, F1, R1⟩ := qnn (w := w) A.ng A.inv hm (Nat.le_refl _) hle (fun l g1 g2 => A.fresh l g1 (Nat.lt_of_lt_of_le g2 hle))
              have hl := A.sub _ _ hlk
              have k1' := S1.keep.k _ _ k1
              have hl1 : qbb H (qRb rows) l = some obj := by
                have : lookL (qRb rows) l = none := qbq (fun q hq e => by
                  have := qso hm q hq
                  have hle' : n' ≤ nl + 8 := hle
                  have hk := A.fresh q.1 this.1 (by omega)
                  rw [e, k1] at hk; cases hk)
                simp only [qbb, this]
                exact hl
              obtain ⟨gh, g1, g2⟩ := S1.inv.objs l _ hl1
              rw [k1'] at g1; injection g1 with g1; subst g1
              have hz' := R1 _ z1
              obtain ⟨cs, b1, b2, b3⟩ := qio (w := w) (N := NN c (qbb H (qRb rows)) K1 w) NN.low g2 k2 hz' hset
              have hzl := hz'.length
              have S2 := Stp.write (w' := w.setCells pl.blk (pl.ob + po) (ρ y).cells.toList) S1.inv nl l obj obj' sh pl hl1 k1' k2.has (by
                obtain ⟨q1, q2, q3, q4, q5⟩ := qUa pl.blk (ρ y).cells.toList (pl.ob + po) w
                exact ⟨q1, q2, q3, q4, q5⟩) (fun N' K' hNlow hk => by
                  exact b3 _ N' K' hNlow hk (fun q _ hq => (qUa pl.blk (ρ y).cells.toList (pl.ob + po) w).2.2.2.2 _ hq) (b1.write (by omega)))
              refine Does.skip (w' := w.setCells pl.blk (pl.ob + po) (ρ y).cells.toList) ?_ ⟨K1, S1.trans S2, trivial⟩
              have := qGi (P := P) (w := w) hT b1 (o := po) (s := (ρ y).cells.toList) (by omega) (v := ρ y) rfl hzl (ARd.one z1)
              simp only [execOp, ho, k3, Instr.storeAt, Instr.sureAddr, Sem.run_bind, Sem.run_pure, Result.andThen_ok, this]
            · cases h
          · split at h
            · rename_i u ls fr hab
              split at h
              · rename_i obj' hset
                split at h
                · cases h
                · rename_i hnl
                  simp only [Option.some.injEq] at h; subst h
                  simp only [List.contains_eq_mem, Bool.not_eq_true, decide_eq_false_iff_not] at hnl
                  have S1 := Stp.kill A.inv nl ls
                  have hl := A.sub _ _ hlk
                  have hl1 : qbb H (Ab.kill ls) l = some obj := by
                    simp only [qbb]
                    cases hd : lookL (Ab.kill ls) l with
                    | none => exact hl
                    | some x => exact absurd (qXl hd) hnl
                  obtain ⟨gh, g1, g2⟩ := S1.inv.objs l _ hl1
                  rw [k1] at g1; injection g1 with g1; subst g1
                  have hz' : ARd w (NN c (qbb H (Ab.kill ls)) K w) K t (inj fr t u) (ρ y).cells.toList := qog NN.low fr (qsj A.inv A.sub (L := ls) hab z1 (fun l hl => hl))
                  obtain ⟨cs, b1, b2, b3⟩ := qio (w := w) (N := NN c (qbb H (Ab.kill ls)) K w) NN.low g2 k2 hz' hset
                  have hzl := hz'.length
                  obtain ⟨q1, q2, q3, q4, q5⟩ := qUa pl.blk (ρ y).cells.toList (pl.ob + po) w
                  have S2 := Stp.write (w' := w.setCells pl.blk (pl.ob + po) (ρ y).cells.toList) S1.inv nl l obj obj' sh pl hl1 k1 k2.has ⟨q1, q2, q3, q4, q5⟩ (fun N' K' hNlow hk => b3 _ N' K' hNlow hk (fun q _ hq => q5 _ hq) (b1.write (by omega)))
                  refine Does.skip (w' := w.setCells pl.blk (pl.ob + po) (ρ y).cells.toList) ?_ ⟨K, S1.trans S2, trivial⟩
                  have := qGi (P := P) (w := w) hT b1 (o := po) (s := (ρ y).cells.toList) (by omega) (v := ρ y) rfl hzl (ARd.one z1)
                  simp only [execOp, ho, k3, Instr.storeAt, Instr.sureAddr, Sem.run_bind, Sem.run_pure, Result.andThen_ok, this]
              · cases h
            · cases h
        · cases h
      · cases h
    · cases h
  · rename_i l a hv ha
    obtain ⟨sh, pl, k1, k2⟩ := A.one hv
    have hx := A.one ha
    split at h
    · rename_i v0 hlk
      split at h
      · rename_i hq
        simp only [Bool.and_eq_true, beq_iff_eq] at hq
        simp only [Option.some.injEq] at h; subst h
        obtain ⟨gh, g1, g2, p', c', g3, g4, g5⟩ := A.inv.objs l _ (A.sub _ _ hlk)
        rw [k1] at g1; injection g1 with g1; subst g1
        simp only [Option.some.injEq] at g3; subst g3
        simp only at g2; subst g2
        have h1 := qlm hq.1.1 hx
        obtain ⟨q1, q2, q3, q4, q5⟩ := qUa pl.blk [ρ y] (pl.ob + 0) w
        have S2 := Stp.write (w' := w.setCells pl.blk (pl.ob + 0) [ρ y]) A.inv nl l _ (.cell a) ⟨.cell, some pl⟩ pl (A.sub _ _ hlk) k1 (.inl rfl) ⟨q1, q2, q3, q4, q5⟩ (fun N' K' hNlow hk => ⟨rfl, pl, ρ y, rfl, by
          have := g4.write (o := 0) (s := [ρ y]) (by simp)
          rwa [qjt (by simp)] at this, hx.keep hk⟩)
        refine Does.skip (w' := w.setCells pl.blk (pl.ob + 0) [ρ y]) ?_ ⟨K, S2, trivial⟩
        obtain ⟨d, hd⟩ := Option.isSome_iff_exists.1 hq.2
        obtain ⟨i, hi⟩ := qTg hd
        have hsz : i.size = 1 := by have := hq.1.2; simpa [Program.cellsOf, hi] using this
        have hcell : w.cell? ⟨pl.blk, pl.ob, none⟩ = some c' := by simpa using g4.cells 0 c' rfl
        have hfree : w.frozen? ⟨pl.blk, pl.ob, none⟩ = false := g4.free (by obtain ⟨_, _, _, _, _, _, h4, _⟩ := g4; simp at h4; omega)
        simp only [execOp, ho, k2, Instr.storeAt, Instr.sureAddr, Sem.run_bind, Sem.run_pure, Result.andThen_ok, storeVar, sizeOf, qyf hi, hsz, qho h1]
        simp only [storeCells, Sem.run_bind, run_store P w _ _ _ h1, Addr.add_zero', hcell, hfree, World.setCells]
        simp [storeCells, run_store P w _ _ _ h1, hcell, hfree, World.setCells]
      · cases h
    · cases h
  · cases h
end
end Go.Ab

/-
  Literals, new slices, conversions: what is taken over from rows of one's own.
-/
set_option linter.unusedVariables false
set_option linter.unusedSimpArgs false
namespace Go.Ab
open Go
section
variable {c : Cx} {P : Program} {GT : qvf} {H lk : qzb} {K : Kn} {w : World} {ev : Operand → TV} {ρ : Operand → Value} {nl : Nat}
theorem qUu {size : Nat} (cells : List Value) (v : List Value) (off : Nat) (h : off + v.length ≤ cells.length) :
    (v.toArray.zipIdx.foldl (fun cs (c, j) => cs.setIfInBounds (off + j) c) cells.toArray) = (put cells off v).toArray := by
  rw [← Array.foldl_toList]
  have : ∀ (v : List Value) (k : Nat) (cells : List Value), off + k + v.length ≤ cells.length → ((v.zipIdx k).foldl (fun cs (p : Value × Nat) => cs.setIfInBounds (off + p.2) p.1) cells.toArray) = (put cells (off + k) v).toArray := by
    intro v
    induction v with
    | nil => intro k cells h; simp [put]
    | cons a v ih =>
      intro k cells h
      simp only [List.length_cons] at h
      rw [List.zipIdx_cons, List.foldl_cons]
      have h1 := ih (k + 1) (cells.set (off + k) a) (by simp; omega)
      simp only [List.setIfInBounds_toArray] at h1 ⊢
      rw [h1]
      congr 1
      apply List.ext_getElem?; intro j
      rw [qjg (by simp; omega), qjg (by simp; omega)]
      simp only [List.getElem?_set, List.length_cons]
      by_cases h3 : j < off + k
      · rw [if_pos (by omega), if_neg (by omega), if_pos h3]
      · rw [if_neg h3]
        by_cases h4 : j = off + k
        · subst h4
          rw [if_pos (by omega), if_pos rfl, if_pos (by omega), if_pos (by omega)]
          simp
        · rw [if_neg (by omega : ¬ off + k = j)]
          by_cases h5 : j < off + (k + 1)
          · omega
          · rw [if_neg h5]
            by_cases h6 : j < off + (k + 1) + v.length
            · rw [if_pos h6, if_pos (by omega)]
              rw [show j - (off + k) = (j - (off + (k + 1))) + 1 by omega, List.getElem?_cons_succ]
            · rw [if_neg h6, if_neg (by omega)]
  have h2 := this v 0 cells (by omega)
  simpa using h2
theorem qpq (A : At c P GT H lk K w ev ρ nl) {t : Ty} (place : Nat → Option (Nat × Nat)) (hpl : ∀ i o ty, qya t (qYk t i) = some (o, ty) → place i = some (o, ty.sz)) :
    ∀ {ps : List (Nat × Operand)} {vs : List (Nat × AV)} {x z : qfd t} {cs : List Value}, qci ev ps = some vs → ARd w (NN c H K w) K t x cs → qCh t x vs = some z →
      ∃ ds, Instr.fill place cs.toArray (ps.map fun p => (p.1, ρ p.2)) = some ds.toArray ∧ ARd w (NN c H K w) K t z ds
  | [], vs, x, z, cs, h, hx, hb => by
    simp only [qci, Option.some.injEq] at h; subst h
    simp only [qCh, Option.some.injEq] at hb; subst hb
    exact ⟨cs, rfl, hx⟩
  | q :: ps, vs, x, z, cs, h, hx, hb => by
    simp only [qci] at h
    split at h
    · rename_i v us h1 h2
      simp only [Option.some.injEq] at h; subst h
      simp only [qCh] at hb
      split at hb
      · rename_i o ty hp
        split at hb
        · rename_i y hy
          split at hb
          · rename_i z' hz
            obtain ⟨r1, r2⟩ := qOl (A.one h1) hy
            have hl := r1.length
            have hxl := hx.length
            have hle := qlb hp
            have hset := qOi NN.low hx hp r1 hz
            obtain ⟨ds, e1, e2⟩ := qpq A place hpl h2 hset hb
            refine ⟨ds, ?_, e2⟩
            simp only [List.map_cons, Instr.fill, hpl _ _ _ hp]
            have hsz : (ρ q.2).cells.size = ty.sz := by rw [← hl]; simp
            rw [if_neg (by simp [hsz]; omega)]
            have := qUu (size := 0) cs (ρ q.2).cells.toList o (by omega)
            rw [Array.toArray_toList] at this
            rw [this]; exact e1
          · cases hb
        · cases hb
      · cases hb
    · cases h
theorem qRp {m : Nat} : ∀ {fs : List Field} {ts : List Ty}, qqi (qGc P m) fs = some ts → (fs.mapM fun f => do pure (f.offset, ← sizeOf f.type) : Sem (List (Nat × Nat))).run P w = .ok ((fs.zip ts).map fun p => (p.1.offset, p.2.sz)) w
  | [], ts, h => by simp only [qqi, Option.some.injEq] at h; subst h; rfl
  | f :: fs, ts, h => by
    simp only [qqi] at h
    split at h
    · rename_i t ts' h1 h2
      simp only [Option.some.injEq] at h; subst h
      simp only [List.mapM_cons, Sem.run_bind, qkb h1, Result.andThen_ok, Sem.run_pure, qRp h2, List.zip_cons_cons, List.map_cons]
    · cases h
theorem qur {m : Nat} : ∀ {fs : List Field} {ts : List Ty} {o0 i o : Nat} {ty : Ty}, qqi (qGc P m) fs = some ts → qji P fs ts o0 = true → qya (qce ts) (qNa i) = some (o, ty) → ((fs.zip ts).map fun p => (p.1.offset, p.2.sz))[i]? = some (o0 + o, ty.sz)
  | [], ts, o0, i, o, ty, h, ho, hp => by
    simp only [qqi, Option.some.injEq] at h; subst h
    cases i <;> simp [qce, qNa, qya] at hp
  | f :: fs, ts, o0, i, o, ty, h, ho, hp => by
    simp only [qqi] at h
    split at h
    · rename_i t ts' h1 h2
      simp only [Option.some.injEq] at h; subst h
      simp only [qji, Bool.and_eq_true, beq_iff_eq] at ho
      cases i with
      | zero =>
        simp only [qce, qNa, qya, Option.some.injEq, Prod.mk.injEq] at hp
        obtain ⟨rfl, rfl⟩ := hp
        simp [ho.1]
      | succ i =>
        simp only [qce, qNa, qya] at hp
        split at hp
        · rename_i o2 t2 hp2
          simp only [Option.some.injEq, Prod.mk.injEq] at hp; obtain ⟨rfl, rfl⟩ := hp
          have := qur (o0 := o0 + t.sz) h2 ho.2 hp2
          simp only [List.zip_cons_cons, List.map_cons, List.getElem?_cons_succ, this, Nat.add_assoc]
        · cases hp
    · cases h
theorem qhw (A : At c P GT H lk K w ev ρ nl) {o : Oper} {T : TypeId} {ps : Array (Nat × Operand)} (ho : o.op = .build T ps) {orc : Option COrc} {out : Out} (h : qfb P GT ev lk nl orc o.type o.op = some out) :
    Does P o ρ w (Lands c H K w nl out) := by
  rw [ho] at h
  simp only [qfb] at h
  split at h
  · rename_i t vs hT hvs
    split at h
    · rename_i hz
      simp only [Bool.and_eq_true] at hz
      split at h
      · rename_i x hx
        simp only [Ab.one, Option.some.injEq] at h; subst h
        obtain ⟨z, hz1, hz2, _⟩ := qSc (P := P) (w := w) hz.1
        obtain ⟨m, d, i, hm, hd, hraw, _⟩ := qYb hT
        have hmap : (ps.map fun x => (x.1, ρ x.2)).toList = ps.toList.map fun p => (p.1, ρ p.2) := by simp
        have hzc : z.cells = (qFg t).toArray := by rw [← hz2, Array.toArray_toList]
        have haz : ARd w (NN c H K w) K t (qrw t) (qFg t) := qsn
        cases d <;> simp only [qwn] at hraw <;> first | (cases hraw; done) | (simp only [Option.some.injEq] at hraw; subst hraw; simp [Ty.agg] at hz; done) | skip
        · split at hraw
          · simp only [Option.some.injEq] at hraw; subst hraw; simp [Ty.agg] at hz
          · cases hraw
        · split at hraw
          · rename_i n E _ e he
            simp only [Option.some.injEq] at hraw; subst hraw
            obtain ⟨ds, f1, f2⟩ := qpq A (t := .arr n e) (fun i => some (i * e.sz, e.sz)) (by
              intro i o' ty hp
              simp only [qYk, qya] at hp
              split at hp
              · simp only [Option.some.injEq, Prod.mk.injEq] at hp; obtain ⟨rfl, rfl⟩ := hp; rfl
              · cases hp) hvs haz hx
            refine Does.value (v := .agg ds.toArray) (w' := w) ?_ (Lands.one A.inv ⟨ds, rfl, hz.2, f2⟩)
            simp only [execOp, ho, Instr.build, Sem.run_bind, hz1, Result.andThen_ok, run_underlying hd, qkb he, hmap, hzc, f1]
            rfl
          · cases hraw
        · rename_i fs
          split at hraw
          · rename_i ts hts
            split at hraw
            · rename_i hoff
              simp only [Option.some.injEq] at hraw; subst hraw
              obtain ⟨ds, f1, f2⟩ := qpq A (t := qce ts) (fun i => ((fs.toList.zip ts).map fun p => (p.1.offset, p.2.sz))[i]?) (by
                intro i o' ty hp
                have : qYk (qce ts) i = qNa i := by cases ts <;> rfl
                rw [this] at hp
                have := qur (P := P) hts hoff hp
                simpa using this) hvs haz hx
              refine Does.value (v := .agg ds.toArray) (w' := w) ?_ (Lands.one A.inv ⟨ds, rfl, hz.2, f2⟩)
              simp only [execOp, ho, Instr.build, Sem.run_bind, hz1, Result.andThen_ok, run_underlying hd, Array.mapM_eq_mapM_toList, Sem.run_map, qRp hts, hmap, hzc]
              simp only [List.getElem?_toArray]
              rw [f1]
              rfl
            · cases hraw
          · cases hraw
      · cases h
    · cases h
  · cases h
end
end Go.Ab

/-
  New slices: literals, make, conversions, append, copy.
-/
set_option linter.unusedVariables false
set_option linter.unusedSimpArgs false
namespace Go.Ab
open Go
section
variable {c : Cx} {P : Program} {GT : qvf} {H lk : qzb} {K : Kn} {w : World} {ev : Operand → TV} {ρ : Operand → Value} {nl : Nat}
theorem qgl (hi : Inv c H K w) (hng : c.ng ≤ c.w0.heap.size) {w' : World} {l0 : Nat} (hn : nl ≤ l0 ∧ l0 < nl + 8) (hf : K l0 = none) {e : Ty} {fr : Bool} {xs : List (qFa e)} {p : Plc} {cs : List Value}
    (hw : w'.os = w.os ∧ w'.tape = w.tape ∧ w'.output = w.output ∧ w.heap.size ≤ w'.heap.size ∧ ∀ k, k < w.heap.size → w'.heap[k]? = w.heap[k]?)
    (hp : w.heap.size ≤ p.blk ∧ p.blk < w'.heap.size) (hb : InBlk w' p cs) (hc : Cat (PRd w (NN c H K w fr) e) xs cs) :
    Stp c H K w [(l0, some (.row e fr xs))] nl (qKg K l0 ⟨.row e xs.length [], some p⟩) w' :=
  Stp.new hi hng nl l0 hn hf (.row e fr xs) ⟨.row e xs.length [], some p⟩ hw (fun q hq => by injection hq with hq; subst hq; exact hp)
    (fun N' K' _ hk => ⟨rfl, cs, hb, hc.imp (fun _ _ q => q.keep (hk.n fr))⟩)
theorem qMi {e : Ty} {ps : List (Nat × Option Plc)} {l0 n : Nat} {p : Plc} {o cap : Nat} (ho : o = p.ob) (hc : n ≤ cap) (hb : cap = 0 ∨ p.ob + cap * e.sz ≤ p.bs) : RefRd (qKg K l0 ⟨.row e n ps, some p⟩) e l0 0 n true (.slice (some ⟨p.blk, o, none⟩) n cap) :=
  ⟨n, some p, ⟨ps, qGa⟩, by omega, fun _ => ⟨rfl, rfl⟩, o, cap, rfl, hc, hb.imp id (fun hb => ⟨by rw [ho]; simp, by simpa using hb⟩)⟩
theorem qWu (hi : Inv c H K w) (hsub : ∀ l o, lk l = some o → H l = some o) {L : List Nat} {e : Ty} : ∀ {as : List AV} {us : List (qFa e)} {ls : List Nat} {f : Bool} {vs : List Value}, qfy lk e as = some (us, ls, f) → VRdL w (NN c H K w) K as vs → (∀ l ∈ ls, l ∈ L) →
    Cat (PRd w (NN c (qbb H (Ab.kill L)) K w f) e) us (vs.flatMap fun v => v.cells.toList) ∧ (∀ v ∈ vs, v.cells.size = e.sz) ∧ us.length = vs.length
  | [], us, ls, f, vs, h, hv, hL => by
    simp only [qfy, Option.some.injEq, Prod.mk.injEq] at h; obtain ⟨rfl, rfl, rfl⟩ := h
    simp only [VRdL] at hv; subst hv
    exact ⟨rfl, (fun v hv => by cases hv), rfl⟩
  | a :: as, us, ls, f, vs, h, hv, hL => by
    obtain ⟨v, r, rfl, h1, h2⟩ := hv
    simp only [qfy] at h
    split at h
    · rename_i x hx
      split at h
      · rename_i u l f1 us' ls' f2 e1 e2
        simp only [Option.some.injEq, Prod.mk.injEq] at h; obtain ⟨rfl, rfl, rfl⟩ := h
        have r0 := (qOl h1 hx).1
        have r1 := qsj hi hsub e1 r0 (fun l hl => hL l (by simp [hl]))
        obtain ⟨r2, r3, r4⟩ := qWu hi hsub e2 h2 (fun l hl => hL l (by simp [hl]))
        have low : ∀ f g : Bool, ∀ b, NN c (qbb H (Ab.kill L)) K w f b → NN c (qbb H (Ab.kill L)) K w (f && g) b := fun f g b hb => by
          cases f <;> cases g <;> first | exact hb | exact NN.low b hb
        refine ⟨⟨_, _, List.flatMap_cons, r1.keep ⟨fun b hb => ⟨low _ _ b hb, rfl⟩⟩, r2.imp (fun _ _ q => q.keep ⟨fun b hb => ⟨by rw [Bool.and_comm]; exact low _ _ b hb, rfl⟩⟩)⟩, ?_, by simp [r4]⟩
        · intro v' hv'
          rcases List.mem_cons.1 hv' with rfl | hv'
          · rw [← r0.length]; simp
          · exact r3 v' hv'
      · cases h
    · cases h
theorem qTu {sz : Nat} : ∀ (vs : List Value) (k : Nat) (dn rest : List Value), (∀ v ∈ vs, v.cells.size = sz) → dn.length = k * sz → rest.length = vs.length * sz →
    Instr.fill (fun i => some (i * sz, sz)) (dn ++ rest).toArray ((vs.zipIdx k).map fun p => (p.2, p.1)) = some (dn ++ vs.flatMap fun v => v.cells.toList).toArray
  | [], k, dn, rest, _, _, hr => by
    have : rest = [] := List.eq_nil_of_length_eq_zero (by simpa using hr)
    subst this; simp [Instr.fill]
  | v :: vs, k, dn, rest, hv, hd, hr => by
    have h0 := hv v (by simp)
    simp only [List.length_cons, Nat.succ_mul] at hr
    simp only [List.zipIdx_cons, List.map_cons, Instr.fill]
    have hm : 0 ≤ vs.length * sz := Nat.zero_le _
    rw [if_neg (by simp only [h0, ne_eq, not_true_eq_false, Bool.false_or, decide_false, Bool.or_eq_true, decide_eq_true_eq, List.size_toArray, List.length_append]; omega)]
    have h1 := qUu (size := 0) (dn ++ rest) v.cells.toList (k * sz) (by simp only [Array.length_toList, List.length_append]; omega)
    rw [Array.toArray_toList] at h1
    rw [h1]
    have h2 : put (dn ++ rest) (k * sz) v.cells.toList = (dn ++ v.cells.toList) ++ rest.drop sz := by
      rw [← hd, show dn.length = dn.length + 0 from rfl, qUn rfl]
      simp only [put, List.take_zero, List.nil_append, Nat.zero_add, Array.length_toList, h0, List.append_assoc]
    rw [h2]
    have ih := qTu vs (k + 1) (dn ++ v.cells.toList) (rest.drop sz) (fun v' hv' => hv v' (by simp [hv'])) (by simp only [List.length_append, Array.length_toList, hd, h0, Nat.succ_mul]) (by simp only [List.length_drop]; omega)
    rw [ih]
    simp [List.append_assoc]
theorem qLr : ∀ {ps : List (Nat × Operand)} {k : Nat}, qao ps k = true → (ps.map fun p => (p.1, ρ p.2)) = ((ps.map fun p => ρ p.2).zipIdx k).map fun p => (p.2, p.1)
  | [], _, _ => rfl
  | q :: ps, k, h => by
    simp only [qao, Bool.and_eq_true, beq_iff_eq] at h
    simp only [List.map_cons, List.zipIdx_cons, qLr h.2, h.1]
theorem qEf (A : At c P GT H lk K w ev ρ nl) : ∀ {ps : List (Nat × Operand)} {vs : List (Nat × AV)}, qci ev ps = some vs → VRdL w (NN c H K w) K (vs.map (·.2)) (ps.map fun p => ρ p.2)
  | [], vs, h => by simp only [qci, Option.some.injEq] at h; subst h; rfl
  | q :: ps, vs, h => by
    simp only [qci] at h
    split at h
    · rename_i v us h1 h2
      simp only [Option.some.injEq] at h; subst h
      exact ⟨_, _, rfl, A.one h1, qEf A h2⟩
    · cases h
theorem qlf {o : Oper} {T E : TypeId} {n : Nat} {ps : Array (Nat × Operand)} {e : Ty} {k : Nat} (ho : o.op = .buildSlice T n ps) (hd : P.underlying T = some (.slice E)) (hE : qGc P k E = some e) (hz : qYf P E e = true)
    (q1 : qao ps.toList 0 = true) (q2 : ps.size = n) (q3 : n * e.sz ≤ 16777216) (q4 : 0 < e.sz) (r2 : ∀ v ∈ ps.toList.map fun p => ρ p.2, v.cells.size = e.sz) :
    (execOp ρ o).run P w = .ok (.value (.slice (some ⟨w.heap.size, 0, none⟩) n n)) (w.alloc (.cells ((ps.toList.map fun p => ρ p.2).flatMap fun v => v.cells.toList).toArray E)) := by
  obtain ⟨z, hz1, hz2, _⟩ := qSc (P := P) (w := w) hz
  have hn : (ps.toList.map fun p => ρ p.2).length = n := by simpa using q2
  have hzl : z.cells.size = e.sz := by
    have := (qyd (w := w) (N := fun _ => True) (t := e)).length
    rw [← hz2] at this; simpa using this
  have hfill : Instr.fill (fun i => some (i * e.sz, e.sz)) ((Array.range (n * e.sz)).map fun i => z.cells[i % z.cells.size]!) ((ps.map fun x => (x.1, ρ x.2)).toList) = some ((ps.toList.map fun p => ρ p.2).flatMap fun v => v.cells.toList).toArray := by
    have := qTu (sz := e.sz) (ps.toList.map fun p => ρ p.2) 0 [] (((Array.range (n * e.sz)).map fun i => z.cells[i % z.cells.size]!).toList) r2 (by simp) (by simp [hn])
    rw [← qLr q1] at this
    have hr : ((Array.range (n * e.sz)).map fun i => z.cells[i % z.cells.size]!) = ((List.range (n * e.sz)).map fun i => z.cells[i % z.cells.size]!).toArray := by
      apply Array.ext'; simp
    rw [hr] at this ⊢
    simpa using this
  simp only [execOp, ho, Instr.buildSlice, Sem.run_bind, run_underlying hd, Result.andThen_ok, qkb hE]
  rw [if_neg (by have : (2:Nat) ^ 24 = 16777216 := by decide
                 omega)]
  by_cases h0 : n * e.sz = 0
  · have hn0 : n = 0 := by
      rcases Nat.mul_eq_zero.1 h0 with h1 | h1
      · exact h1
      · omega
    have hps : ps = #[] := Array.eq_empty_of_size_eq_zero (by omega)
    subst hps; subst hn0
    simp [Instr.fill, newRow, Array.range_zero']
  · simp only [h0, if_false, Sem.run_bind, hz1, Result.andThen_ok, Sem.run_pure]
    rw [hfill]
    simp [newRow]
theorem qiq {N : Bool → Nat → Prop} {e : Ty} : ∀ {as : List AV} {us : List Value} {x : qfd (qKw e as.length)}, qmr e as = some x → VRdL w N K as us → ARd w N K (qKw e as.length) x us ∧ (∀ u ∈ us, u.cells = #[u]) ∧ us.length = as.length
  | [], us, x, h, hv => by
    simp only [VRdL] at hv; subst hv
    exact ⟨rfl, fun u hu => (by cases hu), rfl⟩
  | a :: r, us, x, h, hv => by
    obtain ⟨v, us', rfl, h1, h2⟩ := hv
    cases a <;> simp only [qmr] at h <;> first | (cases h; done) | skip
    rename_i e' l off len wh
    split at h
    · rename_i he
      subst he
      split at h
      · rename_i y hy
        obtain rfl := Option.some.inj h
        obtain ⟨r1, r2, r3⟩ := qiq hy h2
        obtain ⟨A0, c0, hform⟩ := RefRd.form h1
        refine ⟨⟨[v], us', rfl, ⟨v, rfl, h1⟩, r1⟩, fun u hu => ?_, by simp [r3]⟩
        rcases List.mem_cons.1 hu with rfl | hu
        · rw [hform]; rfl
        · exact r2 u hu
      · cases h
    · cases h
theorem qhq : ∀ {us : List Value}, (∀ u ∈ us, u.cells = #[u]) → us.flatMap (fun v => v.cells.toList) = us
  | [], _ => rfl
  | u :: us, h => by
    rw [List.flatMap_cons, h u List.mem_cons_self, qhq (fun v hv => h v (List.mem_cons_of_mem _ hv))]
    rfl
theorem qGs (A : At c P GT H lk K w ev ρ nl) {e : Ty} {as : List AV} {us : List Value} {out : Out} (h : qnr e nl as = some out) (hv : VRdL w (NN c H K w) K as us) (E : TypeId) :
    (∀ u ∈ us, u.cells.size = e.sz) ∧ Lands c H K w nl out (.slice (some ⟨w.heap.size, 0, none⟩) us.length us.length) (w.alloc (.cells (us.flatMap fun v => v.cells.toList).toArray E)) := by
  unfold qnr at h
  split at h
  · split at h
    · split at h
      · rename_i e' h4 _ x hx
        simp only [Option.some.injEq] at h; subst h
        obtain ⟨r1, r2, r3⟩ := qiq hx hv
        refine ⟨fun u hu => by rw [r2 u hu]; rfl, ?_⟩
        rw [qhq r2]
        refine ⟨_, Stp.new A.inv A.ng nl nl ⟨Nat.le_refl _, by omega⟩ (A.fresh nl (Nat.le_refl _) (by omega)) (.box (qKw e' as.length) x) ⟨.box (qKw e' as.length), some ⟨w.heap.size, 0, us.toArray.size⟩⟩ (qdb w _) (fun p hp => by
          injection hp with hp; subst hp
          exact ⟨Nat.le_refl _, by rw [qSa]; exact Nat.lt_succ_self _⟩) (fun N' K' hNlow hk => ⟨rfl, _, us, rfl, ?_, r1.keep hk⟩), ⟨_, qGa, us.length, by rw [r3], by omega⟩⟩
        have := InBlk.new w us.toArray E
        exact this
      · cases h
    · cases h
  · cases h
theorem qts (A : At c P GT H lk K w ev ρ nl) {e : Ty} {as : List AV} {us : List Value} {out : Out} (h : qWq lk e nl as = some out) (hv : VRdL w (NN c H K w) K as us) (E : TypeId) :
    (∀ u ∈ us, u.cells.size = e.sz) ∧ us.length = 1 ∧ Lands c H K w nl out (.slice (some ⟨w.heap.size, 0, none⟩) 1 1) (w.alloc (.cells (us.flatMap fun v => v.cells.toList).toArray E)) := by
  unfold qWq at h
  split at h
  · rename_i e' l off len
    split at h
    · rename_i he
      obtain ⟨rfl, hf⟩ := he
      split at h
      · rename_i fr xs hrow
        simp only [Option.some.injEq] at h; subst h
        obtain ⟨v, r, rfl, hr, hnil⟩ := hv
        simp only [VRdL] at hnil; subst hnil
        have hl := A.sub _ _ (qyb hrow)
        obtain ⟨h1, h2, h3, h4⟩ := qKi A.inv hl hr
        obtain ⟨rfl, rfl⟩ := h3 rfl
        obtain ⟨A0, c0, hform⟩ := RefRd.form hr
        have hvc : v.cells = #[v] := by rw [hform]; rfl
        refine ⟨fun u hu => ?_, rfl, ?_⟩
        · simp only [List.mem_singleton] at hu; subst hu; rw [hvc]; rfl
        have hcells : (List.flatMap (fun v => v.cells.toList) [v]).toArray = #[v] := by simp [hvc]
        rw [hcells]
        have hex : ∃ pl, K l = some ⟨.row e' xs.length [], pl⟩ ∧ (match pl with
            | none => v = .slice none 0 0 ∧ xs = []
            | some p => ∃ o cap cl, v = .slice (some ⟨p.blk, o, none⟩) xs.length cap ∧ xs.length ≤ cap ∧ (cap = 0 ∨ (o = p.ob ∧ p.ob + cap * e'.sz ≤ p.bs)) ∧ InBlk w p cl ∧ Cat (PRd w (fun _ => False) e') xs cl) := by
          rcases h4 with ⟨a1, a2, a3, a4⟩ | ⟨p, cs, o, cap, a1, a2, a3, a4, a5, a6⟩
          · exact ⟨none, a2, a1, a3⟩
          · exact ⟨some p, a1, o, cap, cs, a2, a3, a4.imp id (fun h => by simpa using h), a5, a6.imp (fun _ _ q => q.flat hf)⟩
        obtain ⟨pl, k1, k2⟩ := hex
        have hblk : ∀ q, pl = some q → q.blk < w.heap.size := fun q hq => (A.inv.own l _ _ q hl k1 (.inl hq)).1
        have hcat : ((List.flatMap (fun v => v.cells.toList) [v])) = [v] := by simp [hvc]
        have S := Stp.merge (w' := w.alloc (.cells #[v] E)) A.inv nl nl [l] (.fam e' [xs]) ⟨.row (.slice e') 1 [(xs.length, pl)], some ⟨w.heap.size, 0, 1⟩⟩ ⟨Nat.le_refl _, by omega⟩ (A.fresh nl (Nat.le_refl _) (by omega))
          ⟨rfl, rfl, rfl, by rw [qSa]; omega⟩ (fun p hp => by
            rcases hp with hp | hp
            · injection hp with hp; subst hp
              exact .inr ⟨Nat.le_refl _, by rw [qSa]; exact Nat.lt_succ_self _⟩
            · simp only [Shp.ex, List.map_cons, List.map_nil, List.mem_singleton] at hp
              exact .inl ⟨l, List.mem_singleton.2 rfl, _, _, p, hl, k1, .inl hp.symm, rfl⟩) (fun _ _ _ => A.ng) (fun k hk _ => (qdb w _).2.2.2.2 k hk) (fun N' K' _ hk => by
            refine ⟨hf, [(xs.length, pl)], rfl, ⟨fun i j p q hi hj _ => ?_, fun p q hp hq => ?_⟩, [v], ?_, pl, [], v, [], rfl, rfl, ?_, rfl, rfl⟩
            · have h1 := (List.getElem?_eq_some_iff.1 hi).1
              have h2 := (List.getElem?_eq_some_iff.1 hj).1
              simp at h1 h2; omega
            · injection hp with hp; subst hp
              simp only [List.map_cons, List.map_nil, List.mem_singleton] at hq
              have := hblk q hq.symm
              simp only; omega
            · have := InBlk.new w #[v] E
              exact this
            · cases pl with
              | none => exact k2
              | some p =>
                obtain ⟨o, cap, cl, a1, a2, a3, a4, a5⟩ := k2
                exact ⟨o, cap, cl, a1, a2, a3, a4.keep ((qdb w _).2.2.2.2 _ (hblk p rfl)), a5.imp (fun _ _ q => q.flat hf)⟩)
        exact ⟨_, S, qMi (p := ⟨w.heap.size, 0, 1⟩) rfl (Nat.le_refl _) (.inr (by simp [Ty.sz]))⟩
      · cases h
    · cases h
  · cases h
theorem qVq (A : At c P GT H lk K w ev ρ nl) {e : Ty} {as : List AV} {us : List Value} {out : Out} (h : qTo lk e nl as = some out) (hv : VRdL w (NN c H K w) K as us) (E : TypeId) :
    (∀ u ∈ us, u.cells.size = e.sz) ∧ us.length = 1 ∧ Lands c H K w nl out (.slice (some ⟨w.heap.size, 0, none⟩) 1 1) (w.alloc (.cells (us.flatMap fun v => v.cells.toList).toArray E)) := by
  unfold qTo at h
  split at h
  · rename_i e' x
    split at h
    · rename_i he
      obtain ⟨rfl, hf⟩ := he
      split at h
      · rename_i l off len hx
        split at h
        · rename_i fr xs hrow
          simp only [Option.some.injEq] at h; subst h
          obtain ⟨v, r, rfl, hr, hnil⟩ := hv
          simp only [VRdL] at hnil; subst hnil
          obtain ⟨cs, rfl, _, c1, c2, rfl, g1, c3, c4, rfl, g2, g3⟩ := hr
          simp only [ARd] at g1 g3; subst g1; subst g3
          rw [hx] at g2
          obtain ⟨v, rfl, hr⟩ := g2
          have hl := A.sub _ _ (qyb hrow)
          obtain ⟨h1, h2, h3, h4⟩ := qKi A.inv hl hr
          obtain ⟨rfl, rfl⟩ := h3 rfl
          have hcells : (List.flatMap (fun v => v.cells.toList) [Value.agg ([Value.string x.1] ++ ([v] ++ [])).toArray]) = [.string x.1, v] := by simp [Value.cells]
          refine ⟨fun u hu => ?_, rfl, ?_⟩
          · simp only [List.mem_singleton] at hu; subst hu; rfl
          rw [hcells]
          have hex : ∃ pl, K l = some ⟨.row e' xs.length [], pl⟩ ∧ Slot w e' pl v xs := by
            rcases h4 with ⟨a1, a2, a3, a4⟩ | ⟨p, cs, o, cap, a1, a2, a3, a4, a5, a6⟩
            · exact ⟨none, a2, a1, a3⟩
            · exact ⟨some p, a1, o, cap, cs, a2, a3, a4.imp id (fun h => by simpa using h), a5, a6.imp (fun _ _ q => q.flat hf)⟩
          obtain ⟨pl, k1, k2⟩ := hex
          have hblk : ∀ q, pl = some q → q.blk < w.heap.size := fun q hq => (A.inv.own l _ _ q hl k1 (.inl hq)).1
          have S := Stp.merge (w' := w.alloc (.cells #[.string x.1, v] E)) A.inv nl nl [l] (.famS .str e' [(x.1, xs)]) ⟨.row (qLk .str e') 1 [(xs.length, pl)], some ⟨w.heap.size, 0, 2⟩⟩ ⟨Nat.le_refl _, by omega⟩ (A.fresh nl (Nat.le_refl _) (by omega))
            ⟨rfl, rfl, rfl, by rw [qSa]; omega⟩ (fun p hp => by
              rcases hp with hp | hp
              · injection hp with hp; subst hp
                exact .inr ⟨Nat.le_refl _, by rw [qSa]; exact Nat.lt_succ_self _⟩
              · simp only [Shp.ex, List.map_cons, List.map_nil, List.mem_singleton] at hp
                exact .inl ⟨l, List.mem_singleton.2 rfl, _, _, p, hl, k1, .inl hp.symm, rfl⟩) (fun _ _ _ => A.ng) (fun k hk _ => (qdb w _).2.2.2.2 k hk) (fun N' K' _ hk => by
              refine ⟨rfl, hf, [(xs.length, pl)], rfl, ⟨fun i j p q hi hj _ => ?_, fun p q hp hq => ?_⟩, [.string x.1, v], ?_, pl, [], [.string x.1], v, [], rfl, rfl, rfl, ?_, rfl, rfl⟩
              · have h1 := (List.getElem?_eq_some_iff.1 hi).1
                have h2 := (List.getElem?_eq_some_iff.1 hj).1
                simp at h1 h2; omega
              · injection hp with hp; subst hp
                simp only [List.map_cons, List.map_nil, List.mem_singleton] at hq
                have := hblk q hq.symm
                simp only; omega
              · have := InBlk.new w #[.string x.1, v] E
                exact this
              · exact k2.keep hf (fun q hq => (qdb w _).2.2.2.2 _ (hblk q hq)))
          exact ⟨_, S, qMi (p := ⟨w.heap.size, 0, 2⟩) rfl (Nat.le_refl _) (.inr (by simp [Ty.sz]))⟩
        · cases h
      · cases h
    · cases h
  · cases h
theorem qUo (A : At c P GT H lk K w ev ρ nl) {o : Oper} {T : TypeId} {n : Nat} {ps : Array (Nat × Operand)} (ho : o.op = .buildSlice T n ps) {orc : Option COrc} {out : Out} (h : qfb P GT ev lk nl orc o.type o.op = some out) :
    Does P o ρ w (Lands c H K w nl out) := by
  rw [ho] at h
  simp only [qfb] at h
  split at h
  · rename_i e vs he hvs
    split at h
    · rename_i hq
      simp only [Bool.and_eq_true, decide_eq_true_eq] at hq
      obtain ⟨⟨⟨q1, q2⟩, q3⟩, q4⟩ := hq
      split at h
      · rename_i E hd
        split at h
        · rename_i hz
          have hT : qGc P tyD T = some (.slice e) := by
            unfold qpi at he
            split at he
            · rename_i e' h'; simp only [Option.some.injEq] at he; subst he; exact h'
            · cases he
          obtain ⟨m, E', _, hd', hE⟩ := qHb hT
          rw [hd] at hd'; injection hd' with hd'; injection hd' with hd'; subst hd'
          have hn : (ps.toList.map fun p => ρ p.2).length = n := by simpa using q2
          split at h
          · rename_i o' hfb
            simp only [Option.some.injEq] at h; subst h
            obtain ⟨g1, g2, g3⟩ := qts A hfb (qEf A hvs) E
            have hn1 : n = 1 := by rw [← hn, g2]
            have hrun := qlf (w := w) ho hd hE hz q1 q2 q3 q4 g1
            rw [hn1] at hrun
            exact Does.value hrun g3
          split at h
          · rename_i o' hfb
            simp only [Option.some.injEq] at h; subst h
            obtain ⟨g1, g2, g3⟩ := qVq A hfb (qEf A hvs) E
            have hn1 : n = 1 := by rw [← hn, g2]
            have hrun := qlf (w := w) ho hd hE hz q1 q2 q3 q4 g1
            rw [hn1] at hrun
            exact Does.value hrun g3
          split at h
          · rename_i o' hbb
            simp only [Option.some.injEq] at h; subst h
            obtain ⟨g1, g3⟩ := qGs A hbb (qEf A hvs) E
            have hrun := qlf (w := w) ho hd hE hz q1 q2 q3 q4 g1
            rw [hn] at g3
            exact Does.value hrun g3
          split at h
          · rename_i us ls fr hel
            simp only [Option.some.injEq] at h; subst h
            obtain ⟨r1, r2, r3⟩ := qWu A.inv A.sub (L := ls) hel (qEf A hvs) (fun l hl => hl)
            have hcl := r1.length (n := e.sz) (fun _ _ => PRd.length)
            rw [r3, hn] at hcl
            refine Does.value (qlf (w := w) ho hd hE hz q1 q2 q3 q4 r2) ?_
            · have S1 := Stp.kill A.inv nl ls
              have S2 := qgl (w' := w.alloc (.cells ((ps.toList.map fun p => ρ p.2).flatMap fun v => v.cells.toList).toArray E)) S1.inv A.ng (nl := nl) (l0 := nl) ⟨Nat.le_refl _, by omega⟩ (A.fresh nl (Nat.le_refl _) (by omega)) (e := e) (fr := fr) (xs := us) (p := ⟨w.heap.size, 0, _⟩) (qdb w _) ⟨Nat.le_refl _, by rw [qSa]; exact Nat.lt_succ_self _⟩ (InBlk.new w _ E) (by simpa using r1)
              refine ⟨_, S1.trans S2, ?_⟩
              have hul : us.length = n := by rw [r3, hn]
              rw [hul]
              refine qMi (p := ⟨w.heap.size, 0, _⟩) rfl (Nat.le_refl _) (.inr ?_)
              show 0 + n * e.sz ≤ (((ps.toList.map fun p => ρ p.2).flatMap fun v => v.cells.toList).toArray).size
              have h7 : (((ps.toList.map fun p => ρ p.2).flatMap fun v => v.cells.toList).toArray).size = n * e.sz := by
                rw [← hcl]; exact List.size_toArray
              omega
          · cases h
        · cases h
      · cases h
    · cases h
  · cases h
theorem qel {α : Type} {R : α → List Value → Prop} {x : α} {z : Array Value} (h : R x z.toList) : ∀ n, Cat R (List.replicate n x) ((List.range (n * z.size)).map fun i => z[i % z.size]!)
  | 0 => by simp [Cat]
  | n + 1 => by
    have ih := qel h n
    have h1 : Cat R [x] z.toList := ⟨z.toList, [], by simp, h, rfl⟩
    have := ih.append h1
    rw [← List.replicate_succ'] at this
    rw [show (n + 1) * z.size = n * z.size + z.size by rw [Nat.succ_mul], List.range_add, List.map_append]
    have h2 : List.map (fun i => z[i % z.size]!) (List.map (fun x => n * z.size + x) (List.range z.size)) = z.toList := by
      apply List.ext_getElem?; intro j
      simp only [List.map_map, List.getElem?_map, Array.getElem?_toList]
      by_cases hj : j < z.size
      · rw [List.getElem?_range hj]
        simp only [Option.map_some, Function.comp]
        rw [Nat.mul_comm, Nat.mul_add_mod, Nat.mod_eq_of_lt hj]
        simp [hj]
      · rw [List.getElem?_eq_none (by simpa using hj), Array.getElem?_eq_none (by omega)]; rfl
    rw [h2]; exact this
theorem FamRd.zero {w : World} {e : Ty} : ∀ {n : Nat} {cs : List Value}, Cat (fun (_ : List (qFa e)) cs => cs = [.slice none 0 0]) (List.replicate n []) cs → FamRd w e (List.replicate n []) (List.replicate n (0, none)) cs
  | 0, cs, h => ⟨rfl, h⟩
  | n + 1, cs, h => by
    obtain ⟨c1, c2, rfl, rfl, h2⟩ := h
    exact ⟨none, _, _, c2, rfl, rfl, ⟨rfl, rfl⟩, FamRd.zero h2⟩
theorem qXr {e : Ty} (h : e ≠ .slice .bool) (n : Nat) : qFq e n = .row e true (List.replicate n (qja e)) := by
  unfold qFq
  split
  · exact absurd rfl h
  · rfl
theorem qSv (hi : Inv c H K w) (hng : c.ng ≤ c.w0.heap.size) {w' : World} {l0 : Nat} (hn : nl ≤ l0 ∧ l0 < nl + 8) (hf : K l0 = none) {e : Ty} {m : Nat} {p : Plc} {cs : List Value}
    (hw : w'.os = w.os ∧ w'.tape = w.tape ∧ w'.output = w.output ∧ w.heap.size ≤ w'.heap.size ∧ ∀ k, k < w.heap.size → w'.heap[k]? = w.heap[k]?)
    (hp : w.heap.size ≤ p.blk ∧ p.blk < w'.heap.size) (hb : InBlk w' p cs) (hc : Cat (PRd w (NN c H K w true) e) (List.replicate m (qja e)) cs) (h0 : Cat (fun _ cs => cs = qFg e) (List.replicate m (qja e)) cs) :
    ∃ ps, Stp c H K w [(l0, some (qFq e m))] nl (qKg K l0 ⟨.row e (List.replicate m (qja e)).length ps, some p⟩) w' := by
  by_cases he : e = .slice .bool
  · subst he
    refine ⟨List.replicate m (0, none), ?_⟩
    have hno : ∀ q : Plc, some q ∉ (List.replicate m ((0 : Nat), (none : Option Plc))).map (·.2) := fun q hq => by
      simp at hq
    have S := Stp.merge (w' := w') hi nl l0 [] (.fam .bool (List.replicate m [])) ⟨.row (.slice .bool) (List.replicate m (qja (.slice .bool))).length (List.replicate m (0, none)), some p⟩ hn hf ⟨hw.1, hw.2.1, hw.2.2.1, hw.2.2.2.1⟩
      (fun q hq => by
        rcases hq with hq | hq
        · injection hq with hq; subst hq; exact .inr hp
        · exact absurd hq (hno q))
      (fun _ _ _ => hng) (fun k hk _ => hw.2.2.2.2 k hk)
      (fun N' K' _ hk => ⟨rfl, List.replicate m (0, none), by simp, ⟨fun i j p q h1 _ _ => absurd (List.mem_of_getElem? h1) (hno p), fun p q _ hq => absurd hq (hno q)⟩, cs, hb, FamRd.zero h0⟩)
    exact S
  · rw [qXr he]
    exact ⟨[], qgl hi hng hn hf hw hp hb hc⟩
theorem qLp (A : At c P GT H lk K w ev ρ nl) {o : Oper} {T : TypeId} {x y : Operand} (ho : o.op = .makeSlice T x y) {orc : Option COrc} {out : Out} (h : qfb P GT ev lk nl orc o.type o.op = some out) (hc : qVe out.conds) :
    Does P o ρ w (Lands c H K w nl out) := by
  rw [ho] at h
  simp only [qfb] at h
  split at h
  · rename_i e n m he hx hy
    have ha := A.one hx
    have hb := A.one hy
    simp only [VRd] at ha hb
    split at h
    · rename_i E hd
      split at h
      · rename_i hq
        simp only [Bool.and_eq_true, decide_eq_true_eq] at hq
        simp only [Option.some.injEq] at h; subst h
        obtain ⟨c1, c2, c3, c4, _⟩ := hc
        subst c1
        have hT : qGc P tyD T = some (.slice e) := by
          unfold qpi at he
          split at he
          · rename_i e' h'; simp only [Option.some.injEq] at he; subst he; exact h'
          · cases he
        obtain ⟨k, E', _, hd', hE⟩ := qHb hT
        rw [hd] at hd'; injection hd' with hd'; injection hd' with hd'; subst hd'
        obtain ⟨z, hz1, hz2, i, hi1, hi2⟩ := qSc (P := P) (w := w) hq.1
        obtain ⟨_, _, i', _, _, _, _, hi3, hi4⟩ := qYb hE
        rw [hi1] at hi3; injection hi3 with hi3; subst hi3
        have hby : P.bytesOf E = i.bytes := by simp [Program.bytesOf, hi1]
        have hzs : z.cells.size = e.sz := by
          have := (qyd (w := w) (N := fun _ => True) (t := e)).length
          rw [← hz2] at this; simpa using this
        have hrun := run_make (P := P) w T E i z hd hi1 hi2 .i64 .i64 m m c2 (Int.le_refl _) (by rw [hby] at c3; rw [Int.mul_comm]; omega) c4
        have hcells : (madeCells z.cells (m.toNat * i.size)).toList = (List.range (m.toNat * z.cells.size)).map fun i => z.cells[i % z.cells.size]! := by
          simp [madeCells, hi4, hzs]
        have hcat : Cat (PRd w (NN c H K w true) e) (List.replicate m.toNat (qja e)) (madeCells z.cells (m.toNat * i.size)).toList := by
          rw [hcells]
          exact qel (by rw [hz2]; exact qyd) _
        refine Does.value (v := .slice (some ⟨w.heap.size, 0, none⟩) m.toNat m.toNat) (w' := w.alloc (.cells (madeCells z.cells (m.toNat * i.size)) E)) ?_ ?_
        · simp only [execOp, ho, ha, hb]
          rw [Sem.run_bind, hrun]; rfl
        · have hcells0 : Cat (fun _ cs => cs = qFg e) (List.replicate m.toNat (qja e)) (madeCells z.cells (m.toNat * i.size)).toList := by
            rw [hcells]
            exact qel (R := fun _ cs => cs = qFg e) hz2 _
          obtain ⟨ps, S2⟩ := qSv (w' := w.alloc (.cells (madeCells z.cells (m.toNat * i.size)) E)) A.inv A.ng (nl := nl) (l0 := nl) ⟨Nat.le_refl _, by omega⟩ (A.fresh nl (Nat.le_refl _) (by omega)) (e := e) (p := ⟨w.heap.size, 0, _⟩) (qdb w _) ⟨Nat.le_refl _, by rw [qSa]; exact Nat.lt_succ_self _⟩ (InBlk.new w _ E) hcat hcells0
          refine ⟨_, S2, ?_⟩
          rw [List.length_replicate]
          refine qMi (p := ⟨w.heap.size, 0, _⟩) rfl (Nat.le_refl _) (.inr ?_)
          simp [size_madeCells, hi4]
      · cases h
    · cases h
  · cases h
end
end Go.Ab

/-
  Conversions, append, copy, the lesser and the greater.
-/
set_option linter.unusedVariables false
set_option linter.unusedSimpArgs false
namespace Go.Ab
open Go
section
variable {c : Cx} {P : Program} {GT : qvf} {H lk : qzb} {K : Kn} {w : World} {ev : Operand → TV} {ρ : Operand → Value} {nl : Nat}
def SlRd (w : World) (N : Nat → Prop) (e : Ty) (xs : List (qFa e)) (v : Value) : Prop :=
  ∃ A cap, v = .slice A xs.length cap ∧ xs.length ≤ cap ∧ (xs = [] ∨ ∃ b o cl, A = some ⟨b, o, none⟩ ∧ CellsAt w b o cl ∧ Cat (PRd w N e) xs cl ∧ b < w.heap.size)
theorem qim (A : Inv c H K w) (hsub : ∀ l o, lk l = some o → H l = some o) {e : Ty} {x : AV} {v : Value} {fr : Bool} {ys : List (qFa e)} (h : qrd lk e x = some (fr, ys)) (hs : ∀ s, x ≠ .str s) (hx : VRd w (NN c H K w) K x v) : SlRd w (NN c H K w fr) e ys v := by
  cases x with
  | str s => exact absurd rfl (hs s)
  | sl e' f' xs =>
    simp only [qrd] at h
    split at h
    · rename_i he
      subst he
      simp only [Option.some.injEq, Prod.mk.injEq] at h; obtain ⟨rfl, rfl⟩ := h
      obtain ⟨A0, cap, e1, hl, hb⟩ := hx
      simp only [List.cons.injEq, and_true] at e1
      refine ⟨A0, cap, e1, hl, hb.imp id ?_⟩
      rintro ⟨b, o, cl, h1, h2, h3, h4⟩
      exact ⟨b, o, cl, h1, h3, h4.imp (fun _ _ q => PRd.orFlat q), h2.1⟩
    · cases h
  | nil =>
    simp only [qrd, Option.some.injEq, Prod.mk.injEq] at h; obtain ⟨rfl, rfl⟩ := h
    exact ⟨none, 0, hx, Nat.le_refl _, .inl rfl⟩
  | sln e' f' xs =>
    simp only [qrd] at h
    split at h
    · rename_i he
      subst he
      simp only [Option.some.injEq, Prod.mk.injEq] at h; obtain ⟨rfl, rfl⟩ := h
      obtain ⟨⟨A0, cap, e1, hl, hb⟩, _⟩ := hx
      simp only [List.cons.injEq, and_true] at e1
      refine ⟨A0, cap, e1, hl, hb.imp id ?_⟩
      rintro ⟨b, o, cl, h1, h2, h3, h4⟩
      exact ⟨b, o, cl, h1, h3, h4.imp (fun _ _ q => PRd.orFlat q), h2.1⟩
    · cases h
  | ref e' l off len wh =>
    simp only [qrd] at h
    split at h
    · rename_i he
      subst he
      split at h
      · rename_i f' xs hrow
        simp only [Option.some.injEq, Prod.mk.injEq] at h; obtain ⟨rfl, rfl⟩ := h
        obtain ⟨h1, h2, h3, h4⟩ := qKi A (hsub _ _ (qyb hrow)) hx
        rcases h4 with ⟨rfl, h5, rfl, h6⟩ | ⟨p, cl, o, cap, k1, rfl, h5, h6, h7, h8⟩
        · have : seg ([] : List (qFa e')) off len wh = [] := List.eq_nil_of_length_eq_zero (by rw [h1, h6])
          rw [this]
          exact ⟨none, 0, rfl, Nat.le_refl _, .inl rfl⟩
        · refine ⟨_, cap, by rw [h1], by omega, ?_⟩
          by_cases h0 : len = 0
          · exact .inl (List.eq_nil_of_length_eq_zero (by rw [h1, h0]))
          · right
            have h6' := h6.resolve_left (by omega)
            refine ⟨p.blk, o, _, rfl, ?_, (qOh (fun _ _ => PRd.length) h8 h3).imp (fun _ _ q => PRd.orFlat q), h7.lt⟩
            rw [h6'.1]
            exact h7.cells.cut _ _
      · cases h
    · cases h
  | bref e' l p n off len =>
    simp only [qrd] at h
    split at h
    · rename_i he
      subst he
      split at h
      · rename_i obj hlk
        split at h
        · rename_i t y hg
          split at h
          · rename_i ht
            subst ht
            simp only [Option.some.injEq, Prod.mk.injEq] at h; obtain ⟨rfl, rfl⟩ := h
            obtain ⟨sh, pl, po, k1, k2, k3, o, cap, rfl, h5, h6⟩ := hx
            obtain ⟨gh, g1, g2⟩ := A.objs l _ (hsub _ _ hlk)
            rw [k1] at g1; injection g1 with g1; subst g1
            obtain ⟨cs, e2, e3, e4⟩ := g2.box_get NN.low k2 hg
            obtain ⟨hyl, hyc⟩ := e4
            have hlen : ((y.drop off).take len).length = len := by simp; omega
            refine ⟨_, cap, by rw [hlen], by omega, ?_⟩
            by_cases h0 : len = 0
            · exact .inl (List.eq_nil_of_length_eq_zero (by rw [hlen, h0]))
            · right
              have h6' := h6.resolve_left (by omega)
              have hc1 := hyc.seg (n := e'.sz) (fun _ _ => PRd.length) off len
              refine ⟨pl.blk, o, _, rfl, ?_, hc1.imp (fun _ _ q => ?_), e2.lt⟩
              · rw [h6', Nat.add_assoc]
                have := (e2.cells.cut po (Ty.arr n e').sz).cut (off * e'.sz) (len * e'.sz)
                rwa [Nat.add_assoc] at this
              · cases hf : e'.flat with
                | true => exact PRd.flat hf q
                | false => exact q
          · cases h
        · cases h
      · cases h
    · cases h
  | _ => simp [qrd] at h
theorem SlRd.form {N : Nat → Prop} {e : Ty} {xs : List (qFa e)} {v : Value} (h : SlRd w N e xs v) : ∃ A cap cl, v = .slice A xs.length cap ∧ xs.length ≤ cap ∧ Cat (PRd w N e) xs cl ∧ (xs ≠ [] → ∃ b o, A = some ⟨b, o, none⟩ ∧ CellsAt w b o cl) := by
  obtain ⟨A, cap, e1, hl, hb⟩ := h
  rcases hb with rfl | ⟨b, o, cl, h1, h2, h3, _⟩
  · exact ⟨A, cap, [], e1, hl, rfl, fun h => absurd rfl h⟩
  · exact ⟨A, cap, cl, e1, hl, h3, fun _ => ⟨b, o, h1, h2⟩⟩
theorem SlRd.first {N : Nat → Prop} {e : Ty} {xs : List (qFa e)} {v : Value} (h : SlRd w N e xs v) : ∃ cl, Cat (PRd w N e) xs cl ∧ (∀ w', w'.heap = w.heap → (Builtin.lenOf v).run P w' = .ok xs.length w') ∧
    ∀ n, n ≤ xs.length → ∀ w', w'.heap = w.heap → (Builtin.firstCells e.sz n v).run P w' = .ok (cl.take (n * e.sz)).toArray w' := by
  obtain ⟨A, cap, cl, rfl, hl, hc, hb⟩ := h.form
  refine ⟨cl, hc, fun w' hw => rfl, fun n hn w' hw => ?_⟩
  have hcl := hc.length (n := e.sz) (fun _ _ => PRd.length)
  by_cases h0 : xs = []
  · subst h0
    have : n = 0 := by simpa using hn
    subst this
    cases A with
    | none => simp [Builtin.firstCells]
    | some a => simp [Builtin.firstCells, loadCells, loadCellsFrom]
  · obtain ⟨b, o, rfl, h1⟩ := hb h0
    have hle : n * e.sz ≤ cl.length := by rw [hcl]; exact Nat.mul_le_mul_right _ hn
    have := run_loadCells_list (P := P) w' ⟨b, o, none⟩ (cl.take (n * e.sz)) (fun j v hj => by
      rw [Addr.add_lit]
      have hj2 : cl[j]? = some v := by
        rw [List.getElem?_take] at hj
        split at hj
        · exact hj
        · cases hj
      have := h1 j v hj2
      simpa [World.cell?, hw] using this)
    rw [List.length_take, Nat.min_eq_left hle] at this
    simpa [Builtin.firstCells] using this
theorem qot (s : ByteArray) : (s.data.map fun b => Value.int .u8 b.toNat).toList = (qDb s).map fun n => Value.int .u8 n := by
  simp [qDb]
theorem qrl {N : Nat → Prop} {k : IntKind} : ∀ (xs : List Int), Cat (PRd w N (.int k)) (xs : List (qFa (.int k))) (xs.map fun n => Value.int k n)
  | [] => rfl
  | x :: xs => ⟨[.int k x], _, rfl, rfl, qrl xs⟩
theorem qik {N : Nat → Prop} {k : IntKind} : ∀ {xs : List Int} {cl : List Value}, Cat (PRd w N (.int k)) (xs : List (qFa (.int k))) cl → cl = xs.map fun n => Value.int k n
  | [], cl, h => by simpa [Cat] using h
  | x :: xs, cl, h => by
    obtain ⟨c1, c2, rfl, h1, h2⟩ := h
    simp only [PRd] at h1; subst h1
    rw [qik h2]; rfl
theorem qCt (w : World) (a : Addr) : (w.freeze a 1).os = w.os ∧ (w.freeze a 1).tape = w.tape ∧ (w.freeze a 1).output = w.output ∧ (w.freeze a 1).heap.size = w.heap.size ∧ ∀ k, k ≠ a.block → (w.freeze a 1).heap[k]? = w.heap[k]? := by
  refine ⟨rfl, rfl, rfl, by simp [World.freeze], fun k hk => ?_⟩
  simp only [World.freeze, Nat.one_ne_zero, if_false, Array.getElem?_modify]
  rw [if_neg (Ne.symm hk)]
theorem qzs (A : At c P GT H lk K w ev ρ nl) {o : Oper} {s d : TypeId} {x : Operand} (ho : o.op = .convert s d x) {orc : Option COrc} {out : Out} (h : qfb P GT ev lk nl orc o.type o.op = some out) (hc : qVe out.conds) :
    Does P o ρ w (Lands c H K w nl out) := by
  rw [ho] at h
  simp only [qfb] at h
  split at h
  · rename_i v hv
    have hx := A.one hv
    have hrun : ∀ u w', (convert s d (ρ x)).run P w = .ok u w' → (execOp ρ o).run P w = .ok (.value u) w' := by
      intro u w' hu
      simp only [execOp, ho]
      rw [Sem.run_bind, hu]; rfl
    simp only [qvy] at h
    split at h
    · rename_i k k' n hd
      split at h
      · rename_i hs
        obtain ⟨ds, hds⟩ := Option.isSome_iff_exists.1 hs
        simp only [Ab.one, Option.some.injEq] at h; subst h
        simp only [VRd] at hx
        refine Does.value (hrun (.int k (k.wrap n)) w ?_) (Lands.one A.inv rfl)
        rw [hx]
        simp only [convert, Sem.run_bind, run_underlying hds, run_underlying hd, Result.andThen_ok]
        rfl
      · cases h
    · rename_i st hd
      split at h
      · rename_i hs
        obtain ⟨ds, hds⟩ := Option.isSome_iff_exists.1 hs
        simp only [Ab.one, Option.some.injEq] at h; subst h
        simp only [VRd] at hx
        refine Does.value (hrun (.string st) w ?_) (Lands.one A.inv rfl)
        rw [hx]
        simp only [convert, Sem.run_bind, run_underlying hds, run_underlying hd, Result.andThen_ok]
        rfl
      · cases h
    · rename_i hd hns
      split at h
      · rename_i e hs
        split at h
        · rename_i he
          split at h
          · rename_i fr xs hcn
            simp only [Ab.one, Option.some.injEq] at h; subst h
            have hsl := qim A.inv A.sub hcn (fun s' e => hns s' e) hx
            obtain ⟨A0, cap, e1, hl, hb⟩ := hsl
            refine Does.value (hrun (.string (qJf xs)) w ?_) (Lands.one A.inv rfl)
            rw [e1]
            rcases hb with rfl | ⟨b, o', cl, rfl, h2, h3, _⟩
            · cases A0 with
              | none => exact run_convert_bytes_nil w s e hs he _ _ d hd
              | some a =>
                obtain ⟨bb, oo, sp⟩ := a
                rw [run_convert_bytes_string w s d e (some ⟨bb, oo, sp⟩) _ cap hs he hd]
                exact run_bytesToString w _ 0 cap [] (by simp [loadCells, loadCellsFrom])
            · refine run_convert_bytes_arg w s e hs he b o' xs.length cap xs rfl (fun i hi => ?_) d hd
              have hcl := qik h3
              have := h2 i (.int .u8 (xs.getD i 0)) (by rw [hcl]; simp [List.getElem?_eq_getElem hi])
              exact this
          · cases h
        · cases h
      · cases h
    · rename_i e st hd
      split at h
      · rename_i ds hds he
        simp only [Ab.one, Option.some.injEq] at h; subst h
        simp only [VRd] at hx
        have hrun2 : (convert s d (ρ x)).run P w = .ok (.slice (some ⟨w.heap.size, 0, none⟩) st.size (grownCap w st.size 0 e)) (Lib.bytesWorld w e st) := by
          rw [hx]; exact Lib.run_convert_string_bytes w s d e st hds hd he
        have hcap : st.size ≤ grownCap w st.size 0 e := grownCap_ge w st.size 0 e
        have harr : (Lib.bytesCells w e st).size = grownCap w st.size 0 e := by
          have h0 : st.data.size = st.size := rfl
          simp only [Lib.bytesCells, Array.size_append, Array.size_map, Array.size_replicate]; omega
        have hlen : (qDb st).length = st.size := by simp [qDb, ← ByteArray.size_data]
        obtain ⟨S, hN⟩ := Stp.more (w' := Lib.bytesWorld w e st) A.inv nl ⟨rfl, rfl, rfl, by rw [Lib.bytesWorld_size]; omega, Lib.bytesWorld_at_old w e st⟩
        refine Does.value (hrun _ _ hrun2) ⟨K, S, some ⟨w.heap.size, 0, none⟩, _, by rw [hlen], by rw [hlen]; exact hcap, .inr ⟨w.heap.size, 0, _, rfl, hN _ (Nat.le_refl _) (by rw [Lib.bytesWorld_size]; exact Nat.lt_succ_self _), fun j u hj => ?_, qrl _⟩⟩
        simp only [World.cell?, Lib.bytesWorld_at_new w e st, Nat.zero_add]
        rw [← qot, Array.getElem?_toList] at hj
        simp only [Lib.bytesCells]
        rw [Array.getElem?_append_left (Array.getElem?_eq_some_iff.1 hj).1]; exact hj
      · cases h
    · rename_i e l off len wh hd
      split at h
      · rename_i hsd
        split at h
        · rename_i he
          split at h
          · rename_i fr xs hrow
            simp only [Option.some.injEq] at h; subst h
            have hlen : 0 < len := hc.1
            have hlk := A.sub _ _ (qyb hrow)
            obtain ⟨h1, h2, h3, h4⟩ := qKi A.inv hlk hx
            rcases h4 with ⟨_, _, _, h6⟩ | ⟨p, cs, o', cap, q1, q2, q3, q4, q5, q6⟩
            · omega
            · obtain ⟨arr, T, fz, b1, b2, b3⟩ := id q5
              have hrun2 : (convert s d (ρ x)).run P w = .ok (ρ x) (w.freeze ⟨p.blk, arr.size, none⟩ 1) := by
                subst hsd
                have hsh : w.shape? p.blk = some (T, arr.size) := by simp only [World.shape?, b1]
                simp only [q2, convert, Sem.run_bind, run_underlying hd, run_underlying he, Result.andThen_ok, beq_self_eq_true, markStringish, run_shape, hsh, run_freeze, Sem.run_pure]
              obtain ⟨S, hN⟩ := Stp.drop A.inv nl l _ _ p hlk q1 rfl (qCt w ⟨p.blk, arr.size, none⟩)
              refine Does.value (hrun _ _ hrun2) ⟨K, S, ?_⟩
              have q4' := q4.resolve_left (by omega)
              refine ⟨_, cap, by rw [q2, h1], by rw [h1]; exact q3, .inr ⟨p.blk, o', _, rfl, hN, ?_, (qOh (fun _ _ => PRd.length) q6 h3).imp (fun _ _ q => PRd.flat rfl q)⟩⟩
              have hc2 : CellsAt w p.blk o' (cut cs (off * (Ty.int .u8).sz) (len * (Ty.int .u8).sz)) := by rw [q4'.1]; exact q5.cells.cut _ _
              intro j u hj
              have h5 := hc2 j u hj
              simp only [World.cell?, World.freeze, Nat.one_ne_zero, if_false, Array.getElem?_modify, if_true, b1, Option.map_some] at h5 ⊢
              exact h5
          · cases h
        · cases h
      · cases h
    · cases h
  · cases h
end
end Go.Ab

/-
  append, copy, the lesser and the greater.
-/
set_option linter.unusedVariables false
set_option linter.unusedSimpArgs false
namespace Go.Ab
open Go
section
variable {c : Cx} {P : Program} {GT : qvf} {H lk : qzb} {K : Kn} {w : World} {ev : Operand → TV} {ρ : Operand → Value} {nl : Nat}
inductive Src (P : Program) (w : World) (E T2 : TypeId) (sz : Nat) (z : Array Value) (x : Value) (n : Nat) (cl : List Value) : Prop
  | given (hd : (∃ e, P.underlying T2 = some (.slice e)) ∨ P.underlying T2 = some .string) (hn : ∀ w', (Builtin.lenOf x).run P w' = .ok n w') (hc : ∀ w', w'.heap = w.heap → (Builtin.firstCells sz n x).run P w' = .ok cl.toArray w')
  | zeros (k k' : IntKind) (m : Int) (hd : P.underlying T2 = some (.int k)) (hx : x = .int k' m) (h0 : 0 ≤ m) (h1 : m ≤ 9223372036854775807) (h2 : m * (P.bytesOf E : Int) ≤ 140737488355328) (hn : n = m.toNat) (hc : cl = (List.range (n * z.size)).map fun i => z[i % z.size]!)
theorem qch (z : Array Value) (n : Nat) : (Builtin.zeroCells z n) = ((List.range (n * z.size)).map fun i => z[i % z.size]!).toArray := by
  apply Array.ext'; simp [Builtin.zeroCells]
theorem qeu {m : Int} (h0 : 0 ≤ m) (h1 : m ≤ 9223372036854775807) : IntKind.i64.wrap m = m := by
  simp [IntKind.wrap, IntKind.signed, IntKind.bits]
  omega
theorem qzg {T T2 E ty : TypeId} {i : TypeInfo} {z : Value} {sz : Nat} (hd : P.underlying T = some (.slice E)) (hi : P.info? E = some i) (hz : i.zero = some z) (hsz : i.size = sz) (hzs : z.cells.size = sz)
    {base : Option Addr} {sLen sCap n : Nat} {x : Value} {cl : List Value} (hx : Src P w E T2 sz z.cells x n cl) (hr : sLen + n ≤ sCap) {w2 : World}
    (hw : (match base with
      | some a => storeCells (a.add (sLen * sz)) cl
      | none => pure ()).run P w = .ok () w2) :
    (Builtin.append_ #[T, T2] ty #[.slice base sLen sCap, x]).run P w = .ok (.slice base (sLen + n) sCap) w2 := by
  subst hsz
  cases hx with
  | given hd2 hn hc =>
    have hc' := hc w rfl
    rcases hd2 with ⟨e2, hd2⟩ | hd2 <;> cases base <;>
      (simp [Builtin.append_, run_underlying hd, run_underlying hd2, sizeOf, typeInfo, hi, hn, hr, hc'] at hw ⊢; try exact hw)
    all_goals simp [hw]
  | zeros k k' m hd2 hx h0 h1 h2 hn hc =>
    subst hx
    have hw1 := qeu h0 h1
    have hby : P.bytesOf E = i.bytes := by simp [Program.bytesOf, hi]
    rw [hby] at h2
    have g1 : ¬ (m < 0) := by omega
    have g2 : ¬ (281474976710656 < m * (i.bytes : Int)) := by omega
    subst hn
    have hcl : cl.toArray = Builtin.zeroCells z.cells m.toNat := by rw [qch, hc]
    by_cases h00 : m.toNat * i.size = 0
    · have hcl0 : cl = [] := by
        rw [hc, hzs, h00]; rfl
      subst hcl0
      cases base <;>
      (simp [Builtin.append_, run_underlying hd, run_underlying hd2, sizeOf, typeInfo, hi, hw1, asInt, asIntOf, g1, g2, h00, hr, storeCells] at hw ⊢)
      all_goals exact hw
    · have h01 : ¬ (m.toNat = 0 ∨ i.size = 0) := by rw [← Nat.mul_eq_zero]; exact h00
      have h02 : ¬ (m ≤ 0) := by omega
      have h03 : ¬ (i.size = 0) := by omega
      cases base <;>
      (simp [Builtin.append_, run_underlying hd, run_underlying hd2, sizeOf, typeInfo, zeroValue, hz, hi, hw1, asInt, asIntOf, g1, g2, h02, h03, hr, ← hcl] at hw ⊢; try exact hw)
      rw [if_neg h00, hw]; rfl
theorem qqm {T T2 E ty : TypeId} {i : TypeInfo} {z : Value} {sz : Nat} (hd : P.underlying T = some (.slice E)) (hi : P.info? E = some i) (hz : i.zero = some z) (hsz : i.size = sz) (hzs : z.cells.size = sz)
    {base : Option Addr} {sLen sCap n : Nat} {x : Value} {olds cl : List Value} (ho : ∀ w', w'.heap = w.heap → (Builtin.firstCells sz sLen (.slice base sLen sCap)).run P w' = .ok olds.toArray w')
    (hx : Src P w E T2 sz z.cells x n cl) (hr : sCap < sLen + n) (hb : (sLen + n) * i.bytes ≤ 140737488355328) (h63 : 0 < i.bytes) :
    (Builtin.append_ #[T, T2] ty #[.slice base sLen sCap, x]).run P w = .ok (.slice (some ⟨w.heap.size, 0, none⟩) (sLen + n) (grownCap w (sLen + n) sCap E))
      (w.drew.alloc (.cells (olds.toArray ++ (cl.toArray ++ Builtin.zeroCells z.cells (grownCap w (sLen + n) sCap E - (sLen + n)))) E)) := by
  subst hsz
  have hn0 : ¬ (sLen + n ≤ sCap) := by omega
  have hfit := growslice_fits hr hb
  have h48' : ¬ (281474976710656 < Builtin.nextslicecap (sLen + n) sCap * i.bytes) := by omega
  have hby0 : ¬ (i.bytes = 0) := by omega
  have hle : sLen + n ≤ (sLen + n) * i.bytes := Nat.le_mul_of_pos_right _ h63
  have h63' : ¬ (9223372036854775807 < ((sLen : Int) + (n : Int))) := by omega
  have ho' := ho w.drew rfl
  cases hx with
  | given hd2 hn hc =>
    have hc' := hc w.drew rfl
    rcases hd2 with ⟨e2, hd2⟩ | hd2 <;>
      (simp [Builtin.append_, run_underlying hd, run_underlying hd2, sizeOf, typeInfo, zeroValue, hz, hi, hn, hn0, h63', h48', hby0, Question.forced, ho', hc', newRow, grownCap])
  | zeros k k' m hd2 hx h0 h1 h2 hn hc =>
    subst hx
    have hw1 := qeu h0 h1
    have hby : P.bytesOf E = i.bytes := by simp [Program.bytesOf, hi]
    rw [hby] at h2
    have g1 : ¬ (m < 0) := by omega
    have g2 : ¬ (281474976710656 < m * (i.bytes : Int)) := by omega
    subst hn
    have hcl : cl.toArray = Builtin.zeroCells z.cells m.toNat := by rw [qch, hc]
    have h63'' : ¬ (9223372036854775807 < ((sLen : Int) + max m 0)) := by omega
    by_cases h00 : m.toNat * i.size = 0
    · have hcl0 : cl = [] := by
        rw [hc, hzs, h00]; rfl
      subst hcl0
      simp [Builtin.append_, run_underlying hd, run_underlying hd2, sizeOf, typeInfo, zeroValue, hz, hi, hw1, asInt, asIntOf, g1, g2, h00, hn0, h63', h63'', h48', hby0, Question.forced, ho', newRow, grownCap]
    · have h01 : ¬ (m.toNat = 0 ∨ i.size = 0) := by rw [← Nat.mul_eq_zero]; exact h00
      have h02 : ¬ (m ≤ 0) := by omega
      have h03 : ¬ (i.size = 0) := by omega
      simp [Builtin.append_, run_underlying hd, run_underlying hd2, sizeOf, typeInfo, zeroValue, hz, hi, hw1, asInt, asIntOf, g1, g2, h02, h03, hn0, h63', h63'', h48', hby0, Question.forced, ho', newRow, grownCap, ← hcl]
      exact fun hh => absurd hh h00
theorem NN.and1 {f g : Bool} {b : Nat} (h : NN c H K w f b) : NN c H K w (f && g) b := by
  cases f <;> cases g <;> first | exact h | exact NN.low b h
theorem NN.and2 {f g : Bool} {b : Nat} (h : NN c H K w g b) : NN c H K w (f && g) b := by
  cases f <;> cases g <;> first | exact h | exact NN.low b h
theorem InBlk.front {w : World} {p : Plc} {cs ds : List Value} (h : InBlk w p (cs ++ ds)) : InBlk w p cs := by
  obtain ⟨arr, T, fz, h1, h2, h3, h4, h5⟩ := h
  refine ⟨arr, T, fz, h1, h2, h3, by simp at h4; omega, fun j v hj => h5 j v ?_⟩
  rw [List.getElem?_append_left (List.getElem?_eq_some_iff.1 hj).1]; exact hj
theorem InBlk.is {w : World} {p : Plc} {cs : List Value} (h : InBlk w p cs) {o : Nat} (ho : o < p.bs) : (w.cell? ⟨p.blk, o, none⟩).isSome = true := by
  obtain ⟨arr, T, fz, h1, h2, h3, h4, h5⟩ := h
  have : o < arr.size := by omega
  simp [World.cell?, h1, this]
theorem qrm (hi : Inv c H K w) (hng : c.ng ≤ c.w0.heap.size) (hf : K nl = none) {T T2 E ty : TypeId} {i : TypeInfo} {z : Value} {e : Ty} (hd : P.underlying T = some (.slice E)) (hin : P.info? E = some i) (hz : i.zero = some z) (hsz : i.size = e.sz) (hzs : z.cells.size = e.sz)
    {base : Option Addr} {sLen sCap n : Nat} {x : Value} {cl : List Value} {zs ys : List (qFa e)} {fr fr1 : Bool} (hs : SlRd w (NN c H K w fr1) e zs (.slice base sLen sCap))
    (hx : Src P w E T2 e.sz z.cells x n cl) (hy : Cat (PRd w (NN c H K w fr) e) ys cl) (hl : ys.length = n) (hr : sCap < sLen + n) (hb : (sLen + n) * i.bytes ≤ 140737488355328) (h63 : 0 < i.bytes) :
    ∃ v w' K', (Builtin.append_ #[T, T2] ty #[.slice base sLen sCap, x]).run P w = .ok v w' ∧ Stp c H K w [(nl, some (.row e (fr1 && fr) (zs ++ ys)))] nl K' w' ∧ RefRd K' e nl 0 (zs ++ ys).length true v := by
  obtain ⟨A0, cap0, e0, hle, _⟩ := id hs
  injection e0 with e1 e2 e3
  subst e1; subst e2; subst e3
  obtain ⟨ol, hol, hln, hfc⟩ := hs.first (P := P)
  have hol1 := hol.length (n := e.sz) (fun _ _ => PRd.length)
  have hcl1 := hy.length (n := e.sz) (fun _ _ => PRd.length)
  have hfc' : ∀ w', w'.heap = w.heap → (Builtin.firstCells e.sz zs.length (.slice base zs.length sCap)).run P w' = .ok ol.toArray w' := fun w' hw => by
    have := hfc zs.length (Nat.le_refl _) w' hw
    rwa [← hol1, List.take_length] at this
  have hrun := qqm (ty := ty) hd hin hz hsz hzs hfc' hx hr hb h63
  have hge := grownCap_ge w (zs.length + n) sCap E
  generalize harr : ol.toArray ++ (cl.toArray ++ Builtin.zeroCells z.cells (grownCap w (zs.length + n) sCap E - (zs.length + n))) = arr at hrun
  have hal : arr.toList = (ol ++ cl) ++ (Builtin.zeroCells z.cells (grownCap w (zs.length + n) sCap E - (zs.length + n))).toList := by rw [← harr]; simp
  have hab := InBlk.new w.drew arr E
  rw [hal] at hab
  refine ⟨_, _, _, hrun, qgl hi hng ⟨Nat.le_refl _, by omega⟩ hf (e := e) (fr := fr1 && fr) (xs := zs ++ ys) (p := ⟨w.heap.size, 0, arr.size⟩) (cs := ol ++ cl) (qdb w.drew _) ⟨Nat.le_refl _, by rw [qSa]; exact Nat.lt_succ_self _⟩ hab.front ?_, ?_⟩
  · exact (hol.imp (fun _ _ q => q.keep ⟨fun b hb => ⟨hb.and1, rfl⟩⟩)).append (hy.imp (fun _ _ q => q.keep ⟨fun b hb => ⟨hb.and2, rfl⟩⟩))
  · have h1 : (zs ++ ys).length = zs.length + n := by rw [List.length_append, hl]
    rw [h1]
    refine qMi (p := ⟨w.heap.size, 0, arr.size⟩) rfl hge (.inr ?_)
    rw [← harr]
    simp only [Array.size_append, size_zeroCells, hzs, List.size_toArray, hol1, hcl1, hl, Nat.zero_add]
    have : grownCap w (zs.length + n) sCap E = zs.length + (n + (grownCap w (zs.length + n) sCap E - (zs.length + n))) := by omega
    conv => lhs; rw [this]
    simp only [Nat.add_mul]
    omega
theorem qSz {e : Ty} {l off len : Nat} {wh fr : Bool} {xs : List (qFa e)} {v : Value} (h1 : (seg xs off len wh).length = len) (h3 : wh = true → off = 0 ∧ len = xs.length)
    (h4 : (v = .slice none 0 0 ∧ K l = some ⟨.row e xs.length [], none⟩ ∧ xs = [] ∧ len = 0) ∨
      ∃ p cs o cap, K l = some ⟨.row e xs.length [], some p⟩ ∧ v = .slice (some ⟨p.blk, o, none⟩) len cap ∧ len ≤ cap ∧ (cap = 0 ∨ (o = p.ob + off * e.sz ∧ p.ob + (off + cap) * e.sz ≤ p.bs)) ∧
        InBlk w p cs ∧ Cat (PRd w (NN c H K w fr) e) xs cs) : SlRd w (NN c H K w fr) e (seg xs off len wh) v := by
  rcases h4 with ⟨rfl, h5, rfl, h6⟩ | ⟨p, cl, o, cap, k1, rfl, h5, h6, h7, h8⟩
  · have : seg ([] : List (qFa e)) off len wh = [] := List.eq_nil_of_length_eq_zero (by rw [h1, h6])
    rw [this]
    exact ⟨none, 0, rfl, Nat.le_refl _, .inl rfl⟩
  · refine ⟨_, cap, by rw [h1], by omega, ?_⟩
    by_cases h0 : len = 0
    · exact .inl (List.eq_nil_of_length_eq_zero (by rw [h1, h0]))
    · right
      have h6' := h6.resolve_left (by omega)
      refine ⟨p.blk, o, _, rfl, ?_, qOh (fun _ _ => PRd.length) h8 h3, h7.lt⟩
      rw [h6'.1]
      exact h7.cells.cut _ _
theorem qCf (A : At c P GT H lk K w ev ρ nl) {T T2 E ty : TypeId} {i : TypeInfo} {z : Value} {e : Ty} (hd : P.underlying T = some (.slice E)) (hin : P.info? E = some i) (hz : i.zero = some z) (hsz : i.size = e.sz) (hzs : z.cells.size = e.sz) (h63 : 0 < i.bytes)
    {s : AV} {u x : Value} {n : Nat} {cl : List Value} {ys : List (qFa e)} {fr : Bool} (hs : VRd w (NN c H K w) K s u)
    (hx : Src P w E T2 e.sz z.cells x n cl) (hy : Cat (PRd w (NN c H K w fr) e) ys cl) (hl : ys.length = n) {out : Out} (h : qXf lk e s fr ys nl i.bytes = some out) (hc : qVe out.conds) :
    ∃ v w', (Builtin.append_ #[T, T2] ty #[u, x]).run P w = .ok v w' ∧ Lands c H K w nl out v w' := by
  have hf := A.fresh nl (Nat.le_refl _) (by omega)
  have hcl1 := hy.length (n := e.sz) (fun _ _ => PRd.length)
  cases s with
  | nil =>
    simp only [qXf, Option.some.injEq] at h; subst h
    simp only [VRd] at hs; subst hs
    obtain ⟨c1, _⟩ := hc
    by_cases h0 : n = 0
    · subst h0
      have hy0 := List.eq_nil_of_length_eq_zero hl
      subst hy0
      simp only [Cat] at hy; subst hy
      refine ⟨_, w, qzg hd hin hz hsz hzs hx (Nat.le_refl _) (w2 := w) rfl, qKg K nl ⟨.row e 0 [], none⟩, ?_, ?_⟩
      · cases fr with
        | true => exact qmq A.inv A.ng ⟨Nat.le_refl _, by omega⟩ hf e
        | false => exact Stp.new A.inv A.ng nl nl ⟨Nat.le_refl _, by omega⟩ hf (.row e false []) ⟨.row e 0 [], none⟩ ⟨rfl, rfl, rfl, Nat.le_refl _, fun _ _ => rfl⟩ (fun p hp => by cases hp) (fun N' K' _ hk => ⟨rfl, rfl⟩)
      · cases fr <;> exact ⟨0, none, ⟨[], qGa⟩, Nat.le_refl _, fun _ => ⟨rfl, rfl⟩, rfl, rfl⟩
    · obtain ⟨v, w', K', h1, h2, h3⟩ := qrm (ty := ty) A.inv A.ng hf hd hin hz hsz hzs (zs := []) (fr1 := true) (base := none) (sLen := 0) (sCap := 0) ⟨none, 0, rfl, Nat.le_refl _, .inl rfl⟩ hx hy hl (by omega) (by simpa [hl] using c1) h63
      simp only [List.nil_append, Bool.true_and] at h2 h3
      exact ⟨v, w', h1, K', h2, h3⟩
  | ref e' l off len wh =>
    simp only [qXf] at h
    split at h
    · rename_i he
      subst he
      split at h
      · rename_i fr' xs hrow
        simp only [Option.some.injEq] at h; subst h
        obtain ⟨c1, _⟩ := hc
        have hlk := A.sub _ _ (qyb hrow)
        obtain ⟨h1, h2, h3, h4⟩ := qKi A.inv hlk hs
        have hcon : SlRd w (NN c H K w fr') e' (seg xs off len wh) u := qSz h1 h3 h4
        have hcon' : ∃ base cap, u = .slice base len cap := by
          obtain ⟨b0, c0, q, _⟩ := hcon
          exact ⟨b0, c0, by rw [q, h1]⟩
        obtain ⟨base, cap, rfl⟩ := hcon'
        have hlen : (seg xs off len wh ++ ys).length = len + n := by rw [List.length_append, h1, hl]
        by_cases hroom : len + n ≤ cap
        · rcases h4 with ⟨q1, q2, rfl, rfl⟩ | ⟨p, cs, o, cap', q1, q2, q3, q4, q5, q6⟩
          · -- no row at all
            injection q1 with q1 _ q1'
            subst q1; subst q1'
            have hn0 : n = 0 := by omega
            subst hn0
            have hy0 := List.eq_nil_of_length_eq_zero hl
            subst hy0
            simp only [Cat] at hy; subst hy
            refine ⟨_, w, qzg hd hin hz hsz hzs hx hroom (w2 := w) rfl, qKg K nl ⟨.row e' 0 [], none⟩, ?_, ?_⟩
            · have S1 := Stp.new A.inv A.ng nl nl ⟨Nat.le_refl _, by omega⟩ hf (.row e' (fr' && fr) []) ⟨.row e' 0 [], none⟩ ⟨rfl, rfl, rfl, Nat.le_refl _, fun _ _ => rfl⟩ (fun p hp => by cases hp) (fun N' K' _ hk => ⟨rfl, rfl⟩)
              have hseg : seg ([] : List (qFa e')) off 0 wh ++ [] = [] := List.eq_nil_of_length_eq_zero (by rw [hlen])
              simp only [hseg]
              exact S1.trans (Stp.kill S1.inv nl [l])
            · show RefRd _ _ _ _ _ _ _
              rw [hlen]
              exact ⟨0, none, ⟨[], qGa⟩, Nat.le_refl _, fun _ => ⟨rfl, rfl⟩, rfl, rfl⟩
          · injection q2 with q2 _ q2'
            subst q2; subst q2'
            by_cases hcap : cap = 0
            · subst hcap
              have hn0 : n = 0 := by omega
              have hl0 : len = 0 := by omega
              subst hn0; subst hl0
              have hy0 := List.eq_nil_of_length_eq_zero hl
              subst hy0
              simp only [Cat] at hy; subst hy
              have hseg : seg xs off 0 wh ++ [] = [] := List.eq_nil_of_length_eq_zero (by rw [hlen])
              refine ⟨_, w, qzg hd hin hz hsz hzs hx hroom (w2 := w) (by simp [storeCells]), qKg K nl ⟨.row e' 0 [], some ⟨p.blk, 0, p.bs⟩⟩, ?_, ?_⟩
              · simp only [hseg]
                refine Stp.move (w' := w) A.inv nl l nl _ _ _ ⟨.row e' 0 [], some ⟨p.blk, 0, p.bs⟩⟩ p ⟨p.blk, 0, p.bs⟩ hlk q1 rfl ⟨Nat.le_refl _, by omega⟩ hf rfl rfl ⟨rfl, rfl, rfl, rfl, fun _ _ => rfl⟩ (fun N' K' _ hk => ⟨rfl, [], ?_, rfl⟩)
                have := q5.move (q := 0) (o := 0) (s := []) (ds := []) (by simp) (Nat.le_refl _) (by simp) (fun j v hj => by simp at hj)
                simpa [World.setCells] using this
              · show RefRd _ _ _ _ _ _ _
                rw [hlen]
                exact ⟨0, some ⟨p.blk, 0, p.bs⟩, ⟨[], qGa⟩, Nat.le_refl _, fun _ => ⟨rfl, rfl⟩, o, 0, rfl, Nat.le_refl _, .inl rfl⟩
            · obtain ⟨rfl, q4⟩ := q4.resolve_left hcap
              have hxl := q6.length (n := e'.sz) (fun _ _ => PRd.length)
              have hm1 : (len + n) * e'.sz ≤ cap * e'.sz := Nat.mul_le_mul_right _ hroom
              have hm2 : (off + len) * e'.sz ≤ xs.length * e'.sz := Nat.mul_le_mul_right _ h2
              rw [Nat.add_mul] at hm1 hm2 q4
              rw [hl] at hcl1
              have hst := run_storeCells_cells (P := P) p.blk (p.ob + off * e'.sz + len * e'.sz) cl 0 w (fun j hj => q5.is (by omega)) (fun j hj => q5.free (by omega)) (hy.one (fun _ _ => PRd.one))
              have hcut : (cut cs (off * e'.sz) (len * e'.sz)).length = len * e'.sz := qEj (by omega)
              refine ⟨_, w.setCells p.blk (p.ob + off * e'.sz + len * e'.sz + 0) cl, qzg hd hin hz hsz hzs hx hroom (by simp only [Addr.add_lit]; exact hst), qKg K nl ⟨.row e' (seg xs off len wh ++ ys).length [], some ⟨p.blk, p.ob + off * e'.sz, p.bs⟩⟩, ?_, ?_⟩
              · obtain ⟨s1, s2, s3, s4, s5⟩ := qUa p.blk cl (p.ob + off * e'.sz + len * e'.sz + 0) w
                refine Stp.move A.inv nl l nl _ _ _ ⟨.row e' (seg xs off len wh ++ ys).length [], some ⟨p.blk, p.ob + off * e'.sz, p.bs⟩⟩ p ⟨p.blk, p.ob + off * e'.sz, p.bs⟩ hlk q1 rfl ⟨Nat.le_refl _, by omega⟩ hf rfl rfl ⟨s1, s2, s3, s4, s5⟩ (fun N' K' hN hk => ⟨rfl, cut cs (off * e'.sz) (len * e'.sz) ++ cl, ?_, ?_⟩)
                · refine q5.move (by simp only [List.length_append, hcut, hcl1]; omega) (by omega) (by simp only [List.length_append, hcut, hcl1]; omega) (fun j v hj => ?_)
                  by_cases hj1 : j < len * e'.sz
                  · rw [List.getElem?_append_left (by omega), qhh, if_pos hj1] at hj
                    rw [if_pos (by omega)]
                    exact ⟨by omega, by rw [← hj]; congr 1; omega⟩
                  · rw [List.getElem?_append_right (by omega), hcut] at hj
                    have hj2 := (List.getElem?_eq_some_iff.1 hj).1
                    rw [if_neg (by omega), if_pos (by omega)]
                    rw [← hj]; congr 1; omega
                · refine Cat.append ?_ ?_
                  · refine (qOh (fun _ _ => PRd.length) q6 h3).imp (fun _ _ q => q.keep ⟨fun b hb => ?_⟩)
                    exact ⟨by cases fr' <;> cases fr <;> first | exact ((hk.n _).k b hb).1 | exact hN b ((hk.n _).k b hb).1, ((hk.n _).k b hb).2⟩
                  · refine hy.imp (fun _ _ q => q.keep ⟨fun b hb => ?_⟩)
                    exact ⟨by cases fr' <;> cases fr <;> first | exact ((hk.n _).k b hb).1 | exact hN b ((hk.n _).k b hb).1, ((hk.n _).k b hb).2⟩
              · show RefRd _ _ _ _ _ _ _
                rw [hlen]
                refine ⟨_, some ⟨p.blk, p.ob + off * e'.sz, p.bs⟩, ⟨[], qGa⟩, by omega, fun _ => ⟨rfl, by omega⟩, _, cap, rfl, hroom, .inr ⟨by simp, ?_⟩⟩
                simp only [Nat.zero_add]
                omega
        · rw [hlen] at c1
          obtain ⟨v, w', K', g1, g2, g3⟩ := qrm (ty := ty) A.inv A.ng hf hd hin hz hsz hzs hcon hx hy hl (by omega) c1 h63
          exact ⟨v, w', g1, K', g2.trans (Stp.kill g2.inv nl [l]), g3⟩
      · cases h
    · cases h
  | _ => simp [qXf] at h
theorem FamRd.one {w : World} {e : Ty} : ∀ {xss : List (List (qFa e))} {ps : List (Nat × Option Plc)} {cs : List Value}, FamRd w e xss ps cs → ∀ v ∈ cs, v.oneCell' = true
  | [], _, _, h, v, hv => by obtain ⟨_, rfl⟩ := h; cases hv
  | xs :: r, _, _, h, v, hv => by
    obtain ⟨p, ps', u, cs', rfl, rfl, h1, h2⟩ := h
    rcases List.mem_cons.1 hv with rfl | hv
    · cases p with
      | none => rw [h1.1]; rfl
      | some p => obtain ⟨o, cap, cl, a1, _⟩ := h1; rw [a1]; rfl
    · exact h2.one v hv
theorem qUg {A0 : Option Addr} {n cap sz : Nat} {cl : List Value} (hcl : cl.length = n * sz) (hb : n ≠ 0 → ∃ b o, A0 = some ⟨b, o, none⟩ ∧ CellsAt w b o cl) : ∀ w', w'.heap = w.heap → (Builtin.firstCells sz n (.slice A0 n cap)).run P w' = .ok cl.toArray w' := by
  intro w' hw
  by_cases h0 : n = 0
  · subst h0
    have : cl = [] := List.eq_nil_of_length_eq_zero (by simpa using hcl)
    subst this
    cases A0 with
    | none => simp [Builtin.firstCells]
    | some a => simp [Builtin.firstCells, loadCells, loadCellsFrom]
  · obtain ⟨b, o, rfl, h1⟩ := hb h0
    have := run_loadCells_list (P := P) w' ⟨b, o, none⟩ cl (fun j v hj => by
      rw [Addr.add_lit]
      have := h1 j v hj
      simpa [World.cell?, hw] using this)
    rw [hcl] at this
    simpa [Builtin.firstCells] using this
theorem qSq (A : Inv c H K w) {e : Ty} {l off len : Nat} {xss : List (List (qFa e))} {v : Value} (hl : H l = some (.fam e xss)) (hr : RefRd K (.slice e) l off len true v) :
    off = 0 ∧ len = xss.length ∧ e.flat = true ∧ ∃ ps pl, K l = some ⟨.row (.slice e) xss.length ps, pl⟩ ∧ Apart pl (ps.map (·.2)) ∧ (match pl with
      | none => v = .slice none 0 0 ∧ xss = [] ∧ ps = []
      | some p => ∃ cs o cap, v = .slice (some ⟨p.blk, o, none⟩) xss.length cap ∧ xss.length ≤ cap ∧ (cap = 0 ∨ (o = p.ob ∧ p.ob + cap ≤ p.bs)) ∧ InBlk w p cs ∧ FamRd w e xss ps cs) := by
  obtain ⟨gh, g1, hf, ps, g2, ha, g4⟩ := A.objs l _ hl
  obtain ⟨n, pl, ⟨ps', k1⟩, k2, k3, k4⟩ := hr
  obtain ⟨rfl, rfl⟩ := k3 rfl
  rw [k1] at g1; injection g1 with g1; subst g1
  simp only [Shp.row.injEq, true_and] at g2
  obtain ⟨rfl, rfl⟩ := g2
  refine ⟨rfl, rfl, hf, ps', pl, k1, ha, ?_⟩
  cases pl with
  | none => exact ⟨k4.1, g4⟩
  | some p =>
    obtain ⟨cs, g5, g6⟩ := g4
    obtain ⟨o, cap, h1, h2, h3⟩ := k4
    exact ⟨cs, o, cap, h1, h2, h3.imp id (fun h => by simpa [Ty.sz] using h), g5, g6⟩
theorem FamRd.append {w : World} {e : Ty} : ∀ {xss yss : List (List (qFa e))} {ps qs : List (Nat × Option Plc)} {cs ds : List Value}, FamRd w e xss ps cs → FamRd w e yss qs ds → FamRd w e (xss ++ yss) (ps ++ qs) (cs ++ ds)
  | [], _, _, _, _, _, h, h' => by obtain ⟨rfl, rfl⟩ := h; exact h'
  | xs :: r, _, _, _, _, _, h, h' => by
    obtain ⟨p, ps', v, cs', rfl, rfl, h1, h2⟩ := h
    exact ⟨p, _, v, _, rfl, rfl, h1, h2.append h'⟩
theorem Apart.app {p0 q0 : Option Plc} {p1 : Plc} {ps qs : List (Option Plc)} (h : Apart p0 ps) (h' : Apart q0 qs) (hx : ∀ p q, some p ∈ ps → some q ∈ qs → p.blk ≠ q.blk) (h1 : ∀ q, some q ∈ ps → q.blk ≠ p1.blk) (h2 : ∀ q, some q ∈ qs → q.blk ≠ p1.blk) : Apart (some p1) (ps ++ qs) := by
  refine ⟨fun i j p q hi hj hb => ?_, fun p q hp hq => ?_⟩
  · rw [List.getElem?_append] at hi hj
    split at hi
    · split at hj
      · exact h.1 i j p q hi hj hb
      · exact absurd hb (hx p q (List.mem_of_getElem? hi) (List.mem_of_getElem? hj))
    · split at hj
      · exact absurd hb.symm (hx q p (List.mem_of_getElem? hj) (List.mem_of_getElem? hi))
      · have := h'.1 _ _ p q hi hj hb
        omega
  · injection hp with hp; subst hp
    rcases List.mem_append.1 hq with hq | hq
    · exact h1 q hq
    · exact h2 q hq
theorem qes (A : At c P GT H lk K w ev ρ nl) {T T2 E ty : TypeId} {i : TypeInfo} {z : Value} {e : Ty} (hd : P.underlying T = some (.slice E)) {E2 : TypeId} (hd2 : P.underlying T2 = some (.slice E2)) (hin : P.info? E = some i) (hz : i.zero = some z) (hsz : i.size = e.sz) (hzs : z.cells.size = e.sz) (h63 : 0 < i.bytes)
    {s x : AV} {u v : Value} (hs : VRd w (NN c H K w) K s u) (hx : VRd w (NN c H K w) K x v) {out : Out} (h : qby lk e s x nl i.bytes = some out) (hc : qVe out.conds) :
    ∃ r w', (Builtin.append_ #[T, T2] ty #[u, v]).run P w = .ok r w' ∧ Lands c H K w nl out r w' := by
  have hf0 := A.fresh nl (Nat.le_refl _) (by omega)
  unfold qby at h
  split at h
  · rename_i e2 l2 off2 len2
    split at h
    · rename_i e1 y hlk2
      split at h
      · rename_i he
        subst he
        split at h
        · rename_i e3 l off len
          split at h
          · rename_i e0 xss hlk
            split at h
            · rename_i h0
              subst h0
              split at h
              · rename_i hq
                obtain ⟨rfl, rfl, hne⟩ := hq
                simp only [Option.some.injEq] at h; subst h
                obtain ⟨c1, _⟩ := hc
                have hH := A.sub _ _ hlk
                have hH2 := A.sub _ _ hlk2
                obtain ⟨rfl, rfl, hf, ps, pl, k1, ha, hm⟩ := qSq A.inv hH hs
                obtain ⟨rfl, rfl, _, qs, ql, m1, hb, hm2⟩ := qSq A.inv hH2 hx
                have hszE : (Ty.slice e0).sz = 1 := rfl
                rw [hszE] at hsz hzs
                cases ql with
                | none => exact absurd hm2.2.1 (by simp)
                | some p2 =>
                obtain ⟨ds, o2, cap2, rfl, n1, n2, n3, n4⟩ := hm2
                obtain ⟨_, hdl⟩ := n4.len
                obtain ⟨rfl, _⟩ := n2.resolve_left (by simp at n1; omega)
                have hsrc : Src P w E T2 1 z.cells (.slice (some ⟨p2.blk, p2.ob, none⟩) [y].length cap2) 1 ds :=
                  .given (.inl ⟨E2, hd2⟩) (fun w' => rfl) (qUg (by simpa using hdl) (fun _ => ⟨_, _, rfl, n3.cells⟩))
                have hown1 : ∀ q, some q ∈ ps.map (·.2) → q.blk < w.heap.size := fun q hq => (A.inv.own l _ _ q hH k1 (.inr hq)).1
                have hown2 : ∀ q, some q ∈ qs.map (·.2) → q.blk < w.heap.size := fun q hq => (A.inv.own l2 _ _ q hH2 m1 (.inr hq)).1
                have hcross : ∀ p q, some p ∈ ps.map (·.2) → some q ∈ qs.map (·.2) → p.blk ≠ q.blk := fun p q hp hq e =>
                  hne (A.inv.inj l l2 _ _ _ _ p q hH hH2 k1 m1 (.inr hp) (.inr hq) e)
                have hlen : (xss ++ [y]).length = xss.length + 1 := by simp
                have hnl : ∀ (w' : World) (pn : Plc) (cs : List Value), (pn.blk = w.heap.size ∨ pl = some pn) → w'.os = w.os ∧ w'.tape = w.tape ∧ w'.output = w.output ∧ w.heap.size ≤ w'.heap.size → pn.blk < w'.heap.size →
                    (∀ k, k < w.heap.size → (pl = some pn → k ≠ pn.blk) → w'.heap[k]? = w.heap[k]?) → InBlk w' pn (cs ++ ds) → FamRd w e0 xss ps cs →
                    Stp c H K w [(l, none), (l2, none), (nl, some (.fam e0 (xss ++ [y])))] nl (qKg K nl ⟨.row (.slice e0) (xss ++ [y]).length (ps ++ qs), some pn⟩) w' := by
                  intro w' pn cs hpn hw1 hw2 hw3 hib hfr
                  have hpnb : ∀ q, some q ∈ ps.map (·.2) → q.blk ≠ pn.blk := fun q hq => by
                    rcases hpn with e | e
                    · have := hown1 q hq; omega
                    · exact ha.2 pn q e hq
                  have hpnb2 : ∀ q, some q ∈ qs.map (·.2) → q.blk ≠ pn.blk := fun q hq e' => by
                    rcases hpn with e | e
                    · have := hown2 q hq; omega
                    · exact hne (A.inv.inj l l2 _ _ _ _ pn q hH hH2 k1 m1 (.inl e) (.inr hq) e'.symm)
                  refine Stp.merge (w' := w') A.inv nl nl [l, l2] (.fam e0 (xss ++ [y])) ⟨.row (.slice e0) (xss ++ [y]).length (ps ++ qs), some pn⟩ ⟨Nat.le_refl _, by omega⟩ hf0 hw1 (fun p hp => ?_) (fun _ _ _ => A.ng) (fun k hk hsm => ?_) (fun N' K' _ hk => ?_)
                  · rcases hp with hp | hp
                    · injection hp with hp; subst hp
                      rcases hpn with e | e
                      · exact .inr ⟨by omega, hw2⟩
                      · exact .inl ⟨l, by simp, _, _, pn, hH, k1, .inl e, rfl⟩
                    · simp only [Shp.ex, List.map_append, List.mem_append] at hp
                      rcases hp with hp | hp
                      · exact .inl ⟨l, by simp, _, _, p, hH, k1, .inr hp, rfl⟩
                      · exact .inl ⟨l2, by simp, _, _, p, hH2, m1, .inr hp, rfl⟩
                  · exact hw3 k hk (fun e e' => hsm l (by simp) _ _ pn hH k1 (.inl e) e'.symm)
                  · refine ⟨hf, ps ++ qs, rfl, ?_, cs ++ ds, hib, ?_⟩
                    · rw [List.map_append]
                      exact ha.app hb hcross hpnb hpnb2
                    · exact (hfr.keep hf (fun q hq => hw3 _ (hown1 q hq) (fun _ => hpnb q hq))).append (n4.keep hf (fun q hq => hw3 _ (hown2 q hq) (fun _ => hpnb2 q hq)))
                by_cases hroom : ∃ p cs cap, pl = some p ∧ u = .slice (some ⟨p.blk, p.ob, none⟩) xss.length cap ∧ xss.length + 1 ≤ cap ∧ p.ob + cap ≤ p.bs ∧ InBlk w p cs ∧ FamRd w e0 xss ps cs
                · obtain ⟨p, cs, cap, rfl, rfl, r1, r2, r3, r4⟩ := hroom
                  obtain ⟨_, hcl⟩ := r4.len
                  have hst := run_storeCells_cells (P := P) p.blk (p.ob + xss.length * 1) ds 0 w (fun j hj => r3.is (by simp at hdl; omega)) (fun j hj => r3.free (by simp at hdl; omega)) (FamRd.one n4)
                  have hrun := qzg (ty := ty) hd hin hz hsz hzs (base := some ⟨p.blk, p.ob, none⟩) (sLen := xss.length) (sCap := cap) hsrc r1 (by simp only [Addr.add_lit]; exact hst)
                  obtain ⟨s1, s2, s3, s4, s5⟩ := qUa p.blk ds (p.ob + xss.length * 1 + 0) w
                  refine ⟨_, _, hrun, _, hnl _ p cs (.inr rfl) ⟨s1, s2, s3, by rw [s4]; exact Nat.le_refl _⟩ (by rw [s4]; exact r3.lt) (fun k _ h => s5 k (h rfl)) ?_ r4, ?_⟩
                  · have := r3.move (q := p.ob) (o := p.ob + xss.length * 1 + 0) (s := ds) (ds := cs ++ ds) (by simp at hdl; simp; omega) (by omega) (by simp; omega) (fun j v hj => by
                      by_cases hj1 : j < cs.length
                      · rw [List.getElem?_append_left hj1] at hj
                        rw [if_pos (by omega)]
                        exact ⟨by omega, by rw [← hj]; congr 1; omega⟩
                      · rw [List.getElem?_append_right (by omega)] at hj
                        have hj2 := (List.getElem?_eq_some_iff.1 hj).1
                        rw [if_neg (by omega), if_pos (by omega)]
                        rw [← hj]; congr 1; omega)
                    exact this
                  · show RefRd _ _ _ _ _ _ _
                    rw [hlen]
                    exact ⟨_, some p, ⟨_, qGa⟩, by omega, fun _ => ⟨rfl, rfl⟩, p.ob, cap, rfl, r1, .inr ⟨by simp, by simp [Ty.sz]; omega⟩⟩
                · -- a new row
                  have hu : ∃ A0 cap cs, u = .slice A0 xss.length cap ∧ cap < xss.length + 1 ∧ FamRd w e0 xss ps cs ∧ (xss.length ≠ 0 → ∃ b o, A0 = some ⟨b, o, none⟩ ∧ CellsAt w b o cs) := by
                    cases pl with
                    | none =>
                      obtain ⟨rfl, rfl, rfl⟩ := hm
                      exact ⟨none, 0, [], rfl, by simp, ⟨rfl, rfl⟩, fun h => absurd rfl h⟩
                    | some p =>
                      obtain ⟨cs, o, cap, rfl, r1, r2, r3, r4⟩ := hm
                      refine ⟨_, cap, cs, rfl, ?_, r4, fun h => ?_⟩
                      · apply Nat.lt_of_not_le
                        intro hle
                        obtain ⟨rfl, r5⟩ := r2.resolve_left (by omega)
                        exact hroom ⟨p, cs, cap, rfl, rfl, hle, r5, r3, r4⟩
                      · obtain ⟨rfl, _⟩ := r2.resolve_left (by omega)
                        exact ⟨_, _, rfl, r3.cells⟩
                  obtain ⟨A0, cap, cs, rfl, r1, r2, r3⟩ := hu
                  obtain ⟨_, hcl⟩ := r2.len
                  rw [hlen] at c1
                  have hrun := qqm (ty := ty) hd hin hz hsz hzs (base := A0) (sLen := xss.length) (sCap := cap) (qUg (by omega) r3) hsrc r1 c1 h63
                  have hge := grownCap_ge w (xss.length + 1) cap E
                  generalize harr : cs.toArray ++ (ds.toArray ++ Builtin.zeroCells z.cells (grownCap w (xss.length + 1) cap E - (xss.length + 1))) = arr at hrun
                  have hal : arr.toList = (cs ++ ds) ++ (Builtin.zeroCells z.cells (grownCap w (xss.length + 1) cap E - (xss.length + 1))).toList := by rw [← harr]; simp
                  have hab := InBlk.new w.drew arr E
                  rw [hal] at hab
                  refine ⟨_, _, hrun, _, hnl _ ⟨w.heap.size, 0, arr.size⟩ cs (.inl rfl) ⟨rfl, rfl, rfl, by rw [qSa]; exact Nat.le_succ _⟩ (by rw [qSa]; exact Nat.lt_succ_self _) (fun k hk _ => (qdb w.drew _).2.2.2.2 k hk) hab.front r2, ?_⟩
                  show RefRd _ _ _ _ _ _ _
                  rw [hlen]
                  refine qMi (p := ⟨w.heap.size, 0, arr.size⟩) rfl hge (.inr ?_)
                  rw [← harr]
                  simp only [Array.size_append, size_zeroCells, hzs, List.size_toArray, hcl, hdl, hszE]
                  simp
                  omega
              · cases h
            · cases h
          · cases h
        · cases h
      · cases h
    · cases h
  · cases h
theorem FamSRd.one {w : World} {a e : Ty} : ∀ {xs : List (qFa a × List (qFa e))} {ps : List (Nat × Option Plc)} {cs : List Value}, FamSRd w a e xs ps cs → ∀ v ∈ cs, v.oneCell' = true
  | [], _, _, h, v, hv => by obtain ⟨_, rfl⟩ := h; cases hv
  | x :: r, _, _, h, v, hv => by
    obtain ⟨p, ps', c, u, cs', rfl, rfl, h0, h1, h2⟩ := h
    rcases List.mem_append.1 hv with hv | hv
    · exact PRd.one h0 v hv
    rcases List.mem_cons.1 hv with rfl | hv
    · obtain ⟨A, cap, rfl⟩ := h1.form; rfl
    · exact h2.one v hv
theorem FamSRd.append {w : World} {a e : Ty} : ∀ {xs ys : List (qFa a × List (qFa e))} {ps qs : List (Nat × Option Plc)} {cs ds : List Value}, FamSRd w a e xs ps cs → FamSRd w a e ys qs ds → FamSRd w a e (xs ++ ys) (ps ++ qs) (cs ++ ds)
  | [], _, _, _, _, _, h, h' => by obtain ⟨rfl, rfl⟩ := h; exact h'
  | x :: r, _, _, _, _, _, h, h' => by
    obtain ⟨p, ps', c, v, cs', rfl, rfl, h0, h1, h2⟩ := h
    exact ⟨p, _, c, v, _, rfl, by simp, h0, h1, h2.append h'⟩
theorem qSo (A : Inv c H K w) {a e : Ty} {l off len : Nat} {xs : List (qFa a × List (qFa e))} {v : Value} (hl : H l = some (.famS a e xs)) (hr : RefRd K (qLk a e) l off len true v) :
    off = 0 ∧ len = xs.length ∧ (a.flat = true ∧ e.flat = true) ∧ ∃ ps pl, K l = some ⟨.row (qLk a e) xs.length ps, pl⟩ ∧ Apart pl (ps.map (·.2)) ∧ (match pl with
      | none => v = .slice none 0 0 ∧ xs = [] ∧ ps = []
      | some p => ∃ cs o cap, v = .slice (some ⟨p.blk, o, none⟩) xs.length cap ∧ xs.length ≤ cap ∧ (cap = 0 ∨ (o = p.ob ∧ p.ob + cap * (a.sz + 1) ≤ p.bs)) ∧ InBlk w p cs ∧ FamSRd w a e xs ps cs) := by
  obtain ⟨gh, g1, ha0, hf, ps, g2, ha, g4⟩ := A.objs l _ hl
  obtain ⟨n, pl, ⟨ps', k1⟩, k2, k3, k4⟩ := hr
  obtain ⟨rfl, rfl⟩ := k3 rfl
  rw [k1] at g1; injection g1 with g1; subst g1
  simp only [Shp.row.injEq, true_and] at g2
  obtain ⟨rfl, rfl⟩ := g2
  refine ⟨rfl, rfl, ⟨ha0, hf⟩, ps', pl, k1, ha, ?_⟩
  cases pl with
  | none => exact ⟨k4.1, g4⟩
  | some p =>
    obtain ⟨cs, g5, g6⟩ := g4
    obtain ⟨o, cap, h1, h2, h3⟩ := k4
    exact ⟨cs, o, cap, h1, h2, h3.imp id (fun h => ⟨by simpa using h.1, by simpa [Ty.sz] using h.2⟩), g5, g6⟩
theorem qMq (A : At c P GT H lk K w ev ρ nl) {T T2 E ty : TypeId} {i : TypeInfo} {z : Value} {e : Ty} (hd : P.underlying T = some (.slice E)) {E2 : TypeId} (hd2 : P.underlying T2 = some (.slice E2)) (hin : P.info? E = some i) (hz : i.zero = some z) (hsz : i.size = e.sz) (hzs : z.cells.size = e.sz) (h63 : 0 < i.bytes)
    {s x : AV} {u v : Value} (hs : VRd w (NN c H K w) K s u) (hx : VRd w (NN c H K w) K x v) {out : Out} (h : qFt lk e s x nl i.bytes = some out) (hc : qVe out.conds) :
    ∃ r w', (Builtin.append_ #[T, T2] ty #[u, v]).run P w = .ok r w' ∧ Lands c H K w nl out r w' := by
  have hf0 := A.fresh nl (Nat.le_refl _) (by omega)
  unfold qFt at h
  split at h
  · rename_i e2 l2 off2 len2
    split at h
    · rename_i a1 e1 y hlk2
      split at h
      · rename_i e3 l off len
        split at h
        · rename_i a0 e0 xss hlk
          split at h
          · rename_i h0
            obtain ⟨h01, h02⟩ := h0
            subst h01; subst h02
            · split at h
              · rename_i hq
                obtain ⟨rfl, rfl, rfl, hne⟩ := hq
                simp only [Option.some.injEq] at h; subst h
                obtain ⟨c1, _⟩ := hc
                have hH := A.sub _ _ hlk
                have hH2 := A.sub _ _ hlk2
                obtain ⟨rfl, rfl, ⟨ha0, hf⟩, ps, pl, k1, ha, hm⟩ := qSo A.inv hH hs
                obtain ⟨rfl, rfl, _, qs, ql, m1, hb, hm2⟩ := qSo A.inv hH2 hx
                have hszE : (qLk a0 e0).sz = a0.sz + 1 := rfl
                rw [hszE] at hsz hzs
                cases ql with
                | none => exact absurd hm2.2.1 (by simp)
                | some p2 =>
                obtain ⟨ds, o2, cap2, rfl, n1, n2, n3, n4⟩ := hm2
                obtain ⟨_, hdl⟩ := n4.len
                have hdl' : ds.length = a0.sz + 1 := by simpa using hdl
                obtain ⟨rfl, _⟩ := n2.resolve_left (by simp at n1; omega)
                have hsrc : Src P w E T2 (a0.sz + 1) z.cells (.slice (some ⟨p2.blk, p2.ob, none⟩) [y].length cap2) 1 ds :=
                  .given (.inl ⟨E2, hd2⟩) (fun w' => rfl) (qUg (by simpa using hdl) (fun _ => ⟨_, _, rfl, n3.cells⟩))
                have hown1 : ∀ q, some q ∈ ps.map (·.2) → q.blk < w.heap.size := fun q hq => (A.inv.own l _ _ q hH k1 (.inr hq)).1
                have hown2 : ∀ q, some q ∈ qs.map (·.2) → q.blk < w.heap.size := fun q hq => (A.inv.own l2 _ _ q hH2 m1 (.inr hq)).1
                have hcross : ∀ p q, some p ∈ ps.map (·.2) → some q ∈ qs.map (·.2) → p.blk ≠ q.blk := fun p q hp hq e =>
                  hne (A.inv.inj l l2 _ _ _ _ p q hH hH2 k1 m1 (.inr hp) (.inr hq) e)
                have hlen : (xss ++ [y]).length = xss.length + 1 := by simp
                have hnl : ∀ (w' : World) (pn : Plc) (cs : List Value), (pn.blk = w.heap.size ∨ pl = some pn) → w'.os = w.os ∧ w'.tape = w.tape ∧ w'.output = w.output ∧ w.heap.size ≤ w'.heap.size → pn.blk < w'.heap.size →
                    (∀ k, k < w.heap.size → (pl = some pn → k ≠ pn.blk) → w'.heap[k]? = w.heap[k]?) → InBlk w' pn (cs ++ ds) → FamSRd w a0 e0 xss ps cs →
                    Stp c H K w [(l, none), (l2, none), (nl, some (.famS a0 e0 (xss ++ [y])))] nl (qKg K nl ⟨.row (qLk a0 e0) (xss ++ [y]).length (ps ++ qs), some pn⟩) w' := by
                  intro w' pn cs hpn hw1 hw2 hw3 hib hfr
                  have hpnb : ∀ q, some q ∈ ps.map (·.2) → q.blk ≠ pn.blk := fun q hq => by
                    rcases hpn with e | e
                    · have := hown1 q hq; omega
                    · exact ha.2 pn q e hq
                  have hpnb2 : ∀ q, some q ∈ qs.map (·.2) → q.blk ≠ pn.blk := fun q hq e' => by
                    rcases hpn with e | e
                    · have := hown2 q hq; omega
                    · exact hne (A.inv.inj l l2 _ _ _ _ pn q hH hH2 k1 m1 (.inl e) (.inr hq) e'.symm)
                  refine Stp.merge (w' := w') A.inv nl nl [l, l2] (.famS a0 e0 (xss ++ [y])) ⟨.row (qLk a0 e0) (xss ++ [y]).length (ps ++ qs), some pn⟩ ⟨Nat.le_refl _, by omega⟩ hf0 hw1 (fun p hp => ?_) (fun _ _ _ => A.ng) (fun k hk hsm => ?_) (fun N' K' _ hk => ?_)
                  · rcases hp with hp | hp
                    · injection hp with hp; subst hp
                      rcases hpn with e | e
                      · exact .inr ⟨by omega, hw2⟩
                      · exact .inl ⟨l, by simp, _, _, pn, hH, k1, .inl e, rfl⟩
                    · simp only [Shp.ex, List.map_append, List.mem_append] at hp
                      rcases hp with hp | hp
                      · exact .inl ⟨l, by simp, _, _, p, hH, k1, .inr hp, rfl⟩
                      · exact .inl ⟨l2, by simp, _, _, p, hH2, m1, .inr hp, rfl⟩
                  · exact hw3 k hk (fun e e' => hsm l (by simp) _ _ pn hH k1 (.inl e) e'.symm)
                  · refine ⟨ha0, hf, ps ++ qs, rfl, ?_, cs ++ ds, hib, ?_⟩
                    · rw [List.map_append]
                      exact ha.app hb hcross hpnb hpnb2
                    · exact (hfr.keep ha0 hf (fun q hq => hw3 _ (hown1 q hq) (fun _ => hpnb q hq))).append (n4.keep ha0 hf (fun q hq => hw3 _ (hown2 q hq) (fun _ => hpnb2 q hq)))
                by_cases hroom : ∃ p cs cap, pl = some p ∧ u = .slice (some ⟨p.blk, p.ob, none⟩) xss.length cap ∧ xss.length + 1 ≤ cap ∧ p.ob + cap * (a0.sz + 1) ≤ p.bs ∧ InBlk w p cs ∧ FamSRd w a0 e0 xss ps cs
                · obtain ⟨p, cs, cap, rfl, rfl, r1, r2, r3, r4⟩ := hroom
                  obtain ⟨_, hcl⟩ := r4.len
                  have hmul := Nat.mul_le_mul_right (a0.sz + 1) r1
                  rw [Nat.succ_mul] at hmul
                  have hst := run_storeCells_cells (P := P) p.blk (p.ob + xss.length * (a0.sz + 1)) ds 0 w (fun j hj => r3.is (by omega)) (fun j hj => r3.free (by omega)) (FamSRd.one n4)
                  have hrun := qzg (ty := ty) hd hin hz hsz hzs (base := some ⟨p.blk, p.ob, none⟩) (sLen := xss.length) (sCap := cap) hsrc r1 (by simp only [Addr.add_lit]; exact hst)
                  obtain ⟨s1, s2, s3, s4, s5⟩ := qUa p.blk ds (p.ob + xss.length * (a0.sz + 1) + 0) w
                  refine ⟨_, _, hrun, _, hnl _ p cs (.inr rfl) ⟨s1, s2, s3, by rw [s4]; exact Nat.le_refl _⟩ (by rw [s4]; exact r3.lt) (fun k _ h => s5 k (h rfl)) ?_ r4, ?_⟩
                  · have := r3.move (q := p.ob) (o := p.ob + xss.length * (a0.sz + 1) + 0) (s := ds) (ds := cs ++ ds) (by simp only [List.length_append]; omega) (by omega) (by simp only [List.length_append]; omega) (fun j v hj => by
                      by_cases hj1 : j < cs.length
                      · rw [List.getElem?_append_left hj1] at hj
                        rw [if_pos (by omega)]
                        exact ⟨by omega, by rw [← hj]; congr 1; omega⟩
                      · rw [List.getElem?_append_right (by omega)] at hj
                        have hj2 := (List.getElem?_eq_some_iff.1 hj).1
                        rw [if_neg (by omega), if_pos (by omega)]
                        rw [← hj]; congr 1; omega)
                    exact this
                  · show RefRd _ _ _ _ _ _ _
                    rw [hlen]
                    exact ⟨_, some p, ⟨_, qGa⟩, by omega, fun _ => ⟨rfl, rfl⟩, p.ob, cap, rfl, r1, .inr ⟨by simp, by rw [hszE]; simpa using r2⟩⟩
                · -- a new row
                  have hu : ∃ A0 cap cs, u = .slice A0 xss.length cap ∧ cap < xss.length + 1 ∧ FamSRd w a0 e0 xss ps cs ∧ (xss.length ≠ 0 → ∃ b o, A0 = some ⟨b, o, none⟩ ∧ CellsAt w b o cs) := by
                    cases pl with
                    | none =>
                      obtain ⟨rfl, rfl, rfl⟩ := hm
                      exact ⟨none, 0, [], rfl, by simp, ⟨rfl, rfl⟩, fun h => absurd rfl h⟩
                    | some p =>
                      obtain ⟨cs, o, cap, rfl, r1, r2, r3, r4⟩ := hm
                      refine ⟨_, cap, cs, rfl, ?_, r4, fun h => ?_⟩
                      · apply Nat.lt_of_not_le
                        intro hle
                        obtain ⟨rfl, r5⟩ := r2.resolve_left (by omega)
                        exact hroom ⟨p, cs, cap, rfl, rfl, hle, r5, r3, r4⟩
                      · obtain ⟨rfl, _⟩ := r2.resolve_left (by omega)
                        exact ⟨_, _, rfl, r3.cells⟩
                  obtain ⟨A0, cap, cs, rfl, r1, r2, r3⟩ := hu
                  obtain ⟨_, hcl⟩ := r2.len
                  rw [hlen] at c1
                  have hrun := qqm (ty := ty) hd hin hz hsz hzs (base := A0) (sLen := xss.length) (sCap := cap) (qUg (by omega) r3) hsrc r1 c1 h63
                  have hge := grownCap_ge w (xss.length + 1) cap E
                  generalize harr : cs.toArray ++ (ds.toArray ++ Builtin.zeroCells z.cells (grownCap w (xss.length + 1) cap E - (xss.length + 1))) = arr at hrun
                  have hal : arr.toList = (cs ++ ds) ++ (Builtin.zeroCells z.cells (grownCap w (xss.length + 1) cap E - (xss.length + 1))).toList := by rw [← harr]; simp
                  have hab := InBlk.new w.drew arr E
                  rw [hal] at hab
                  refine ⟨_, _, hrun, _, hnl _ ⟨w.heap.size, 0, arr.size⟩ cs (.inl rfl) ⟨rfl, rfl, rfl, by rw [qSa]; exact Nat.le_succ _⟩ (by rw [qSa]; exact Nat.lt_succ_self _) (fun k hk _ => (qdb w.drew _).2.2.2.2 k hk) hab.front r2, ?_⟩
                  show RefRd _ _ _ _ _ _ _
                  rw [hlen]
                  refine qMi (p := ⟨w.heap.size, 0, arr.size⟩) rfl hge (.inr ?_)
                  rw [← harr]
                  simp only [Array.size_append, size_zeroCells, hzs, List.size_toArray, hcl, hdl', hszE]
                  generalize grownCap w (xss.length + 1) cap E = gc at hge ⊢
                  have e1 : (gc - (xss.length + 1)) * (a0.sz + 1) + (xss.length + 1) * (a0.sz + 1) = gc * (a0.sz + 1) := by rw [← Nat.add_mul, Nat.sub_add_cancel hge]
                  rw [Nat.succ_mul] at e1
                  omega
              · cases h
          · cases h
        · cases h
      · cases h
    · cases h
  · cases h
end
end Go.Ab

/-
  copy, the lesser and the greater: the built-in functions.
-/
set_option linter.unusedVariables false
set_option linter.unusedSimpArgs false
namespace Go.Ab
open Go
section
variable {c : Cx} {P : Program} {GT : qvf} {H lk : qzb} {K : Kn} {w : World} {ev : Operand → TV} {ρ : Operand → Value} {nl : Nat}
theorem qju (A : Inv c H K w) (hsub : ∀ l o, lk l = some o → H l = some o) {e : Ty} {x : AV} {v : Value} {fr : Bool} {ys : List (qFa e)} (h : qrd lk e x = some (fr, ys)) (hx : VRd w (NN c H K w) K x v) :
    ∃ cl, Cat (PRd w (NN c H K w fr) e) ys cl ∧ (∀ w', (Builtin.lenOf v).run P w' = .ok ys.length w') ∧
      ∀ n, n ≤ ys.length → ∀ w', w'.heap = w.heap → (Builtin.firstCells e.sz n v).run P w' = .ok (cl.take (n * e.sz)).toArray w' := by
  by_cases hs : ∃ s, x = .str s
  · obtain ⟨s, rfl⟩ := hs
    simp only [qrd] at h
    split at h
    · rename_i he
      subst he
      simp only [Option.some.injEq, Prod.mk.injEq] at h; obtain ⟨rfl, rfl⟩ := h
      simp only [VRd] at hx; subst hx
      have hl : (qDb s).length = s.size := by simp [qDb, ← ByteArray.size_data]
      refine ⟨_, qrl _, fun w' => by simp [Builtin.lenOf, hl], fun n hn w' hw => ?_⟩
      simp only [Builtin.firstCells, Sem.run_pure, Ty.sz, Nat.mul_one]
      congr 1
      apply Array.ext'
      rw [← List.map_take, qDb]
      simp only [List.map_map, ← List.map_take, Array.toList_map]
      have h7 : (s.extract 0 n).data.toList = s.data.toList.take n := by
        rw [ByteArray.data_extract]; simp
      rw [h7]; rfl
    · cases h
  · have hs' : ∀ s, x ≠ .str s := fun s e => hs ⟨s, e⟩
    have hsl := qim A hsub h hs' hx
    obtain ⟨cl, h1, h2, h3⟩ := hsl.first (P := P)
    refine ⟨cl, h1, fun w' => ?_, h3⟩
    obtain ⟨A0, cap, rfl, _⟩ := hsl
    rfl
theorem Stp.virt (h : Inv c H K w) {l : Nat} {e : Ty} {fr fr2 : Bool} (hl : H l = some (.row e fr [])) (hk : K l = some ⟨.row e 0 [], none⟩) : Stp c H K w [(l, some (.row e fr2 []))] nl K w := by
  have hup : ∀ m, qbb H [(l, some (.row e fr2 []))] m = if l = m then some (.row e fr2 []) else H m := fun m => by
    simp only [qbb, lookL]; split <;> simp_all
  have hno : ∀ m o gh p, qbb H [(l, some (.row e fr2 []))] m = some o → K m = some gh → Has gh p → H m = some o := by
    intro m o gh p h1 h2 h3
    rw [hup] at h1
    split at h1
    · rename_i e1
      subst e1
      rw [hk] at h2; injection h2 with h2; subst h2; rcases h3 with h3 | h3 <;> cases h3
    · exact h1
  have hlive : ∀ b, qJb (qbb H [(l, some (.row e fr2 []))]) K b → qJb H K b := by
    rintro b ⟨m, o, gh, p, h1, h2, h3, h4⟩
    exact ⟨m, o, gh, p, hno m o gh p h1 h2 h3, h2, h3, h4⟩
  have hkk : KeepK w w (NN c H K w) (NN c (qbb H [(l, some (.row e fr2 []))]) K w) K K := ⟨fun f => ⟨fun b hb => ⟨⟨hb.1, fun hn => hb.2.1 (hlive b hn), hb.2.2⟩, rfl⟩⟩, fun _ _ h => h⟩
  refine ⟨⟨fun m o hm => ?_, fun m o gh p h1 h2 h3 => h.own m o gh p (hno m o gh p h1 h2 h3) h2 h3, fun m m' o o' gh gh' p p' h1 h2 h3 h4 h5 h6 => h.inj m m' o o' gh gh' p p' (hno m o gh p h1 h3 h5) (hno m' o' gh' p' h2 h4 h6) h3 h4 h5 h6, h.fr⟩, hkk, fun _ => .inl rfl, Nat.le_refl _⟩
  rw [hup] at hm
  split at hm
  · rename_i e1
    subst e1
    simp only [Option.some.injEq] at hm; subst hm
    exact ⟨_, hk, rfl, rfl⟩
  · obtain ⟨gh, hg, ho⟩ := h.objs m o hm
    exact ⟨gh, hg, ho.keep hkk (fun _ _ => rfl)⟩
theorem qHl {α : Type} {R : α → List Value → Prop} {n : Nat} (hR : ∀ x cs, R x cs → cs.length = n) {xs ys : List α} {cs s : List Value} {o : Nat} (h : Cat R xs cs) (hy : Cat R ys s) (ho : o + ys.length ≤ xs.length) : Cat R (qZb xs o ys) (put cs (o * n) s) := by
  have hl := h.length hR
  have hyl := hy.length hR
  have := ((h.take hR o).append hy).append (h.drop hR (o + ys.length))
  unfold qZb put
  rw [hyl, ← Nat.add_mul]
  exact this
theorem qKh {α : Type} {xs ys : List α} {o : Nat} (ho : o + ys.length ≤ xs.length) : (qZb xs o ys).length = xs.length := by
  simp [qZb]; omega
theorem qWk {T T2 E ty : TypeId} {sz : Nat} (hd : P.underlying T = some (.slice E)) (hsz : (sizeOf E).run P w = .ok sz w) {base : Option Addr} {dLen dCap n : Nat} {x : Value} {cl : List Value}
    (hn : (Builtin.lenOf x).run P w = .ok n w) (hc : (Builtin.firstCells sz (min n dLen) x).run P w = .ok cl.toArray w) {w2 : World}
    (hw : (match base with
      | some a => storeCells a cl
      | none => pure ()).run P w = .ok () w2) :
    (Builtin.copy_ #[T, T2] ty #[.slice base dLen dCap, x]).run P w = .ok (goInt (min n dLen : Nat)) w2 := by
  have hm : Nat.min n dLen = min n dLen := rfl
  cases base with
  | none =>
    simp [Builtin.copy_, run_underlying hd, hn, hsz, hm, hc] at hw ⊢
    exact hw
  | some a =>
    simp [Builtin.copy_, run_underlying hd, hn, hsz, hm, hc] at hw ⊢
    rw [hw]; rfl
theorem InBlk.cut_eq {w : World} {p : Plc} {cs ds : List Value} (h : InBlk w p cs) (k : InBlk w p ds) {o n : Nat} (h1 : o + n ≤ cs.length) (h2 : o + n ≤ ds.length) : cut cs o n = cut ds o n := by
  apply List.ext_getElem?; intro j
  rw [qhh, qhh]
  split
  · have a := h.cells (o + j) _ (List.getElem?_eq_getElem (by omega))
    have b := k.cells (o + j) _ (List.getElem?_eq_getElem (by omega))
    rw [a] at b; injection b with b
    rw [List.getElem?_eq_getElem (by omega), List.getElem?_eq_getElem (by omega), b]
  · rfl
theorem qoy (A : At c P GT H lk K w ev ρ nl) {T T2 ty : TypeId} {d x : AV} {u v : Value} (hd : VRd w (NN c H K w) K d u) (hx : VRd w (NN c H K w) K x v) {out : Out} (h : qCc P lk nl .copy [T, T2] [d, x] = some out) :
    ∃ r w', (Builtin.copy_ #[T, T2] ty #[u, v]).run P w = .ok r w' ∧ Lands c H K w nl out r w' := by
  simp only [qCc] at h
  split at h
  · rename_i e he
    have hT : qGc P tyD T = some (.slice e) := by
      unfold qpi at he
      split at he
      · rename_i e' h'; simp only [Option.some.injEq] at he; subst he; exact h'
      · cases he
    obtain ⟨m0, E, _, hdT, hE⟩ := qHb hT
    have hsz : (sizeOf E).run P w = .ok e.sz w := qkb hE
    split at h
    · rename_i fr ys hcon
      obtain ⟨cl, y1, y2, y3⟩ := qju (P := P) A.inv A.sub hcon hx
      split at h
      · rename_i e' l off len wh
        split at h
        · rename_i he'
          subst he'
          split at h
          · rename_i fr' xs hrow
            simp only [Option.some.injEq] at h; subst h
            have hlk := A.sub _ _ (qyb hrow)
            obtain ⟨h1, h2, h3, h4⟩ := qKi A.inv hlk hd
            have y3' := y3 (min ys.length len) (Nat.min_le_left _ _) w rfl
            have y1' := y1.take (n := e'.sz) (fun _ _ => PRd.length) (min ys.length len)
            have y1l := y1'.length (n := e'.sz) (fun _ _ => PRd.length)
            have ytl : (ys.take (min ys.length len)).length = min ys.length len := by simp
            rcases h4 with ⟨rfl, q2, rfl, rfl⟩ | ⟨p, cs, o, cap, q1, rfl, q3, q4, q5, q6⟩
            · have := qWk (ty := ty) (T2 := T2) hdT hsz (base := none) (dLen := 0) (dCap := 0) (y2 w) y3' (w2 := w) rfl
              refine ⟨_, w, this, K, ?_, rfl⟩
              have hspl : qZb ([] : List (qFa e')) off (ys.take (min ys.length 0)) = [] := by simp [qZb]
              simp only [hspl]
              exact Stp.virt A.inv hlk q2
            · have hcap0 : cap = 0 → len = 0 := fun hc => by omega
              by_cases hcap : cap = 0
              · have hl0 := hcap0 hcap
                subst hl0
                have := qWk (ty := ty) (T2 := T2) hdT hsz (base := some ⟨p.blk, o, none⟩) (dLen := 0) (dCap := cap) (y2 w) y3' (w2 := w) (by simp [storeCells])
                refine ⟨_, w, this, K, ?_, rfl⟩
                have hspl : qZb xs off (ys.take (min ys.length 0)) = xs := by simp [qZb]
                simp only [hspl]
                exact Stp.write A.inv nl l _ _ _ p hlk q1 (.inl rfl) ⟨rfl, rfl, rfl, rfl, fun _ _ => rfl⟩ (fun N' K' hN hk => ⟨rfl, cs, q5, q6.imp (fun _ _ q => q.keep ⟨fun b hb => ⟨by cases fr' <;> cases fr <;> first | exact ((hk.n _).k b hb).1 | exact hN b ((hk.n _).k b hb).1, rfl⟩⟩)⟩)
              · obtain ⟨rfl, q4⟩ := q4.resolve_left hcap
                have hxl := q6.length (n := e'.sz) (fun _ _ => PRd.length)
                rw [ytl] at y1l
                have hm2 : (off + min ys.length len) * e'.sz ≤ xs.length * e'.sz := Nat.mul_le_mul_right _ (by omega)
                rw [Nat.add_mul] at hm2
                obtain ⟨_, _, _, _, _, _, q5b, _⟩ := id q5
                have hst := run_storeCells_cells (P := P) p.blk (p.ob + off * e'.sz) (cl.take (min ys.length len * e'.sz)) 0 w (fun j hj => q5.is (by omega)) (fun j hj => q5.free (by omega)) (y1'.one (fun _ _ => PRd.one))
                have := qWk (ty := ty) (T2 := T2) hdT hsz (base := some ⟨p.blk, p.ob + off * e'.sz, none⟩) (dLen := len) (dCap := cap) (y2 w) y3' (w2 := _) hst
                obtain ⟨s1, s2, s3, s4, s5⟩ := qUa p.blk (cl.take (min ys.length len * e'.sz)) (p.ob + off * e'.sz + 0) w
                refine ⟨_, _, this, K, ?_, rfl⟩
                refine Stp.write A.inv nl l _ _ _ p hlk q1 (.inl rfl) ⟨s1, s2, s3, s4, s5⟩ (fun N' K' hN hk => ⟨?_, put cs (off * e'.sz) (cl.take (min ys.length len * e'.sz)), ?_, ?_⟩)
                · rw [qKh (by omega)]
                · exact q5.write (by omega)
                · refine qHl (fun _ _ => PRd.length) ?_ ?_ (by omega)
                  · exact q6.imp (fun _ _ q => q.keep ⟨fun b hb => ⟨by cases fr' <;> cases fr <;> first | exact ((hk.n _).k b hb).1 | exact hN b ((hk.n _).k b hb).1, ((hk.n _).k b hb).2⟩⟩)
                  · exact y1'.imp (fun _ _ q => q.keep ⟨fun b hb => ⟨by cases fr' <;> cases fr <;> first | exact ((hk.n _).k b hb).1 | exact hN b ((hk.n _).k b hb).1, ((hk.n _).k b hb).2⟩⟩)
          · cases h
        · cases h
      · rename_i e' l p m off len
        split at h
        · rename_i he'
          subst he'
          split at h
          · rename_i obj hlk
            split at h
            · rename_i t y hg
              split at h
              · rename_i ht
                subst ht
                split at h
                · rename_i obj' hset
                  simp only [Option.some.injEq] at h; subst h
                  obtain ⟨sh, pl, po, k1, k2, k3, o, cap, rfl, h5, h6⟩ := hd
                  have hl := A.sub _ _ hlk
                  obtain ⟨gh, g1, g2⟩ := A.inv.objs l _ hl
                  rw [k1] at g1; injection g1 with g1; subst g1
                  obtain ⟨cs, e2, e3, e4⟩ := g2.box_get NN.low k2 hg
                  obtain ⟨hyl, hyc⟩ := e4
                  have y3' := y3 (min ys.length len) (Nat.min_le_left _ _) w rfl
                  have y1' := y1.take (n := e'.sz) (fun _ _ => PRd.length) (min ys.length len)
                  have y1l := y1'.length (n := e'.sz) (fun _ _ => PRd.length)
                  have ytl : (ys.take (min ys.length len)).length = min ys.length len := by simp
                  rw [ytl] at y1l
                  have hm2 : (off + min ys.length len) * e'.sz ≤ m * e'.sz := Nat.mul_le_mul_right _ (by omega)
                  rw [Nat.add_mul] at hm2
                  have hy2 : ARd w (NN c H K w) K (.arr m e') (qZb y off (ys.take (min ys.length len))) (put (cut cs po (m * e'.sz)) (off * e'.sz) (cl.take (min ys.length len * e'.sz))) := by
                    refine ⟨by rw [qKh (by omega)]; exact hyl, qHl (fun _ _ => PRd.length) hyc ?_ (by omega)⟩
                    exact y1'.imp (fun _ _ q => q.keep ⟨fun b hb => ⟨by cases fr <;> first | exact hb | exact NN.low b hb, rfl⟩⟩)
                  obtain ⟨cs2, b1, b2, b3⟩ := qio (w := w) (N := NN c H K w) NN.low g2 k2 hy2 hset
                  have hcc := e2.cut_eq b1 (o := po) (n := (Ty.arr m e').sz) e3 b2
                  have hszm : (Ty.arr m e').sz = m * e'.sz := rfl
                  rw [hszm] at hcc b2 e3
                  rw [hcc, qit (by omega) (by omega)] at b3
                  have hle : min ys.length len = 0 ∨ cap ≠ 0 := by omega
                  have hst : (storeCells ⟨pl.blk, o, none⟩ (cl.take (min ys.length len * e'.sz))).run P w = .ok () (w.setCells pl.blk (pl.ob + (po + off * e'.sz)) (cl.take (min ys.length len * e'.sz))) := by
                    rcases hle with hle | hle
                    · rw [hle]; simp [storeCells, World.setCells]
                    · obtain rfl := h6.resolve_left hle
                      have hcl3 : pl.ob + cs2.length ≤ pl.bs := by obtain ⟨_, _, _, _, _, _, q, _⟩ := id b1; exact q
                      have := run_storeCells_cells (P := P) pl.blk (pl.ob + po + off * e'.sz) (cl.take (min ys.length len * e'.sz)) 0 w (fun j hj => b1.is (by omega)) (fun j hj => b1.free (by omega)) (y1'.one (fun _ _ => PRd.one))
                      rw [show pl.ob + (po + off * e'.sz) = pl.ob + po + off * e'.sz + 0 by omega]
                      exact this
                  have := qWk (ty := ty) (T2 := T2) hdT hsz (base := some ⟨pl.blk, o, none⟩) (dLen := len) (dCap := cap) (y2 w) y3' (w2 := _) hst
                  obtain ⟨s1, s2, s3, s4, s5⟩ := qUa pl.blk (cl.take (min ys.length len * e'.sz)) (pl.ob + (po + off * e'.sz)) w
                  refine ⟨_, _, this, K, ?_, rfl⟩
                  exact Stp.write A.inv nl l _ _ _ pl hl k1 k2.has ⟨s1, s2, s3, s4, s5⟩ (fun N' K' hN hk => b3 _ N' K' hN hk (fun q _ hq => s5 _ hq) (b1.write (by omega)))
                · cases h
              · cases h
            · cases h
          · cases h
        · cases h
      · simp only [Ab.one, Option.some.injEq] at h; subst h
        simp only [VRd] at hd; subst hd
        have y3' := y3 (min ys.length 0) (Nat.min_le_left _ _) w rfl
        have := qWk (ty := ty) (T2 := T2) hdT hsz (base := none) (dLen := 0) (dCap := 0) (y2 w) y3' (w2 := w) rfl
        refine ⟨_, w, this, Lands.one A.inv ?_⟩
        simp only [Nat.min_zero]; rfl
      · cases h
    · cases h
  · cases h
theorem qNq (A : At c P GT H lk K w ev ρ nl) {T T2 E ty : TypeId} {i : TypeInfo} {z : Value} {e : Ty} (hd : P.underlying T = some (.slice E)) {E2 : TypeId} (hd2 : P.underlying T2 = some (.slice E2)) (hin : P.info? E = some i) (hz : i.zero = some z) (hsz : i.size = e.sz) (hzs : z.cells.size = e.sz) (h63 : 0 < i.bytes)
    {s x : AV} {u v : Value} (hs : VRd w (NN c H K w) K s u) (hx : VRd w (NN c H K w) K x v) {out : Out} (h : qHt lk e s x nl i.bytes = some out) (hc : qVe out.conds) :
    ∃ r w', (Builtin.append_ #[T, T2] ty #[u, v]).run P w = .ok r w' ∧ Lands c H K w nl out r w' := by
  unfold qHt at h
  split at h
  · rename_i e2 l2 off2 len2
    split at h
    · rename_i e1 ys hlk2
      split at h
      · rename_i he
        subst he
        split at h
        · rename_i he2
          subst he2
          split at h
          · rename_i o' hap
            simp only [Option.some.injEq] at h; subst h
            have hH2 := A.sub _ _ hlk2
            obtain ⟨rfl, rfl, hf, qs, ql, m1, hb, hm2⟩ := qSq A.inv hH2 hx
            have S1 := Stp.kill A.inv nl [l2]
            have A1 : At c P GT (qbb H (Ab.kill [l2])) (fun l => if l = l2 then none else lk l) K w (fun _ => .one .undef) ρ nl := by
              refine ⟨S1.inv, fun l o hl => ?_, fun _ => trivial, A.fresh, A.ng, A.glob, A.gng⟩
              split at hl
              · cases hl
              · rename_i hne
                simp only [qbb, Ab.kill, List.map_cons, List.map_nil, lookL]
                rw [if_neg (Ne.symm hne)]
                exact A.sub _ _ hl
            have hsrc : ∃ ds, Src P w E T2 (Ty.slice e1).sz z.cells v ys.length ds ∧ Cat (PRd w (NN c (qbb H (Ab.kill [l2])) K w true) (.slice e1)) ys ds := by
              cases ql with
              | none =>
                obtain ⟨rfl, rfl, rfl⟩ := hm2
                exact ⟨[], .given (.inl ⟨E2, hd2⟩) (fun w' => rfl) (qUg (by simp) (fun h => absurd rfl h)), rfl⟩
              | some p =>
                obtain ⟨cs, o, cap, rfl, r1, r2, r3, r4⟩ := hm2
                refine ⟨cs, .given (.inl ⟨E2, hd2⟩) (fun w' => rfl) (qUg (by rw [r4.len.2]; simp [Ty.sz]) (fun h => ?_)), r4.cat hf (fun q hq => NN.kill A.inv hH2 m1 (.inr hq) (by simp) true)⟩
                obtain ⟨rfl, _⟩ := r2.resolve_left (by omega)
                exact ⟨_, _, rfl, r3.cells⟩
            obtain ⟨ds, h1, h2⟩ := hsrc
            obtain ⟨r, w', g1, K', g2, g3⟩ := qCf (ty := ty) A1 hd hin hz hsz hzs h63 (hs.keep S1.keep) h1 h2 rfl hap hc
            refine ⟨r, w', g1, K', S1.trans g2, ?_⟩
            have := qZe H o'.upd (Ab.kill [l2])
            show TVRd w' (NN c (qbb H (o'.upd ++ Ab.kill [l2])) K' w') K' o'.v r
            rw [this]; exact g3
          · cases h
        · cases h
      · cases h
    · cases h
  · cases h
theorem qCp (A : At c P GT H lk K w ev ρ nl) {T T2 E ty : TypeId} {i : TypeInfo} {z : Value} {e : Ty} (hd : P.underlying T = some (.slice E)) {E2 : TypeId} (hd2 : P.underlying T2 = some (.slice E2)) (hin : P.info? E = some i) (hz : i.zero = some z) (hsz : i.size = e.sz) (hzs : z.cells.size = e.sz) (h63 : 0 < i.bytes)
    {s x : AV} {u v : Value} (hs : VRd w (NN c H K w) K s u) (hx : VRd w (NN c H K w) K x v) {out : Out} (h : qUq lk e s x nl i.bytes = some out) (hc : qVe out.conds) :
    ∃ r w', (Builtin.append_ #[T, T2] ty #[u, v]).run P w = .ok r w' ∧ Lands c H K w nl out r w' := by
  unfold qUq at h
  split at h
  · rename_i e2 l2 off2 len2
    split at h
    · rename_i a1 e1 ys hlk2
      split at h
      · rename_i he
        subst he
        split at h
        · rename_i he2
          subst he2
          split at h
          · rename_i o' hap
            simp only [Option.some.injEq] at h; subst h
            have hH2 := A.sub _ _ hlk2
            obtain ⟨rfl, rfl, ⟨ha0, hf⟩, qs, ql, m1, hb, hm2⟩ := qSo A.inv hH2 hx
            have S1 := Stp.kill A.inv nl [l2]
            have A1 : At c P GT (qbb H (Ab.kill [l2])) (fun l => if l = l2 then none else lk l) K w (fun _ => .one .undef) ρ nl := by
              refine ⟨S1.inv, fun l o hl => ?_, fun _ => trivial, A.fresh, A.ng, A.glob, A.gng⟩
              split at hl
              · cases hl
              · rename_i hne
                simp only [qbb, Ab.kill, List.map_cons, List.map_nil, lookL]
                rw [if_neg (Ne.symm hne)]
                exact A.sub _ _ hl
            have hsrc : ∃ ds, Src P w E T2 (qLk a1 e1).sz z.cells v (qUf ys).length ds ∧ Cat (PRd w (NN c (qbb H (Ab.kill [l2])) K w true) (qLk a1 e1)) (qUf ys) ds := by
              cases ql with
              | none =>
                obtain ⟨rfl, rfl, rfl⟩ := hm2
                exact ⟨[], .given (.inl ⟨E2, hd2⟩) (fun w' => rfl) (qUg (by simp [qUf]) (fun h => absurd rfl h)), rfl⟩
              | some p =>
                obtain ⟨cs, o, cap, rfl, r1, r2, r3, r4⟩ := hm2
                rw [qVg]
                refine ⟨cs, .given (.inl ⟨E2, hd2⟩) (fun w' => rfl) (qUg (by rw [r4.len.2]; rfl) (fun h => ?_)), r4.cat ha0 hf (fun q hq => NN.kill A.inv hH2 m1 (.inr hq) (by simp) true)⟩
                obtain ⟨rfl, _⟩ := r2.resolve_left (by omega)
                exact ⟨_, _, rfl, r3.cells⟩
            obtain ⟨ds, h1, h2⟩ := hsrc
            obtain ⟨r, w', g1, K', g2, g3⟩ := qCf (ty := ty) A1 hd hin hz hsz hzs h63 (hs.keep S1.keep) h1 h2 rfl hap hc
            refine ⟨r, w', g1, K', S1.trans g2, ?_⟩
            have := qZe H o'.upd (Ab.kill [l2])
            show TVRd w' (NN c (qbb H (o'.upd ++ Ab.kill [l2])) K' w') K' o'.v r
            rw [this]; exact g3
          · cases h
        · cases h
      · cases h
    · cases h
  · cases h
theorem qMn {T E ty : TypeId} {z : Value} (hd : P.underlying T = some (.slice E)) (hz : (zeroValue E).run P w = .ok z w) {base : Option Addr} {n cap : Nat} {w2 : World}
    (hw : n ≠ 0 → ∃ a, base = some a ∧ (storeCells a (Builtin.zeroCells z.cells n).toList).run P w = .ok () w2) (h0 : n = 0 → w2 = w) :
    (Builtin.clear_ #[T] ty #[.slice base n cap]).run P w = .ok (.tuple #[]) w2 := by
  cases n with
  | zero =>
    rw [h0 rfl]
    cases base <;> simp [Builtin.clear_, run_underlying hd]
  | succ n =>
    obtain ⟨a, rfl, h⟩ := hw (by omega)
    simp [Builtin.clear_, run_underlying hd, hz, h]
theorem qgw (A : At c P GT H lk K w ev ρ nl) {T ty : TypeId} {e : Ty} {l off n : Nat} {wh : Bool} {u : Value} (hd : VRd w (NN c H K w) K (.ref e l off n wh) u) {out : Out} (h : qCc P lk nl .clear [T] [.ref e l off n wh] = some out) :
    ∃ r w', (Builtin.clear_ #[T] ty #[u]).run P w = .ok r w' ∧ Lands c H K w nl out r w' := by
  simp only [qCc] at h
  split at h
  · rename_i E hdT
    split at h
    · rename_i hq
      split at h
      · rename_i fr' xs hrow
        simp only [Option.some.injEq] at h; subst h
        obtain ⟨z, hz1, hz2, i, hi1, hi2⟩ := qSc (P := P) (w := w) hq.2
        have hzs : z.cells.size = e.sz := by
          have := (qyd (w := w) (N := fun _ => True) (t := e)).length
          rw [← hz2] at this; simpa using this
        have hlk := A.sub _ _ (qyb hrow)
        obtain ⟨h1, h2, h3, h4⟩ := qKi A.inv hlk hd
        rcases h4 with ⟨rfl, q2, rfl, rfl⟩ | ⟨p, cs, o, cap, q1, rfl, q3, q4, q5, q6⟩
        · refine ⟨_, w, qMn hdT hz1 (fun h => absurd rfl h) (fun _ => rfl), K, ?_, [], rfl, rfl⟩
          have hspl : qZb ([] : List (qFa e)) off (List.replicate 0 (qja e)) = [] := by simp [qZb]
          simp only [hspl]
          exact Stp.virt A.inv hlk q2
        · by_cases hn0 : n = 0
          · subst hn0
            refine ⟨_, w, qMn hdT hz1 (fun h => absurd rfl h) (fun _ => rfl), K, ?_, [], rfl, rfl⟩
            have hspl : qZb xs off (List.replicate 0 (qja e)) = xs := by simp [qZb]
            simp only [hspl]
            exact Stp.write A.inv nl l _ _ _ p hlk q1 (.inl rfl) ⟨rfl, rfl, rfl, rfl, fun _ _ => rfl⟩ (fun N' K' hN hk => ⟨rfl, cs, q5, q6.imp (fun _ _ q => q.keep (hk.n _))⟩)
          · obtain ⟨rfl, q4⟩ := q4.resolve_left (by omega)
            have hxl := q6.length (n := e.sz) (fun _ _ => PRd.length)
            have hm2 : (off + n) * e.sz ≤ xs.length * e.sz := Nat.mul_le_mul_right _ h2
            rw [Nat.add_mul] at hm2
            have hcat : ∀ {N : Nat → Prop}, Cat (PRd w N e) (List.replicate n (qja e)) (Builtin.zeroCells z.cells n).toList := by
              intro N
              rw [qch]
              exact qel (by rw [hz2]; exact qyd) _
            have hcl := (hcat (N := fun _ => False)).length (n := e.sz) (fun _ _ => PRd.length)
            rw [List.length_replicate] at hcl
            obtain ⟨_, _, _, _, _, _, q5b, _⟩ := id q5
            have hst := run_storeCells_cells (P := P) p.blk (p.ob + off * e.sz) (Builtin.zeroCells z.cells n).toList 0 w (fun j hj => q5.is (by omega)) (fun j hj => q5.free (by omega)) ((hcat (N := fun _ => False)).one (fun _ _ => PRd.one))
            obtain ⟨s1, s2, s3, s4, s5⟩ := qUa p.blk (Builtin.zeroCells z.cells n).toList (p.ob + off * e.sz + 0) w
            refine ⟨_, _, qMn hdT hz1 (fun _ => ⟨_, rfl, hst⟩) (fun h => absurd h hn0), K, ?_, [], rfl, rfl⟩
            refine Stp.write A.inv nl l _ _ _ p hlk q1 (.inl rfl) ⟨s1, s2, s3, s4, s5⟩ (fun N' K' hN hk => ⟨?_, put cs (off * e.sz) (Builtin.zeroCells z.cells n).toList, ?_, ?_⟩)
            · rw [qKh (by simp; omega)]
            · exact q5.write (by omega)
            · refine qHl (fun _ _ => PRd.length) (q6.imp (fun _ _ q => q.keep (hk.n _))) ?_ (by simp; omega)
              exact (hcat (N := fun _ => False)).imp (fun _ _ q => q.keep ⟨fun b hb => hb.elim⟩)
      · cases h
    · cases h
  · cases h
theorem qMt (A : At c P GT H lk K w ev ρ nl) {T T2 ty : TypeId} {s x : AV} {u v : Value} (hs : VRd w (NN c H K w) K s u) (hx : VRd w (NN c H K w) K x v) {out : Out} (h : qCc P lk nl .append [T, T2] [s, x] = some out) (hc : qVe out.conds) :
    ∃ r w', (Builtin.append_ #[T, T2] ty #[u, v]).run P w = .ok r w' ∧ Lands c H K w nl out r w' := by
  simp only [qCc] at h
  split at h
  · rename_i e he
    have hT : qGc P tyD T = some (.slice e) := by
      unfold qpi at he
      split at he
      · rename_i e' h'; simp only [Option.some.injEq] at he; subst he; exact h'
      · cases he
    obtain ⟨m0, E, _, hdT, hE⟩ := qHb hT
    split at h
    · rename_i hok
      unfold qIz at hok
      rw [hdT] at hok
      simp only [Bool.and_eq_true, decide_eq_true_eq] at hok
      obtain ⟨⟨hz, hb0⟩, hs0⟩ := hok
      obtain ⟨z, hz1, hz2, i, hi1, hi2⟩ := qSc (P := P) (w := w) hz
      obtain ⟨_, _, i', _, _, _, _, hi3, hi4⟩ := qYb hE
      rw [hi1] at hi3; injection hi3 with hi3; subst hi3
      have hby : P.bytesOf E = i.bytes := by simp [Program.bytesOf, hi1]
      have hzs : z.cells.size = e.sz := by
        have := (qyd (w := w) (N := fun _ => True) (t := e)).length
        rw [← hz2] at this; simpa using this
      have heb : qBc P T = i.bytes := by unfold qBc; rw [hdT]; exact hby
      rw [heb] at h
      split at h
      · rename_i k hd2
        split at h
        · rename_i n hn
          split at h
          · rename_i o ho
            simp only [Option.some.injEq] at h; subst h
            obtain ⟨c1, c2, c3, c4⟩ := hc
            have hxx : ∃ k', x = .int k' n := by
              cases x <;> simp [qtk] at hn
              subst hn; exact ⟨_, rfl⟩
            obtain ⟨k', rfl⟩ := hxx
            simp only [VRd] at hx; subst hx
            obtain ⟨r, w', h1, h2⟩ := qCf (ty := ty) A hdT hi1 hi2 hi4 hzs (by omega) hs (Src.zeros k k' n hd2 rfl c1 c3 (by rw [hby]; exact c2) rfl rfl) (ys := List.replicate n.toNat (qja e)) (fr := true) (qel (by rw [hz2]; exact qyd) _) (by simp) ho c4
            exact ⟨r, w', h1, h2⟩
          · cases h
        · cases h
      · rename_i e2 hd2
        split at h
        · cases h
        · split at h
          · rename_i o' hfa
            simp only [Option.some.injEq] at h; subst h
            exact qes A hdT hd2 hi1 hi2 hi4 hzs (by omega) hs hx hfa hc
          split at h
          · rename_i o' hfa
            simp only [Option.some.injEq] at h; subst h
            exact qMq A hdT hd2 hi1 hi2 hi4 hzs (by omega) hs hx hfa hc
          split at h
          · rename_i o' hfd
            simp only [Option.some.injEq] at h; subst h
            exact qCp A hdT hd2 hi1 hi2 hi4 hzs (by omega) hs hx hfd hc
          split at h
          · rename_i o' hfd
            simp only [Option.some.injEq] at h; subst h
            exact qNq A hdT hd2 hi1 hi2 hi4 hzs (by omega) hs hx hfd hc
          split at h
          · rename_i fr ys hcon
            obtain ⟨cl, y1, y2, y3⟩ := qju (P := P) A.inv A.sub hcon hx
            have hy1l := y1.length (n := e.sz) (fun _ _ => PRd.length)
            exact qCf (ty := ty) A hdT hi1 hi2 hi4 hzs (by omega) hs (Src.given (.inl ⟨e2, hd2⟩) y2 (fun w' hw => by
              have := y3 ys.length (Nat.le_refl _) w' hw
              rwa [← hy1l, List.take_length] at this)) y1 rfl h hc
          · cases h
      · rename_i hd2
        split at h
        · split at h
          · rename_i fr ys hcon
            obtain ⟨cl, y1, y2, y3⟩ := qju (P := P) A.inv A.sub hcon hx
            have hy1l := y1.length (n := e.sz) (fun _ _ => PRd.length)
            exact qCf (ty := ty) A hdT hi1 hi2 hi4 hzs (by omega) hs (Src.given (.inr hd2) y2 (fun w' hw => by
              have := y3 ys.length (Nat.le_refl _) w' hw
              rwa [← hy1l, List.take_length] at this)) y1 rfl h hc
          · cases h
        · cases h
      · cases h
    · cases h
  · cases h
theorem qAs (A : At c P GT H lk K w ev ρ nl) {o : Oper} {b : Builtin} {args : Array Operand} {ats : Array TypeId} (ho : o.op = .call { callee := .builtin b, args := args, argTypes := ats }) {orc : Option COrc} {out : Out} (h : qfb P GT ev lk nl orc o.type o.op = some out) (hc : qVe out.conds) :
    Does P o ρ w (Lands c H K w nl out) := by
  rw [ho] at h
  simp only [qfb] at h
  split at h
  · rename_i vs hvs
    have hv := qeq A hvs
    obtain ⟨cn, hex⟩ := qHm (w := w) (ρ := ρ) (P := P) ho
    have hl2 : (args.map ρ) = (args.toList.map ρ).toArray := by apply Array.ext'; simp
    have fin : ∀ (m : Sem Value), (builtin b ats o.type cn (args.map ρ)).run P w = (do let v ← m; pure (Next.value v) : Sem Next).run P w → (∃ r w', m.run P w = .ok r w' ∧ Lands c H K w nl out r w') → Does P o ρ w (Lands c H K w nl out) := by
      rintro m h1 ⟨r, w', h2, h3⟩
      refine Does.value (v := r) (w' := w') ?_ h3
      rw [hex, h1]
      simp [h2]
    unfold qCc at h
    split at h
    · rename_i T hats
      have hat : ats = #[T] := by apply Array.ext'; simpa using hats
      subst hat
      obtain ⟨u, hu, hr⟩ := hv.one_inv
      split at h
      · rename_i E hd
        simp only [Ab.one, Option.some.injEq] at h; subst h
        simp only [VRd] at hr; subst hr
        exact fin (Builtin.cap_ #[T] o.type #[.slice none 0 0]) (by rw [hl2, hu]; rfl) ⟨.int .i64 0, w, by simp [Builtin.cap_, run_underlying hd, goInt], Lands.one A.inv rfl⟩
      · cases h
    · rename_i T x hats
      have hat : ats = #[T] := by apply Array.ext'; simpa using hats
      subst hat
      obtain ⟨u, hu, hr⟩ := hv.one_inv
      split at h
      · rename_i v hlen
        simp only [Ab.one, Option.some.injEq] at h; subst h
        obtain ⟨r, h1, h2⟩ := qSw (ty := o.type) A hr hlen
        exact fin (Builtin.len_ #[T] o.type #[u]) (by rw [hl2, hu]; rfl) ⟨r, w, h1, Lands.one A.inv h2⟩
      · cases h
    · rename_i T T2 s x hats
      have hat : ats = #[T, T2] := by apply Array.ext'; simpa using hats
      subst hat
      obtain ⟨u, v, hu, hr1, hr2⟩ := hv.two_inv
      exact fin (Builtin.append_ #[T, T2] o.type #[u, v]) (by rw [hl2, hu]; rfl) (qMt A hr1 hr2 (by simpa only [qCc] using h) hc)
    · rename_i T T2 s x hats
      have hat : ats = #[T, T2] := by apply Array.ext'; simpa using hats
      subst hat
      obtain ⟨u, v, hu, hr1, hr2⟩ := hv.two_inv
      exact fin (Builtin.copy_ #[T, T2] o.type #[u, v]) (by rw [hl2, hu]; rfl) (qoy A hr1 hr2 (by simpa only [qCc] using h))
    · rename_i T l hats
      have hat : ats = #[T] := by apply Array.ext'; simpa using hats
      subst hat
      obtain ⟨u, hu, hr⟩ := hv.one_inv
      split at h
      · rename_i KT E hd
        split at h
        · rename_i k v es hlk
          simp only [Option.some.injEq] at h; subst h
          obtain ⟨sh, pl, k1, rfl⟩ := hr
          obtain ⟨gh, hK, hgs, p, en, clock, hgp, hb, hfk, hfv, hM⟩ := A.inv.objs _ _ (A.sub _ _ hlk)
          rw [k1] at hK
          injection hK with hK; subst hK
          injection hgp with hgp; subst hgp
          simp only at hgs; subst hgs
          have hlt : pl.blk < w.heap.size := (A.inv.own l _ _ pl (A.sub _ _ hlk) k1 (.inl rfl)).1
          refine fin (Builtin.clear_ #[T] o.type #[.map (some pl.blk)]) (by rw [hl2, hu]; rfl) ⟨.tuple #[], { w with heap := w.heap.setIfInBounds pl.blk (.map #[] clock) }, ?_, K, ?_, ?_⟩
          · have hg : (getObj pl.blk).run P w = .ok (.map en clock) w := by simp [getObj, Sem.run, hb]
            have hs : ∀ ob, (setObj pl.blk ob).run P w = .ok () { w with heap := w.heap.setIfInBounds pl.blk ob } := fun ob => by simp [setObj, Sem.run, hb]
            simp [Builtin.clear_, run_underlying hd, hg, hs]
          · exact Stp.write (w' := { w with heap := w.heap.setIfInBounds pl.blk (.map #[] clock) }) A.inv nl l _ (.map k v []) ⟨.map k v, some pl⟩ pl (A.sub _ _ hlk) k1 (.inl rfl)
              ⟨rfl, rfl, rfl, by simp, fun q hq => by simp [Array.getElem?_setIfInBounds, Ne.symm hq]⟩
              (fun N' K' _ hkk => ⟨rfl, pl, #[], clock, rfl, by simp [hlt], hfk, hfv, rfl⟩)
          · exact ⟨[], rfl, rfl⟩
        · cases h
      · cases h
    · rename_i T e l off n wh hats
      have hat : ats = #[T] := by apply Array.ext'; simpa using hats
      subst hat
      obtain ⟨u, hu, hr⟩ := hv.one_inv
      exact fin (Builtin.clear_ #[T] o.type #[u]) (by rw [hl2, hu]; rfl) (qgw A hr (by simpa only [qCc] using h))
    · rename_i l hat
      obtain ⟨u, hu, hr⟩ := hv.one_inv
      split at h
      · rename_i e fr cap xs hlk
        simp only [Option.some.injEq] at h; subst h
        obtain ⟨sh, pl, k1, rfl⟩ := hr
        obtain ⟨gh, hK, hgs, p, buf, s, r, hgp, hb, hC⟩ := A.inv.objs _ _ (A.sub _ _ hlk)
        rw [k1] at hK
        injection hK with hK; subst hK
        injection hgp with hgp; subst hgp
        simp only at hgs; subst hgs
        have hlt : pl.blk < w.heap.size := (A.inv.own l _ _ pl (A.sub _ _ hlk) k1 (.inl rfl)).1
        refine fin (Builtin.close_ ats o.type #[.chan (some pl.blk)]) (by rw [hl2, hu]; rfl) ⟨.tuple #[], { w with heap := w.heap.setIfInBounds pl.blk (.chan cap buf true s r false) }, ?_, ?_⟩
        · have hg : (getObj pl.blk).run P w = .ok (.chan cap buf false s r false) w := by simp [getObj, Sem.run, hb]
          have hs : ∀ ob, (setObj pl.blk ob).run P w = .ok () { w with heap := w.heap.setIfInBounds pl.blk ob } := fun ob => by simp [setObj, Sem.run, hb]
          delta Builtin.close_
          refine (Sem.run_bind ..).trans ?_
          rw [hg]
          refine (Sem.run_bind ..).trans ?_
          rw [hs]
          rfl
        · have S := Stp.write (w' := { w with heap := w.heap.setIfInBounds pl.blk (.chan cap buf true s r false) }) A.inv nl l _ (.chan e fr cap xs true) ⟨.chan e cap, some pl⟩ pl (A.sub _ _ hlk) k1 (.inl rfl)
              ⟨rfl, rfl, rfl, by simp, fun q hq => by simp [Array.getElem?_setIfInBounds, Ne.symm hq]⟩
              (fun N' K' hk hkk => ⟨rfl, pl, buf, s, r, rfl, by simp [hlt], hC.keep (hkk.n fr)⟩)
          exact ⟨K, S, ⟨[], rfl, rfl⟩⟩
      · cases h
    · rename_i _ k a k' b'
      obtain ⟨u, v, hu, hr1, hr2⟩ := hv.two_inv
      split at h
      · rename_i hk
        subst hk
        simp only [Ab.one, Option.some.injEq] at h; subst h
        simp only [VRd] at hr1 hr2; subst hr1; subst hr2
        exact fin (Builtin.min_ ats o.type #[.int k a, .int k b']) (by rw [hl2, hu]; rfl) ⟨_, w, by simp [Builtin.min_, Builtin.min2], Lands.one A.inv rfl⟩
      · cases h
    · rename_i _ k a k' b'
      obtain ⟨u, v, hu, hr1, hr2⟩ := hv.two_inv
      split at h
      · rename_i hk
        subst hk
        simp only [Ab.one, Option.some.injEq] at h; subst h
        simp only [VRd] at hr1 hr2; subst hr1; subst hr2
        exact fin (Builtin.max_ ats o.type #[.int k a, .int k b']) (by rw [hl2, hu]; rfl) ⟨_, w, by simp [Builtin.max_, Builtin.max2], Lands.one A.inv rfl⟩
      · cases h
    · cases h
  · cases h
end
end Go.Ab

/-
  Calls: what is handed over, what comes back.
-/
set_option linter.unusedVariables false
set_option linter.unusedSimpArgs false
namespace Go.Ab
open Go
theorem qrk {w : World} {N : Bool → Nat → Prop} {f : Nat → Nat} {K K' : Kn} : ∀ {t : Ty} {x : qfd t} {cs : List Value}, (∀ k ∈ qZm t x, K' k = K (f k)) → (ARd w N K t (qTz f t x) cs ↔ ARd w N K' t x cs)
  | .int _, _, _, _ => Iff.rfl
  | .bool, _, _, _ => Iff.rfl
  | .str, _, _, _ => Iff.rfl
  | .arr _ _, _, _, _ => Iff.rfl
  | .pair a b, x, cs, h => by
    simp only [qZm, List.mem_append] at h
    simp only [qTz, ARd]
    constructor
    · rintro ⟨c1, c2, e, h1, h2⟩
      exact ⟨c1, c2, e, (qrk (fun k hk => h k (.inl hk))).1 h1, (qrk (fun k hk => h k (.inr hk))).1 h2⟩
    · rintro ⟨c1, c2, e, h1, h2⟩
      exact ⟨c1, c2, e, (qrk (fun k hk => h k (.inl hk))).2 h1, (qrk (fun k hk => h k (.inr hk))).2 h2⟩
  | .unit, _, _, _ => Iff.rfl
  | .slice e, x, cs, h => by
    cases x with
    | pure fr xs => exact Iff.rfl
    | nil => exact Iff.rfl
    | junk => exact Iff.rfl
    | lng n => exact Iff.rfl
    | ref l off len wh =>
      have := h l (by simp [qZm])
      simp only [qTz, qDB, ARd, RefRd, this]
  | .fn, _, _, _ => Iff.rfl
theorem qXp {f : Nat → Nat} {K K' : Kn} : ∀ {ls : List Nat} {vs : List Value}, (∀ k ∈ ls, K' k = K (f k)) → (capsRd K (ls.map f) vs ↔ capsRd K' ls vs)
  | [], _, _ => Iff.rfl
  | l :: ls, vs, h => by
    have h1 := h l (by simp)
    have h2 : ∀ vs, capsRd K (ls.map f) vs ↔ capsRd K' ls vs := fun vs => qXp (fun k hk => h k (by simp [hk]))
    simp only [List.map_cons, capsRd, h1, h2]
theorem qQn {w : World} {N : Bool → Nat → Prop} {f : Nat → Nat} {K K' : Kn} {a : AV} {v : Value} (h : ∀ k ∈ qBf a, K' k = K (f k)) : VRd w N K (qWp f a) v ↔ VRd w N K' a v := by
  cases a with
  | agg t x =>
    simp only [qWp, VRd]
    constructor
    · rintro ⟨cs, e, h1, h2⟩; exact ⟨cs, e, h1, (qrk h).1 h2⟩
    · rintro ⟨cs, e, h1, h2⟩; exact ⟨cs, e, h1, (qrk h).2 h2⟩
  | ref e l off len wh =>
    have := h l (by simp [qBf])
    simp only [qWp, VRd, RefRd, this]
  | bref e l p n off len =>
    have := h l (by simp [qBf])
    simp only [qWp, VRd, this]
  | ptr t l p =>
    have := h l (by simp [qBf])
    simp only [qWp, VRd, this]
  | ifp T t l p =>
    have := h l (by simp [qBf])
    simp only [qWp, VRd, this]
  | cslice e l n =>
    have := h l (by simp [qBf])
    simp only [qWp, VRd, this]
  | cptr l =>
    have := h l (by simp [qBf])
    simp only [qWp, VRd, this]
  | func g caps =>
    have h2 : ∀ vs, capsRd K (caps.map f) vs ↔ capsRd K' caps vs := fun vs => qXp h
    simp only [qWp, VRd, h2]
  | mapr l =>
    have := h l (by simp [qBf])
    simp only [qWp, VRd, this]
  | chan l =>
    have := h l (by simp [qBf])
    simp only [qWp, VRd, this]
  | _ => exact Iff.rfl
theorem qXw {w : World} {N : Bool → Nat → Prop} {f : Nat → Nat} {K K' : Kn} : ∀ {as : List AV} {vs : List Value}, (∀ k ∈ as.flatMap qBf, K' k = K (f k)) → (VRdL w N K (as.map (qWp f)) vs ↔ VRdL w N K' as vs)
  | [], _, _ => Iff.rfl
  | a :: as, vs, h => by
    simp only [List.flatMap_cons, List.mem_append] at h
    have h1 : ∀ v, VRd w N K (qWp f a) v ↔ VRd w N K' a v := fun v => qQn (fun k hk => h k (.inl hk))
    have h2 : ∀ vs, VRdL w N K (as.map (qWp f)) vs ↔ VRdL w N K' as vs := fun vs => qXw (fun k hk => h k (.inr hk))
    simp only [List.map_cons, VRdL, h1, h2]
theorem qft {w : World} {N : Bool → Nat → Prop} {f : Nat → Nat} {K K' : Kn} {a : TV} {v : Value} (h : ∀ k ∈ qWh a, K' k = K (f k)) : TVRd w N K (quB f a) v ↔ TVRd w N K' a v := by
  cases a with
  | one a => exact qQn h
  | tup as =>
    simp only [quB, TVRd]
    have h2 : ∀ vs, VRdL w N K (as.map (qWp f)) vs ↔ VRdL w N K' as vs := fun vs => qXw h
    simp only [h2]
theorem qgt {w : World} {N : Bool → Nat → Prop} {f : Nat → Nat} {K K' : Kn} {o : Obj} {gh : Gh} (h : ∀ k ∈ qwk o, K' k = K (f k)) : ORd w N K (qEv f o) gh ↔ ORd w N K' o gh := by
  cases o with
  | box t x =>
    have : ∀ cs, ARd w N K t (qTz f t x) cs ↔ ARd w N K' t x cs := fun cs => qrk h
    simp only [qEv, ORd, this]
  | cell v =>
    have : ∀ c, VRd w N K (qWp f v) c ↔ VRd w N K' v c := fun c => qQn h
    simp only [qEv, ORd, this]
  | row e fr xs => exact Iff.rfl
  | map k v es => exact Iff.rfl
  | chan e fr cap xs cl => exact Iff.rfl
  | fam e xss => exact Iff.rfl
  | famS a e xs => exact Iff.rfl
theorem qRu {w : World} {N : Bool → Nat → Prop} {K : Kn} : ∀ {t : Ty} {x : qfd t} {cs : List Value}, frA t x = true → ARd w N K t x cs → ARd w (fun _ => N true) K t x cs
  | .int _, _, _, _, h => h
  | .bool, _, _, _, h => h
  | .str, _, _, _, h => h
  | .arr n e, _, _, hf, h => ⟨h.1, h.2.imp (fun _ _ q => PRd.flat hf q)⟩
  | .pair a b, _, _, hf, h => by
    simp only [frA, Bool.and_eq_true] at hf
    obtain ⟨c1, c2, e, h1, h2⟩ := h
    exact ⟨c1, c2, e, qRu hf.1 h1, qRu hf.2 h2⟩
  | .unit, _, _, _, h => h
  | .slice _, x, _, hf, h => by
    cases x with
    | pure fr xs => simp only [frA] at hf; subst hf; exact h
    | ref l off len wh => exact h
    | nil => exact h
    | junk => exact h
    | lng n => exact h
  | .fn, _, _, _, h => h
theorem qUx {w : World} {N : Bool → Nat → Prop} {K : Kn} {a : AV} {v : Value} (hf : frV a = true) (h : VRd w N K a v) : VRd w (fun _ => N true) K a v := by
  cases a with
  | agg t x =>
    obtain ⟨cs, e, h1, h2⟩ := h
    exact ⟨cs, e, h1, qRu hf h2⟩
  | sl e fr xs => simp only [frV] at hf; subst hf; exact h
  | rptr t fr x => simp only [frV] at hf; subst hf; exact h
  | sln e fr xs => simp only [frV] at hf; subst hf; exact h
  | _ => exact h
theorem qkA {w : World} {N : Bool → Nat → Prop} {K : Kn} : ∀ {as : List AV} {vs : List Value}, as.all frV = true → VRdL w N K as vs → VRdL w (fun _ => N true) K as vs
  | [], _, _, h => h
  | a :: as, vs, hf, h => by
    simp only [List.all_cons, Bool.and_eq_true] at hf
    obtain ⟨v, r, e, h1, h2⟩ := h
    exact ⟨v, r, e, qUx hf.1 h1, qkA hf.2 h2⟩
theorem qXB {w : World} {N : Bool → Nat → Prop} {K : Kn} {a : TV} {v : Value} (hf : frT a = true) (h : TVRd w N K a v) : TVRd w (fun _ => N true) K a v := by
  cases a with
  | one a => exact qUx hf h
  | tup as =>
    obtain ⟨vs, e, h⟩ := h
    exact ⟨vs, e, qkA hf h⟩
theorem qYB {w : World} {N : Bool → Nat → Prop} {K : Kn} {o : Obj} {gh : Gh} (hf : frO o = true) (h : ORd w N K o gh) : ORd w (fun _ => N true) K o gh := by
  cases o with
  | box t x =>
    obtain ⟨h1, p, cs, h2, h3, h4⟩ := h
    exact ⟨h1, p, cs, h2, h3, qRu hf h4⟩
  | cell v =>
    obtain ⟨h1, p, cs, h2, h3, h4⟩ := h
    exact ⟨h1, p, cs, h2, h3, qUx hf h4⟩
  | row e fr xs =>
    simp only [frO, Bool.or_eq_true] at hf
    refine ⟨h.1, ?_⟩
    have h2 := h.2
    revert h2
    cases gh.pl with
    | none => exact id
    | some p =>
      rintro ⟨cs, h1, h2⟩
      refine ⟨cs, h1, ?_⟩
      rcases hf with rfl | hf
      · exact h2
      · exact h2.imp (fun _ _ q => PRd.flat hf q)
  | map k v es => exact h
  | chan e fr cap xs cl =>
    simp only [frO, Bool.or_eq_true] at hf
    obtain ⟨h1, p, buf, s, r, h2, h3, h4⟩ := h
    refine ⟨h1, p, buf, s, r, h2, h3, ?_⟩
    rcases hf with rfl | hf
    · exact h4
    · exact h4.imp (fun _ _ q => PRd.flat hf q)
  | fam e xss => exact h
  | famS a e xs => exact h
section
variable {L : Nat → Prop} {P : Program} {GT : qvf} {nt : Nat} {c : Cx} {H lk : qzb} {K K' : Kn} {w : World} {ren : List (Nat × Nat)} {lo : Bool} {N' : Bool → Nat → Prop}
theorem qko : ∀ {ren : List (Nat × Nat)} {l n : Nat}, qLd ren l = some n → (n, l) ∈ ren
  | [], _, _, h => by cases h
  | (a, b) :: r, l, n, h => by
    simp only [qLd] at h
    split at h
    · rename_i e; subst e; simp only [Option.some.injEq] at h; subst h; exact List.mem_cons_self
    · exact List.mem_cons_of_mem _ (qko h)
theorem qBj : ∀ {ren : List (Nat × Nat)} {l : Nat}, qLd ren l = none → ∀ n, (n, l) ∉ ren
  | [], _, _, _ => by simp
  | (a, b) :: r, l, h, n => by
    simp only [qLd] at h
    split at h
    · cases h
    · rename_i e
      intro hm
      rcases List.mem_cons.1 hm with e' | hm
      · injection e' with _ e2; exact e e2.symm
      · exact qBj h n hm
structure KeepX (c : Cx) (H : qzb) (K K' : Kn) (w : World) (ren : List (Nat × Nat)) (lo : Bool) (L : Nat → Prop) (N' : Bool → Nat → Prop) : Prop where
  n : ∀ fr b, NN c H K w fr b → N' (fr && !lo) b
  k : ∀ l n, qLd ren l = some n → K' n = K l
  gone : ∀ l o gh p, L l → qLd ren l = none → H l = some o → K l = some gh → Has gh p → ∀ fr, N' (fr && !lo) p.blk
theorem KeepX.row (X : KeepX c H K K' w ren lo L N') (A : Inv c H K w) (hsub : ∀ l o, lk l = some o → H l = some o) {e : Ty} {l off len : Nat} {wh fr : Bool} {xs : List (qFa e)} {v : Value} (hL : L l) (hn : qLd ren l = none) (habs : qgn lk e l = some (fr, xs)) (hr : RefRd K e l off len wh v) :
    PRd w (N' ((fr || e.flat) && !lo)) (.slice e) (seg xs off len wh) [v] := by
  rcases qKk habs with hrow | ⟨o, hfam, rfl, hx⟩
  rotate_left
  · rw [Bool.true_or]
    exact (hx A (hsub _ _ hfam) hr (fun gh p g1 g2 => X.gone l _ gh p hL hn (hsub _ _ hfam) g1 g2 true)).1
  have hl := hsub _ _ (qyb hrow)
  obtain ⟨h1, h2, h3, h4⟩ := qKi A hl hr
  rcases h4 with ⟨rfl, h5, rfl, h6⟩ | ⟨p, cl, o, cap, k1, rfl, h5, h6, h7, h8⟩
  · subst h6
    have : seg ([] : List (qFa e)) off 0 wh = [] := List.eq_nil_of_length_eq_zero h1
    rw [this]
    exact ⟨none, 0, rfl, Nat.le_refl _, .inl rfl⟩
  · refine ⟨_, cap, by rw [h1], by omega, ?_⟩
    by_cases h0 : len = 0
    · exact .inl (List.eq_nil_of_length_eq_zero (by rw [h1, h0]))
    · right
      have h6' := h6.resolve_left (by omega)
      refine ⟨p.blk, o, _, rfl, X.gone l _ _ p hL hn hl k1 (.inl rfl) _, ?_, (qOh (fun _ _ => PRd.length) h8 h3).imp (fun _ _ hp => ?_)⟩
      · rw [h6'.1]
        exact h7.cells.cut _ _
      · have h9 : PRd w (N' (fr && !lo)) e _ _ := hp.keep ⟨fun b hb => ⟨X.n _ b hb, rfl⟩⟩
        by_cases hf : e.flat = true
        · exact PRd.flat hf h9
        · simp only [Bool.not_eq_true] at hf; rw [hf, Bool.or_false]; exact h9
theorem KeepX.bref (X : KeepX c H K K' w ren lo L N') (A : Inv c H K w) (hsub : ∀ l o, lk l = some o → H l = some o) {e : Ty} {l : Nat} {p : List PS} {n off len : Nat} {fr : Bool} {xs : List (qFa e)} {v : Value} (hL : L l) (hn : qLd ren l = none) (hc : qrd lk e (.bref e l p n off len) = some (fr, xs)) (hr : VRd w (NN c H K w) K (.bref e l p n off len) v) :
    PRd w (N' (fr && !lo)) (.slice e) xs [v] := by
  obtain ⟨A0, cap, rfl, hl, hb⟩ := qim A hsub hc (fun _ => by simp) hr
  have hob : ∃ obj, lk l = some obj := by
    simp only [qrd, if_true] at hc
    split at hc
    · exact ⟨_, by assumption⟩
    · cases hc
  obtain ⟨obj, hobj⟩ := hob
  obtain ⟨sh, pl, po, k1, k2, k3, o, cap', k4, k5, k6⟩ := hr
  injection k4 with k4 k4' k4''
  subst k4
  refine ⟨_, cap, rfl, hl, hb.imp id ?_⟩
  rintro ⟨b, o', cl, e1, h2, h3, h4⟩
  injection e1 with e1
  injection e1 with e1 e2
  subst e1
  refine ⟨_, o', cl, by rw [e2], X.gone l obj _ pl hL hn (hsub _ _ hobj) k1 k2.has _, h2, h3.imp (fun _ _ q => q.keep ⟨fun b hb => ⟨X.n _ b hb, rfl⟩⟩)⟩
theorem RefRd.renamed {e : Ty} {l n off len : Nat} {wh : Bool} {v : Value} (h : K' n = K l) (hr : RefRd K e l off len wh v) : RefRd K' e n off len wh v := by
  obtain ⟨m, pl, ⟨ps, h1⟩, h2⟩ := hr
  exact ⟨m, pl, ⟨ps, h.trans h1⟩, h2⟩
theorem qon (X : KeepX c H K K' w ren lo L N') (A : Inv c H K w) (hsub : ∀ l o, lk l = some o → H l = some o) : ∀ {t : Ty} {x y : qfd t} {cs : List Value}, (∀ l ∈ qZm t x, L l) → qUc lk ren lo t x = some y → ARd w (NN c H K w) K t x cs → ARd w N' K' t y cs
  | .int _, x, y, cs, hL, h, hr => by simp only [qUc, Option.some.injEq] at h; subst h; exact hr
  | .bool, x, y, cs, hL, h, hr => by simp only [qUc, Option.some.injEq] at h; subst h; exact hr
  | .str, x, y, cs, hL, h, hr => by simp only [qUc, Option.some.injEq] at h; subst h; exact hr
  | .arr n e, x, y, cs, hL, h, hr => by
    simp only [qUc, Option.some.injEq] at h; subst h
    exact ⟨hr.1, hr.2.imp (fun _ _ q => q.keep ⟨fun b hb => ⟨X.n _ b hb, rfl⟩⟩)⟩
  | .pair a b, x, y, cs, hL, h, hr => by
    simp only [qUc] at h
    split at h
    · rename_i u v e1 e2
      simp only [Option.some.injEq] at h; subst h
      obtain ⟨c1, c2, e, h1, h2⟩ := hr
      simp only [qZm, List.mem_append] at hL
      exact ⟨c1, c2, e, qon X A hsub (fun l hl => hL l (.inl hl)) e1 h1, qon X A hsub (fun l hl => hL l (.inr hl)) e2 h2⟩
    · cases h
  | .unit, x, y, cs, hL, h, hr => hr
  | .slice e, x, y, cs, hL, h, hr => by
    cases x with
    | pure fr xs =>
      simp only [qUc, Option.some.injEq] at h; subst h
      exact PRd.keep (t := .slice e) ⟨fun b hb => ⟨X.n _ b hb, rfl⟩⟩ hr
    | nil => simp only [qUc, Option.some.injEq] at h; subst h; exact hr
    | junk => simp only [qUc, Option.some.injEq] at h; subst h; exact hr
    | lng n => simp only [qUc, Option.some.injEq] at h; subst h; exact hr
    | ref l off len wh =>
      obtain ⟨v, rfl, hr⟩ := hr
      simp only [qUc] at h
      split at h
      · rename_i n hn
        split at h
        · rename_i hw
          split at h
          · rename_i fr xs hrow
            simp only [Option.some.injEq] at h; subst h
            obtain ⟨e1, e2⟩ := qKy A hsub hrow hr hw
            subst hw; subst e1; subst e2
            exact ⟨v, rfl, hr.renamed (X.k l n hn)⟩
          · cases h
        · simp only [Option.some.injEq] at h; subst h
          exact ⟨v, rfl, hr.renamed (X.k l n hn)⟩
      · rename_i hn
        split at h
        · rename_i fr xs hrow
          simp only [Option.some.injEq] at h; subst h
          exact X.row A hsub (hL l (by simp [qZm])) hn hrow hr
        · cases h
  | .fn, x, y, cs, hL, h, hr => by simp only [qUc, Option.some.injEq] at h; subst h; exact hr
theorem qTr (X : KeepX c H K K' w ren lo L N') : ∀ {ls ns : List Nat} {vs : List Value}, qlo ren ls = some ns → capsRd K ls vs → capsRd K' ns vs
  | [], ns, vs, h, hr => by simp only [qlo, Option.some.injEq] at h; subst h; exact hr
  | l :: ls, ns, vs, h, hr => by
    simp only [qlo] at h
    split at h
    · rename_i n ns' e1 e2
      simp only [Option.some.injEq] at h; subst h
      obtain ⟨gh, p, r, h1, h2, h3, h4⟩ := hr
      exact ⟨gh, p, r, (X.k l n e1).trans h1, h2, h3, qTr X e2 h4⟩
    · cases h
theorem qPq (X : KeepX c H K K' w ren lo L N') (A : Inv c H K w) (hsub : ∀ l o, lk l = some o → H l = some o) {v v' : AV} {u : Value} (hL : ∀ l ∈ qBf v, L l) (h : qbe lk ren lo v = some v') (hr : VRd w (NN c H K w) K v u) : VRd w N' K' v' u := by
  have kp : ∀ fr, Keep w w (NN c H K w fr) (N' (fr && !lo)) := fun fr => ⟨fun b hb => ⟨X.n fr b hb, rfl⟩⟩
  cases v with
  | agg t x =>
    simp only [qbe] at h
    split at h
    · rename_i y hy
      simp only [Option.some.injEq] at h; subst h
      obtain ⟨cs, e, h1, h2⟩ := hr
      exact ⟨cs, e, h1, qon X A hsub hL hy h2⟩
    · cases h
  | sl e fr xs =>
    simp only [qbe, Option.some.injEq] at h; subst h
    exact PRd.keep (t := .slice e) (kp fr) hr
  | ref e l off len wh =>
    simp only [qbe] at h
    split at h
    · rename_i n hn
      split at h
      · rename_i hw
        split at h
        · rename_i fr xs hrow
          simp only [Option.some.injEq] at h; subst h
          obtain ⟨e1, e2⟩ := qKy A hsub hrow hr hw
          subst hw; subst e1; subst e2
          exact RefRd.renamed (X.k l n hn) hr
        · cases h
      · simp only [Option.some.injEq] at h; subst h
        exact RefRd.renamed (X.k l n hn) hr
    · rename_i hn
      split at h
      · rename_i fr xs hrow
        simp only [Option.some.injEq] at h; subst h
        exact X.row A hsub (hL l (by simp [qBf])) hn hrow hr
      · cases h
  | bref e l p n off len =>
    simp only [qbe] at h
    split at h
    · rename_i l' hn
      simp only [Option.some.injEq] at h; subst h
      obtain ⟨sh, pl, po, h1, h2⟩ := hr
      exact ⟨sh, pl, po, (X.k l l' hn).trans h1, h2⟩
    · rename_i hn
      split at h
      · rename_i fr xs hcn
        simp only [Option.some.injEq] at h; subst h
        exact X.bref A hsub (hL l (by simp [qBf])) hn hcn hr
      · cases h
  | ptr t l p =>
    simp only [qbe] at h
    split at h
    · rename_i l' hn
      simp only [Option.some.injEq] at h; subst h
      obtain ⟨sh, pl, po, h1, h2⟩ := hr
      exact ⟨sh, pl, po, (X.k l l' hn).trans h1, h2⟩
    · cases h
  | ifp T t l p =>
    simp only [qbe] at h
    split at h
    · rename_i l' hn
      simp only [Option.some.injEq] at h; subst h
      obtain ⟨sh, pl, po, h1, h2⟩ := hr
      exact ⟨sh, pl, po, (X.k l l' hn).trans h1, h2⟩
    · cases h
  | cslice e l n =>
    simp only [qbe] at h
    split at h
    · rename_i l' hn
      simp only [Option.some.injEq] at h; subst h
      obtain ⟨pl, h1, h2⟩ := hr
      exact ⟨pl, (X.k l l' hn).trans h1, h2⟩
    · cases h
  | cptr l =>
    simp only [qbe] at h
    split at h
    · rename_i l' hn
      simp only [Option.some.injEq] at h; subst h
      obtain ⟨sh, pl, h1, h2⟩ := hr
      exact ⟨sh, pl, (X.k l l' hn).trans h1, h2⟩
    · cases h
  | mapr l =>
    simp only [qbe] at h
    split at h
    · rename_i l' hn
      simp only [Option.some.injEq] at h; subst h
      obtain ⟨sh, pl, h1, h2⟩ := hr
      exact ⟨sh, pl, (X.k l l' hn).trans h1, h2⟩
    · cases h
  | chan l =>
    simp only [qbe] at h
    split at h
    · rename_i l' hn
      simp only [Option.some.injEq] at h; subst h
      obtain ⟨sh, pl, h1, h2⟩ := hr
      exact ⟨sh, pl, (X.k l l' hn).trans h1, h2⟩
    · cases h
  | func f caps =>
    simp only [qbe] at h
    split at h
    · rename_i ns hn
      simp only [Option.some.injEq] at h; subst h
      obtain ⟨vs, h1, h2⟩ := hr
      exact ⟨vs, h1, qTr X hn h2⟩
    · cases h
  | rptr t fr x =>
    simp only [qbe, Option.some.injEq] at h; subst h
    obtain ⟨b, o, cs, e, h1, h2, h3⟩ := hr
    exact ⟨b, o, cs, e, h1.imp id (fun h => ((kp fr).k b h).1), h2, h3.keep (kp fr)⟩
  | sln e fr xs =>
    simp only [qbe, Option.some.injEq] at h; subst h
    exact PRd.keep (t := .slice e) (kp fr) hr.1
  | _ => simp only [qbe, Option.some.injEq] at h; subst h; exact hr
theorem qHo (X : KeepX c H K K' w ren lo L N') (A : Inv c H K w) (hsub : ∀ l o, lk l = some o → H l = some o) : ∀ {vs vs' : List AV} {us : List Value}, (∀ l ∈ vs.flatMap qBf, L l) → qQc lk ren lo vs = some vs' → VRdL w (NN c H K w) K vs us → VRdL w N' K' vs' us
  | [], vs', us, hL, h, hr => by simp only [qQc, Option.some.injEq] at h; subst h; exact hr
  | v :: vs, vs', us, hL, h, hr => by
    simp only [qQc] at h
    split at h
    · rename_i u us' e1 e2
      simp only [Option.some.injEq] at h; subst h
      obtain ⟨x, r, e, h1, h2⟩ := hr
      simp only [List.flatMap_cons, List.mem_append] at hL
      exact ⟨x, r, e, qPq X A hsub (fun l hl => hL l (.inl hl)) e1 h1, qHo X A hsub (fun l hl => hL l (.inr hl)) e2 h2⟩
    · cases h
theorem qIo (X : KeepX c H K K' w ren lo L N') (A : Inv c H K w) (hsub : ∀ l o, lk l = some o → H l = some o) {v v' : TV} {u : Value} (hL : ∀ l ∈ qWh v, L l) (h : qfk lk ren lo v = some v') (hr : TVRd w (NN c H K w) K v u) : TVRd w N' K' v' u := by
  cases v with
  | one v =>
    simp only [qfk] at h
    split at h
    · rename_i x hx
      simp only [Option.some.injEq] at h; subst h
      exact qPq X A hsub hL hx hr
    · cases h
  | tup vs =>
    simp only [qfk] at h
    split at h
    · rename_i x hx
      simp only [Option.some.injEq] at h; subst h
      obtain ⟨us, e, h1⟩ := hr
      exact ⟨us, e, qHo X A hsub hL hx h1⟩
    · cases h
theorem qNu (X : KeepX c H K K' w ren lo L N') (A : Inv c H K w) (hsub : ∀ l o, lk l = some o → H l = some o) {o o' : Obj} {gh : Gh} (hL : ∀ l ∈ qwk o, L l) (h : qgh lk ren lo o = some o') (hr : ORd w (NN c H K w) K o gh) : ORd w N' K' o' gh := by
  cases o with
  | row e fr xs =>
    simp only [qgh, Option.some.injEq] at h; subst h
    refine ⟨hr.1, ?_⟩
    have h2 := hr.2
    revert h2
    cases gh.pl with
    | none => exact id
    | some p =>
      rintro ⟨cs, h1, h2⟩
      exact ⟨cs, h1, h2.imp (fun _ _ q => q.keep ⟨fun b hb => ⟨X.n fr b hb, rfl⟩⟩)⟩
  | box t x =>
    simp only [qgh] at h
    split at h
    · rename_i y hy
      simp only [Option.some.injEq] at h; subst h
      obtain ⟨h1, p, cs, h2, h3, h4⟩ := hr
      exact ⟨h1, p, cs, h2, h3, qon X A hsub hL hy h4⟩
    · cases h
  | cell v =>
    simp only [qgh] at h
    split at h
    · rename_i y hy
      simp only [Option.some.injEq] at h; subst h
      obtain ⟨h1, p, cs, h2, h3, h4⟩ := hr
      exact ⟨h1, p, cs, h2, h3, qPq X A hsub hL hy h4⟩
    · cases h
  | map k v es =>
    simp only [qgh, Option.some.injEq] at h; subst h
    exact hr
  | chan e fr cap xs cl =>
    simp only [qgh, Option.some.injEq] at h; subst h
    obtain ⟨h1, p, buf, s, r, h2, h3, h4⟩ := hr
    exact ⟨h1, p, buf, s, r, h2, h3, h4.imp (fun _ _ q => q.keep ⟨fun b hb => ⟨X.n fr b hb, rfl⟩⟩)⟩
  | fam e xss =>
    simp only [qgh, Option.some.injEq] at h; subst h
    exact hr
  | famS a e xs =>
    simp only [qgh, Option.some.injEq] at h; subst h
    exact hr
theorem qyk : ∀ {qs : List (Nat × Nat)} {l : List (Nat × Option Obj)} {n : Nat} {x : Option Obj}, qec lk ren lo qs = some l → lookL l n = some x → ∃ m o o', (n, m) ∈ qs ∧ lk m = some o ∧ qgh lk ren lo o = some o' ∧ x = some o'
  | [], l, t, v, h, hl => by simp only [qec, Option.some.injEq] at h; subst h; cases hl
  | a :: r, l, n, x, h, hl => by
    simp only [qec] at h
    split at h
    · rename_i o os e1 e2
      split at h
      · rename_i o' e3
        simp only [Option.some.injEq] at h; subst h
        simp only [lookL] at hl
        split at hl
        · rename_i e; subst e; simp only [Option.some.injEq] at hl; subst hl
          exact ⟨a.2, o, o', List.mem_cons_self, e1, e3, rfl⟩
        · obtain ⟨m, o2, o3, g1, g2⟩ := qyk e2 hl
          exact ⟨m, o2, o3, List.mem_cons_of_mem _ g1, g2⟩
      · cases h
    · cases h
end
theorem qIu {P : Program} {w : World} {N : Bool → Nat → Prop} {K : Kn} : ∀ {ts : List TypeId} {as : List AV} {us : List Value}, VRdL w N K as us → VRdL w N K (qjo P ts as) us
  | [], as, us, h => by simpa only [qjo] using h
  | _ :: _, [], us, h => h
  | T :: ts, v :: r, us, h => by
    obtain ⟨u, q, e, h1, h2⟩ := h
    refine ⟨u, q, e, ?_, qIu h2⟩
    split
    · simp only [VRd] at h1
      split
      · exact ⟨none, 0, by rw [h1]; rfl, Nat.le_refl _, .inl rfl⟩
      · exact h1
    · exact h1
end Go.Ab

/-
  Calls: the caller's state behind the call.
-/
set_option linter.unusedVariables false
set_option linter.unusedSimpArgs false
namespace Go.Ab
open Go
theorem qEb {α : Type} : ∀ {xs : List (Nat × α)} {k : Nat} {v : α}, lookL xs k = some v → (k, v) ∈ xs
  | [], _, _, h => by cases h
  | (a, b) :: xs, k, v, h => by
    simp only [lookL] at h
    split at h
    · rename_i e; subst e; simp only [Option.some.injEq] at h; subst h; exact List.mem_cons_self
    · exact List.mem_cons_of_mem _ (qEb h)
theorem qfe {α : Type} : ∀ {xs : List (Nat × α)} {k : Nat}, k ∈ xs.map (·.1) → ∃ v, lookL xs k = some v
  | [], _, h => by simp at h
  | (a, b) :: xs, k, h => by
    simp only [lookL]
    split
    · exact ⟨b, rfl⟩
    · rename_i hne
      simp only [List.map_cons, List.mem_cons] at h
      exact qfe (h.resolve_left (fun e => hne e.symm))
theorem qAc {α : Type} {xs : List (Nat × α)} {k : Nat} {v : α} (h : lookL xs k = some v) : k ∈ xs.map (·.1) := List.mem_map.2 ⟨_, qEb h, rfl⟩
theorem qYl {α : Type} {xs : List (Nat × α)} {k : Nat} (h : k ∉ xs.map (·.1)) : lookL xs k = none := by
  cases e : lookL xs k with
  | none => rfl
  | some v => exact absurd (qAc e) h
theorem qRl {x : Nat} {r : List Nat} (h : qsk (x :: r) = true) : x ∉ r ∧ qsk r = true := by
  simp only [qsk, Bool.and_eq_true, Bool.not_eq_true', List.contains_eq_mem, decide_eq_false_iff_not] at h
  exact h
theorem qPl : ∀ {xs : List (Nat × Nat)} {k k' l : Nat}, qsk (xs.map (·.2)) = true → lookL xs k = some l → lookL xs k' = some l → k = k'
  | [], _, _, _, _, h, _ => by cases h
  | (a, b) :: xs, k, k', l, hn, h, h' => by
    simp only [List.map_cons] at hn
    obtain ⟨h1, h2⟩ := qRl hn
    simp only [lookL] at h h'
    split at h
    · rename_i e
      simp only [Option.some.injEq] at h
      split at h'
      · rename_i e'; exact e.symm.trans e'
      · exact absurd (List.mem_map.2 ⟨_, qEb h', rfl⟩) (h ▸ h1)
    · split at h'
      · simp only [Option.some.injEq] at h'
        exact absurd (List.mem_map.2 ⟨_, qEb h, rfl⟩) (h' ▸ h1)
      · exact qPl h2 h h'
theorem qQl {α : Type} : ∀ {xs : List (Nat × α)} {k : Nat} {v : α}, qsk (xs.map (·.1)) = true → (k, v) ∈ xs → lookL xs k = some v
  | [], _, _, _, h => by cases h
  | (a, b) :: xs, k, v, hn, h => by
    simp only [List.map_cons] at hn
    obtain ⟨h1, h2⟩ := qRl hn
    simp only [lookL]
    rcases List.mem_cons.1 h with e | h
    · injection e with e1 e2; subst e1; subst e2; simp
    · rw [if_neg ?_]
      · exact qQl h2 h
      · rintro rfl
        exact h1 (List.mem_map.2 ⟨_, h, rfl⟩)
theorem qDl {ks ls : List Nat} : qsm ks ls = true ↔ ∀ l ∈ ls, l ∈ ks := by
  simp [qsm, List.contains_eq_mem]
theorem qYr {α β : Type} {f : Nat → Nat} {g : α → β} : ∀ {xs : List (Nat × α)} {k : Nat}, (∀ j ∈ xs.map (·.1), f j = f k → j = k) → lookL (xs.map fun p => (f p.1, g p.2)) (f k) = (lookL xs k).map g
  | [], _, _ => rfl
  | (a, b) :: xs, k, h => by
    simp only [List.map_cons, lookL]
    by_cases e : a = k
    · subst e; simp
    · rw [if_neg (fun e' => e (h a (by simp) e')), if_neg e]
      exact qYr (fun j hj => h j (by simp at hj ⊢; exact .inr hj))
theorem qbk {α β : Type} {f : Nat → Nat} {g : α → β} : ∀ {xs : List (Nat × α)} {l : Nat}, (∀ j ∈ xs.map (·.1), f j ≠ l) → lookL (xs.map fun p => (f p.1, g p.2)) l = none
  | [], _, _ => rfl
  | (a, b) :: xs, l, h => by
    simp only [List.map_cons, lookL]
    rw [if_neg (h a (by simp))]
    exact qbk (fun j hj => h j (by simp at hj ⊢; exact .inr hj))
section
variable {c : Cx} {P : Program} {GT : qvf} {H lk : qzb} {K : Kn} {w : World} {ev : Operand → TV} {ρ : Operand → Value} {nl : Nat}
theorem qBy (A : At c P GT H lk K w ev ρ nl) {o : COrc} {F G : Nat → Prop} {Kc K' : Kn} {w' : World} {v : Value}
    (hk1 : (o.ren.map (·.1)) = (o.pre.map (·.1))) (hn2 : qsk (o.ren.map (·.2)) = true) (hn3 : qsk (o.post.map (·.1)) = true)
    (hq1 : ∀ k ∈ qWh o.res, k ∈ o.post.map (·.1)) (hq2 : ∀ k ∈ (o.post.flatMap fun p => qwk p.2), k ∈ o.post.map (·.1))
    (hq3 : ∀ k ∈ o.post.map (·.1), k ∈ o.pre.map (·.1) ∨ (8 ≤ k ∧ k < 16))
    (hold : ∀ k ∈ o.pre.map (·.1), ∃ o' gh, H (qCl nl o.ren k) = some o' ∧ K (qCl nl o.ren k) = some gh ∧ Kc k = some gh)
    (hG : ∀ b, G b → ∃ k ∈ o.pre.map (·.1), ∃ gh p, Kc k = some gh ∧ Has gh p ∧ p.blk = b)
    (hF : ∀ b, F b → b < w.heap.size) (hT : (∀ b, F b → NN c H K w false b) ∨ (frT o.res = true ∧ ∀ p ∈ o.post, frO p.2 = true))
    (hK : ∀ l gh, Kc l = some gh → K' l = some gh) (hI : Inv ⟨w, F, G, (ngOf GT), []⟩ (lookL o.post) K' w') (hv : TVRd w' (NN ⟨w, F, G, (ngOf GT), []⟩ (lookL o.post) K' w') K' o.res v) :
    ∃ K2, Stp c H K w ((o.post.map fun p => (qCl nl o.ren p.1, some (qEv (qCl nl o.ren) p.2))) ++ kill ((o.ren.filter fun q => !(o.post.map (·.1)).contains q.1).map (·.2))) nl K2 w' ∧
      TVRd w' (NN c (qbb H ((o.post.map fun p => (qCl nl o.ren p.1, some (qEv (qCl nl o.ren) p.2))) ++ kill ((o.ren.filter fun q => !(o.post.map (·.1)).contains q.1).map (·.2)))) K2 w') K2 (quB (qCl nl o.ren) o.res) v := by
  generalize hrn : qCl nl o.ren = rn at *
  generalize hupd : ((o.post.map fun p => (rn p.1, some (qEv rn p.2))) ++ kill ((o.ren.filter fun q => !(o.post.map (·.1)).contains q.1).map (·.2))) = upd
  have hrin : ∀ k, k ∈ o.pre.map (·.1) → lookL o.ren k = some (rn k) := fun k hk => by
    obtain ⟨l, hl⟩ := qfe (hk1 ▸ hk : k ∈ o.ren.map (·.1))
    rw [hl, ← hrn]; simp [qCl, hl]
  have hrout : ∀ k, k ∉ o.pre.map (·.1) → rn k = nl + (k - 8) := fun k hk => by
    rw [← hrn]; simp [qCl, qYl (hk1 ▸ hk : k ∉ o.ren.map (·.1))]
  have hnew : ∀ k, (8 ≤ k ∧ k < 16) → K (nl + (k - 8)) = none := fun k hk => A.fresh _ (by omega) (by omega)
  have hinj : ∀ j k, (j ∈ o.pre.map (·.1) ∨ (8 ≤ j ∧ j < 16)) → (k ∈ o.pre.map (·.1) ∨ (8 ≤ k ∧ k < 16)) → rn j = rn k → j = k := by
    intro j k hj hk e
    by_cases j1 : j ∈ o.pre.map (·.1)
    · by_cases k1 : k ∈ o.pre.map (·.1)
      · exact qPl hn2 (hrin j j1) (e ▸ hrin k k1)
      · obtain ⟨_, gh, _, g, _⟩ := hold j j1
        rw [e, hrout k k1, hnew k (hk.resolve_left k1)] at g; cases g
    · by_cases k1 : k ∈ o.pre.map (·.1)
      · obtain ⟨_, gh, _, g, _⟩ := hold k k1
        rw [← e, hrout j j1, hnew j (hj.resolve_left j1)] at g; cases g
      · rw [hrout j j1, hrout k k1] at e
        have := hj.resolve_left j1
        have := hk.resolve_left k1
        omega
  have hinjp : ∀ j ∈ o.post.map (·.1), ∀ k ∈ o.post.map (·.1), rn j = rn k → j = k := fun j hj k hk e => hinj j k (hq3 j hj) (hq3 k hk) e
  let K2 : Kn := fun l => if nl ≤ l ∧ (l - nl + 8) ∈ o.post.map (·.1) ∧ (l - nl + 8) ∉ o.pre.map (·.1) then K' (l - nl + 8) else K l
  have hK2n : ∀ k ∈ o.post.map (·.1), K2 (rn k) = K' k := by
    intro k hk
    by_cases k1 : k ∈ o.pre.map (·.1)
    · obtain ⟨_, gh, _, g1, g2⟩ := hold k k1
      have : ¬ (nl ≤ rn k ∧ (rn k - nl + 8) ∈ o.post.map (·.1) ∧ (rn k - nl + 8) ∉ o.pre.map (·.1)) := by
        rintro ⟨a1, a2, a3⟩
        have := (hq3 _ a2).resolve_left a3
        have := hnew _ this
        rw [show nl + (rn k - nl + 8 - 8) = rn k by omega, g1] at this; cases this
      simp only [K2, this, if_false, g1, hK k gh g2]
    · rw [hrout k k1]
      simp only [K2]
      have h8 := (hq3 k hk).resolve_left k1
      have e8 : nl + (k - 8) - nl + 8 = k := by omega
      rw [if_pos ⟨by omega, by rw [e8]; exact hk, by rw [e8]; exact k1⟩, e8]
  have hK2o : ∀ l gh, K l = some gh → K2 l = some gh := by
    intro l gh hl
    have : ¬ (nl ≤ l ∧ (l - nl + 8) ∈ o.post.map (·.1) ∧ (l - nl + 8) ∉ o.pre.map (·.1)) := by
      rintro ⟨a1, a2, a3⟩
      have := (hq3 _ a2).resolve_left a3
      have := hnew _ this
      rw [show nl + (l - nl + 8 - 8) = l by omega, hl] at this; cases this
    simp only [K2, this, if_false, hl]
  have hfresh : ∀ l, K2 l = K l ∨ (nl ≤ l ∧ l < nl + 8) := by
    intro l
    simp only [K2]
    split
    · rename_i h
      have := (hq3 _ h.2.1).resolve_left h.2.2
      exact .inr ⟨h.1, by omega⟩
    · exact .inl rfl
  have hU1 : ∀ k ob, lookL o.post k = some ob → qbb H upd (rn k) = some (qEv rn ob) := by
    intro k ob hk
    simp only [qbb, ← hupd, qge]
    have := qYr (f := rn) (g := fun x => some (qEv rn x)) (xs := o.post) (k := k) (fun j hj e => hinjp j hj k (qAc hk) e)
    rw [this, hk]; rfl
  have hU2 : ∀ l ob, qbb H upd l = some ob → (∃ k ok, lookL o.post k = some ok ∧ l = rn k ∧ ob = qEv rn ok) ∨ (H l = some ob ∧ ∀ k ∈ o.pre.map (·.1), rn k ≠ l) := by
    intro l ob hl
    by_cases hp : ∃ k ∈ o.post.map (·.1), rn k = l
    · obtain ⟨k, hk, rfl⟩ := hp
      obtain ⟨ok, hok⟩ := qfe hk
      rw [hU1 k ok hok] at hl
      simp only [Option.some.injEq] at hl
      exact .inl ⟨k, ok, hok, rfl, hl.symm⟩
    · right
      have hp' : ∀ j ∈ o.post.map (·.1), rn j ≠ l := fun j hj e => hp ⟨j, hj, e⟩
      simp only [qbb, ← hupd, qge] at hl
      rw [qbk (f := rn) (g := fun x => some (qEv rn x)) hp'] at hl
      simp only at hl
      cases hd : lookL (kill ((o.ren.filter fun q => !(o.post.map (·.1)).contains q.1).map (·.2))) l with
      | some x =>
        rw [hd] at hl
        have := (qsh hd).1
        subst this; cases hl
      | none =>
        rw [hd] at hl
        refine ⟨hl, fun k hk e => ?_⟩
        have hkp : k ∉ o.post.map (·.1) := fun h => hp' k h e
        have : l ∈ ((o.ren.filter fun q => !(o.post.map (·.1)).contains q.1).map (·.2)) := by
          refine List.mem_map.2 ⟨(k, l), List.mem_filter.2 ⟨?_, by simpa using hkp⟩, rfl⟩
          have := qEb (hrin k hk)
          rw [e] at this; exact this
        rw [qyo this] at hd; cases hd
  have hGb : ∀ b, G b → qJb H K b := by
    intro b hb
    obtain ⟨k, hk, gh, p, g1, g2, g3⟩ := hG b hb
    obtain ⟨o', gh', h1, h2, h3⟩ := hold k hk
    rw [g1] at h3; injection h3 with h3; subst h3
    exact ⟨rn k, o', gh, p, h1, h2, g2, g3⟩
  have hsame : ∀ b, b < w.heap.size → ¬ G b → w'.heap[b]? = w.heap[b]? := fun b h1 h2 => hI.fr.block b h1 h2
  have hsz := hI.fr.size
  simp only at hsz
  have hlive : ∀ b, b < w.heap.size → qJb (qbb H upd) K2 b → qJb H K b := by
    rintro b hb ⟨l, ob, gh, p, h1, h2, h3, h4⟩
    rcases hU2 l ob h1 with ⟨k, ok, q1, rfl, q3⟩ | ⟨q1, q2⟩
    · rw [hK2n k (qAc q1)] at h2
      rcases (hI.own k ok gh p q1 h2 h3).2.1 with h5 | h5
      · simp only at h5; omega
      · exact hGb b (h4 ▸ h5)
    · obtain ⟨gh', g1, _⟩ := A.inv.objs l ob q1
      rw [hK2o l gh' g1] at h2; injection h2 with h2; subst h2
      exact ⟨l, ob, gh', p, q1, g1, h3, h4⟩
  have hkk : KeepK w w' (NN c H K w) (NN c (qbb H upd) K2 w') K K2 :=
    ⟨fun fr => ⟨fun b hb => ⟨⟨by have := hb.1; omega, fun hn => hb.2.1 (hlive b hb.1 hn), hb.2.2⟩, hsame b hb.1 (fun hg => hb.2.1 (hGb b hg))⟩⟩, hK2o⟩
  have hw0 := A.inv.fr.size
  have hnotlive : ∀ b, ¬ qJb (lookL o.post) K' b → (w.heap.size ≤ b ∨ G b ∨ ¬ qJb H K b) → ¬ qJb (qbb H upd) K2 b := by
    rintro b hb hb2 ⟨l, ob, gh, p, h1, h2, h3, h4⟩
    rcases hU2 l ob h1 with ⟨k, ok, q1, rfl, q3⟩ | ⟨q1, q2⟩
    · rw [hK2n k (qAc q1)] at h2
      exact hb ⟨k, ok, gh, p, q1, h2, h3, h4⟩
    · obtain ⟨gh', g1, _⟩ := A.inv.objs l ob q1
      rw [hK2o l gh' g1] at h2; injection h2 with h2; subst h2
      have hlt := (A.inv.own l ob gh' p q1 g1 h3).1
      rcases hb2 with h5 | h5 | h5
      · omega
      · obtain ⟨k, hk, gh2, p2, a1, a2, a3⟩ := hG b h5
        obtain ⟨o', gh3, b1, b2, b3⟩ := hold k hk
        rw [a1] at b3; injection b3 with b3; subst b3
        exact q2 k hk (A.inv.inj (rn k) l o' ob gh2 gh' p2 p b1 q1 b2 g1 a2 h3 (by rw [a3, h4]))
      · exact h5 ⟨l, ob, gh', p, q1, g1, h3, h4⟩
  have hGown : ∀ b, G b → c.w0.heap.size ≤ b ∨ c.G b := by
    intro b hb
    obtain ⟨l, ob, gh, p, h1, h2, h3, h4⟩ := hGb b hb
    rw [← h4]; exact (A.inv.own l ob gh p h1 h2 h3).2.1
  have hNt : ∀ b, NN ⟨w, F, G, (ngOf GT), []⟩ (lookL o.post) K' w' true b → NN c (qbb H upd) K2 w' true b := by
    rintro b ⟨h1, h2, h3⟩
    simp only [Bool.true_eq_false, false_and, or_false] at h3
    refine ⟨h1, hnotlive b h2 (h3.imp id .inl), ?_⟩
    rcases h3 with h3 | h3
    · exact .inl (by omega)
    · exact (hGown b h3).imp id .inl
  have hNf : (∀ b, F b → NN c H K w false b) → ∀ b, NN ⟨w, F, G, (ngOf GT), []⟩ (lookL o.post) K' w' false b → NN c (qbb H upd) K2 w' false b := by
    rintro hF2 b ⟨h1, h2, h3⟩
    rcases h3 with h3 | h3 | ⟨_, h3 | h3⟩
    · exact ⟨h1, hnotlive b h2 (.inl h3), .inl (by simp only at h3; omega)⟩
    · exact ⟨h1, hnotlive b h2 (.inr (.inl h3)), (hGown b h3).imp id .inl⟩
    · have := hF2 b h3
      exact ⟨h1, hnotlive b h2 (.inr (.inr this.2.1)), this.2.2⟩
    · simp only at h3
      have hng : b < c.ng := by rw [A.gng]; exact h3
      refine ⟨h1, hnotlive b h2 (.inr (.inr ?_)), .inr (.inr ⟨rfl, .inr hng⟩)⟩
      rintro ⟨l, ob, gh, p, q1, q2, q3, q4⟩
      have := (A.inv.own l ob gh p q1 q2 q3).2.2
      omega
  have hway : ∃ N1 : Bool → Nat → Prop, TVRd w' N1 K' o.res v ∧ (∀ k ob, lookL o.post k = some ob → ∀ gh, K' k = some gh → ORd w' N1 K' ob gh) ∧ ∀ fr b, N1 fr b → NN c (qbb H upd) K2 w' fr b := by
    rcases hT with hT | ⟨hT1, hT2⟩
    · refine ⟨_, hv, fun k ob hk gh hg => ?_, fun fr b hb => by cases fr <;> first | exact hNf hT b hb | exact hNt b hb⟩
      obtain ⟨gh', g1, g2⟩ := hI.objs k ob hk
      rw [hg] at g1; injection g1 with g1; subst g1; exact g2
    · refine ⟨_, qXB hT1 hv, fun k ob hk gh hg => ?_, fun fr b hb => by cases fr <;> first | exact hNt b hb | exact NN.low b (hNt b hb)⟩
      obtain ⟨gh', g1, g2⟩ := hI.objs k ob hk
      rw [hg] at g1; injection g1 with g1; subst g1
      exact qYB (hT2 _ (qEb hk)) g2
  obtain ⟨N1, hr1, hr2, hr3⟩ := hway
  have hk1' : KeepK w' w' N1 (NN c (qbb H upd) K2 w') K2 K2 := ⟨fun fr => ⟨fun b hb => ⟨hr3 fr b hb, rfl⟩⟩, fun _ _ h => h⟩
  refine ⟨K2, ⟨⟨fun l ob hl => ?_, fun l ob gh p h1 h2 h3 => ?_, fun l l' ob ob' gh gh' p p' h1 h2 h3 h4 h5 h6 h7 => ?_, ?_⟩, hkk, hfresh, hsz⟩, ?_⟩
  · rcases hU2 l ob hl with ⟨k, ok, q1, rfl, rfl⟩ | ⟨q1, q2⟩
    · obtain ⟨gh, g1, _⟩ := hI.objs k ok q1
      refine ⟨gh, by rw [hK2n k (qAc q1)]; exact g1, ?_⟩
      refine ORd.keep hk1' (fun _ _ => rfl) ((qgt (K := K2) (K' := K') (fun j hj => ?_)).2 (hr2 k ok q1 gh g1))
      exact (hK2n j (hq2 j (List.mem_flatMap.2 ⟨_, qEb q1, hj⟩))).symm
    · obtain ⟨gh, g1, g2⟩ := A.inv.objs l ob q1
      refine ⟨gh, hK2o l gh g1, g2.keep hkk (fun p hp => hsame _ (A.inv.own l ob gh p q1 g1 hp).1 (fun hg => ?_))⟩
      obtain ⟨k, hk, gh2, p2, a1, a2, a3⟩ := hG _ hg
      obtain ⟨o', gh3, b1, b2, b3⟩ := hold k hk
      rw [a1] at b3; injection b3 with b3; subst b3
      exact q2 k hk (A.inv.inj (rn k) l o' ob gh2 gh p2 p b1 q1 b2 g1 a2 hp a3)
  · rcases hU2 l ob h1 with ⟨k, ok, q1, rfl, rfl⟩ | ⟨q1, q2⟩
    · rw [hK2n k (qAc q1)] at h2
      have := hI.own k ok gh p q1 h2 h3
      refine ⟨this.1, ?_, by rw [A.gng]; exact this.2.2⟩
      rcases this.2.1 with h5 | h5
      · exact .inl (by simp only at h5; omega)
      · exact hGown _ h5
    · obtain ⟨gh', g1, _⟩ := A.inv.objs l ob q1
      rw [hK2o l gh' g1] at h2; injection h2 with h2; subst h2
      have := A.inv.own l ob gh' p q1 g1 h3
      exact ⟨by omega, this.2⟩
  · rcases hU2 l ob h1 with ⟨k, ok, q1, rfl, rfl⟩ | ⟨q1, q2⟩
    · rw [hK2n k (qAc q1)] at h3
      rcases hU2 l' ob' h2 with ⟨k', ok', r1, rfl, rfl⟩ | ⟨r1, r2⟩
      · rw [hK2n k' (qAc r1)] at h4
        rw [hI.inj k k' ok ok' gh gh' p p' q1 r1 h3 h4 h5 h6 h7]
      · exfalso
        obtain ⟨gh2, g1, _⟩ := A.inv.objs l' ob' r1
        rw [hK2o l' gh2 g1] at h4; injection h4 with h4; subst h4
        have hlt := (A.inv.own l' ob' gh2 p' r1 g1 h6).1
        rcases (hI.own k ok gh p q1 h3 h5).2.1 with h8 | h8
        · simp only at h8; omega
        · obtain ⟨k2, hk2, gh3, p3, a1, a2, a3⟩ := hG _ h8
          obtain ⟨o', gh4, b1, b2, b3⟩ := hold k2 hk2
          rw [a1] at b3; injection b3 with b3; subst b3
          exact r2 k2 hk2 (A.inv.inj (rn k2) l' o' ob' gh3 gh2 p3 p' b1 r1 b2 g1 a2 h6 (by rw [a3, h7]))
    · obtain ⟨gh2, g1, _⟩ := A.inv.objs l ob q1
      rw [hK2o l gh2 g1] at h3; injection h3 with h3; subst h3
      rcases hU2 l' ob' h2 with ⟨k', ok', r1, rfl, rfl⟩ | ⟨r1, r2⟩
      · exfalso
        rw [hK2n k' (qAc r1)] at h4
        have hlt := (A.inv.own l ob gh2 p q1 g1 h5).1
        rcases (hI.own k' ok' gh' p' r1 h4 h6).2.1 with h8 | h8
        · simp only at h8; omega
        · obtain ⟨k2, hk2, gh3, p3, a1, a2, a3⟩ := hG _ h8
          obtain ⟨o', gh4, b1, b2, b3⟩ := hold k2 hk2
          rw [a1] at b3; injection b3 with b3; subst b3
          exact q2 k2 hk2 (A.inv.inj (rn k2) l o' ob gh3 gh2 p3 p b1 q1 b2 g1 a2 h5 (by rw [a3, h7]))
      · obtain ⟨gh3, g2, _⟩ := A.inv.objs l' ob' r1
        rw [hK2o l' gh3 g2] at h4; injection h4 with h4; subst h4
        exact A.inv.inj l l' ob ob' gh2 gh3 p p' q1 r1 g1 g2 h5 h6 h7
  · refine ⟨hI.fr.os.trans A.inv.fr.os, hI.fr.tape.trans A.inv.fr.tape, hI.fr.output.trans A.inv.fr.output, by omega, fun k h1 h2 => ?_⟩
    rw [hsame k (by omega) (fun hg => ?_)]
    · exact A.inv.fr.block k h1 h2
    · rcases hGown k hg with h3 | h3
      · omega
      · exact h2 h3
  · refine TVRd.keep hk1' ((qft (K := K2) (K' := K') (fun j hj => ?_)).2 hr1)
    exact (hK2n j (hq1 j hj)).symm
theorem qAo {k : Nat} {o : Obj} : ∀ {rs : List (Nat × Obj)}, lookL rs k = some o → lookL (qRb rs) k = some (some o)
  | [], h => by cases h
  | (a, b) :: r, h => by
    simp only [qRb, List.map_cons, lookL] at h ⊢
    split at h
    · rename_i e; subst e; simp only [Option.some.injEq] at h; subst h; simp
    · rename_i e; rw [if_neg e]; exact qAo h
theorem qpw (A : At c P GT H lk K w ev ρ nl) {o : COrc} {f : Nat} {vs : List AV} {us : List Value} (hv : VRdL w (NN c H K w) K vs us) {out : Out} (h : qbp P GT lk nl f vs o = some out) (hc : qVe out.conds) :
    qLm P f us.toArray w (Lands c H K w nl out) := by
  unfold qbp at h
  simp only at h
  split at h
  · rename_i pv hl hpv hhs
    split at h
    · rename_i hok
      simp only [Option.some.injEq] at h; subst h
      obtain ⟨c1, c3, c2, _⟩ := hc
      simp only [qqA, Bool.and_eq_true, beq_iff_eq, Bool.or_eq_true] at hok
      obtain ⟨⟨⟨⟨⟨⟨⟨⟨⟨k1, k2⟩, k3⟩, k4⟩, k5⟩, k6⟩, k7⟩, k8⟩, k9⟩, k10⟩ := hok
      rw [qDl] at k5 k6 k7 k8
      have hq3 : ∀ k ∈ o.post.map (·.1), k ∈ o.pre.map (·.1) ∨ (8 ≤ k ∧ k < 16) := by
        intro k hk
        have := List.all_eq_true.1 k9 k hk
        simpa [List.contains_eq_mem] using this
      let Kc : Kn := fun k => if k ∈ o.pre.map (·.1) then K (qCl nl o.ren k) else none
      have hKc : ∀ k ∈ o.pre.map (·.1), Kc k = K (qCl nl o.ren k) := fun k hk => by simp only [Kc, hk, if_true]
      have hrn : ∀ k l, (k, l) ∈ o.ren → qCl nl o.ren k = l := by
        intro k l hm
        simp [qCl, qQl (k1 ▸ k2 : qsk (o.ren.map (·.1)) = true) hm]
      have hget : ∀ k ob, lookL o.pre k = some ob → ∃ o' gh, H (qCl nl o.ren k) = some o' ∧ K (qCl nl o.ren k) = some gh ∧ Kc k = some gh ∧ ORd w (NN c H K w) K o' gh ∧ qgh lk o.ren true o' = some ob ∧ (k, qCl nl o.ren k) ∈ o.ren ∧ lk (qCl nl o.ren k) = some o' := by
        intro k ob hk
        obtain ⟨m, o1, o2, g1, g2, g3, g4⟩ := qyk hhs (c3 ▸ qAo hk)
        injection g4 with g4; subst g4
        rw [hrn k m g1]
        obtain ⟨gh, e1, e2⟩ := A.inv.objs _ o1 (A.sub _ _ g2)
        exact ⟨o1, gh, A.sub _ _ g2, e1, by rw [hKc k (qAc hk), hrn k m g1]; exact e1, e2, g3, g1, g2⟩
      have hold : ∀ k ∈ o.pre.map (·.1), ∃ o' gh, H (qCl nl o.ren k) = some o' ∧ K (qCl nl o.ren k) = some gh ∧ Kc k = some gh := by
        intro k hk
        obtain ⟨ob, hob⟩ := qfe hk
        obtain ⟨o', gh, h1, h2, h3, _⟩ := hget k ob hob
        exact ⟨o', gh, h1, h2, h3⟩
      let G : Nat → Prop := fun b => qJb (lookL o.pre) Kc b
      have hGk : ∀ b, G b → ∃ k ∈ o.pre.map (·.1), ∃ gh p, Kc k = some gh ∧ Has gh p ∧ p.blk = b := by
        rintro b ⟨k, ob, gh, p, h1, h2, h3, h4⟩
        exact ⟨k, qAc h1, gh, p, h2, h3, h4⟩
      have hrin : ∀ k, k ∈ o.pre.map (·.1) → lookL o.ren k = some (qCl nl o.ren k) := fun k hk => by
        obtain ⟨l, hl⟩ := qfe (k1 ▸ hk : k ∈ o.ren.map (·.1))
        rw [hl]; simp [qCl, hl]
      have hlivec : ∀ b, qJb (lookL o.pre) Kc b → qJb H K b := by
        rintro b ⟨k, ob, gh, p, h1, h2, h3, h4⟩
        obtain ⟨o', gh', g1, g2, g3, _⟩ := hget k ob h1
        rw [h2] at g3; injection g3 with g3; subst g3
        exact ⟨_, o', gh, p, g1, g2, h3, h4⟩
      let L : Nat → Prop := fun l => l ∈ vs.flatMap qBf ∨ ∃ q ∈ o.ren, ∃ ob, lk q.2 = some ob ∧ l ∈ qwk ob
      have S1 := Stp.kill A.inv nl (qdf lk vs o)
      have hD : ∀ l, l ∈ qdf lk vs o → l ∉ o.ren.map (·.2) := by
        intro l hl
        unfold qdf at hl
        split at hl
        · have := (List.mem_filter.1 hl).2
          simpa [List.contains_eq_mem] using this
        · cases hl
      have hH1 : ∀ l, l ∉ qdf lk vs o → qbb H (Ab.kill (qdf lk vs o)) l = H l := by
        intro l hl
        simp only [qbb]
        cases hd : lookL (Ab.kill (qdf lk vs o)) l with
        | none => rfl
        | some x => exact absurd (qXl hd) hl
      obtain ⟨F, hF1, hF2, hF3, hT⟩ : ∃ F : Nat → Prop, (∀ b, F b → b < w.heap.size) ∧ (∀ b, NN c H K w false b → F b) ∧ (∀ l ob gh p, L l → l ∉ o.ren.map (·.2) → H l = some ob → K l = some gh → Has gh p → F p.blk) ∧ ((∀ b, F b → NN c (qbb H (Ab.kill (qdf lk vs o))) K w false b) ∨ (frT o.res = true ∧ ∀ p ∈ o.post, frO p.2 = true)) := by
        rcases k10 with (⟨a2, a3⟩ | a1) | a4
        · exact ⟨fun b => b < w.heap.size, fun b hb => hb, fun b hb => hb.1, fun l ob gh p _ _ h1 h2 h3 => (A.inv.own l ob gh p h1 h2 h3).1, .inr ⟨a2, fun p hp => List.all_eq_true.1 a3 p hp⟩⟩
        · refine ⟨fun b => NN c H K w false b, fun b hb => hb.1, fun b hb => hb, fun l ob gh p hl hn => absurd ?_ hn, .inl (fun b hb => hb.killed)⟩
          simp only [qLs, Bool.and_eq_true] at a1
          obtain ⟨a1, a2⟩ := a1
          rw [qDl] at a1
          rcases hl with hl | ⟨q, hq, ob, hob, hl⟩
          · exact a1 l hl
          · have := List.all_eq_true.1 a2 q hq
            rw [hob] at this
            simp only [qDl] at this
            exact this l hl
        · refine ⟨fun b => NN c (qbb H (Ab.kill (qdf lk vs o))) K w false b, fun b hb => hb.1, fun b hb => hb.killed, fun l ob gh p hl hn h1 h2 h3 => NN.kill A.inv h1 h2 h3 ?_ false, .inl (fun b hb => hb)⟩
          unfold qdf
          rw [if_pos a4]
          refine List.mem_filter.2 ⟨List.mem_append.2 ?_, by simpa [List.contains_eq_mem] using hn⟩
          rcases hl with hl | ⟨q, hq, ob, hob, hl⟩
          · exact .inl hl
          · exact .inr (List.mem_flatMap.2 ⟨q, hq, by rw [hob]; exact hl⟩)
      have hNc : ∀ b, NN c H K w false b → NN ⟨w, F, G, (ngOf GT), []⟩ (lookL o.pre) Kc w false b := fun b hb =>
        ⟨hb.1, fun hn => hb.2.1 (hlivec b hn), .inr (.inr ⟨rfl, .inl (hF2 b hb)⟩)⟩
      have X : KeepX c H K Kc w o.ren true L (NN ⟨w, F, G, (ngOf GT), []⟩ (lookL o.pre) Kc w) := by
        refine ⟨fun fr b hb => ?_, fun l n hn => ?_, fun l ob gh p hL hn h1 h2 h3 fr => ?_⟩
        · have : NN c H K w false b := by cases fr <;> first | exact hb | exact NN.low b hb
          simpa using hNc b this
        · have hm := qko hn
          have hk : n ∈ o.pre.map (·.1) := k1 ▸ List.mem_map.2 ⟨_, hm, rfl⟩
          rw [hKc n hk, hrn n l hm]
        · have hown := A.inv.own l ob gh p h1 h2 h3
          simp only [Bool.not_true, Bool.and_false]
          refine ⟨hown.1, ?_, .inr (.inr ⟨rfl, .inl ?_⟩)⟩
          · rintro ⟨k, ob', gh', p', g1, g2, g3, g4⟩
            obtain ⟨o', gh2, e1, e2, e3, _, _, e4, _⟩ := hget k ob' g1
            rw [g2] at e3; injection e3 with e3; subst e3
            have := A.inv.inj _ _ o' ob gh' gh p' p e1 h1 e2 h2 g3 h3 g4
            rw [this] at e4
            exact qBj hn k e4
          · refine hF3 l ob gh p hL (fun hm => ?_) h1 h2 h3
            obtain ⟨q, hq, e⟩ := List.mem_map.1 hm
            obtain ⟨a, b⟩ := q
            simp only at e; subst e
            exact absurd hq (qBj hn a)
      have hinv : Inv ⟨w, F, G, (ngOf GT), []⟩ (lookL o.pre) Kc w := by
        refine ⟨fun k ob hk => ?_, fun k ob gh p h1 h2 h3 => ?_, fun k k' ob ob' gh gh' p p' h1 h2 h3 h4 h5 h6 h7 => ?_, ⟨rfl, rfl, rfl, Nat.le_refl _, fun _ _ _ => rfl⟩⟩
        · obtain ⟨o', gh, g1, g2, g3, g4, g5, g6, g7⟩ := hget k ob hk
          exact ⟨gh, g3, qNu X A.inv A.sub (fun l hl => .inr ⟨_, g6, o', g7, hl⟩) g5 g4⟩
        · obtain ⟨o', gh', g1, g2, g3, _⟩ := hget k ob h1
          rw [h2] at g3; injection g3 with g3; subst g3
          have := A.inv.own _ o' gh p g1 g2 h3
          exact ⟨this.1, .inr ⟨k, ob, gh, p, h1, h2, h3, rfl⟩, by rw [← A.gng]; exact this.2.2⟩
        · obtain ⟨o1, gh1, g1, g2, g3, _⟩ := hget k ob h1
          obtain ⟨o2, gh2, i1, i2, i3, _⟩ := hget k' ob' h2
          rw [h3] at g3; injection g3 with g3; subst g3
          rw [h4] at i3; injection i3 with i3; subst i3
          have e := A.inv.inj _ _ o1 o2 gh gh' p p' g1 i1 g2 i2 h5 h6 h7
          have r1 := hrin k (qAc h1)
          have r2 := hrin k' (qAc h2)
          rw [← e] at r2
          exact qPl k3 r1 r2
      have hargs : VRdL w (NN ⟨w, F, G, (ngOf GT), []⟩ (lookL o.pre) Kc w) Kc o.args us := by
        have h0 := qHo X A.inv A.sub (fun l hl => .inl hl) hpv hv
        rcases c1 with c1 | c1
        · rw [c1]; exact qIu h0
        · rw [c1]; exact h0
      have hcall := c2 w F G Kc us A.glob hinv (fun b hb => hb) (fun k hk => by
        have : k ∉ o.pre.map (·.1) := fun h => by obtain ⟨v, hv⟩ := qfe h; rw [hk] at hv; cases hv
        simp only [Kc, this, if_false]) hF1 hargs
      have hfin : ∀ v w', (∃ K', (∀ l gh, Kc l = some gh → K' l = some gh) ∧ Inv ⟨w, F, G, (ngOf GT), []⟩ (lookL o.post) K' w' ∧ TVRd w' (NN ⟨w, F, G, (ngOf GT), []⟩ (lookL o.post) K' w') K' o.res v) →
          Lands c H K w nl ⟨quB (qCl nl o.ren) o.res, ((o.post.map fun p => (qCl nl o.ren p.1, some (qEv (qCl nl o.ren) p.2))) ++ kill ((o.ren.filter fun q => !(o.post.map (·.1)).contains q.1).map (·.2))) ++ kill (qdf lk vs o), [o.args = qjo P (qOg P f) pv ∨ o.args = pv, hl = qRb o.pre, CallOK P GT f o.args o.pre o.res o.post]⟩ v w' := by
        rintro v w' ⟨K', g1, g2, g3⟩
        have A1 : At c P GT (qbb H (Ab.kill (qdf lk vs o))) (fun _ => none) K w (fun _ => .one .undef) ρ nl :=
          ⟨S1.inv, fun l o h => (by cases h), fun _ => trivial, A.fresh, A.ng, A.glob, A.gng⟩
        have hold1 : ∀ k ∈ o.pre.map (·.1), ∃ o' gh, qbb H (Ab.kill (qdf lk vs o)) (qCl nl o.ren k) = some o' ∧ K (qCl nl o.ren k) = some gh ∧ Kc k = some gh := by
          intro k hk
          obtain ⟨o', gh, b1, b2⟩ := hold k hk
          refine ⟨o', gh, ?_, b2⟩
          rw [hH1 _ (fun hm => hD _ hm (List.mem_map.2 ⟨_, qEb (hrin k hk), rfl⟩))]
          exact b1
        obtain ⟨K2, S2, hv2⟩ := qBy A1 k1 k3 k4 k7 k8 hq3 hold1 hGk hF1 hT g1 g2 g3
        refine ⟨K2, S1.trans S2, ?_⟩
        simp only
        rw [qZe]
        exact hv2
      unfold qLm at hcall ⊢
      split at hcall
      · exact hfin _ _ hcall
      · refine hcall.mono ?_
        rintro e w' ⟨v, e1, h2⟩
        exact ⟨v, e1, hfin v w' h2⟩
      · exact hcall
    · cases h
  · cases h
theorem qUt (A : Inv c H K w) (hsub : ∀ l o, lk l = some o → H l = some o) : ∀ {ls : List Nat} {as : List AV} {vs : List Value}, qsl lk ls = some as → capsRd K ls vs → VRdL w (NN c H K w) K as vs
  | [], as, vs, h, hr => by simp only [qsl, Option.some.injEq] at h; subst h; exact hr
  | l :: ls, as, vs, h, hr => by
    obtain ⟨gh, p, r, g1, g2, rfl, g3⟩ := hr
    simp only [qsl] at h
    split at h
    · rename_i t x vs' h1 h2
      simp only [Option.some.injEq] at h; subst h
      obtain ⟨gh', e1, e2, _⟩ := A.objs l _ (hsub _ _ h1)
      rw [g1] at e1; injection e1 with e1; subst e1
      obtain ⟨sh, pl⟩ := gh
      simp only at g2 e2; subst g2; subst e2
      exact ⟨_, r, rfl, ⟨_, p, 0, g1, .inl ⟨rfl, by simp [qkh, qya]⟩, by simp⟩, qUt A hsub h2 g3⟩
    · rename_i v vs' h1 h2
      simp only [Option.some.injEq] at h; subst h
      obtain ⟨gh', e1, e2, _⟩ := A.objs l _ (hsub _ _ h1)
      rw [g1] at e1; injection e1 with e1; subst e1
      obtain ⟨sh, pl⟩ := gh
      simp only at g2 e2; subst g2; subst e2
      exact ⟨_, r, rfl, ⟨.cell, p, g1, rfl⟩, qUt A hsub h2 g3⟩
    · cases h
theorem VRdL.append {N : Bool → Nat → Prop} : ∀ {as bs : List AV} {us vs : List Value}, VRdL w N K as us → VRdL w N K bs vs → VRdL w N K (as ++ bs) (us ++ vs)
  | [], _, _, _, h, h' => by simp only [VRdL] at h; subst h; exact h'
  | a :: as, bs, us, vs, h, h' => by
    obtain ⟨v, r, rfl, h1, h2⟩ := h
    exact ⟨v, r ++ vs, rfl, h1, h2.append h'⟩
theorem qpy (A : At c P GT H lk K w ev ρ nl) {o : Oper} {f : Operand} {args : Array Operand} {ats : Array TypeId} (ho : o.op = .call { callee := .value f, args := args, argTypes := ats }) {orc : Option COrc} {out : Out} (h : qfb P GT ev lk nl orc o.type o.op = some out) (hc : qVe out.conds) :
    Does P o ρ w (Lands c H K w nl out) := by
  rw [ho] at h
  simp only [qfb] at h
  split at h
  · rename_i g caps vs oc hf hvs
    split at h
    · rename_i cs hcs
      obtain ⟨cvs, h1, h2⟩ := A.one hf
      have hv := (qeq A hvs).append (qUt A.inv A.sub hcs h2)
      have hcall := qpw A hv h hc
      have harr : ((args.map ρ) ++ cvs.toArray) = (args.toList.map ρ ++ cvs).toArray := by apply Array.ext'; simp
      have hex : (execOp ρ o).run P w = (callFunc g (args.toList.map ρ ++ cvs).toArray).run P w := by
        simp only [execOp, ho, resolve, h1, Deferred.ofValue, invoke, pure_bind]
        rw [← harr]
        simp
      unfold Does
      rw [hex]
      unfold qLm at hcall
      revert hcall
      generalize (callFunc g (args.toList.map ρ ++ cvs).toArray).run P w = r
      intro hcall
      split at hcall
      · exact hcall
      · exact hcall
      · exact hcall.elim
    · cases h
  · cases h
end
end Go.Ab

/-
  Maps of keys that are compared part by part.
-/
set_option linter.unusedVariables false
set_option linter.unusedSimpArgs false
namespace Go.Ab
open Go
theorem qyn (bs : ByteArray) : ∀ (d i : Nat) (r : List UInt8), bs.size - i = d → ByteArray.toList.loop bs i r = r.reverse ++ bs.data.toList.drop i
  | 0, i, r, h => by
    have hs : bs.size = bs.data.toList.length := by cases bs; simp [ByteArray.size]
    rw [ByteArray.toList.loop, if_neg (by omega), List.drop_of_length_le (by omega), List.append_nil]
  | d + 1, i, r, h => by
    have hs : bs.size = bs.data.toList.length := by cases bs; simp [ByteArray.size]
    have hi : i < bs.data.toList.length := by omega
    rw [ByteArray.toList.loop, if_pos (by omega), qyn bs d (i + 1) _ (by omega), List.drop_eq_getElem_cons hi]
    have hg : bs.get! i = bs.data.toList[i] := by
      cases bs with
      | mk a =>
        have hi' : i < a.size := by simpa using hi
        show a[i]! = _
        rw [getElem!_pos a i hi']
        simp
    rw [hg]
    simp
theorem qzn (bs : ByteArray) : ByteArray.toList bs = bs.data.toList := by
  rw [ByteArray.toList, qyn bs bs.size 0 [] (by omega)]; simp
theorem toList_inj {a b : ByteArray} (h : ByteArray.toList a = ByteArray.toList b) : a = b := by
  have h1 : a.data.toList = b.data.toList := by
    rw [← qzn, ← qzn]; exact h
  cases a; cases b
  simp only [ByteArray.mk.injEq]
  exact Array.toList_inj.1 h1
theorem qJs (a b : ByteArray) : (a == b) = decide (a = b) := by
  cases a with | mk a => cases b with | mk b =>
  show (a == b) = _
  by_cases h : a = b
  · subst h; simp
  · simp [h]
mutual
theorem quu : ∀ {t : Ty} {x y : qFa t}, qOd t = true → peq t x y = true → x = y
  | .int _, x, y, _, h => by simpa [peq] using h
  | .bool, x, y, _, h => by simpa [peq] using h
  | .str, x, y, _, h => toList_inj (by simpa [peq] using h)
  | .arr n e, x, y, hc, h => qlx hc h
  | .pair a b, x, y, hc, h => by
    simp only [qOd, Bool.and_eq_true] at hc
    simp only [peq, Bool.and_eq_true] at h
    exact Prod.ext (quu hc.1 h.1) (quu hc.2 h.2)
  | .unit, x, y, _, _ => rfl
theorem qlx {e : Ty} : ∀ {xs ys : List (qFa e)}, qOd e = true → qtr (peq e) xs ys = true → xs = ys
  | [], [], _, _ => rfl
  | [], _ :: _, _, h => by simp [qtr] at h
  | _ :: _, [], _, h => by simp [qtr] at h
  | x :: xs, y :: ys, hc, h => by
    simp only [qtr, Bool.and_eq_true] at h
    rw [quu hc h.1, qlx hc h.2]
end
section
variable {w : World} {N : Nat → Prop}
theorem qzy {α : Type} {R : α → List Value → Prop} (hR : ∀ x a b, R x a → R x b → a = b) : ∀ {xs : List α} {a b : List Value}, Cat R xs a → Cat R xs b → a = b
  | [], _, _, h1, h2 => by simp only [Cat] at h1 h2; rw [h1, h2]
  | x :: xs, _, _, h1, h2 => by
    obtain ⟨a1, a2, rfl, p1, p2⟩ := h1
    obtain ⟨b1, b2, rfl, q1, q2⟩ := h2
    rw [hR _ _ _ p1 q1, qzy hR p2 q2]
theorem quq : ∀ {t : Ty} {x : qFa t} {a b : List Value}, qOd t = true → PRd w N t x a → PRd w N t x b → a = b
  | .int _, _, _, _, _, h1, h2 => by simp only [PRd] at h1 h2; rw [h1, h2]
  | .bool, _, _, _, _, h1, h2 => by simp only [PRd] at h1 h2; rw [h1, h2]
  | .str, _, _, _, _, h1, h2 => by simp only [PRd] at h1 h2; rw [h1, h2]
  | .arr n e, _, _, _, hc, h1, h2 => qzy (R := PRd w N e) (fun _ _ _ p q => quq (t := e) hc p q) h1.2 h2.2
  | .pair a b, _, _, _, hc, h1, h2 => by
    simp only [qOd, Bool.and_eq_true] at hc
    obtain ⟨a1, a2, rfl, p1, p2⟩ := h1
    obtain ⟨b1, b2, rfl, q1, q2⟩ := h2
    rw [quq hc.1 p1 q1, quq hc.2 p2 q2]
  | .unit, _, _, _, _, h1, h2 => by simp only [PRd] at h1 h2; rw [h1, h2]
def qpr : Value → Prop
  | .int _ _ | .bool _ | .string _ => True
  | _ => False
theorem qFs {α : Type} {R : α → List Value → Prop} (hR : ∀ x a, R x a → ∀ v ∈ a, qpr v) : ∀ {xs : List α} {a : List Value}, Cat R xs a → ∀ v ∈ a, qpr v
  | [], _, h1 => by simp only [Cat] at h1; subst h1; simp
  | x :: xs, _, h1 => by
    obtain ⟨a1, a2, rfl, p1, p2⟩ := h1
    intro v hv
    rcases List.mem_append.1 hv with hv | hv
    · exact hR _ _ p1 v hv
    · exact qFs hR p2 v hv
theorem qXk : ∀ {t : Ty} {x : qFa t} {a : List Value}, qOd t = true → PRd w N t x a → ∀ v ∈ a, qpr v
  | .int _, _, _, _, h1 => by simp only [PRd] at h1; subst h1; simp [qpr]
  | .bool, _, _, _, h1 => by simp only [PRd] at h1; subst h1; simp [qpr]
  | .str, _, _, _, h1 => by simp only [PRd] at h1; subst h1; simp [qpr]
  | .arr n e, _, _, hc, h1 => qFs (R := PRd w N e) (fun _ _ p => qXk (t := e) hc p) h1.2
  | .pair a b, _, _, hc, h1 => by
    simp only [qOd, Bool.and_eq_true] at hc
    obtain ⟨a1, a2, rfl, p1, p2⟩ := h1
    intro v hv
    rcases List.mem_append.1 hv with hv | hv
    · exact qXk hc.1 p1 v hv
    · exact qXk hc.2 p2 v hv
  | .unit, _, _, _, h1 => by simp only [PRd] at h1; subst h1; simp
theorem qQp {n : Nat} {v : Value} (h : qpr v) : Instr.sameBits n v v = true := by
  have hs : ∀ s : ByteArray, (s == s) = true := fun s => by rw [qJs]; simp
  cases v <;> simp [qpr] at h <;> cases n <;> simp [Instr.sameBits, hs]
theorem qou {n : Nat} : ∀ {a : List Value}, (∀ v ∈ a, qpr v) → ((a.zip a).all fun (x, y) => Instr.sameBits n x y) = true
  | [], _ => rfl
  | v :: a, h => by
    simp only [List.zip_cons_cons, List.all_cons, Bool.and_eq_true]
    exact ⟨qQp (h v (by simp)), qou (fun u hu => h u (by simp [hu]))⟩
theorem qdz {t : Ty} {x : qFa t} {a : List Value} {n : Nat} (hc : qOd t = true) (h : PRd w N t x a) : Instr.sameBits (n + 1) (qRa t a) (qRa t a) = true := by
  have hb := qXk hc h
  have hl := h.length
  unfold qRa
  cases ha : t.agg with
  | true =>
    simp only [if_true, Instr.sameBits, beq_self_eq_true, Bool.true_and]
    exact qou hb
  | false =>
    simp only [Bool.false_eq_true, if_false]
    cases a with
    | nil => cases t <;> simp [Ty.agg, Ty.sz] at ha hl
    | cons v r => exact qQp (hb v (by simp))
theorem qcC {t : Ty} {x y : qFa t} {a b : List Value} (hc : qOd t = true) (h1 : PRd w N t x a) (h2 : PRd w N t y b) (h : peq t x y = true) : a = b := by
  have := quu hc h; subst this
  exact quq hc h1 h2
end
section
variable {P : Program} {w : World} {N : Nat → Prop}
def qSm {α β : Type} (eq : α → α → Bool) (x : α) : List (α × β) → Nat → Option Nat
  | [], _ => none
  | e :: r, i => if eq x e.1 then some i else qSm eq x r (i + 1)
theorem qWj {kT : TypeId} {k v : Ty} (hk : qGc P tyD kT = some k) (hc : qOd k = true) (hq : qdy P tyD kT = true) {u : qFa k} {cu : List Value} (hu : PRd w N k u cu) :
    ∀ (xs : List (qFa k × qFa v)) (es : List MapEntry) (i : Nat), MRd w N k v xs es →
      (Instr.findAsking kT (qRa k cu) es i).run P w = .ok (match qSm (peq k) u xs i with
        | some j => some (j, ((es[j - i]?).map (·.val)).getD default)
        | none => none) w
  | [], es, i, h => by simp only [MRd] at h; subst h; simp [Instr.findAsking, qSm]
  | x :: xs, es, i, h => by
    obtain ⟨e, r, ck, cv, rfl, e1, e2, h1, h2, h3⟩ := h
    have heq : (Op.equal kT (qRa k cu) e.key).run P w = .ok (peq k u x.1) w := by
      rw [e1]; exact qqk tyD Op.maxDepth kT k u x.1 cu ck (by decide) hk hc hq hu h1
    simp only [Instr.findAsking, Sem.run_bind, heq, Result.andThen_ok, qSm]
    by_cases hp : peq k u x.1 = true
    · simp [hp]
    · have ih := qWj hk hc hq hu xs r (i + 1) h3
      have hlt : ∀ (l : List (qFa k × qFa v)) (i j : Nat), qSm (peq k) u l i = some j → i ≤ j := by
        intro l
        induction l with
        | nil => intro i j h; simp [qSm] at h
        | cons y l ih =>
          intro i j h
          simp only [qSm] at h
          split at h
          · injection h with h; omega
          · have := ih _ _ h; omega
      simp only [hp, Bool.false_eq_true, if_false]
      rw [ih]
      cases hm : qSm (peq k) u xs (i + 1) with
      | none => rfl
      | some j =>
        have := hlt _ _ _ hm
        have e : j - i = (j - (i + 1)) + 1 := by omega
        simp [e]
theorem qbt {kT : TypeId} {n : Nat} {k : Ty} {d : TypeDesc} (hk : qGc P n kT = some k) (hd : P.underlying kT = some d) {x y : qFa k} {a b : List Value} (hx : PRd w N k x a) (hy : PRd w N k y b) {r : Bool} (h : Instr.sameNow d (qRa k a) (qRa k b) = some r) : r = peq k x y := by
  obtain ⟨m, d', i, hm, hd', hr, _⟩ := qYb hk
  rw [hd] at hd'; injection hd' with hd'; subst hd'
  cases k with
  | int q =>
    simp only [PRd] at hx hy; subst hx hy
    simp only [qRa, Ty.agg, Bool.false_eq_true, if_false, List.headD_cons] at h
    cases d <;> simp [Instr.sameNow] at h
    simp only [peq]; rw [← h]; rfl
  | bool =>
    simp only [PRd] at hx hy; subst hx hy
    simp only [qRa, Ty.agg, Bool.false_eq_true, if_false, List.headD_cons] at h
    cases d <;> simp [Instr.sameNow] at h
    simp only [peq]; rw [← h]
  | str =>
    simp only [PRd] at hx hy; subst hx hy
    simp only [qRa, Ty.agg, Bool.false_eq_true, if_false, List.headD_cons] at h
    cases d <;> simp [Instr.sameNow] at h
    simp only [peq]; rw [← h]
    rw [qJs]
    by_cases he : (x : ByteArray) = y
    · subst he; simp
    · have : ¬ ByteArray.toList x = ByteArray.toList y := fun e => he (toList_inj e)
      rw [decide_eq_false he]
      exact (beq_eq_false_iff_ne.2 this).symm
  | arr _ _ => simp [qRa, Ty.agg, Instr.sameNow] at h
  | pair _ _ => simp [qRa, Ty.agg, Instr.sameNow] at h
  | unit => simp [qRa, Ty.agg, Instr.sameNow] at h
  | slice _ =>
    obtain ⟨A, c, rfl, _⟩ := hx
    simp [qRa, Ty.agg, Instr.sameNow] at h
  | fn =>
    simp only [PRd] at hx hy; subst hx hy
    cases x <;> simp [qRa, Ty.agg, Instr.sameNow] at h
theorem qKn {kT : TypeId} {n : Nat} {k v : Ty} {d : TypeDesc} (hk : qGc P n kT = some k) (hd : P.underlying kT = some d) {u : qFa k} {cu : List Value} (hu : PRd w N k u cu) :
    ∀ (xs : List (qFa k × qFa v)) (es : List MapEntry) (i : Nat) (r : Option (Nat × Value)), MRd w N k v xs es → Instr.findNow d (qRa k cu) es i = some r →
      r = match qSm (peq k) u xs i with
        | some j => some (j, ((es[j - i]?).map (·.val)).getD default)
        | none => none
  | [], es, i, r, h, hf => by simp only [MRd] at h; subst h; simp only [Instr.findNow, Option.some.injEq] at hf; subst hf; simp [qSm]
  | x :: xs, es, i, r, h, hf => by
    obtain ⟨e, r', ck, cv, rfl, e1, e2, h1, h2, h3⟩ := h
    simp only [Instr.findNow] at hf
    rw [e1] at hf
    cases hs : Instr.sameNow d (qRa k cu) (qRa k ck) with
    | none => rw [hs] at hf; cases hf
    | some b =>
      have hb := qbt hk hd hu h1 hs
      rw [hs] at hf
      simp only [qSm, ← hb]
      cases b with
      | true => simp only [Option.some.injEq] at hf; subst hf; simp
      | false =>
        simp only at hf
        have ih := qKn hk hd hu xs r' (i + 1) r h3 hf
        have hlt : ∀ (l : List (qFa k × qFa v)) (i j : Nat), qSm (peq k) u l i = some j → i ≤ j := by
          intro l
          induction l with
          | nil => intro i j h; simp [qSm] at h
          | cons y l ih =>
            intro i j h
            simp only [qSm] at h
            split at h
            · injection h with h; omega
            · have := ih _ _ h; omega
        rw [ih]
        simp only [Bool.false_eq_true, if_false]
        cases hm : qSm (peq k) u xs (i + 1) with
        | none => rfl
        | some j =>
          have := hlt _ _ _ hm
          have e : j - i = (j - (i + 1)) + 1 := by omega
          simp [e]
theorem qLn {kT : TypeId} {k v : Ty} (hk : qGc P tyD kT = some k) (hc : qOd k = true) (hq : qdy P tyD kT = true) {u : qFa k} {cu : List Value} (hu : PRd w N k u cu) {xs : List (qFa k × qFa v)} {es : List MapEntry} (h : MRd w N k v xs es) :
    (Instr.findKey kT (qRa k cu) es).run P w = .ok (match qSm (peq k) u xs 0 with
        | some j => some (j, ((es[j]?).map (·.val)).getD default)
        | none => none) w := by
  obtain ⟨m, d, i, hm, hd, hr, _⟩ := qYb hk
  simp only [Instr.findKey, Sem.run_bind, run_underlying hd, Result.andThen_ok]
  cases hf : Instr.findNow d (qRa k cu) es 0 with
  | some r =>
    have := qKn hk hd hu xs es 0 r h hf
    simp only [Nat.sub_zero] at this
    rw [this]; rfl
  | none =>
    have := qWj hk hc hq hu xs es 0 h
    simp only [Nat.sub_zero] at this
    exact this
theorem qTp {em : Bool} {d m : Nat} {E : TypeId} {e : Ty} (hE : qGc P m E = some e)
    (IH : ∀ (x : qFa e) (c1 : List Value), PRd w N e x c1 → (Instr.checkKey em d E (qRa e c1)).run P w = .ok () w) (cs : List Value) :
    ∀ (us : List (qFa e)) (k : Nat), Cat (PRd w N e) us (cs.drop (k * e.sz)) →
      (forIn (List.range' k us.length 1) PUnit.unit fun i __s => do
        let n ← sizeOf E
        let a ← part E cs.toArray (i * n)
        Instr.checkKey em d E a
        pure (ForInStep.yield PUnit.unit) : Sem PUnit).run P w = .ok PUnit.unit w
  | [], k, _ => by simp
  | x :: us, k, h1 => by
    obtain ⟨a1, a2, a3⟩ := qty (fun _ _ => PRd.length) h1
    have ih := qTp hE IH cs us (k + 1) a2
    simp only [List.length_cons, List.range'_succ, List.forIn_cons, Sem.run_bind, qkb hE, qLg hE a3, Result.andThen_ok, IH x _ a1]
    simpa using ih
theorem qym {em : Bool} {d : Nat} {m : Nat} (IH : ∀ (T : TypeId) (t : Ty) (x : qFa t) (c1 : List Value), qGc P m T = some t → qOd t = true → PRd w N t x c1 → (Instr.checkKey em d T (qRa t c1)).run P w = .ok () w) :
    ∀ (fs : List Field) (ts : List Ty) (o : Nat), qqi (qGc P m) fs = some ts → qji P fs ts o = true → qOd (qce ts) = true →
      ∀ (x : qFa (qce ts)) (cs : List Value), PRd w N (qce ts) x (cs.drop o) → o ≤ cs.length →
        (forIn fs PUnit.unit fun f __s => if f.name ≠ "_" then do
            let a ← part f.type cs.toArray f.offset
            Instr.checkKey em d f.type a
            pure (ForInStep.yield PUnit.unit)
          else do
            pure PUnit.unit
            pure (ForInStep.yield PUnit.unit) : Sem PUnit).run P w = .ok PUnit.unit w
  | [], ts, o, ht, ho, hc, x, cs, hx, h1 => by simp
  | f :: fs, ts, o, ht, ho, hc, x, cs, hx, h1 => by
    simp only [qqi] at ht
    split at ht
    · rename_i t ts' e1 e2
      simp only [Option.some.injEq] at ht; subst ht
      simp only [qji, Bool.and_eq_true, beq_iff_eq] at ho
      simp only [qce, qOd, Bool.and_eq_true] at hc
      obtain ⟨c1, c2, ec, x1, x2⟩ := hx
      have lc := x1.length
      have llc : cs.length = o + (c1.length + c2.length) := by have := congrArg List.length ec; simp at this; omega
      have kc : cut cs o t.sz = c1 := by unfold cut; rw [ec, ← lc, List.take_left']; rfl
      have rc : cs.drop (o + t.sz) = c2 := by rw [← List.drop_drop, ec, ← lc, List.drop_left']; rfl
      have ih := qym IH fs ts' (o + t.sz) e2 ho.2 hc.2 x.2 cs (by rw [rc]; exact x2) (by omega)
      simp only [List.forIn_cons, Sem.run_bind]
      by_cases hn : f.name ≠ "_"
      · rw [if_pos hn, ho.1]
        simp only [Sem.run_bind, qLg e1 (show o + t.sz ≤ cs.length by omega), Result.andThen_ok, kc, IH f.type t x.1 c1 e1 hc.1 x1, Sem.run_pure]
        exact ih
      · rw [if_neg hn]
        simp only [Sem.run_bind, Sem.run_pure, Result.andThen_ok]
        exact ih
    · cases ht
theorem qHi {em : Bool} : ∀ (n d : Nat) (T : TypeId) (t : Ty) (x : qFa t) (cs : List Value), n ≤ d → qGc P n T = some t → qOd t = true → PRd w N t x cs →
    (Instr.checkKey em d T (qRa t cs)).run P w = .ok () w
  | 0, d, T, t, x, cs, hn, ht, hc, hx => by simp [qGc] at ht
  | n + 1, 0, T, t, x, cs, hn, ht, hc, hx => by omega
  | n + 1, d + 1, T, t, x, cs, hn, ht, hc, hx => by
    obtain ⟨m, ds', i, hm, hd, hr, _⟩ := qYb ht
    injection hm with hm; subst hm
    have IH := fun T t x c1 h1 h2 h3 => qHi (em := em) n d T t x c1 (by omega) h1 h2 h3
    cases ds' <;> simp only [qwn] at hr <;> first | (cases hr; done) | skip
    · simp only [Option.some.injEq] at hr; subst hr
      simp [Instr.checkKey, run_underlying hd]
    · simp only [Option.some.injEq] at hr; subst hr
      simp [Instr.checkKey, run_underlying hd]
    · simp only [Option.some.injEq] at hr; subst hr
      simp [Instr.checkKey, run_underlying hd]
    · split at hr
      · simp only [Option.some.injEq] at hr; subst hr; simp [qOd] at hc
      · cases hr
    · split at hr
      · rename_i k E _ e he
        simp only [Option.some.injEq] at hr; subst hr
        simp only [qOd] at hc
        obtain ⟨lx, cx⟩ := hx
        have L := qTp (em := em) (d := d) he (fun x c1 h1 => IH E e x c1 he hc h1) cs x 0 (by simpa using cx)
        rw [lx] at L
        simp only [qRa, Ty.agg, if_true, Instr.checkKey, Sem.run_bind, run_underlying hd, Result.andThen_ok, qkb he, Std.Legacy.Range.forIn_eq_forIn_range', Std.Legacy.Range.size, Nat.sub_zero, Nat.add_sub_cancel, Nat.div_one]
        rw [L]; rfl
      · cases hr
    · rename_i fs
      split at hr
      · rename_i ts hts
        split at hr
        · rename_i ho
          simp only [Option.some.injEq] at hr; subst hr
          have ha : (qce ts).agg = true := by cases ts <;> rfl
          have L := qym (em := em) (d := d) IH fs.toList ts 0 hts ho hc x cs (by simpa using hx) (by omega)
          simp only [qRa, ha, if_true, Instr.checkKey, Sem.run_bind, run_underlying hd, Result.andThen_ok]
          rw [← Array.forIn_toList]
          first | exact L | (rw [L]; rfl) | (refine Eq.trans (congrArg (fun r => Result.andThen r _) L) ?_; rfl)
        · cases hr
      · cases hr
    · simp only [Option.some.injEq] at hr; subst hr; simp [qOd] at hc
theorem qbl {k v : Ty} {u : qFa k} : ∀ {xs : List (qFa k × qFa v)} {es : List MapEntry} {i : Nat}, MRd w N k v xs es → match qSm (peq k) u xs i with
    | some j => i ≤ j ∧ ∃ e z cv ck x, es[j - i]? = some e ∧ xs[j - i]? = some (x, z) ∧ qTm (peq k) u xs = some z ∧ e.val = qRa v cv ∧ PRd w N v z cv ∧ e.key = qRa k ck ∧ PRd w N k x ck ∧ peq k u x = true
    | none => qTm (peq k) u xs = none
  | [], es, i, h => by simp [qSm, qTm]
  | x :: xs, es, i, h => by
    obtain ⟨e, r, ck, cv, rfl, e1, e2, h1, h2, h3⟩ := h
    simp only [qSm, qTm]
    by_cases hp : peq k u x.1 = true
    · simp only [hp, if_true]
      exact ⟨Nat.le_refl _, e, x.2, cv, ck, x.1, by simp, by simp, rfl, e2, h2, e1, h1, hp⟩
    · simp only [hp, Bool.false_eq_true, if_false]
      have ih := qbl (u := u) (i := i + 1) h3
      cases hm : qSm (peq k) u xs (i + 1) with
      | none => rw [hm] at ih; exact ih
      | some j =>
        rw [hm] at ih
        obtain ⟨h0, e', z, cv', ck', x', a1, a2, a3⟩ := ih
        have hj : j - i = (j - (i + 1)) + 1 := by omega
        exact ⟨by omega, e', z, cv', ck', x', by rw [hj]; simpa using a1, by rw [hj]; simpa using a2, a3⟩
theorem qzx {k v : Ty} (hc : qOd k = true) {u : qFa k} {z : qFa v} {cu cz : List Value} (hu : PRd w N k u cu) (hz : PRd w N v z cz) (f : MapEntry → MapEntry) (nw : MapEntry) (hf : ∀ e, (f e).key = qRa k cu ∧ (f e).val = qRa v cz) (hn : nw.key = qRa k cu ∧ nw.val = qRa v cz) :
    ∀ {xs : List (qFa k × qFa v)} {es : List MapEntry} {i : Nat}, MRd w N k v xs es → MRd w N k v (qUr (peq k) u z xs) (match qSm (peq k) u xs i with
      | some j => es.modify (j - i) f
      | none => es ++ [nw])
  | [], es, i, h => by
    simp only [MRd] at h; subst h
    exact ⟨nw, [], cu, cz, rfl, hn.1, hn.2, hu, hz, rfl⟩
  | x :: xs, es, i, h => by
    obtain ⟨e, r, ck, cv, rfl, e1, e2, h1, h2, h3⟩ := h
    simp only [qSm, qUr]
    by_cases hp : peq k u x.1 = true
    · simp only [hp, if_true, Nat.sub_self]
      exact ⟨f e, r, cu, cz, by simp [List.modify], (hf e).1, (hf e).2, hu, hz, h3⟩
    · simp only [hp, Bool.false_eq_true, if_false]
      have ih := qzx hc hu hz f nw hf hn (i := i + 1) h3
      have h0 := qbl (u := u) (i := i + 1) h3
      cases hm : qSm (peq k) u xs (i + 1) with
      | none => rw [hm] at ih; exact ⟨e, _, ck, cv, rfl, e1, e2, h1, h2, ih⟩
      | some j =>
        rw [hm] at ih h0
        have hj : j - i = (j - (i + 1)) + 1 := by omega
        simp only
        rw [hj]
        exact ⟨e, _, ck, cv, by simp, e1, e2, h1, h2, ih⟩
end
section
variable {c : Cx} {P : Program} {GT : qvf} {H lk : qzb} {K : Kn} {w : World} {ev : Operand → TV} {ρ : Operand → Value} {nl : Nat}
theorem qCj {T : TypeId} {k v : Ty} (h : qOv P T = some (k, v)) : ∃ KT E, P.underlying T = some (.map KT E) ∧ qGc P tyD KT = some k ∧ qGc P tyD E = some v ∧ qOd k = true ∧ qdy P tyD KT = true ∧ k.flat = true ∧ v.flat = true ∧ qYf P E v = true := by
  unfold qOv at h
  split at h
  · rename_i KT E hd
    split at h
    · rename_i k' v' e1 e2
      split at h
      · rename_i hb
        simp only [Option.some.injEq, Prod.mk.injEq] at h; obtain ⟨rfl, rfl⟩ := h
        simp only [Bool.and_eq_true] at hb
        exact ⟨KT, E, hd, e1, e2, hb.1.1.1.1, hb.1.1.1.2, hb.1.1.2, hb.1.2, hb.2⟩
      · cases h
    · cases h
  · cases h
theorem qOq {N : Bool → Nat → Prop} (hN : ∀ b, N true b → N false b) {k : Ty} {x : AV} {u : qFa k} {a : Value} (hf : k.flat = true) (h : qFo k x = some u) (hr : VRd w N K x a) : ∃ cu, a = qRa k cu ∧ PRd w (fun _ => False) k u cu := by
  unfold qFo at h
  split at h
  · rename_i y hy
    obtain ⟨h1, h2⟩ := qOl hr hy
    exact ⟨_, h2, (qvn hN h1 h).flat hf⟩
  · cases h
theorem qEx (A : At c P GT H lk K w ev ρ nl) {k v : Ty} (hk : k.flat = true) (hv : v.flat = true) : Lands c H K w nl ⟨.one (.mapr nl), [(nl, some (.map k v []))], []⟩ (.map (some w.heap.size)) (w.alloc (.map #[] 0)) := by
  have S := Stp.new (w' := w.alloc (.map #[] 0)) A.inv A.ng nl nl ⟨Nat.le_refl _, by omega⟩ (A.fresh nl (Nat.le_refl _) (by omega)) (.map k v []) ⟨.map k v, some ⟨w.heap.size, 0, 0⟩⟩ (qdb w _) (fun p hp => by
      injection hp with hp; subst hp
      exact ⟨Nat.le_refl _, by rw [qSa]; exact Nat.lt_succ_self _⟩) (fun N' K' hNlow hkk => ⟨rfl, _, #[], 0, rfl, qhp w _, hk, hv, rfl⟩)
  exact ⟨_, S, ⟨.map k v, ⟨w.heap.size, 0, 0⟩, qGa, rfl⟩⟩
theorem qws (A : At c P GT H lk K w ev ρ nl) {o : Oper} {T : TypeId} {r : Option Operand} (ho : o.op = .makeMap T r) {orc : Option COrc} {out : Out} (h : qfb P GT ev lk nl orc o.type o.op = some out) :
    Does P o ρ w (Lands c H K w nl out) := by
  rw [ho] at h
  cases r with
  | none =>
    simp only [qfb] at h
    split at h
    · rename_i k v hT
      obtain ⟨KT, E, hd, _, _, _, _, hk, hv, _⟩ := qCj hT
      simp only [Option.some.injEq] at h; subst h
      refine Does.value (v := .map (some w.heap.size)) (w' := w.alloc (.map #[] 0)) ?_ (qEx A hk hv)
      simp only [execOp, ho, Instr.makeMap, Option.map_none]
      rfl
    · cases h
  | some x =>
    simp only [qfb] at h
    split at h
    · rename_i k v q n hT hx
      obtain ⟨KT, E, hd, _, _, _, _, hk, hv, _⟩ := qCj hT
      simp only [Option.some.injEq] at h; subst h
      have hx' := A.one hx
      simp only [VRd] at hx'
      refine Does.value (v := .map (some w.heap.size)) (w' := w.alloc (.map #[] 0)) ?_ (qEx A hk hv)
      simp only [execOp, ho, Instr.makeMap, Option.map_some, hx', Sem.run_bind, Sem.run_map, run_underlying hd, Result.andThen_ok, asInt]
      rfl
    · cases h
theorem qol {T E : TypeId} {e : Ty} (h : qrn P T = some (e, E)) : ∃ d, P.underlying T = some (.chan d E) ∧ qGc P tyD E = some e := by
  unfold qrn at h
  split at h
  · rename_i d E' hd
    split at h
    · rename_i e' he
      simp only [Option.some.injEq, Prod.mk.injEq] at h; obtain ⟨rfl, rfl⟩ := h
      exact ⟨d, hd, he⟩
    · cases h
  · cases h
theorem qcr (A : At c P GT H lk K w ev ρ nl) {o : Oper} {T : TypeId} {r : Operand} (ho : o.op = .makeChan T r) {orc : Option COrc} {out : Out} (h : qfb P GT ev lk nl orc o.type o.op = some out) (hc : qVe out.conds) :
    Does P o ρ w (Lands c H K w nl out) := by
  rw [ho] at h
  simp only [qfb] at h
  split at h
  · rename_i e E q n hT hx
    obtain ⟨d, hd, he⟩ := qol hT
    obtain ⟨_, _, i, _, _, _, _, hi, _⟩ := qYb he
    simp only [Option.some.injEq] at h; subst h
    obtain ⟨c1, c2, c3, _⟩ := hc
    have hx' := A.one hx
    simp only [VRd] at hx'
    have hby : P.bytesOf E = i.bytes := by simp [Program.bytesOf, hi]
    rw [hby] at c3
    have S := Stp.new (w' := w.alloc (.chan n.toNat #[] false 0 0 false)) A.inv A.ng nl nl ⟨Nat.le_refl _, by omega⟩ (A.fresh nl (Nat.le_refl _) (by omega)) (.chan e true n.toNat [] false) ⟨.chan e n.toNat, some ⟨w.heap.size, 0, 0⟩⟩ (qdb w _) (fun p hp => by
      injection hp with hp; subst hp
      exact ⟨Nat.le_refl _, by rw [qSa]; exact Nat.lt_succ_self _⟩) (fun N' K' hNlow hkk => ⟨rfl, _, #[], 0, 0, rfl, qhp w _, rfl⟩)
    refine Does.value (v := .chan (some w.heap.size)) (w' := w.alloc (.chan n.toNat #[] false 0 0 false)) ?_ ⟨_, S, ⟨.chan e n.toNat, ⟨w.heap.size, 0, 0⟩, qGa, rfl⟩⟩
    have hk : IntKind.max .i64 = 9223372036854775807 := rfl
    simp only [execOp, ho, Instr.makeChan, hx', Sem.run_bind, Sem.run_map, run_underlying hd, qyf hi, Result.andThen_ok, asInt, asIntOf, Sem.run_pure]
    rw [if_neg (by
      rw [hk]
      intro h
      rcases h with h | h | h
      · omega
      · omega
      · have : (2 : Int) ^ 48 - 112 = 281474976710544 := by decide
        rw [this] at h
        omega)]
    rfl
  · cases h
theorem qLu (A : At c P GT H lk K w ev ρ nl) {k v : Ty} {x : AV} {es : List (qFa k × qFa v)} {a : Value} (h : qwz lk k v x = some es) (hr : VRd w (NN c H K w) K x a) :
    (a = .map none ∧ es = []) ∨ ∃ l p en clock, x = .mapr l ∧ lk l = some (.map k v es) ∧ a = .map (some p.blk) ∧ K l = some ⟨.map k v, some p⟩ ∧ w.heap[p.blk]? = some (.map en clock) ∧ MRd w (fun _ => False) k v es en.toList := by
  unfold qwz at h
  split at h
  · rename_i l
    split at h
    · rename_i k' v' es' hl
      split at h
      · rename_i he
        obtain ⟨rfl, rfl⟩ := he
        simp only [Option.some.injEq] at h; subst h
        obtain ⟨sh, pl, k1, rfl⟩ := hr
        obtain ⟨gh, g1, g2, p, en, clock, g3, g4, g5⟩ := A.inv.objs l _ (A.sub _ _ hl)
        rw [k1] at g1; injection g1 with g1; subst g1
        simp only [Option.some.injEq] at g3; subst g3
        simp only at g2; subst g2
        exact .inr ⟨l, pl, en, clock, rfl, hl, rfl, k1, g4, g5.2.2⟩
      · cases h
    · cases h
  · simp only [Option.some.injEq] at h; subst h
    exact .inl ⟨hr, rfl⟩
  · cases h
theorem qqv {E : TypeId} {t : Ty} (h : qYf P E t = true) : (zeroValue E).run P w = .ok (qRa t (qFg t)) w := by
  obtain ⟨v, h1, h2, i, h3, h4⟩ := qSc (w := w) h
  rw [h1]
  unfold qYf at h
  rw [h3] at h
  simp only [h4, Bool.and_eq_true] at h
  have h5 := h.1
  clear h h4 h1
  rw [← h2]; clear h2
  cases v <;> simp_all [qRa, Value.cells]
theorem qLt (A : At c P GT H lk K w ev ρ nl) {o : Oper} {T : TypeId} {m x : Operand} {ok : Bool} (ho : o.op = .lookup T m x ok) {orc : Option COrc} {out : Out} (h : qfb P GT ev lk nl orc o.type o.op = some out) :
    Does P o ρ w (Lands c H K w nl out) := by
  rw [ho] at h
  simp only [qfb] at h
  split at h
  · rename_i k v mv xv hT hm hx
    obtain ⟨KT, E, hd, tk, tv, hc, hq, hk, hv, hz⟩ := qCj hT
    split at h
    · rename_i u es hu he
      simp only [Option.some.injEq] at h; subst h
      obtain ⟨cu, ru, pu⟩ := qOq (fun b => NN.low b) hk hu (A.one hx)
      have key : ∃ en : Array MapEntry, MRd w (fun _ => False) k v es en.toList ∧ (Instr.lookup T (ρ m) (ρ x) ok).run P w = (do
          Instr.checkKey en.isEmpty 10000 KT (ρ x)
          let (v, b) ← match ← Instr.findKey KT (ρ x) en.toList with
            | some (_, v) => pure (v, true)
            | none => pure (← zeroValue E, false)
          pure (if ok then .tuple #[v, .bool b] else v) : Sem Value).run P w := by
        rcases qLu A he (A.one hm) with ⟨e1, rfl⟩ | ⟨l, p, en, clock, _, _, e1, _, hb, hM⟩
        · refine ⟨#[], rfl, ?_⟩
          simp only [Instr.lookup, e1, Sem.run_bind, run_underlying hd, Result.andThen_ok, Sem.run_pure]
          rfl
        · refine ⟨en, hM, ?_⟩
          have hg : (getObj p.blk).run P w = .ok (.map en clock) w := by simp [getObj, Sem.run, hb]
          simp only [Instr.lookup, e1, Sem.run_bind, run_underlying hd, Result.andThen_ok, hg, Sem.run_pure]
          rfl
      obtain ⟨en, hM, hrun⟩ := key
      have hck := qHi (P := P) (w := w) (em := en.isEmpty) tyD 10000 KT k u cu (by decide) tk hc pu
      have hfk := qLn tk hc hq pu hM
      have hg := qbl (u := u) (i := 0) hM
      have res : ∃ cv b, (Instr.lookup T (ρ m) (ρ x) ok).run P w = .ok (if ok then .tuple #[qRa v cv, .bool b] else qRa v cv) w ∧ PRd w (fun _ => False) v ((qTm (peq k) u es).getD (qja v)) cv ∧ b = (qTm (peq k) u es).isSome := by
        rw [hrun, ru]
        simp only [Sem.run_bind, hck, hfk, Result.andThen_ok]
        cases hi : qSm (peq k) u es 0 with
        | none =>
          rw [hi] at hg
          simp only [Sem.run_bind, qqv hz, Result.andThen_ok, Sem.run_pure]
          exact ⟨qFg v, false, rfl, by rw [hg]; exact qyd, by rw [hg]; rfl⟩
        | some j =>
          rw [hi] at hg
          obtain ⟨_, e, z, cv, ck, x', a1, a2, a3, a4, a5, _⟩ := hg
          simp only [Nat.sub_zero] at a1
          simp only [a1, Option.map_some, Option.getD_some, Sem.run_pure, Result.andThen_ok, Sem.run_bind, a4]
          exact ⟨cv, true, rfl, by rw [a3]; exact a5, by rw [a3]; rfl⟩
      obtain ⟨cv, b, r1, r2, r3⟩ := res
      refine Does.value (v := if ok then .tuple #[qRa v cv, .bool b] else qRa v cv) (w' := w) (by simp [execOp, ho, r1]) (Lands.same A.inv ?_)
      have hval : VRd w (NN c H K w) K (qXs v (inj false v ((qTm (peq k) u es).getD (qja v)))) (qRa v cv) :=
        qFl (qog (fun b => NN.low b) false (r2.flat hv))
      cases ok with
      | false => exact hval
      | true => exact ⟨[qRa v cv, .bool b], rfl, ⟨_, _, rfl, hval, ⟨_, _, rfl, by rw [r3]; rfl, rfl⟩⟩⟩
    · cases h
  · cases h
theorem qmm {N : Bool → Nat → Prop} : ∀ {vs : List AV} {ls : List Nat} {us : List Value}, qnm vs = some ls → VRdL w N K vs us → capsRd K ls us
  | [], ls, us, h, hr => by
    simp only [qnm, Option.some.injEq] at h; subst h
    exact hr
  | a :: r, ls, us, h, hr => by
    obtain ⟨v, us', rfl, hv, hr⟩ := hr
    unfold qnm at h
    split at h
    · rename_i he; cases he
    · rename_i t l q he
      injection he with h1 h2; subst h1; subst h2
      split at h
      · rename_i ls' hls
        simp only [Option.some.injEq] at h; subst h
        obtain ⟨gh, pl, po, k1, k2, rfl⟩ := hv
        obtain ⟨hpl, hpo⟩ : gh.pl = some pl ∧ po = 0 := by
          rcases k2 with ⟨h1, k2⟩ | ⟨e1, n, ps', i', q, m, q1, q2, q3, q4⟩ | ⟨a1, e1, n, ps', i', q, m, q1, q2, q3, q4⟩
          · refine ⟨h1, ?_⟩
            obtain ⟨sh, pl0⟩ := gh
            cases sh with
            | box t' => simp only [qkh, qya, Option.some.injEq, Prod.mk.injEq] at k2; exact k2.1.symm
            | row e n ps => simp [qkh] at k2
            | cell => simp [qkh] at k2
            | map k v => simp [qkh] at k2
            | chan e cap => simp [qkh] at k2
          · cases q2
          · cases q2
        subst hpo
        exact ⟨_, pl, us', k1, hpl, rfl, qmm hls hr⟩
      · cases h
    · rename_i l q he
      injection he with h1 h2; subst h1; subst h2
      split at h
      · rename_i ls' hls
        simp only [Option.some.injEq] at h; subst h
        obtain ⟨sh, pl, k1, rfl⟩ := hv
        exact ⟨_, pl, us', k1, rfl, rfl, qmm hls hr⟩
      · cases h
    · cases h
theorem qbr (A : At c P GT H lk K w ev ρ nl) {o : Oper} {fn : Fn} {first caps : Array Operand} (ho : o.op = .makeFunc fn first caps) {orc : Option COrc} {out : Out} (h : qfb P GT ev lk nl orc o.type o.op = some out) :
    Does P o ρ w (Lands c H K w nl out) := by
  rw [ho] at h
  cases fn with
  | func f =>
    simp only [qfb] at h
    split at h
    · rename_i vs hfst hvs
      split at h
      · rename_i ls hls
        simp only [Ab.one, Option.some.injEq] at h; subst h
        have hv := qeq A hvs
        have hc := qmm hls hv
        have hf : first = #[] := by apply Array.ext'; simpa using hfst
        subst hf
        have he : caps.map ρ = (caps.toList.map ρ).toArray := by apply Array.ext'; simp
        exact Does.value (v := .func (.func f) #[] (caps.map ρ)) (w' := w) (by simp [execOp, ho, Instr.makeFunc]) (Lands.one A.inv ⟨_, by rw [he], hc⟩)
      · cases h
    · cases h
  | _ => simp [qfb] at h
theorem qKp (A : At c P GT H lk K w ev ρ nl) {o : Oper} {T : TypeId} {m x y : Operand} (ho : o.op = .mapUpdate T m x y) {orc : Option COrc} {out : Out} (h : qfb P GT ev lk nl orc o.type o.op = some out) :
    Does P o ρ w (Lands c H K w nl out) := by
  rw [ho] at h
  simp only [qfb] at h
  split at h
  · rename_i k v l xv yv hT hm hx hy
    obtain ⟨KT, E, hd, tk, tv, hc, hq, hk, hv, hz⟩ := qCj hT
    split at h
    · rename_i u z es hu hz' he
      simp only [Option.some.injEq] at h; subst h
      obtain ⟨cu, ru, pu⟩ := qOq (fun b => NN.low b) hk hu (A.one hx)
      obtain ⟨cz, rz, pz⟩ := qOq (fun b => NN.low b) hv hz' (A.one hy)
      rcases qLu A he (A.one hm) with ⟨e1, _⟩ | ⟨l', p, en, clock, e0, hlk, e1, hK, hb, hM⟩
      · obtain ⟨sh, pl, k1, e2⟩ := A.one hm
        rw [e1] at e2; cases e2
      · injection e0 with e0; subst e0
        have hg : (getObj p.blk).run P w = .ok (.map en clock) w := by simp [getObj, Sem.run, hb]
        have hs : ∀ ob, (setObj p.blk ob).run P w = .ok () { w with heap := w.heap.setIfInBounds p.blk ob } := fun ob => by simp [setObj, Sem.run, hb]
        have hck := qHi (P := P) (w := w) (em := false) tyD 10000 KT k u cu (by decide) tk hc pu
        have hfk := qLn tk hc hq pu hM
        have hmg := qbl (u := u) (i := 0) hM
        have hlt : p.blk < w.heap.size := (A.inv.own l _ _ p (A.sub _ _ hlk) hK (.inl rfl)).1
        have res : ∃ en' clock', (Instr.mapUpdate T (ρ m) (ρ x) (ρ y)).run P w = .ok () { w with heap := w.heap.setIfInBounds p.blk (.map en' clock') } ∧ MRd w (fun _ => False) k v (qUr (peq k) u z es) en'.toList := by
          have hms := qzx (i := 0) hc pu pz (fun e => { e with key := qRa k cu, val := qRa v cz }) { key := qRa k cu, val := qRa v cz, born := clock } (fun e => ⟨rfl, rfl⟩) ⟨rfl, rfl⟩ hM
          simp only [Instr.mapUpdate, e1, Sem.run_bind, run_underlying hd, Result.andThen_ok, hg, ru, hck, hfk]
          cases hi : qSm (peq k) u es 0 with
          | none =>
            rw [hi] at hms
            simp only [hs, rz]
            exact ⟨_, _, rfl, by simpa using hms⟩
          | some j =>
            rw [hi] at hms hmg
            obtain ⟨_, e, z', cv, ck, x', a1, a2, a3, a4, a5, a6, a7, a8⟩ := hmg
            have hkk := qcC hc pu a7 a8
            simp only [Nat.sub_zero] at a1 hms
            have a1' : en[j]? = some e := by simpa using a1
            have hkeep : (Instr.keyThatStays (qRa k ck) (qRa k cu)).run P w = .ok (qRa k cu) w := by
              rw [← hkk]
              simp [Instr.keyThatStays, qdz (n := 9999) hc pu]
            simp only [a1', Option.map_some, Option.getD_some, a6, Sem.run_bind, hkeep, Result.andThen_ok, hs, rz]
            exact ⟨_, _, rfl, by simpa using hms⟩
        obtain ⟨en', clock', r1, r2⟩ := res
        refine Does.skip (w' := { w with heap := w.heap.setIfInBounds p.blk (.map en' clock') }) (by simp [execOp, ho, r1]) ?_
        have S := Stp.write (w' := { w with heap := w.heap.setIfInBounds p.blk (.map en' clock') }) A.inv nl l _ (.map k v (qUr (peq k) u z es)) ⟨.map k v, some p⟩ p (A.sub _ _ hlk) hK (.inl rfl)
          ⟨rfl, rfl, rfl, by simp, fun q hq => by simp [Array.getElem?_setIfInBounds, Ne.symm hq]⟩
          (fun N' K' _ hkk => ⟨rfl, p, en', clock', rfl, by simp [hlt], hk, hv, r2.keep ⟨fun _ h => h.elim⟩⟩)
        exact ⟨K, S, trivial⟩
    · cases h
  · cases h
end
end Go.Ab

/-
  Every operation.
-/
set_option linter.unusedVariables false
set_option linter.unusedSimpArgs false
namespace Go.Ab
open Go
section
variable {c : Cx} {P : Program} {GT : qvf} {H lk : qzb} {K : Kn} {w : World} {ev : Operand → TV} {ρ : Operand → Value} {nl : Nat}
theorem qrz (A : At c P GT H lk K w ev ρ nl) {o : Oper} {orc : Option COrc} {out : Out} (h : qfb P GT ev lk nl orc o.type o.op = some out) (hc : qVe out.conds) :
    Does P o ρ w (Lands c H K w nl out) := by
  cases ho : o.op with
  | move x => exact qvs A (.inl ho) h
  | assign x => exact qvs A (.inr ho) h
  | pick x y z => exact qmy A ho h
  | alloc T => exact qjw A ho h
  | box T x => exact qDz A ho h
  | build T ps => exact qhw A ho h
  | buildSlice T n ps => exact qUo A ho h
  | load T x => exact qny A ho h hc
  | store T x y => exact qcw A ho h
  | binOp op T x y b => exact qiw A ho h hc
  | unOp op T x => exact qly A ho h
  | convert s d x => exact qzs A ho h hc
  | makeInterface T x => exact qpl A ho h
  | extract x i => exact qys A ho h
  | fieldAddr T x i => exact qNp A ho h
  | field T x i => exact qfw A ho h
  | indexAddr T x i => exact qMp A ho h hc
  | index T x i => exact qew A ho h hc
  | slice T x lo hi mx =>
    cases mx with
    | none => exact qdw A ho h hc
    | some m =>
      cases hi with
      | none => rw [ho] at h; simp [qfb] at h
      | some h' => exact qKt A ho h hc
  | nilCheck x => exact qar A ho h
  | makeSlice T x y => exact qLp A ho h hc
  | call cl =>
    obtain ⟨callee, args, ats⟩ := cl
    cases callee with
    | builtin b => exact qAs A ho h hc
    | value f => exact qpy A ho h hc
    | invoke r n => rw [ho] at h; simp [qfb] at h
  | makeFunc fn first caps => exact qbr A ho h
  | makeMap T r => exact qws A ho h
  | makeChan T r => exact qcr A ho h hc
  | lookup T m x ok => exact qLt A ho h
  | mapUpdate T m x y => exact qKp A ho h
  | _ => rw [ho] at h; simp [qfb] at h
end
end Go.Ab

/-
  Regions in the order of their text.
-/
set_option linter.unusedVariables false
set_option linter.unusedSimpArgs false
namespace Go.Ab
open Go
structure Rel (c : Cx) (P : Program) (GT : qvf) (nt : Nat) (T : Nat → TV) (H : qzb) (K : Kn) (a : Act) (w : World) : Prop where
  inv : Inv c H K w
  tmps : ∀ t, TVRd w (NN c H K w) K (T t) (a.eval (.tmp t))
  size : a.tmps.size = nt
  defers : a.defers = c.df
  ng : c.ng ≤ c.w0.heap.size
  gng : c.ng = (ngOf GT)
  glob : Glob P GT w
section
variable {c : Cx} {P : Program} {GT : qvf} {H lk : qzb} {K : Kn} {w : World} {T : Nat → TV} {a : Act} {nl nt : Nat}
theorem qlw {N : Bool → Nat → Prop} {v : Value} : VRd w N K (qRt v) v := by
  unfold qRt
  split <;> simp [VRd]
theorem Rel.evT (R : Rel c P GT nt T H K a w) (x : Operand) : TVRd w (NN c H K w) K (Ab.evT GT T x) (a.eval x) := by
  cases x with
  | tmp t => exact R.tmps t
  | const v => exact qlw
  | global g =>
    show VRd _ _ _ (qQx GT g) _
    unfold qQx
    split
    · rename_i t x hx
      obtain ⟨h1, h2, cs, h3, h4⟩ := R.glob.2.1 g t x hx
      refine ⟨g, 0, cs, rfl, .inr ?_, h3, h4.keep ⟨fun _ h => h.elim⟩⟩
      have hg : g < c.ng := by rw [R.gng]; exact h1
      refine ⟨Nat.lt_of_lt_of_le h1 R.glob.1, ?_, .inr (.inr ⟨rfl, .inr hg⟩)⟩
      rintro ⟨l, o, gh, p, q1, q2, q3, q4⟩
      have := (R.inv.own l o gh p q1 q2 q3).2.2
      omega
    · trivial
  | func f => exact ⟨[], by simp [Act.eval], rfl⟩
theorem Rel.keepT (R : Rel c P GT nt T H K a w) (ts : List Nat) (x : Operand) : TVRd w (NN c H K w) K (Ab.evT GT (Ab.keepT ts T) x) (a.eval x) := by
  cases x with
  | tmp t =>
    show TVRd _ _ _ (Ab.keepT ts T t) _
    unfold Ab.keepT
    split
    · exact R.tmps t
    · trivial
  | const v => exact R.evT (.const v)
  | global g => exact R.evT (.global g)
  | func f => exact R.evT (.func f)
theorem qAm {L : List Nat} : ∀ l o, qWc H L l = some o → H l = some o := by
  intro l o h
  unfold qWc at h
  split at h
  · exact h
  · cases h
theorem Glob.keep {w' : World} (h : Glob P GT w) (hs : (ngOf GT) ≤ w'.heap.size) (hb : ∀ g, g < (ngOf GT) → w'.heap[g]? = w.heap[g]?) : Glob P GT w' := by
  refine ⟨hs, fun g t x hx => ?_, fun g hx => ?_, fun g hx => ?_⟩
  · obtain ⟨h1, h2, cs, h3, h4⟩ := h.2.1 g t x hx
    exact ⟨h1, h2, cs, h3.keep (hb g h1), h4.keep ⟨fun _ h => h.elim⟩⟩
  · obtain ⟨u, ty, k1, k2, k3, k4⟩ := h.2.2.1 g hx
    exact ⟨u, ty, k1, k2, k3, (qei (hb g (h.2.1 g _ _ hx).1)).trans k4⟩
  · obtain ⟨m, k4⟩ := h.2.2.2 g hx
    exact ⟨m, (qei (hb g (h.2.1 g _ _ hx).1)).trans k4⟩
theorem Rel.glob_nn (R : Rel c P GT nt T H K a w) {g : Nat} (h : g < (ngOf GT)) : NN c H K w false g := by
  refine ⟨Nat.lt_of_lt_of_le h R.glob.1, ?_, .inr (.inr ⟨rfl, .inr (by rw [R.gng]; exact h)⟩)⟩
  rintro ⟨l, o, gh, p, q1, q2, q3, q4⟩
  have := (R.inv.own l o gh p q1 q2 q3).2.2
  have := R.gng
  omega
def qtq (T : Nat → TV) : Option Nat → TV → Nat → TV
  | some d, v => fun t => if t = d then v else T t
  | none, _ => T
theorem Rel.put (R : Rel c P GT nt T H K a w) {upd : List (Nat × Option Obj)} {K' : Kn} {w' : World} (S : Stp c H K w upd nl K' w') {dst : Option Nat} {v : TV} {u : Value} (hv : TVRd w' (NN c (qbb H upd) K' w') K' v u) (hd : qdi nt dst = true) :
    Rel c P GT nt (qtq T dst v) (qbb H upd) K' (a.put dst u) w' := by
  have hsz : (ngOf GT) ≤ w'.heap.size := by
    have := S.inv.fr.size
    have := R.ng
    have := R.gng
    omega
  refine ⟨S.inv, fun t => ?_, ?_, ?_, R.ng, R.gng, R.glob.keep hsz (fun g hg => ((S.keep.n false).k g (R.glob_nn hg)).2)⟩
  · cases dst with
    | none => exact (R.tmps t).keep S.keep
    | some d =>
      simp only [qdi, decide_eq_true_eq] at hd
      simp only [qtq]
      split
      · rename_i e
        subst e
        have : (a.put (some t) u).eval (.tmp t) = u := by
          simp [Act.put, Act.eval, R.size, hd]
        rw [this]; exact hv
      · rename_i e
        rw [Act.eval_put (fun d' hd' hx => e (by cases hd'; cases hx; rfl))]
        exact (R.tmps t).keep S.keep
  · cases dst <;> simp [Act.put, R.size]
  · cases dst <;> simp [Act.put, R.defers]
theorem qZq {o : Oper} {R : Value → World → Prop} {next : Act → World → Prop} {Q : Exit → Act → World → Prop} (h : Does P o a.eval w R) (hn : ∀ v w', R v w' → next (a.put o.dst v) w') : o.wp P a w next Q := by
  unfold Does at h
  unfold Oper.wp
  generalize (execOp a.eval o).run P w = r at h ⊢
  cases r with
  | ok n w' =>
    cases n <;> simp only at h
    case value v => exact hn v w' h
    case skip => exact hn _ w' h
    case enter f args =>
      refine Calls.mono h ?_
      rintro e w'' ⟨v, rfl, h2⟩
      exact hn v w'' h2
  | halt x w' => exact h.elim
theorem quj (R : Rel c P GT nt T H K a w) {ops : Array Oper} {o : Oper} {ts : List Nat} {b : Bool} (h : qrv ops.toList (Ab.keepT ts T) o = some b) : Region.wanted o (yielded ops a.tmps) = b := by
  unfold qrv at h
  unfold Region.wanted
  split at h
  · rename_i hg; rw [hg]; simpa using h
  · rename_i j want hg
    rw [hg]
    simp only
    split at h
    · rename_i og hog
      split at h
      · rename_i d hd
        split at h
        · rename_i b' hb
          simp only [Option.some.injEq] at h
          have h1 := R.keepT ts (.tmp d)
          have h2 : Ab.evT GT (Ab.keepT ts T) (.tmp d) = .one (.bool b') := hb
          rw [h2] at h1
          have h3 : a.eval (.tmp d) = .bool b' := h1
          have h4 : a.tmps[d]? = some (.bool b') := by
            simp only [Act.eval, Array.getD_eq_getD_getElem?] at h3
            cases h5 : a.tmps[d]? with
            | none => rw [h5] at h3; cases h3
            | some x => rw [h5] at h3; simpa using h3
          have h6 : ops[j]? = some og := by rw [← Array.getElem?_toList]; exact hog
          have : yielded ops a.tmps j = some b' := by simp [yielded, h6, hd, h4]
          rw [this, ← h]
          cases b' <;> cases want <;> rfl
        · rename_i hb
          simp only [Option.some.injEq] at h
          have h1 := R.keepT ts (.tmp d)
          have h2 : Ab.evT GT (Ab.keepT ts T) (.tmp d) = .one .gone := hb
          rw [h2] at h1
          have h3 : a.eval (.tmp d) = undef := h1
          have h6 : ops[j]? = some og := by rw [← Array.getElem?_toList]; exact hog
          have : yielded ops a.tmps j = none := by
            simp only [yielded, h6, hd, Option.bind_some]
            simp only [Act.eval, Array.getD_eq_getD_getElem?] at h3
            cases h5 : a.tmps[d]? with
            | none => rfl
            | some x => rw [h5] at h3; simp only [Option.getD_some] at h3; subst h3; rfl
          rw [this, ← h]; rfl
        · cases h
      · cases h
    · cases h
theorem qYq (R : Rel c P GT nt T H K a w) {ops : Array Oper} {i : Nat} {o : Oper} {ts : List Nat} {os os' : List Orc} {e : Ev} {cs : List Prop} (h : qcy P GT ops.toList (Ab.keepT ts T) H nl i o os = some (e, cs, os')) (hc : qVe cs) (hd : qdi nt o.dst = true)
    (hf : ∀ l, nl ≤ l → l < nl + 8 → K l = none) {next : Act → World → Prop} {Q : Exit → Act → World → Prop}
    (hn : ∀ a' w' K', Rel c P GT nt (qtq T o.dst e.v) (qbb H e.upd) K' a' w' → (∀ l, K' l = K l ∨ (nl ≤ l ∧ l < nl + 8)) → (∀ l gh, K l = some gh → K' l = some gh) → next a' w') :
    (if Region.wanted o (yielded ops a.tmps) then o.wp P a w next Q ∨ (o.asks P a w ∧ LetsOut Q) else next (a.put o.dst undef) w) := by
  unfold qcy at h
  split at h
  · rename_i hw
    rw [quj R hw]
    simp only [if_true]
    refine .inl ?_
    unfold qUw at h
    split at h
    · rename_i oc os1 hoc
      simp only at h
      split at h
      · rename_i out hout
        split at h
        · rename_i v c2 os2 hdec
          simp only [Option.some.injEq, Prod.mk.injEq] at h
          obtain ⟨rfl, rfl, rfl⟩ := h
          have hc1 : qVe c2 ∧ qVe out.conds := by
            clear hdec hn
            induction c2 with
            | nil => exact ⟨trivial, hc⟩
            | cons x xs ih => exact ⟨⟨hc.1, (ih hc.2).1⟩, (ih hc.2).2⟩
          have A : At c P GT H (qWc H (qJv (Ab.evT GT (Ab.keepT ts T)) o.op ++ qxq oc)) K w (Ab.evT GT (Ab.keepT ts T)) a.eval nl :=
            ⟨R.inv, qAm, fun x => R.keepT ts x, hf, R.ng, R.glob, R.gng⟩
          refine qZq (qrz A hout hc1.2) ?_
          rintro u w' ⟨K', S, hu⟩
          have hv : TVRd w' (NN c (qbb H out.upd) K' w') K' v u := by
            unfold qCk at hdec
            split at hdec
            · split at hdec
              · rename_i b c' os'' hb
                simp only [Option.some.injEq, Prod.mk.injEq] at hdec
                obtain ⟨rfl, rfl, rfl⟩ := hdec
                rw [hb] at hu
                have : b = c' := hc1.1.1
                rw [← this]; exact hu
              · cases hdec
            · simp only [Option.some.injEq, Prod.mk.injEq] at hdec
              obtain ⟨rfl, rfl, rfl⟩ := hdec
              exact hu
          exact hn _ _ K' (R.put S hv hd) S.fresh S.keep.k
        · cases h
      · cases h
    · cases h
  · rename_i hw
    rw [quj R hw]
    simp only [Option.some.injEq, Prod.mk.injEq] at h
    obtain ⟨rfl, rfl, rfl⟩ := h
    simp only [Bool.false_eq_true, if_false]
    exact hn _ _ K (R.put (Stp.refl R.inv nl) rfl hd) (fun _ => .inl rfl) (fun _ _ h => h)
  · cases h
theorem qVn {σ : St} {dst : Option Nat} {e : Ev} : qtq σ.look dst e.v = (σ.put dst e).look := by
  funext t
  cases dst with
  | none => rfl
  | some d =>
    simp only [qtq, St.look, St.put, qvC, lookL]
    by_cases h : t = d
    · subst h; simp
    · rw [if_neg h, if_neg (Ne.symm h)]
theorem qun {σ : St} {dst : Option Nat} {e : Ev} : qbb (qAb σ.heap) e.upd = qAb (σ.put dst e).heap := by
  simp only [St.put, qBo]
theorem qBg : ∀ {a b : List Prop}, qVe (a ++ b) → qVe a ∧ qVe b
  | [], b, h => ⟨trivial, h⟩
  | x :: a, b, h => ⟨⟨h.1, (qBg h.2).1⟩, (qBg h.2).2⟩
structure RelS (c : Cx) (P : Program) (GT : qvf) (nt : Nat) (σ : St) (K : Kn) (a : Act) (w : World) : Prop where
  rel : Rel c P GT nt σ.look (qAb σ.heap) K a w
  fresh : ∀ l, σ.next ≤ l → K l = none
theorem qUp {ops : Array Oper} {Q : Exit → Act → World → Prop} {n0 : Nat} : ∀ (r : List Oper) (i : Nat) (σ σ' : St) (os os' : List Orc) (cs : List Prop) (tr : List (Oper × Ev)) (K : Kn) (a : Act) (w : World),
    qJi P GT nt ops.toList i r σ os = some (σ', cs, os', tr) → qVe cs → ops.toList.drop i = r → i + r.length = ops.size → σ.next = n0 → Rel c P GT nt σ.look (qAb σ.heap) K a w → (∀ l, n0 + 8 * i ≤ l → K l = none) →
    (∀ a' w' K', Rel c P GT nt σ'.look (qAb σ'.heap) K' a' w' → (∀ l, n0 + 8 * ops.size ≤ l → K' l = none) → (∀ l gh, K l = some gh → K' l = some gh) → Q .normal a' w') →
    wpOps P ops Q (List.range' i r.length) a w
  | [], i, σ, σ', os, os', cs, tr, K, a, w, h, hc, hr, hi, hn, R, hf, hQ => by
    simp only [qJi, Option.some.injEq, Prod.mk.injEq] at h
    obtain ⟨rfl, rfl, rfl, rfl⟩ := h
    simp only [List.length_nil] at hi
    exact hQ a w K R (fun l hl => hf l (by omega)) (fun _ _ h => h)
  | o :: r, i, σ, σ', os, os', cs, tr, K, a, w, h, hc, hr, hi, hn, R, hf, hQ => by
    simp only [qJi] at h
    split at h
    · rename_i e c1 os1 hev
      split at h
      · rename_i hd
        split at h
        · rename_i σ2 c2 os2 tr2 hrest
          simp only [Option.some.injEq, Prod.mk.injEq] at h
          obtain ⟨rfl, rfl, rfl, rfl⟩ := h
          obtain ⟨hc1, hc2⟩ := qBg hc
          have hoi : ops[i]? = some o := by
            rw [← Array.getElem?_toList, ← List.head?_drop, hr]; rfl
          have hr2 : ops.toList.drop (i + 1) = r := by
            rw [← List.tail_drop, hr]; rfl
          rw [List.length_cons, List.range'_succ, wpOps_cons]
          unfold wpOp
          rw [hoi]
          refine qYq R hev hc1 hd (fun l h1 h2 => hf l (by omega)) ?_
          intro a' w' K' R' hk hm
          rw [qVn, qun (dst := o.dst)] at R'
          refine qUp r (i + 1) (σ.put o.dst e) _ os1 _ c2 tr2 K' a' w' hrest hc2 hr2 (by simp only [List.length_cons] at hi; omega) hn R' (fun l hl => ?_) (fun a'' w'' K'' R'' h1 h2 => hQ a'' w'' K'' R'' h1 (fun l gh hl => h2 l gh (hm l gh hl)))
          rcases hk l with h1 | h1
          · rw [h1]; exact hf l (by omega)
          · omega
        · cases h
      · cases h
    · cases h
end
end Go.Ab
