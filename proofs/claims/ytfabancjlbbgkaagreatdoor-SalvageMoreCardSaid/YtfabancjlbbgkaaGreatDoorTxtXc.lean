/-
  An abstract machine over the model's code and its soundness; what the functions compute, as plain functions (printed by a program of this repo's own, checked here by the kernel); plain laws of them: part 3. Helper text, no statement of the claim stands here.
-/
import Derived.Test.YtfabancjlbbgkaaGreatDoorTxtXb
import Derived.WalkKit
import Derived.ProofKit
import Derived.OpenShut
import Derived.ShutString
import Derived.ChangeOld
import Derived.Below
import Derived.SizedLaws
import Derived.LaidMore
import Derived.RangeFuncFrom
import Derived.RangeFuncLeaves
import Derived.RangeFuncCalls
import Derived.OrdersIn
import Derived.Shelf.Vars
/-
  What a function computes, as a plain function: the machine's own runs, with what is open left open.
-/
set_option linter.unusedVariables false
set_option linter.unusedSimpArgs false
namespace Go.Ab
open Go
structure Summ (P : Program) (GT : qEh) where
  f : Nat
  acc : List AV → Bool
  rows : Bool
  nils : Bool
  R : Type
  fn : List AV → List (Nat × Obj) → Option R
  res : R → TV
  post : R → List (Nat × Obj)
  drop : Bool := false
  ok : ∀ as pre r, fn as pre = some r → CallOK P GT f as pre (res r) (post r)
@[reducible] def Summ.dropping {P : Program} {GT : qEh} (S : Summ P GT) : Summ P GT := { S with drop := true }
def qnK {P : Program} {GT : qEh} (f : Nat) (vs : List AV) : List (Summ P GT) → Option (Summ P GT)
  | [] => none
  | S :: r => if S.f == f && S.acc vs then some S else qnK f vs r
theorem quI {P : Program} {GT : qEh} {f : Nat} {vs : List AV} : ∀ {tab : List (Summ P GT)} {S : Summ P GT}, qnK f vs tab = some S → S.f = f
  | [], S, h => by cases h
  | T :: r, S, h => by
    simp only [qnK] at h
    split at h
    · rename_i hc
      simp only [Option.some.injEq] at h; subst h
      simp only [Bool.and_eq_true, beq_iff_eq] at hc; exact hc.1
    · exact quI h
inductive Tr : Type 1
  | bit (b : Bool) (t e : Tr)
  | safe (p : Prop) (t : Tr)
  | call (R : Type) (v : Option R) (k : R → Tr)
  | any (R : Type) (p : R → Prop) (k : R → Tr)
  | leaf (s : Pos)
  | ret (s : Pos)
  | dead
@[reducible] noncomputable def gd {R : Type} (p : Prop) (x : Option R) : Option R := @ite _ p (Classical.propDecidable p) x none
theorem qga {R : Type} {p : Prop} (h : p) (x : Option R) : gd p x = x := if_pos h
theorem qLh {R : Type} {p : Prop} {x : Option R} {r : R} (h : gd p x = some r) : p ∧ x = some r := by
  unfold gd at h
  split at h
  · exact ⟨by assumption, h⟩
  · cases h
open Classical in
noncomputable def qvF {X R : Type} (p : X → Prop) (f : X → Option R) : Option R :=
  if h : (∃ x, p x) ∧ ∃ r, ∀ x, p x → f x = some r then some (Classical.choose h.2) else none
theorem qZk {X R : Type} {p : X → Prop} {f : X → Option R} {r : R} (h : qvF p f = some r) : ∀ x, p x → f x = some r := by
  unfold qvF at h
  split at h
  · rename_i hh
    simp only [Option.some.injEq] at h
    exact h ▸ Classical.choose_spec hh.2
  · cases h
theorem quF {X R : Type} {p : X → Prop} {f : X → Option R} {r : R} (x : X) (hx : p x) (h : ∀ x, p x → f x = some r) : qvF p f = some r := by
  have hh : (∃ x, p x) ∧ ∃ r, ∀ x, p x → f x = some r := ⟨⟨x, hx⟩, r, h⟩
  unfold qvF
  rw [dif_pos hh]
  have := Classical.choose_spec hh.2 x hx
  rw [h x hx] at this
  exact this.symm
theorem qRJ {X R : Type} {p : X → Prop} {f : X → Option R} {r : R} (h : qvF p f = some r) : ∃ x, p x := by
  unfold qvF at h
  split at h
  · rename_i hh; exact hh.1
  · cases h
noncomputable def den {R : Type} (lf fin : Pos → Option R) : Tr → Option R
  | .bit b t e => if b = true then den lf fin t else den lf fin e
  | .safe p t => gd p (den lf fin t)
  | .call _ v k => v.bind fun r => den lf fin (k r)
  | .any _ p k => qvF p fun x => den lf fin (k x)
  | .leaf s => lf s
  | .ret s => fin s
  | .dead => none
def qCK (rows : Bool) : AV → List Nat
  | .ptr _ l _ => [l]
  | .ifp _ _ l _ => [l]
  | .cptr l => [l]
  | .func _ caps => caps
  | .mapr l => [l]
  | .ref _ l _ _ _ => if rows then [l] else []
  | .bref _ l _ _ _ _ => if rows then [l] else []
  | .agg t x => if rows then qRt t x else []
  | _ => []
def qIN (rows : Bool) : Obj → List Nat
  | .box t x => if rows then qRt t x else []
  | .cell v => qCK rows v
  | _ => []
def qlv (lk : qnc) (rows : Bool) : Nat → List Nat → List Nat → List Nat
  | 0, _, acc => acc
  | _, [], acc => acc
  | n + 1, l :: q, acc => if acc.contains l then qlv lk rows n q acc else qlv lk rows n (q ++ (match lk l with
    | some o => qIN rows o
    | none => [])) (acc ++ [l])
def qcN : Nat → List Nat → List (Nat × Nat)
  | _, [] => []
  | n, l :: r => (n, l) :: qcN (n + 1) r
def qHJ : List Prop → Tr → Tr
  | [], t => t
  | p :: r, t => .safe p (qHJ r t)
def qPw (g : Bool) (v : TV) (k : TV → Tr) : Tr :=
  if g then match v with
    | .one (.bool b) => .bit b (k (.one (.bool true))) (k (.one (.bool false)))
    | _ => .dead
  else k v
section
variable (P : Program) (GT : qEh) (nt : Nat) (mnz : List Nat) (tab : List (Summ P GT))
def qfN (H : qnc) (nl : Nat) (ev : Operand → TV) (op : Op) (k : Out → List Nat → Tr) : Tr :=
  match op with
  | .call { callee := .value f, args, argTypes := _ } => match ev1 ev f, evs ev args.toList with
    | some (.func f caps), some vs0 => match qpr (qZc H (qxE ev op)) caps with
      | some cs => match qnK f (vs0 ++ cs) tab with
        | some S =>
          let locs := qlv H S.rows 60 ((vs0 ++ cs).flatMap (qCK S.rows)) []
          let ren := qcN 0 locs
          let use := (vs0 ++ cs).flatMap qfk ++ locs.flatMap fun l => match H l with
            | some o => qcy o
            | none => []
          let L := qxE ev op ++ (ren.map (·.2) ++ use)
          match qse (qZc H L) ren true (vs0 ++ cs), qLc (qZc H L) ren true ren with
          | some pv, some hl => match qIr hl with
            | some pre => .call S.R (S.fn ((if S.nils then pv else qEv P (qqj P f) pv)) pre) fun r =>
              match qcx P GT (qZc H L) nl f (vs0 ++ cs) ⟨(if S.nils then pv else qEv P (qqj P f) pv), pre, ren, use, S.res r, S.post r, S.drop⟩ with
              | some out => k out L
              | none => .dead
            | none => .dead
          | _, _ => .dead
        | none => .dead
      | none => .dead
    | _, _ => .dead
  | _ => .dead
def opT (ops : List Oper) (T : Nat → TV) (H : qnc) (nl i : Nat) (o : Oper) (k : Ev → Tr) : Tr :=
  match qNH ops T o with
  | some false => k ⟨.one .gone, [], []⟩
  | none => .dead
  | some true =>
    if quL o.op then qfN P GT tab H nl (evT GT T) o.op fun out L => qPw (qkG ops i) out.v fun v => k ⟨v, out.upd, L⟩
    else match qob P GT (evT GT T) (qZc H (qxE (evT GT T) o.op)) nl none o.type o.op with
      | some out => qHJ out.conds (qPw (qkG ops i) out.v fun v => k ⟨v, out.upd, qxE (evT GT T) o.op⟩)
      | none => .dead
def opN (draw : Bool) (ops : List Oper) (T : Nat → TV) (H : qnc) (nl i : Nat) (o : Oper) (k : Ev → Tr) : Tr :=
  match (if draw then none else match qNH ops T o with
    | some true => qSJ P mnz (evT GT T) nl o.op
    | _ => none) with
  | some a => qHJ a.pre (.any a.R a.p fun x => qPw (qkG ops i) (a.out x).v fun v => k ⟨v, (a.out x).upd, []⟩)
  | none => opT P GT tab ops T H nl i o k
def quK (draw : Bool) (ops : List Oper) : Nat → List Oper → St → (St → List (Oper × Ev) → Tr) → Tr
  | _, [], σ, k => k σ []
  | i, o :: r, σ, k => opN P GT mnz tab draw ops (keepT (o.looksAt ops.toArray) σ.look) (qBb σ.heap) (σ.next + 8 * i) i o fun e =>
    if qZA nt o.dst then quK draw ops (i + 1) r (σ.put o.dst e) fun σ' tr => k σ' ((o, e) :: tr) else .dead
def qsm (ops : List Oper) (draw : Bool) (σ : St) (k : St → Tr) : Tr :=
  quK P GT nt mnz tab draw ops 0 ops σ fun σ' tr => if !draw || qxG ops tr then k { σ' with next := σ.next + 8 * ops.length } else .dead
def qgK (s : Pos) (k : Pos → Tr) : Tr :=
  match s.todo with
  | .code .skip :: q | .code (.label _) :: q | .inBlock _ :: q | .inScope _ :: q => k ⟨q, s.st⟩
  | .code (.scope body) :: q => k ⟨.code body :: .inScope body :: q, s.st⟩
  | .code (.seq a b) :: q => k ⟨.code a :: .code b :: q, s.st⟩
  | .code (.cond c x y) :: q => match evO GT s.st c with
    | .one (.bool b) => .bit b (k ⟨.code x :: q, s.st⟩) (k ⟨.code y :: q, s.st⟩)
    | _ => .dead
  | .code (.block id body) :: q => k ⟨.code body :: .inBlock id :: q, s.st⟩
  | .code (.loop body) :: q | .inLoop body :: q => k ⟨.code body :: .inLoop body :: q, s.st⟩
  | .code (.exit id) :: q => match exitTo id q with
    | some q' => k ⟨q', s.st⟩
    | none => .dead
  | .code (.goto l) :: q => match gotoIn l q with
    | some q' => k ⟨q', s.st⟩
    | none => .dead
  | .code (.region _ ops draw) :: q => qsm P GT nt mnz tab ops.toList draw s.st fun σ => k ⟨q, σ⟩
  | _ => .dead
structure Cut where
  key : Nat × Nat
  ts : List Nat
  lo : Bool
  pre : Bool := false
  fams : List Nat := []
def qjt : Code → Option Nat
  | .region id _ _ => some id
  | .seq a b => match qjt a with
    | some i => some i
    | none => qjt b
  | .cond _ a b => match qjt a with
    | some i => some i
    | none => qjt b
  | .block _ b => qjt b
  | .loop b => qjt b
  | .scope b => qjt b
  | _ => none
def qGN (todo : List Item) : Nat × Nat :=
  match todo with
  | .code c :: q => match qjt c with
    | some i => (i, q.length)
    | none => (0, 0)
  | _ => (0, 0)
def qRE (key : Nat × Nat) : List Cut → Option Cut
  | [] => none
  | c :: r => if c.key.1 == key.1 && c.key.2 == key.2 then some c else qRE key r
def keepSt (σ : St) (ts : List Nat) (lo pre : Bool) : Option St :=
  let lk := qBb σ.heap
  let locs := qlv lk true 60 ((if pre then (List.range 8).filter fun l => (lk l).isSome else []) ++ ts.flatMap fun t => qbo (σ.look t)) []
  let ren := (locs.filter (· < 8)).map (fun l => (l, l)) ++ qcN 8 (locs.filter fun l => !(l < 8))
  σ.keep ts ren (8 + locs.length) lo
def qWM : Option Obj → Option Obj
  | some (.row (.slice e) fr []) => if e.flat then some (.fam e []) else some (.row (.slice e) fr [])
  | o => o
def qFK (ns : List Nat) : List (Nat × Option Obj) → List (Nat × Option Obj)
  | [] => []
  | p :: r => (if ns.contains p.1 then (p.1, qWM p.2) else p) :: qFK ns r
def qXL (σ : St) (ns : List Nat) : St := match ns with
  | [] => σ
  | ns => { σ with heap := qFK ns σ.heap }
def quN (c : Cut) (s : Pos) : Tr :=
  match keepSt s.st c.ts c.lo c.pre with
  | some σ => .leaf ⟨s.todo, qXL σ c.fams⟩
  | none => .dead
def qTI (todo : List Item) : Option (List Item) :=
  match todo with
  | .code (.loop body) :: q | .inLoop body :: q => some (.code body :: .inLoop body :: q)
  | .code (.goto l) :: q => gotoIn l q
  | _ => none
def qGG (cuts : List Cut) : Nat → Bool → Pos → Tr
  | 0, _, _ => .dead
  | n + 1, first, s =>
    match qkH s.todo with
    | true => .ret s
    | false => match qTI s.todo with
      | some todo' => match qRE (qGN todo') cuts with
        | some c => quN c ⟨todo', s.st⟩
        | none => qGG cuts n false ⟨todo', s.st⟩
      | none => match first, s.todo with
        | false, .code (.region id _ _) :: q => match qRE (id, q.length) cuts with
          | some c => quN c s
          | none => qgK P GT nt mnz tab s (qGG cuts n false)
        | _, _ => qgK P GT nt mnz tab s (qGG cuts n false)
end
structure FnI (P : Program) (GT : qEh) where
  f : Nat
  cuts : List Cut
  tab : List (Summ P GT)
  fm : Fm
  mnz : List Nat := []
  mnzOk : ∀ f ∈ mnz, qWy P f := by intro f h; cases h
section
variable {P : Program} {GT : qEh} (I : FnI P GT)
noncomputable def FnI.go (s : Pos) (lf : Pos → Option I.fm.R) : Option I.fm.R :=
  den lf (I.fm.fin P (qKL P I.f)) (qGG P GT (qTf P I.f) I.mnz I.tab I.cuts 3000 true s)
inductive FnI.SemR (r : I.fm.R) : Pos → Prop
  | mk (s : Pos) (lf : Pos → Option I.fm.R) (h : I.go s lf = some r) (hl : ∀ s', lf s' = some r → SemR r s') : SemR r s
open Classical in
noncomputable def FnI.sem (s : Pos) : Option I.fm.R :=
  if h : ∃ r, I.SemR r s then some (Classical.choose h) else none
end
def Lfs {R : Type} (lf fin : Pos → Option R) (r : R) : Tr → Pos → Prop
  | .bit b t e, s => if b = true then Lfs lf fin r t s else Lfs lf fin r e s
  | .safe _ t, s => Lfs lf fin r t s
  | .call R' v k, s => ∃ x, v = some x ∧ Lfs lf fin r (k x) s
  | .any R' p k, s => ∃ x, p x ∧ Lfs lf fin r (k x) s
  | .leaf s', s => s' = s
  | .ret _, _ => False
  | .dead, _ => False
theorem qVn {R : Type} {lf fin : Pos → Option R} {r : R} : ∀ {t : Tr}, den lf fin t = some r → ∀ s, Lfs lf fin r t s → lf s = some r
  | .bit b t e, h, s, hs => by
    simp only [den] at h
    simp only [Lfs] at hs
    split at h
    · rename_i hb; rw [if_pos hb] at hs; exact qVn h s hs
    · rename_i hb; rw [if_neg hb] at hs; exact qVn h s hs
  | .safe p t, h, s, hs => qVn (qLh h).2 s hs
  | .call R' v k, h, s, ⟨x, hx, hs⟩ => by
    simp only [den, hx, Option.bind_some] at h
    exact qVn h s hs
  | .any R' p k, h, s, ⟨x, hx, hs⟩ => qVn (qZk h x hx) s hs
  | .leaf s', h, s, hs => by subst hs; exact h
  | .ret _, h, s, hs => hs.elim
  | .dead, h, s, hs => hs.elim
theorem qsz {R : Type} {lf lf' fin : Pos → Option R} {r : R} : ∀ {t : Tr}, den lf fin t = some r → (∀ s, Lfs lf fin r t s → lf' s = some r) → den lf' fin t = some r
  | .bit b t e, h, hs => by
    simp only [den] at h ⊢
    split at h
    · rename_i hb
      rw [if_pos hb]
      exact qsz h (fun s q => hs s (by simp only [Lfs]; rw [if_pos hb]; exact q))
    · rename_i hb
      rw [if_neg hb]
      exact qsz h (fun s q => hs s (by simp only [Lfs]; rw [if_neg hb]; exact q))
  | .safe p t, h, hs => by
    obtain ⟨hp, h⟩ := qLh h
    simp only [den]
    rw [qga hp]
    exact qsz h hs
  | .call R' v k, h, hs => by
    simp only [den, Option.bind_eq_some_iff] at h ⊢
    obtain ⟨x, hx, h⟩ := h
    exact ⟨x, hx, qsz h (fun s q => hs s ⟨x, hx, q⟩)⟩
  | .any R' p k, h, hs => by
    simp only [den] at h ⊢
    obtain ⟨x, hx⟩ := qRJ h
    exact quF x hx (fun y hy => qsz (qZk h y hy) (fun s q => hs s ⟨y, hy, q⟩))
  | .leaf s', h, hs => hs s' rfl
  | .ret _, h, hs => h
  | .dead, h, hs => by cases h
theorem qxs {R : Type} {lf lf' fin : Pos → Option R} {r r' : R} : ∀ {t : Tr}, den lf fin t = some r → den lf' fin t = some r' → r = r' ∨ ∃ s, lf s = some r ∧ lf' s = some r'
  | .bit b t e, h, h' => by
    simp only [den] at h h'
    split at h
    · rename_i hb; rw [if_pos hb] at h'; exact qxs h h'
    · rename_i hb; rw [if_neg hb] at h'; exact qxs h h'
  | .safe p t, h, h' => qxs (qLh h).2 (qLh h').2
  | .call R' v k, h, h' => by
    simp only [den, Option.bind_eq_some_iff] at h h'
    obtain ⟨x, hx, h⟩ := h
    obtain ⟨x', hx', h'⟩ := h'
    rw [hx] at hx'
    simp only [Option.some.injEq] at hx'
    subst hx'
    exact qxs h h'
  | .any R' p k, h, h' => by
    simp only [den] at h h'
    obtain ⟨x, hx⟩ := qRJ h
    exact qxs (qZk h x hx) (qZk h' x hx)
  | .leaf s', h, h' => .inr ⟨s', h, h'⟩
  | .ret _, h, h' => by
    simp only [den] at h h'
    rw [h] at h'
    exact .inl (by simpa using h')
  | .dead, h, h' => by cases h
section
variable {P : Program} {GT : qEh} {I : FnI P GT}
theorem FnI.SemR.det {r r' : I.fm.R} {s : Pos} (h : I.SemR r s) : I.SemR r' s → r = r' := by
  induction h with
  | mk s lf h hl ih =>
    rintro ⟨_, lf', h', hl'⟩
    rcases qxs h h' with e | ⟨s', h1, h2⟩
    · exact e
    · exact ih s' h1 (hl' s' h2)
theorem FnI.sem_iff {s : Pos} {r : I.fm.R} : I.sem s = some r ↔ I.SemR r s := by
  unfold FnI.sem
  constructor
  · intro h
    split at h
    · rename_i he
      simp only [Option.some.injEq] at h
      exact h ▸ Classical.choose_spec he
    · cases h
  · intro h
    have he : ∃ r, I.SemR r s := ⟨r, h⟩
    rw [dif_pos he]
    exact congrArg some ((Classical.choose_spec he).det h)
theorem FnI.sem_eq (s : Pos) : I.sem s = I.go s I.sem := by
  have key : ∀ r, I.sem s = some r ↔ I.go s I.sem = some r := by
    intro r
    constructor
    · intro h
      obtain ⟨_, lf, h, hl⟩ := FnI.sem_iff.1 h
      exact qsz h (fun s' hs => FnI.sem_iff.2 (hl s' (qVn h s' hs)))
    · intro h
      exact FnI.sem_iff.2 ⟨s, I.sem, h, fun s' hs => FnI.sem_iff.1 hs⟩
  cases h : I.go s I.sem with
  | some r => exact (key r).2 h
  | none =>
    cases h' : I.sem s with
    | none => rfl
    | some r => rw [(key r).1 h'] at h; cases h
variable {nt : Nat} {mnz : List Nat} {tab : List (Summ P GT)} {R : Type} {lf fin : Pos → Option R} {r : R}
theorem qPj : ∀ {a b : List Prop}, qFh a → qFh b → qFh (a ++ b)
  | [], _, _, h => h
  | _ :: _, _, h, h' => ⟨h.1, qPj h.2 h'⟩
theorem qwu : ∀ {cs : List Prop} {t : Tr}, den lf fin (qHJ cs t) = some r → qFh cs ∧ den lf fin t = some r
  | [], _, h => ⟨trivial, h⟩
  | p :: q, t, h => by
    simp only [qHJ, den] at h
    obtain ⟨hp, h⟩ := qLh h
    obtain ⟨h1, h2⟩ := qwu h
    exact ⟨⟨hp, h1⟩, h2⟩
theorem qXn {g : Bool} {v : TV} {k : TV → Tr} (h : den lf fin (qPw g v k) = some r) :
    ∃ v' c os, (∀ rest, qzl g v (os ++ rest) = some (v', c, rest)) ∧ qFh c ∧ den lf fin (k v') = some r := by
  unfold qPw at h
  split at h
  · rename_i hg
    split at h
    · rename_i b
      simp only [den] at h
      split at h
      · rename_i hb
        exact ⟨.one (.bool true), [b = true], [.bit true], fun rest => by simp [qzl, hg], ⟨hb, trivial⟩, h⟩
      · rename_i hb
        simp only [Bool.not_eq_true] at hb
        exact ⟨.one (.bool false), [b = false], [.bit false], fun rest => by simp [qzl, hg], ⟨hb, trivial⟩, h⟩
    · cases h
  · rename_i hg
    exact ⟨v, [], [], fun rest => by simp [qzl, hg], trivial, h⟩
theorem qXp {lk lk' : qnc} (hs : ∀ l o, lk l = some o → lk' l = some o) : ∀ {ls : List Nat} {cs : List AV}, qpr lk ls = some cs → qpr lk' ls = some cs
  | [], cs, h => h
  | l :: q, cs, h => by
    simp only [qpr] at h ⊢
    split at h
    · rename_i h1 h2
      rw [hs _ _ h1, qXp hs h2]; exact h
    · rename_i h1 h2
      rw [hs _ _ h1, qXp hs h2]; exact h
    · cases h
theorem qFI {ops : List Oper} {T : Nat → TV} {H : qnc} {nl i : Nat} {o : Oper} {k : Ev → Tr} (h : den lf fin (opT P GT tab ops T H nl i o k) = some r) :
    ∃ e c os, (∀ rest, qKH P GT ops T H nl i o (os ++ rest) = some (e, c, rest)) ∧ qFh c ∧ den lf fin (k e) = some r := by
  unfold opT at h
  split at h
  · rename_i hw
    exact ⟨_, [], [], fun rest => by simp [qKH, hw], trivial, h⟩
  · cases h
  · rename_i hw
    split at h
    · rename_i hcall
      unfold qfN at h
      split at h
      · rename_i f args ats hop
        split at h
        · rename_i f caps vs0 hf hvs
          split at h
          · rename_i cs hcs
            split at h
            · rename_i S hS
              simp only at h
              split at h
              · rename_i pv hl hpv hhl
                split at h
                · rename_i pre hpre
                  simp only [den, Option.bind_eq_some_iff] at h
                  obtain ⟨x, hx, h⟩ := h
                  split at h
                  · rename_i out hout
                    obtain ⟨v', c, os, h1, h2, h3⟩ := qXn h
                    let oc : COrc := ⟨(if S.nils then pv else qEv P (qqj P f) pv), pre, qcN 0 (qlv H S.rows 60 ((vs0 ++ cs).flatMap (qCK S.rows)) []), ((vs0 ++ cs).flatMap qfk ++ (qlv H S.rows 60 ((vs0 ++ cs).flatMap (qCK S.rows)) []).flatMap fun l => match H l with
                      | some o => qcy o
                      | none => []), S.res x, S.post x, S.drop⟩
                    refine ⟨_, c ++ out.conds, .call oc :: os, fun rest => ?_, qPj h2 ?_, h3⟩
                    · simp only [qKH, hw, qPG, List.cons_append]
                      have ht : qku o.op (.call oc :: (os ++ rest)) = some (some oc, os ++ rest) := by
                        simp only [qku, hcall, if_true]
                      rw [ht]
                      simp only [qyv, hop, qob, hf, hvs]
                      rw [qXp (fun l ob hlo => ?_) hcs]
                      · simp only
                        rw [hop] at hout
                        rw [hout]
                        simp only [h1]
                        rfl
                      · rw [hop] at hlo
                        unfold qZc at hlo ⊢
                        split at hlo
                        · rename_i hm
                          simp only [List.contains_eq_mem, List.mem_append, decide_eq_true_eq] at hm ⊢
                          rw [if_pos (.inl hm)]; exact hlo
                        · cases hlo
                    · have hA : ∀ as, (if S.nils then pv else qEv P (qqj P f) pv) = as → as = qEv P (qqj P f) pv ∨ as = pv := by
                        rintro as rfl
                        cases S.nils
                        · exact .inl rfl
                        · exact .inr rfl
                      unfold qcx at hout
                      simp only at hout
                      generalize hAs : (if S.nils then pv else qEv P (qqj P f) pv) = as at hout hx
                      rw [hpv, hhl] at hout
                      simp only at hout
                      split at hout
                      · injection hout with hout; subst hout
                        refine ⟨hA _ hAs, qPs hpre, ?_, trivial⟩
                        have := S.ok _ _ _ hx
                        rwa [quI hS] at this
                      · cases hout
                  · cases h
                · cases h
              · cases h
            · cases h
          · cases h
        · cases h
      · cases h
    · rename_i hcall
      split at h
      · rename_i out hout
        obtain ⟨h0, h⟩ := qwu h
        obtain ⟨v', c, os, h1, h2, h3⟩ := qXn h
        refine ⟨_, c ++ out.conds, os, fun rest => ?_, qPj h2 h0, h3⟩
        simp only [Bool.not_eq_true] at hcall
        simp only [qKH, hw, qPG, qku, hcall, qyv, List.append_nil, Bool.false_eq_true, if_false]
        rw [hout]
        simp only [h1]
      · cases h
theorem qvK {ops : List Oper} {T : Nat → TV} {H : qnc} {nl i : Nat} {o : Oper} {k : Ev → Tr} : opN P GT mnz tab true ops T H nl i o k = opT P GT tab ops T H nl i o k := rfl
theorem qDI {ops : List Oper} : ∀ {q : List Oper} {i : Nat} {σ : St} {k : St → List (Oper × Ev) → Tr}, den lf fin (quK P GT nt mnz tab true ops i q σ k) = some r →
    ∃ σ' c os tr, (∀ rest, qrm P GT nt ops i q σ (os ++ rest) = some (σ', c, rest, tr)) ∧ qFh c ∧ den lf fin (k σ' tr) = some r
  | [], i, σ, k, h => ⟨σ, [], [], [], fun rest => rfl, trivial, h⟩
  | o :: q, i, σ, k, h => by
    simp only [quK, qvK] at h
    obtain ⟨e, c, os, h1, h2, h3⟩ := qFI h
    split at h3
    · rename_i hd
      obtain ⟨σ', c', os', tr, g1, g2, g3⟩ := qDI h3
      refine ⟨σ', c ++ c', os ++ os', _, fun rest => ?_, qPj h2 g2, g3⟩
      rw [List.append_assoc]
      simp only [qrm, h1, hd, if_true, g1]
    · cases h3
theorem qXG {ops : List Oper} {σ : St} {k : St → Tr} (h : den lf fin (qsm P GT nt mnz tab ops true σ k) = some r) :
    ∃ σ' c os, (∀ rest, qqm P GT nt ops true σ (os ++ rest) = some (σ', c, rest)) ∧ qFh c ∧ den lf fin (k σ') = some r := by
  unfold qsm at h
  obtain ⟨σ', c, os, tr, h1, h2, h3⟩ := qDI h
  split at h3
  · rename_i hd
    refine ⟨_, c, os, fun rest => ?_, h2, h3⟩
    simp only [qqm, h1, hd, if_true]
  · cases h3
theorem qKM (hm : ∀ f ∈ mnz, qWy P f) {c : Cx} {T : Nat → TV} {H : qnc} {K : Kn} {a : Act} {w : World} {nl : Nat} (R0 : Rel c P GT nt T H K a w) {ops : Array Oper} {i : Nat} {o : Oper} {ts : List Nat} {k : Ev → Tr}
    (h : den lf fin (opN P GT mnz tab false ops.toList (Ab.keepT ts T) H nl i o k) = some r) (hdk : ∀ e, den lf fin (k e) = some r → qZA nt o.dst = true)
    (hf : ∀ l, nl ≤ l → l < nl + 8 → K l = none) {next : Act → World → Prop} {Q : Exit → Act → World → Prop}
    (hn : ∀ e a' w' K', den lf fin (k e) = some r → Rel c P GT nt (qSF T o.dst e.v) (qec H e.upd) K' a' w' → (∀ l, K' l = K l ∨ (nl ≤ l ∧ l < nl + 8)) → (∀ l gh, K l = some gh → K' l = some gh) → next a' w') :
    (if Region.wanted o (yielded ops a.tmps) then o.wp P a w next Q ∨ (o.asks P a w ∧ LetsOut Q) else next (a.put o.dst undef) w) := by
  unfold opN at h
  split at h
  · rename_i y hy
    simp only [Bool.false_eq_true, if_false] at hy
    split at hy
    · rename_i hw
      rw [qGn R0 hw]
      simp only [if_true]
      refine .inl ?_
      obtain ⟨h0, h⟩ := qwu h
      simp only [den] at h
      have A : At c P GT H (qZc H []) K w (Ab.evT GT (Ab.keepT ts T)) a.eval nl :=
        ⟨R0.inv, qij, fun x => R0.keepT ts x, hf, R0.ng, R0.glob, R0.gng⟩
      refine qwJ (qzD A hm hy h0) ?_
      rintro u w' ⟨x, hx, K', S, hu⟩
      obtain ⟨v', c', os, h1, h2, h3⟩ := qXn (qZk h x hx)
      have hv : TVRd w' (NN c (qec H (y.out x).upd) K' w') K' v' u := by
        have hdec := h1 []
        unfold qzl at hdec
        split at hdec
        · split at hdec
          · rename_i b c'' os'' hb hos
            simp only [Option.some.injEq, Prod.mk.injEq] at hdec
            obtain ⟨rfl, rfl, _⟩ := hdec
            rw [hb] at hu
            have : b = c'' := h2.1
            rw [← this]; exact hu
          · cases hdec
        · simp only [Option.some.injEq, Prod.mk.injEq] at hdec
          obtain ⟨rfl, rfl, _⟩ := hdec
          exact hu
      exact hn _ _ _ K' h3 (R0.put S hv (hdk _ h3)) S.fresh S.keep.k
    · cases hy
  · obtain ⟨e, c', os, h1, h2, h3⟩ := qFI h
    exact qZE R0 (h1 []) h2 (hdk e h3) hf (fun a' w' K' R' q1 q2 => hn e a' w' K' h3 R' q1 q2)
theorem qCI (hm : ∀ f ∈ mnz, qWy P f) {c : Cx} {ops : Array Oper} {Q : Exit → Act → World → Prop} {n0 : Nat} : ∀ (q : List Oper) (i : Nat) (σ : St) (k : St → List (Oper × Ev) → Tr) (K : Kn) (a : Act) (w : World),
    den lf fin (quK P GT nt mnz tab false ops.toList i q σ k) = some r → ops.toList.drop i = q → i + q.length = ops.size → σ.next = n0 → Rel c P GT nt σ.look (qBb σ.heap) K a w → (∀ l, n0 + 8 * i ≤ l → K l = none) →
    (∀ σ' tr a' w' K', den lf fin (k σ' tr) = some r → σ'.next = n0 → Rel c P GT nt σ'.look (qBb σ'.heap) K' a' w' → (∀ l, n0 + 8 * ops.size ≤ l → K' l = none) → (∀ l gh, K l = some gh → K' l = some gh) → Q .normal a' w') →
    wpOps P ops Q (List.range' i q.length) a w
  | [], i, σ, k, K, a, w, h, hr, hi, hn, R0, hf, hQ => by
    simp only [List.length_nil] at hi
    exact hQ σ [] a w K h hn R0 (fun l hl => hf l (by omega)) (fun _ _ h => h)
  | o :: q, i, σ, k, K, a, w, h, hr, hi, hn, R0, hf, hQ => by
    simp only [quK] at h
    have hoi : ops[i]? = some o := by
      rw [← Array.getElem?_toList, ← List.head?_drop, hr]; rfl
    have hr2 : ops.toList.drop (i + 1) = q := by
      rw [← List.tail_drop, hr]; rfl
    rw [List.length_cons, List.range'_succ, wpOps_cons]
    unfold wpOp
    rw [hoi]
    refine qKM hm R0 h (fun e he => ?_) (fun l h1 h2 => hf l (by omega)) ?_
    · split at he
      · assumption
      · cases he
    · intro e a' w' K' he R' hk hmn
      rw [qnv, qlq (dst := o.dst)] at R'
      split at he
      · refine qCI hm q (i + 1) (σ.put o.dst e) _ K' a' w' he hr2 (by simp only [List.length_cons] at hi; omega) hn R' (fun l hl => ?_) (fun σ' tr a'' w'' K'' g1 g2 R'' h1 h2 => hQ σ' _ a'' w'' K'' g1 g2 R'' h1 (fun l gh hl => h2 l gh (hmn l gh hl)))
        rcases hk l with h1 | h1
        · rw [h1]; exact hf l (by omega)
        · omega
      · cases he
def Leads (P : Program) (GT : qEh) (nt : Nat) (Q : Pos → Prop) (s : Pos) : Prop :=
  ∀ (c : Cx) (K : Kn) (a : Act) (w : World) (b : Frame) (cs : List Frame), RelS c P GT nt s.st K a w →
    ∃ s' K' a' w', Q s' ∧ RelS c P GT nt s'.st K' a' w' ∧ (∀ l gh, l < 8 → K l = some gh → K' l = some gh) ∧ Steps P (lone (b.at a s.todo) cs w) (lone (b.at a' s'.todo) cs w')
theorem Leads.of {Q : Pos → Prop} {s s' : Pos} (h : Reach P GT nt s s') (hq : Q s') : Leads P GT nt Q s := by
  intro c K a w b cs R0
  obtain ⟨K', a', w', h1, h2, h3⟩ := h c K a w b cs R0
  exact ⟨s', K', a', w', hq, h1, h2, h3⟩
theorem Leads.bind {Q Q' : Pos → Prop} {s : Pos} (h : Leads P GT nt Q s) (hq : ∀ s', Q s' → Leads P GT nt Q' s') : Leads P GT nt Q' s := by
  intro c K a w b cs R0
  obtain ⟨s1, K1, a1, w1, h1, h2, h3, h4⟩ := h c K a w b cs R0
  obtain ⟨s2, K2, a2, w2, g1, g2, g3, g4⟩ := hq s1 h1 c K1 a1 w1 b cs h2
  exact ⟨s2, K2, a2, w2, g1, g2, fun l gh hl hk => g3 l gh hl (h3 l gh hl hk), h4.trans g4⟩
theorem qHF (hm : P.follows .mixedOrders = true) (hz : ∀ f ∈ mnz, qWy P f) {s : Pos} {k : Pos → Tr} (h : den lf fin (qgK P GT nt mnz tab s k) = some r) : Leads P GT nt (fun s' => den lf fin (k s') = some r) s := by
  obtain ⟨todo, σ⟩ := s
  unfold qgK at h
  have go : ∀ {s' : Pos} {os : List Orc} {c : List Prop}, qAo P GT nt ⟨todo, σ⟩ os = some (s', c, []) → qFh c → den lf fin (k s') = some r → Leads P GT nt (fun s' => den lf fin (k s') = some r) ⟨todo, σ⟩ := fun h1 h2 h3 => .of (qZi hm h1 h2) h3
  split at h
  · rename_i q hk; simp only at hk; subst hk
    exact go (os := []) (c := []) rfl trivial h
  · rename_i q hk; simp only at hk; subst hk
    exact go (os := []) (c := []) rfl trivial h
  · rename_i q hk; simp only at hk; subst hk
    exact go (os := []) (c := []) rfl trivial h
  · rename_i q hk; simp only at hk; subst hk
    exact go (os := []) (c := []) rfl trivial h
  · rename_i q hk; simp only at hk; subst hk
    exact go (os := []) (c := []) rfl trivial h
  · rename_i q hk; simp only at hk; subst hk
    exact go (os := []) (c := []) rfl trivial h
  · rename_i x y q hk; simp only at hk; subst hk
    split at h
    · rename_i b hb
      simp only at hb
      simp only [den] at h
      split at h
      · rename_i hbt
        exact go (os := [.bit true]) (c := [b = true]) (by simp only [qAo, hb, if_true]) ⟨hbt, trivial⟩ h
      · rename_i hbt
        simp only [Bool.not_eq_true] at hbt
        exact go (os := [.bit false]) (c := [b = false]) (by simp only [qAo, hb, Bool.false_eq_true, if_false]) ⟨hbt, trivial⟩ h
    · cases h
  · rename_i q hk; simp only at hk; subst hk
    exact go (os := []) (c := []) rfl trivial h
  · rename_i q hk; simp only at hk; subst hk
    exact go (os := []) (c := []) rfl trivial h
  · rename_i q hk; simp only at hk; subst hk
    exact go (os := []) (c := []) rfl trivial h
  · rename_i q hk; simp only at hk; subst hk
    split at h
    · rename_i q' he
      exact go (os := []) (c := []) (by simp only [qAo, he]) trivial h
    · cases h
  · rename_i q hk; simp only at hk; subst hk
    split at h
    · rename_i q' he
      exact go (os := []) (c := []) (by simp only [qAo, he]) trivial h
    · cases h
  · rename_i id ops draw q hk; simp only at hk; subst hk
    cases draw with
    | true =>
      obtain ⟨σ', c, os, h1, h2, h3⟩ := qXG h
      have h1' := h1 []
      rw [List.append_nil] at h1'
      exact go (os := os) (c := c) (by simp only [qAo]; rw [h1']) h2 h3
    | false =>
      intro c K a w b cs R0
      unfold qsm at h
      have hwp : (Code.region id ops false).wp P (fun e a' w' => e = .normal ∧ ∃ σ' K', den lf fin (k ⟨q, σ'⟩) = some r ∧ RelS c P GT nt σ' K' a' w' ∧ (∀ l gh, K l = some gh → K' l = some gh)) a w := by
        refine wp_region ?_
        have := qCI hz (Q := fun e a' w' => e = .normal ∧ ∃ σ' K', den lf fin (k ⟨q, σ'⟩) = some r ∧ RelS c P GT nt σ' K' a' w' ∧ (∀ l gh, K l = some gh → K' l = some gh)) (n0 := σ.next) ops.toList 0 σ _ K a w h (by simp) (by simp) rfl R0.rel (fun l hl => R0.fresh l (by omega)) (fun σ' tr a' w' K' g1 g2 R' g3 g4 => ?_)
        · rw [List.range_eq_range']
          simpa using this
        · simp only [Bool.not_false, Bool.true_or, if_true] at g1
          exact ⟨rfl, { σ' with next := σ.next + 8 * ops.toList.length }, K', g1, ⟨R', fun l hl => g3 l (by simpa using hl)⟩, g4⟩
      obtain ⟨e, a', w', ⟨rfl, σ', K', g1, R', hk⟩, harr⟩ := hwp b q cs
      exact ⟨⟨q, σ'⟩, K', a', w', g1, R', fun l gh _ hl => hk l gh hl, harr⟩
  · cases h
theorem qYL {w : World} {N : Bool → Nat → Prop} {K : Kn} {o : Option Obj} {ob : Obj} {gh : Gh} (h : qWM o = some ob) : (∀ o0, o = some o0 → ORd w N K o0 gh) → ∃ o0, o = some o0 ∧ ORd w N K ob gh := by
  intro hr
  unfold qWM at h
  split at h
  · rename_i e fr
    split at h
    · rename_i hf
      simp only [Option.some.injEq] at h; subst h
      refine ⟨_, rfl, ?_⟩
      obtain ⟨h1, h2⟩ := hr _ rfl
      refine ⟨hf, [], h1, ⟨fun i j p q hi => by simp at hi, fun p q _ hq => by simp at hq⟩, ?_⟩
      revert h2
      cases gh.pl with
      | none => exact fun _ => ⟨rfl, rfl⟩
      | some p =>
        rintro ⟨cs, g1, g2⟩
        simp only [Cat] at g2; subst g2
        exact ⟨[], g1, rfl, rfl⟩
    · simp only [Option.some.injEq] at h; subst h
      exact ⟨_, rfl, hr _ rfl⟩
  · subst h; exact ⟨ob, rfl, hr ob rfl⟩
theorem qTC {ns : List Nat} : ∀ {h : List (Nat × Option Obj)} {l : Nat}, lookL (qFK ns h) l = (if ns.contains l then (lookL h l).map qWM else lookL h l)
  | [], l => by simp [qFK, lookL]
  | (a, b) :: r, l => by
    simp only [qFK]
    by_cases hl : a = l
    · subst hl
      by_cases hc : ns.contains a = true
      · simp only [hc, if_true, lookL, Option.map_some]
      · simp only [Bool.not_eq_true] at hc; simp only [hc, Bool.false_eq_true, if_false, lookL, if_true]
    · have ih := qTC (ns := ns) (h := r) (l := l)
      by_cases hc : ns.contains a = true
      · simp only [hc, if_true, lookL, hl, if_false]; exact ih
      · simp only [Bool.not_eq_true] at hc; simp only [hc, Bool.false_eq_true, if_false] at ih ⊢; simp only [lookL, hl, if_false]; exact ih
theorem qUE {σ : St} {ns : List Nat} (todo : List Item) : Reach P GT nt ⟨todo, σ⟩ ⟨todo, qXL σ ns⟩ := by
  intro c K a w b cs R0
  refine ⟨K, a, w, ?_, fun l gh _ hk => hk, Steps.refl _ _⟩
  unfold qXL
  split
  · exact R0
  · have hH : ∀ l o, qBb (qFK ns σ.heap) l = some o → (∃ o0, qBb σ.heap l = some o0) ∧ ∀ (w : World) (N : Bool → Nat → Prop) (gh : Gh), (∀ o0, qBb σ.heap l = some o0 → ORd w N K o0 gh) → ORd w N K o gh := by
      intro l o hl
      unfold qBb at hl ⊢
      rw [qTC] at hl
      by_cases hc : ns.contains l = true
      · simp only [hc, if_true] at hl
        cases hx : lookL σ.heap l with
        | none => rw [hx] at hl; cases hl
        | some x =>
          rw [hx] at hl
          simp only [Option.map_some] at hl
          refine ⟨?_, fun w N gh h => ?_⟩
          · cases x with
            | none => simp [qWM] at hl
            | some o0 => exact ⟨o0, rfl⟩
          · obtain ⟨_, _, h2⟩ := qYL hl (fun o0 ho => h o0 (by rw [ho]))
            exact h2
      · simp only [hc] at hl
        simp only [Bool.false_eq_true, if_false] at hl
        exact ⟨⟨o, hl⟩, fun w N gh h => h o hl⟩
    have hlive : ∀ b, qUb (qBb (qFK ns σ.heap)) K b → qUb (qBb σ.heap) K b := by
      rintro b ⟨l, o, gh, p, h1, h2⟩
      obtain ⟨⟨o0, h0⟩, _⟩ := hH l o h1
      exact ⟨l, o0, gh, p, h0, h2⟩
    have hN : ∀ fr b, NN c (qBb σ.heap) K w fr b → NN c (qBb (qFK ns σ.heap)) K w fr b := fun fr b hb => ⟨hb.1, fun hn => hb.2.1 (hlive b hn), hb.2.2⟩
    have hk : KeepK w w (NN c (qBb σ.heap) K w) (NN c (qBb (qFK ns σ.heap)) K w) K K := ⟨fun fr => ⟨fun b hb => ⟨hN fr b hb, rfl⟩⟩, fun _ _ h => h⟩
    refine ⟨⟨⟨fun l o hl => ?_, fun l o gh p h1 h2 h3 => ?_, fun l l' o o' gh gh' p p' h1 h2 h3 h4 h5 h6 h7 => ?_, R0.rel.inv.fr⟩, fun t => (R0.rel.tmps t).keep hk, R0.rel.size, R0.rel.defers, R0.rel.ng, R0.rel.gng, R0.rel.glob⟩, R0.fresh⟩
    · obtain ⟨⟨o0, h0⟩, h1⟩ := hH l o hl
      obtain ⟨gh, g1, g2⟩ := R0.rel.inv.objs l o0 h0
      exact ⟨gh, g1, h1 _ _ _ (fun o1 ho => by rw [h0] at ho; injection ho with ho; subst ho; exact g2.keep hk (fun _ _ => rfl))⟩
    · obtain ⟨⟨o0, h0⟩, _⟩ := hH l o h1
      exact R0.rel.inv.own l o0 gh p h0 h2 h3
    · obtain ⟨⟨o0, h0⟩, _⟩ := hH l o h1
      obtain ⟨⟨o0', h0'⟩, _⟩ := hH l' o' h2
      exact R0.rel.inv.inj l l' o0 o0' gh gh' p p' h0 h0' h3 h4 h5 h6 h7
theorem qDJ {c : Cut} {s : Pos} (h : den lf fin (quN c s) = some r) : Leads P GT nt (fun s' => lf s' = some r) s := by
  unfold quN at h
  split at h
  · rename_i σ hk
    obtain ⟨todo, σ0⟩ := s
    exact (Leads.of (qiH hk _) rfl).bind (fun s1 h1 => by subst h1; exact .of (qUE _) h)
  · cases h
theorem qSI (hm : P.follows .mixedOrders = true) {todo todo' : List Item} {σ : St} (h : qTI todo = some todo') : Reach P GT nt ⟨todo, σ⟩ ⟨todo', σ⟩ := by
  unfold qTI at h
  split at h
  · simp only [Option.some.injEq] at h; subst h
    exact qZi hm (os := []) (cs := []) (os' := []) rfl trivial
  · simp only [Option.some.injEq] at h; subst h
    exact qZi hm (os := []) (cs := []) (os' := []) rfl trivial
  · exact qZi hm (os := []) (cs := []) (os' := []) (by simp only [qAo, h]) trivial
  · cases h
theorem qju (hm : P.follows .mixedOrders = true) (hz : ∀ f ∈ mnz, qWy P f) {cuts : List Cut} : ∀ {n : Nat} {first : Bool} {s : Pos}, den lf fin (qGG P GT nt mnz tab cuts n first s) = some r →
    Leads P GT nt (fun s' => lf s' = some r ∨ (qkH s'.todo = true ∧ fin s' = some r)) s
  | 0, _, _, h => by cases h
  | n + 1, first, s, h => by
    simp only [qGG] at h
    split at h
    · rename_i hr
      exact .of (Reach.refl s) (.inr ⟨hr, h⟩)
    · split at h
      · rename_i todo' hh
        have h0 : Reach P GT nt s ⟨todo', s.st⟩ := qSI hm hh
        split at h
        · exact (Leads.of h0 rfl).bind (fun s1 h1 => by subst h1; exact (qDJ h).bind (fun s2 h2 => .of (Reach.refl _) (.inl h2)))
        · exact (Leads.of h0 rfl).bind (fun s1 h1 => by subst h1; exact qju hm hz h)
      · split at h
        · split at h
          · exact (qDJ h).bind (fun s2 h2 => .of (Reach.refl _) (.inl h2))
          · exact (qHF hm hz h).bind (fun s1 h1 => qju hm hz h1)
        · exact (qHF hm hz h).bind (fun s1 h1 => qju hm hz h1)
theorem FnI.semR_ok (hm : P.follows .mixedOrders = true) {s : Pos} {r : I.fm.R} (h : I.SemR r s) : Leads P GT (qTf P I.f) (fun s' => qkH s'.todo = true ∧ I.fm.fin P (qKL P I.f) s' = some r) s := by
  induction h with
  | mk s lf h hl ih =>
    refine (qju hm I.mnzOk h).bind (fun s' hs => ?_)
    rcases hs with hs | hs
    · exact ih s' hs
    · exact .of (Reach.refl _) hs
theorem FnI.sem_ends (hm : P.follows .mixedOrders = true) {s : Pos} {r : I.fm.R} (h : I.sem s = some r) : qWN P GT (qTf P I.f) (qKL P I.f) s (I.fm.res r) (I.fm.post r) := by
  intro c K a w b cs R0
  obtain ⟨s', K', a', w', ⟨h2, h3⟩, R', h4, h5⟩ := FnI.semR_ok hm (FnI.sem_iff.1 h) c K a w b cs R0
  obtain ⟨res0, res1, ren, nx, lo, g1, g2, g3, g3', g4⟩ := Fm.fin_ok h3
  exact ⟨s', res0, res1, ren, nx, lo, K', a', w', R', h4, h5, h2, g1, g2, g3, g3', g4⟩
@[reducible] def FnI.at (I : FnI P GT) (as : List AV) (pre : List (Nat × Obj)) : Pos := ⟨[.code (qda P I.f)], st0 as pre⟩
noncomputable def FnI.call (I : FnI P GT) (as : List AV) (pre : List (Nat × Obj)) : Option I.fm.R :=
  if qtM P I.f as.length && pre.all (fun p => decide (p.1 < 8)) then I.sem (I.at as pre) else none
theorem FnI.call_ok (hm : P.follows .mixedOrders = true) {as : List AV} {pre : List (Nat × Obj)} {r : I.fm.R} (h : I.call as pre = some r) : CallOK P GT I.f as pre (I.fm.res r) (I.fm.post r) := by
  unfold FnI.call at h
  split at h
  · rename_i hc
    simp only [Bool.and_eq_true] at hc
    exact qOJ hc.1 hc.2 (FnI.sem_ends hm h)
  · cases h
noncomputable def FnI.summ (I : FnI P GT) (hm : P.follows .mixedOrders = true) (acc : List AV → Bool) (rows nils : Bool) (drop : Bool := false) : Summ P GT :=
  { f := I.f, acc := acc, rows := rows, nils := nils, drop := drop, R := I.fm.R, fn := I.call, res := I.fm.res, post := I.fm.post, ok := fun as pre r h => FnI.call_ok hm h }
theorem FnI.call_eq {as : List AV} {pre : List (Nat × Obj)} (h : (qtM P I.f as.length && pre.all (fun p => decide (p.1 < 8))) = true) : I.call as pre = I.go (I.at as pre) I.sem := by
  unfold FnI.call
  rw [if_pos h]
  exact FnI.sem_eq _
end
end Go.Ab

/-
  From what a law's arguments read as to plain values, and back.
-/
set_option linter.unusedVariables false
set_option linter.unusedSimpArgs false
namespace Go.Ab
open Go
def wfP : (t : Ty) → pden t → Prop
  | .int k, n => (Lit.int k n).wf = true
  | .bool, _ => True
  | .str, s => ByteArray.size s ≤ Go.maxLen
  | .arr n e, xs => xs.length = n ∧ ∀ x ∈ xs, wfP e x
  | .pair a b, x => wfP a x.1 ∧ wfP b x.2
  | .unit, _ => True
  | .slice e, xs => xs.length ≤ Go.maxLen ∧ ∀ x ∈ xs, wfP e x
  | .fn, _ => True
def qTe : Ty → Bool
  | .arr _ e => qTe e
  | .pair a b => qTe a && qTe b
  | .slice e => qTe e && decide (0 < e.sz)
  | .fn => false
  | _ => true
section
variable {P : Program} {H : Type} {enc : TypeId × Value → H} {w : World} {base : Nat} {spare : Nat → Bool} {held : Bool}
abbrev InW (w : World) : Nat → Prop := fun b => b < w.heap.size
theorem qAG {b o n : Nat} : Addr.add ⟨b, o, none⟩ n = ⟨b, o + n, none⟩ := by
  unfold Addr.add; split <;> simp_all
theorem qAz {m : Nat} {T : TypeId} {t : Ty} (h : qtd P (m + 1) T = some t) : ∃ desc, P.underlying T = some desc ∧ qTj P (qtd P m) desc = some t ∧ P.cellsOf T = t.sz := by
  simp only [qtd] at h
  split at h
  · rename_i desc hd
    split at h
    · rename_i ty hr
      split at h
      · rename_i hc
        simp only [Option.some.injEq] at h; subst h
        exact ⟨desc, hd, hr, by simpa using hc⟩
      · cases h
    · cases h
  · cases h
theorem qRD {m : Nat} {T : TypeId} {t : Ty} (h : qtd P m T = some t) : P.cellsOf T = t.sz := by
  cases m with
  | zero => cases h
  | succ m => obtain ⟨_, _, _, h⟩ := qAz h; exact h
def Rds (P : Program) (enc : TypeId × Value → H) (w : World) (base : Nat) (spare : Nat → Bool) (held : Bool) (n m : Nat) : Prop :=
  ∀ (T : TypeId) (t : Ty) (cs : List Value) (y : DataW H × List MemPlace), qTe t = true → qtd P m T = some t → DataW.trod enc P w base spare held n T cs = some y → ∃ x : pden t, PRd w (InW w) t x cs ∧ wfP t x
theorem qSC {n m : Nat} (G : Rds P enc w base spare held n m) {cs : List Value} : ∀ {fs : List Field} {ts : List Ty} {o : Nat}, qSj (qtd P m) fs = some ts → qrj P fs ts o = true → qTe (qHd ts) = true → cs.length = o + (qHd ts).sz →
    (∀ f ∈ fs, ∃ y, DataW.trod enc P w base spare held n f.type ((cs.drop f.offset).take (P.cellsOf f.type)) = some y) → ∃ x : pden (qHd ts), PRd w (InW w) (qHd ts) x (cs.drop o) ∧ wfP (qHd ts) x
  | [], ts, o, h1, h2, h3, h4, h5 => by
    simp only [qSj, Option.some.injEq] at h1; subst h1
    refine ⟨(), ?_, trivial⟩
    show cs.drop o = []
    rw [List.drop_eq_nil_iff]; simp [qHd, Ty.sz] at h4; omega
  | f :: fs, ts, o, h1, h2, h3, h4, h5 => by
    simp only [qSj] at h1
    split at h1
    · rename_i t ts' e1 e2
      simp only [Option.some.injEq] at h1; subst h1
      simp only [qrj, Bool.and_eq_true, beq_iff_eq] at h2
      simp only [qHd, qTe, Bool.and_eq_true] at h3
      simp only [qHd, Ty.sz] at h4
      obtain ⟨y, hy⟩ := h5 f List.mem_cons_self
      obtain ⟨x1, p1, w1⟩ := G _ _ _ _ h3.1 e1 hy
      obtain ⟨x2, p2, w2⟩ := qSC G e2 h2.2 h3.2 (by omega) (fun g hg => h5 g (List.mem_cons_of_mem _ hg))
      rw [h2.1, qRD e1] at p1
      refine ⟨(x1, x2), ⟨_, _, ?_, p1, p2⟩, w1, w2⟩
      exact (List.take_append_drop t.sz (cs.drop o)).symm.trans (by rw [List.drop_drop])
    · cases h1
theorem qYC {n m : Nat} (G : Rds P enc w base spare held n m) {E : TypeId} {e : Ty} (hE : qtd P m E = some e) (hp : qTe e = true) {b o len : Nat} {elems : List (DataW H × List MemPlace)} (hl : elems.length = len)
    (he : ∀ i, i < len → (w.cells? base (Addr.add ⟨b, o, none⟩ (i * e.sz)) e.sz).bind (DataW.trod enc P w base spare held n E) = elems[i]?) :
    ∀ k, k ≤ len → ∃ (xs : List (pden e)) (cl : List Value), xs.length = k ∧ cl.length = k * e.sz ∧ CellsAt w b o cl ∧ Cat (PRd w (InW w) e) xs cl ∧ ∀ x ∈ xs, wfP e x
  | 0, _ => ⟨[], [], rfl, by simp, fun j v hj => by simp at hj, rfl, fun x hx => by cases hx⟩
  | k + 1, hk => by
    obtain ⟨xs, cl, h1, h2, h3, h4, h5⟩ := qYC G hE hp hl he k (by omega)
    have hi := he k (by omega)
    rw [List.getElem?_eq_getElem (by omega)] at hi
    obtain ⟨cs, hcs, hy⟩ := Option.bind_eq_some_iff.1 hi
    obtain ⟨x, hx, hw⟩ := G _ _ _ _ hp hE hy
    obtain ⟨g1, g2, g3⟩ := World.cells?_some hcs
    refine ⟨xs ++ [x], cl ++ cs, by simp [h1], ?_, ?_, h4.append ⟨cs, [], by simp, hx, rfl⟩, ?_⟩
    · rw [List.length_append, h2, hx.length, Nat.succ_mul]
    · intro j v hj
      rw [List.getElem?_append] at hj
      split at hj
      · exact h3 j v hj
      · rename_i hjl
        have hjc : j - cl.length < cs.length := (List.getElem?_eq_some_iff.1 hj).1
        have := g3 (j - cl.length) (by rw [← g2]; exact hjc)
        rw [hj, qAG, qAG] at this
        rw [← this]
        congr 2
        rw [h2]; rw [h2] at hjl; omega
    · intro y hy
      rcases List.mem_append.1 hy with hy | hy
      · exact h5 y hy
      · simp only [List.mem_singleton] at hy; subst hy; exact hw
theorem qJJ {a : Addr} {v : Value} (h : w.cell? a = some v) : a = ⟨a.block, a.off, none⟩ := by
  obtain ⟨b, o, sp⟩ := a
  cases sp with
  | none => rfl
  | some s => simp [World.cell?] at h; split at h <;> simp at h
theorem qrI : ∀ (n m : Nat), Rds P enc w base spare held n m
  | 0, m, T, t, cs, y, hp, hT, hy => by simp [DataW.trod] at hy
  | n + 1, 0, T, t, cs, y, hp, hT, hy => by cases hT
  | n + 1, m + 1, T, t, cs, y, hp, hT, hy => by
    obtain ⟨desc, hd, hr, hs⟩ := qAz hT
    have G := qrI n m
    unfold qTj at hr
    split at hr
    · simp only [Option.some.injEq] at hr; subst hr
      obtain ⟨b, rfl, _⟩ := DataW.trod_bool hd hy
      exact ⟨b, rfl, trivial⟩
    · simp only [Option.some.injEq] at hr; subst hr
      obtain ⟨k, rfl, _, hw⟩ := DataW.trod_int hd hy
      exact ⟨k, rfl, hw⟩
    · simp only [Option.some.injEq] at hr; subst hr
      obtain ⟨s, rfl, _, hw⟩ := DataW.trod_string hd hy
      exact ⟨s, rfl, hw⟩
    · rename_i E
      split at hr
      · rename_i e hE
        simp only [Option.some.injEq] at hr; subst hr
        simp only [qTe, Bool.and_eq_true, decide_eq_true_eq] at hp
        rcases DataW.trod_slice hd hy with ⟨rfl, _⟩ | ⟨a, len, cap, elems, rest, n', hn, rfl, _, _, hlc, hcm, hl, he, _⟩
        · exact ⟨[], ⟨none, 0, rfl, Nat.le_refl _, .inl rfl⟩, by simp, fun x hx => by cases hx⟩
        · simp only [Nat.add_right_cancel_iff] at hn; subst hn
          rw [qRD hE] at he
          by_cases h0 : len = 0
          · subst h0
            exact ⟨[], ⟨some a, cap, rfl, Nat.zero_le _, .inl rfl⟩, by simp, fun x hx => by cases hx⟩
          · have h1 := he 0 (by omega)
            rw [List.getElem?_eq_getElem (by omega)] at h1
            obtain ⟨cs0, hcs0, _⟩ := Option.bind_eq_some_iff.1 h1
            obtain ⟨q1, q2, q3⟩ := World.cells?_some hcs0
            have h2 := q3 0 (by omega)
            rw [List.getElem?_eq_getElem (by omega)] at h2
            have ha : a = ⟨a.block, a.off, none⟩ := qJJ (v := cs0[0]'(by omega)) (by simpa [Addr.add] using h2)
            have hb := World.cells?_block hcs0 hp.2
            have hb' : a.block < w.heap.size := by simpa [Addr.add] using hb
            rw [ha] at he
            obtain ⟨xs, cl, g1, g2, g3, g4, g5⟩ := qYC G hE hp.1 hl he len (Nat.le_refl _)
            refine ⟨xs, ⟨some a, cap, by rw [g1], by omega, .inr ⟨a.block, a.off, cl, by rw [← ha], hb', g3, g4⟩⟩, by omega, g5⟩
      · cases hr
    · rename_i k E
      split at hr
      · rename_i e hE
        simp only [Option.some.injEq] at hr; subst hr
        simp only [qTe] at hp
        obtain ⟨xs0, n', hn, _, hlen, hl, he⟩ := DataW.trod_array hd hy
        simp only [Nat.add_right_cancel_iff] at hn; subst hn
        have hes := qRD hE
        rw [hes] at he
        rw [hs] at hlen
        simp only [Ty.sz] at hlen
        have key : ∀ j, j ≤ k → ∃ xs : List (pden e), xs.length = j ∧ Cat (PRd w (InW w) e) xs (cs.take (j * e.sz)) ∧ ∀ x ∈ xs, wfP e x := by
          intro j
          induction j with
          | zero => intro _; exact ⟨[], rfl, by simp [Cat], fun x hx => by cases hx⟩
          | succ j ih =>
            intro hj
            obtain ⟨xs, h1, h2, h3⟩ := ih (by omega)
            have hi := he j (by omega)
            rw [List.getElem?_eq_getElem (by omega)] at hi
            obtain ⟨x, hx, hw⟩ := G _ _ _ _ hp hE hi
            refine ⟨xs ++ [x], by simp [h1], ?_, ?_⟩
            · rw [Nat.succ_mul, List.take_add]
              exact h2.append ⟨_, [], by simp, hx, rfl⟩
            · intro y hy
              rcases List.mem_append.1 hy with hy | hy
              · exact h3 y hy
              · simp only [List.mem_singleton] at hy; subst hy; exact hw
        obtain ⟨xs, h1, h2, h3⟩ := key k (Nat.le_refl _)
        rw [List.take_of_length_le (by omega)] at h2
        exact ⟨xs, ⟨h1, h2⟩, h1, h3⟩
      · cases hr
    · rename_i fs
      split at hr
      · rename_i ts hts
        split at hr
        · rename_i hof
          simp only [Option.some.injEq] at hr; subst hr
          obtain ⟨xs0, n', hn, _, hlen, hl, he⟩ := DataW.trod_struct hd hy
          simp only [Nat.add_right_cancel_iff] at hn; subst hn
          rw [hs] at hlen
          obtain ⟨x, hx, hw⟩ := qSC (cs := cs) G hts hof hp (by omega) (fun f hf => by
            obtain ⟨i, hi, hfi⟩ := List.mem_iff_getElem.1 hf
            have hi' : i < fs.size := by simpa using hi
            have h1 := he i f (by rw [← Array.getElem?_toList, List.getElem?_eq_getElem hi, hfi])
            rw [List.getElem?_eq_getElem (by omega)] at h1
            exact ⟨_, h1⟩)
          exact ⟨x, by simpa using hx, hw⟩
        · cases hr
      · cases hr
    · cases hr; simp [qTe] at hp
    · cases hr
theorem open_ty {fuel m : Nat} {T : TypeId} {t : Ty} {cs : List Value} {y : DataW H × List MemPlace} (hp : qTe t = true) (hT : qtd P m T = some t) (hy : DataW.trod enc P w base spare held fuel T cs = some y) :
    ∃ x : pden t, PRd w (InW w) t x cs ∧ wfP t x := qrI fuel m T t cs y hp hT hy
end
section
variable {P : Program} {H : Type} {enc : TypeId × Value → H} {w : World} {base : Nat} {spare : Nat → Bool} {held : Bool}
theorem laid_arr {fuel : Nat} {T E : TypeId} {n : Nat} {k : IntKind} {zs : List Int} {cs : List Value} {q : List MemPlace} (hT : P.underlying T = some (.array n E)) (hE : P.underlying E = some (.int k)) (hc : P.cellsOf E = 1) (hcT : P.cellsOf T = n)
    (h : DataW.trod enc P w base spare held fuel T cs = some (.agg (zs.map fun z => .lit (.int k z)), q)) : cs = zs.map (Value.int k) := by
  obtain ⟨xs, m, _, hx, hlen, hl, he⟩ := DataW.trod_array hT h
  simp only [Prod.mk.injEq, DataW.agg.injEq] at hx
  rw [hcT] at hlen
  have hzl : zs.length = xs.length := by have := congrArg List.length hx.1; simpa using this
  refine List.ext_getElem (by simp; omega) (fun i h1 h2 => ?_)
  have hi := he i (by omega)
  rw [hc, List.getElem?_eq_getElem (by omega)] at hi
  obtain ⟨z, e1, e2, _⟩ := DataW.trod_int hE hi
  have e3 : cs[i]? = some (.int k z) := by
    have := congrArg (·[0]?) e1
    simp only [Nat.mul_one, List.getElem?_take, List.getElem?_drop, Nat.add_zero] at this
    simpa using this
  have e4 : zs[i]? = some z := by
    have := congrArg (·[i]?) hx.1
    simp only [List.getElem?_map] at this
    rw [List.getElem?_eq_getElem (by omega : i < xs.length), e2] at this
    cases hz : zs[i]? with
    | none => rw [hz] at this; simp at this
    | some z' =>
      rw [hz] at this
      simp only [Option.map_some, Option.some.injEq, DataW.lit.injEq, Lit.int.injEq, true_and] at this
      rw [this]
  simp only [List.getElem_map]
  rw [List.getElem?_eq_getElem h1] at e3
  simp only [Option.some.injEq] at e3
  rw [e3]
  rw [List.getElem?_eq_getElem (by simpa using h2)] at e4
  simp only [Option.some.injEq] at e4
  rw [e4]
theorem glob_arr {g n : Nat} {k : IntKind} {zs : List Int} {cs : List Value} (hcs : cs = zs.map (Value.int k)) (hl : zs.length = n) (hcell : ∀ i v, cs[i]? = some v → w.cell? ⟨g, i, none⟩ = some v) :
    ∃ cs, CellsAt w g 0 cs ∧ PRd w (fun _ => False) (.arr n (.int k)) (zs : List Int) cs := by
  refine ⟨cs, fun j v hj => by rw [Nat.zero_add]; exact hcell j v hj, hl, ?_⟩
  subst hcs
  exact qor zs
end
def qWo : Value → Bool
  | .agg _ => true
  | _ => false
theorem PRd.val {w : World} {N : Bool → Nat → Prop} {K : Kn} (hN : ∀ b, b < w.heap.size → N false b) (hlow : ∀ b, N true b → N false b) {t : Ty} {x : pden t} {v : Value} {cs : List Value} (h0 : PRd w (InW w) t x cs) (hc : v.cells.toList = cs) (hv : qWo v = t.agg) (hf : qTe t = true) : VRd w N K (qGF t (inj false t x)) v := by
  have h : PRd w (N false) t x cs := h0.keep ⟨fun b hb => ⟨hN b hb, rfl⟩⟩
  clear h0
  cases t with
  | arr n e => 
    cases v <;> simp [Ty.agg, qWo] at hv
    rename_i a
    exact ⟨cs, by simp [Value.cells] at hc; rw [← hc], rfl, qNk (N := N) hlow false h⟩
  | pair a b =>
    cases v <;> simp [Ty.agg, qWo] at hv
    exact ⟨cs, by simp [Value.cells] at hc; rw [← hc], rfl, qNk (N := N) hlow false h⟩
  | unit =>
    cases v <;> simp [Ty.agg, qWo] at hv
    exact ⟨cs, by simp [Value.cells] at hc; rw [← hc], rfl, qNk (N := N) hlow false h⟩
  | int k =>
    simp only [PRd] at h; subst h
    cases v <;> simp [Ty.agg, qWo, Value.cells] at hv hc <;> first | exact hc | skip
    all_goals simp_all [qGF, inj, VRd]
  | bool =>
    simp only [PRd] at h; subst h
    cases v <;> simp [Ty.agg, qWo, Value.cells] at hv hc <;> first | exact hc | skip
    all_goals simp_all [qGF, inj, VRd]
  | str =>
    simp only [PRd] at h; subst h
    cases v <;> simp [Ty.agg, qWo, Value.cells] at hv hc <;> first | exact hc | skip
    all_goals simp_all [qGF, inj, VRd]
  | slice e =>
    obtain ⟨A, cap, rfl, h1, h2⟩ := h
    cases v <;> simp [Ty.agg, qWo, Value.cells] at hv hc
    obtain ⟨rfl, rfl, rfl⟩ := hc
    exact ⟨_, _, rfl, h1, h2⟩
  | fn => simp [qTe] at hf
theorem CallOK.below {P : Program} {GT : qEh} {f : Nat} {args : List AV} {res : TV} {post : List (Nat × Obj)} (h : CallOK P GT f args [] res post) {w : World} (hg : Glob P GT w) {vs : List Value}
    (ha : ∀ (N : Bool → Nat → Prop) (K : Kn), (∀ b, b < w.heap.size → N false b) → (∀ b, N true b → N false b) → VRdL w N K args vs) {v : Value} (hr : ∀ (N : Bool → Nat → Prop) (K : Kn) (w' : World) (u : Value), TVRd w' N K res u → u = v) (hb : (P.funcs[f]?).map (·.body.isSome) = some true) (hn : (P.funcs[f]?).map (·.name == "runtime.NumGoroutine") = some false) :
    Calls P f vs.toArray w fun e w' => e = .returned v ∧ RowKit.Below w.heap.size w w' := by
  have h1 := h w (InW w) (fun _ => False) (fun _ => none) vs hg ⟨(fun l o hl => by cases hl), (fun l o gh p hl => by cases hl), (fun l l' o o' gh gh' p p' hl => by cases hl), ⟨rfl, rfl, rfl, Nat.le_refl _, fun _ _ _ => rfl⟩⟩
    (fun b hb => hb.elim) (fun l hl => rfl) (fun b hb => hb) (ha _ _ (fun b hb => ⟨hb, (fun hl => by obtain ⟨l, o, gh, p, q, _⟩ := hl; cases q), .inr (.inr ⟨rfl, .inl hb⟩)⟩) NN.low)
  unfold qjp at h1
  obtain ⟨fn, hf, hbs⟩ := Option.map_eq_some_iff.1 hb
  obtain ⟨fn', hf', hnm⟩ := Option.map_eq_some_iff.1 hn
  rw [hf] at hf'; injection hf' with hf'; subst hf'
  obtain ⟨body, hbody⟩ := Option.isSome_iff_exists.1 hbs
  have hcf : (callFunc f vs.toArray).run P w = .ok (.enter f vs.toArray) w := by
    have hnm' : ¬ fn.name = "runtime.NumGoroutine" := by simpa using hnm
    simp [callFunc, hf, hnm', hbody]
  rw [hcf] at h1
  refine h1.mono ?_
  rintro e w' ⟨u, rfl, K', _, hI, hu⟩
  exact ⟨by rw [hr _ _ _ _ hu], hI.fr.os, hI.fr.tape, hI.fr.output, hI.fr.size, fun k hk => hI.fr.block k hk (fun h => h)⟩
theorem okWide_form {P : Program} {w : World} {r : Go.Reach} {base : Nat} {T : TypeId} {m : Nat} {t : Ty} {v : Value} (hT : qtd P (m + 1) T = some t) (hnf : qTe t = true) (h : Value.okWide P w r base T v) : qWo v = t.agg := by
  obtain ⟨desc, hd, hr, _⟩ := qAz hT
  unfold Value.okWide at h
  rw [hd] at h
  have hcell : Cell.okWide P w r base T v → (match desc with
      | .bool => true
      | .int _ => true
      | .string => true
      | .slice _ => true
      | _ => false) = true → qWo v = false := by
    intro hc hdesc
    cases v with
    | agg cs =>
      exfalso
      unfold Cell.okWide at hc
      rw [hd] at hc
      cases desc <;> simp [Cell.ok, hd] at hc hdesc
    | _ => rfl
  cases desc with
  | bool => simp only [qTj, Option.some.injEq] at hr; subst hr; exact hcell h rfl
  | int k => simp only [qTj, Option.some.injEq] at hr; subst hr; exact hcell h rfl
  | string => simp only [qTj, Option.some.injEq] at hr; subst hr; exact hcell h rfl
  | slice e =>
    simp only [qTj] at hr
    split at hr
    · simp only [Option.some.injEq] at hr; subst hr; exact hcell h rfl
    · cases hr
  | array n e =>
    simp only [qTj] at hr
    split at hr
    · simp only [Option.some.injEq] at hr; subst hr
      obtain ⟨cs, rfl, _⟩ := h; rfl
    · cases hr
  | struct fs =>
    simp only [qTj] at hr
    split at hr
    · rename_i ts _
      split at hr
      · simp only [Option.some.injEq] at hr; subst hr
        obtain ⟨cs, rfl, _⟩ := h
        cases ts <;> rfl
      · cases hr
    · cases hr
  | func _ _ _ => simp only [qTj, Option.some.injEq] at hr; subst hr; simp [qTe] at hnf
  | _ => simp [qTj] at hr
end Go.Ab

/-
  Functions that are walked by hand: from what a walk tells to what calls ask for.
-/
set_option linter.unusedVariables false
set_option linter.unusedSimpArgs false
namespace Go.Ab
open Go
theorem Inv.more {c : Cx} {H : qnc} {K : Kn} {w w' : World} (h : Inv c H K w) (h1 : w'.os = w.os) (h2 : w'.tape = w.tape) (h3 : w'.output = w.output) (hs : w.heap.size ≤ w'.heap.size) (hb : ∀ k, k < w.heap.size → w'.heap[k]? = w.heap[k]?) :
    Inv c H K w' ∧ KeepK w w' (NN c H K w) (NN c H K w') K K := by
  have hk : KeepK w w' (NN c H K w) (NN c H K w') K K := ⟨fun fr => ⟨fun b hb' => ⟨⟨Nat.lt_of_lt_of_le hb'.1 hs, hb'.2.1, hb'.2.2⟩, hb b hb'.1⟩⟩, fun _ _ h => h⟩
  refine ⟨⟨fun l o hl => ?_, fun l o gh p hl hg hp => ?_, h.inj, ?_⟩, hk⟩
  · obtain ⟨gh, g1, g2⟩ := h.objs l o hl
    exact ⟨gh, g1, g2.keep hk (fun p hp => hb _ (h.own l o gh p hl g1 hp).1)⟩
  · obtain ⟨a, b, d⟩ := h.own l o gh p hl hg hp
    exact ⟨Nat.lt_of_lt_of_le a hs, b, d⟩
  · exact ⟨h1.trans h.fr.os, h2.trans h.fr.tape, h3.trans h.fr.output, Nat.le_trans h.fr.size hs, fun k hk' hG => (hb k (Nat.lt_of_lt_of_le hk' h.fr.size)).trans (h.fr.block k hk' hG)⟩
theorem qMJ {P : Program} {f : Nat} {args : Array Value} {w : World} {R : Value → World → Prop} (hb : (P.funcs[f]?).map (·.body.isSome) = some true) (hn : (P.funcs[f]?).map (·.name == "runtime.NumGoroutine") = some false)
    (h : Calls P f args w fun e w' => ∃ v, e = .returned v ∧ R v w') : qjp P f args w R := by
  obtain ⟨fn, hf, hbs⟩ := Option.map_eq_some_iff.1 hb
  obtain ⟨fn', hf', hnm⟩ := Option.map_eq_some_iff.1 hn
  rw [hf] at hf'; injection hf' with hf'; subst hf'
  obtain ⟨body, hbody⟩ := Option.isSome_iff_exists.1 hbs
  have hcf : (callFunc f args).run P w = .ok (.enter f args) w := by
    have hnm' : ¬ fn.name = "runtime.NumGoroutine" := by simpa using hnm
    simp [callFunc, hf, hnm', hbody]
  unfold qjp
  rw [hcf]
  exact h
end Go.Ab

/-
  Plain laws on numbers and lists, for the printed functions.
-/
set_option linter.unusedVariables false
set_option linter.unusedSimpArgs false
namespace Go.Ab
open Go
theorem w64 {x : Int} (h1 : -9223372036854775808 ≤ x) (h2 : x ≤ 9223372036854775807) : IntKind.wrap .i64 x = x := by
  simp [IntKind.wrap, IntKind.signed, IntKind.bits]; omega
theorem w32 {x : Int} (h1 : -2147483648 ≤ x) (h2 : x ≤ 2147483647) : IntKind.wrap .i32 x = x := by
  simp [IntKind.wrap, IntKind.signed, IntKind.bits]; omega
theorem wu8 (x : Int) : IntKind.wrap .u8 x = x % 256 := by
  simp [IntKind.wrap, IntKind.signed, IntKind.bits]
theorem qpx (x : Int) : IntKind.wrap .u32 x = x % 4294967296 := by
  simp [IntKind.wrap, IntKind.signed, IntKind.bits]
theorem qBN (x : Int) : IntKind.wrap .u64 x = x % 18446744073709551616 := by
  simp [IntKind.wrap, IntKind.signed, IntKind.bits]
theorem qEj (a : Int) {b : Int} (h : 0 < b) : Int.fdiv a b = a / b := Int.fdiv_eq_ediv_of_nonneg _ (by omega)
theorem qUj {a b : Int} (h : 0 ≤ a) : Int.tdiv a b = a / b := Int.tdiv_eq_ediv_of_nonneg h
theorem qRe {a b : Int} (h : 0 ≤ a) : Int.tmod a b = a % b := Int.tmod_eq_emod_of_nonneg h
theorem qaI (a b : Int) (h0 : 0 ≤ b) (h : b ≤ 63) : qjh .i64 a b = a / 2 ^ b.toNat := by
  unfold qjh
  have : min b.toNat (IntKind.bits .i64) = b.toNat := by simp [IntKind.bits]; omega
  rw [this]
  exact Int.fdiv_eq_ediv_of_nonneg _ (by have : (0:Int) < 2 ^ b.toNat := Int.pow_pos (by decide); omega)
theorem qFL {n : Int} (h : (Lit.int .u8 n).wf = true) : 0 ≤ n ∧ n < 256 := by
  simp [Lit.wf, IntKind.min, IntKind.max, IntKind.signed, IntKind.bits] at h; omega
def Bts (xs : List Int) : Prop := ∀ x ∈ xs, 0 ≤ x ∧ x < 256
theorem Bts.nil : Bts [] := fun x hx => by cases hx
theorem Bts.append {a b : List Int} (ha : Bts a) (hb : Bts b) : Bts (a ++ b) := fun x hx => (List.mem_append.1 hx).elim (ha x) (hb x)
theorem Bts.take {a : List Int} (h : Bts a) (n : Nat) : Bts (a.take n) := fun x hx => h x (List.mem_of_mem_take hx)
theorem Bts.drop {a : List Int} (h : Bts a) (n : Nat) : Bts (a.drop n) := fun x hx => h x (List.mem_of_mem_drop hx)
theorem Bts.cons {a : List Int} {x : Int} (hx : 0 ≤ x ∧ x < 256) (h : Bts a) : Bts (x :: a) := fun y hy => by
  rcases List.mem_cons.1 hy with rfl | hy
  · exact hx
  · exact h y hy
theorem Bts.of_wf {xs : List Int} (h : ∀ x ∈ xs, wfP (.int .u8) x) : Bts xs := fun x hx => qFL (h x hx)
theorem qBv {xs : List Int} (h : Bts xs) : qAd (qem xs) = xs := by
  unfold qAd qem
  simp only [List.map_map]
  refine (List.map_congr_left (fun x hx => ?_)).trans (List.map_id xs)
  obtain ⟨h0, h1⟩ := h x hx
  simp only [Function.comp, UInt8.toNat_ofNat', id]
  omega
theorem qUH {xs ys : List Int} (hx : Bts xs) (hy : Bts ys) (h : qem xs = qem ys) : xs = ys := by
  rw [← qBv hx, h, qBv hy]
theorem qbN {xs ys : List Int} (hx : Bts xs) (hy : Bts ys) : (ByteArray.toList (qem xs) == ByteArray.toList (qem ys)) = decide (xs = ys) := by
  rw [Bool.eq_iff_iff, beq_iff_eq, decide_eq_true_eq]
  exact ⟨fun h => qUH hx hy (toList_inj h), fun h => by rw [h]⟩
end Go.Ab

/-
  Regions in the rounds of a range qrL a function, and what abides while its book-keeping turns.
-/
set_option linter.unusedVariables false
set_option linter.unusedSimpArgs false
namespace Go.Ab
open Go
theorem CellsAt.abide {w w' : World} (hc : ∀ p v, w.cell? p = some v → w'.cell? p = some v) {b o : Nat} {cs : List Value} (h : CellsAt w b o cs) : CellsAt w' b o cs := fun j v hj => hc _ _ (h j v hj)
theorem PRd.abide {w w' : World} {N N' : Nat → Prop} (hc : ∀ p v, w.cell? p = some v → w'.cell? p = some v) (hN : ∀ b, N b → N' b) : ∀ {t : Ty} {x : pden t} {cs : List Value}, PRd w N t x cs → PRd w' N' t x cs
  | .int _, _, _, h => h
  | .bool, _, _, h => h
  | .str, _, _, h => h
  | .arr n e, xs, _, h => ⟨h.1, h.2.imp (fun _ _ => PRd.abide hc hN)⟩
  | .pair a b, _, _, h => by
    obtain ⟨c1, c2, e, h1, h2⟩ := h
    exact ⟨c1, c2, e, PRd.abide hc hN h1, PRd.abide hc hN h2⟩
  | .unit, _, _, h => h
  | .slice _, _, _, h => by
    obtain ⟨A, cap, e, hl, h⟩ := h
    refine ⟨A, cap, e, hl, h.imp id ?_⟩
    rintro ⟨b, o, cl, e, hn, hcl, h⟩
    exact ⟨b, o, cl, e, hN b hn, hcl.abide hc, h.imp (fun _ _ => PRd.abide hc hN)⟩
  | .fn, _, _, h => h
theorem ARd.abide {w w' : World} {N N' : Bool → Nat → Prop} {K : Kn} (hc : ∀ p v, w.cell? p = some v → w'.cell? p = some v) (hN : ∀ fr b, N fr b → N' fr b) : ∀ {t : Ty} {x : qFe t} {cs : List Value}, ARd w N K t x cs → ARd w' N' K t x cs
  | .int _, _, _, h => h
  | .bool, _, _, h => h
  | .str, _, _, h => h
  | .arr n e, xs, _, h => ⟨h.1, h.2.imp (fun _ _ => PRd.abide hc (hN false))⟩
  | .pair a b, _, _, h => by
    obtain ⟨c1, c2, e, h1, h2⟩ := h
    exact ⟨c1, c2, e, ARd.abide hc hN h1, ARd.abide hc hN h2⟩
  | .unit, _, _, h => h
  | .slice _, x, _, h => by
    cases x with
    | pure fr xs => exact PRd.abide hc (hN fr) (t := .slice _) h
    | ref l off len wh => exact h
    | nil => exact h
    | junk => exact h
  | .fn, _, _, h => h
theorem VRd.abide {w w' : World} {N N' : Bool → Nat → Prop} {K : Kn} (hc : ∀ p v, w.cell? p = some v → w'.cell? p = some v) (hN : ∀ fr b, N fr b → N' fr b) {a : AV} {v : Value} (h : VRd w N K a v) : VRd w' N' K a v := by
  cases a with
  | agg t x => obtain ⟨cs, e, h1, h2⟩ := h; exact ⟨cs, e, h1, h2.abide hc hN⟩
  | sl e fr xs => exact PRd.abide hc (hN fr) (t := .slice e) h
  | rptr t fr x => obtain ⟨b, o, cs, e, h1, h2, h3⟩ := h; exact ⟨b, o, cs, e, h1.imp id (hN fr b), h2.abide hc, h3.abide hc (hN fr)⟩
  | sln e fr xs => exact ⟨PRd.abide hc (hN fr) (t := .slice e) h.1, h.2⟩
  | _ => exact h
theorem TVRd.abide {w w' : World} {N N' : Bool → Nat → Prop} {K : Kn} (hc : ∀ p v, w.cell? p = some v → w'.cell? p = some v) (hN : ∀ fr b, N fr b → N' fr b) {a : TV} {v : Value} (h : TVRd w N K a v) : TVRd w' N' K a v := by
  cases a with
  | one a => exact VRd.abide hc hN h
  | tup as =>
    obtain ⟨vs, e, h⟩ := h
    refine ⟨vs, e, ?_⟩
    clear e
    induction as generalizing vs with
    | nil => exact h
    | cons a as ih =>
      obtain ⟨v, r, e, h1, h2⟩ := h
      exact ⟨v, r, e, h1.abide hc hN, ih r h2⟩
def qdH : Obj → Bool
  | .map _ _ _ => false
  | _ => true
theorem ORd.abide {w w' : World} {N N' : Bool → Nat → Prop} {K : Kn} (hc : ∀ p v, w.cell? p = some v → w'.cell? p = some v) (hN : ∀ fr b, N fr b → N' fr b) {o : Obj} {gh : Gh} (hm : qdH o = true) (hb : ∀ p, Has gh p → w'.heap[p.blk]? = w.heap[p.blk]?) (h : ORd w N K o gh) : ORd w' N' K o gh := by
  cases o with
  | row e fr xs =>
    refine ⟨h.1, ?_⟩
    have h2 := h.2
    cases hp : gh.pl with
    | none => rw [hp] at h2; exact h2
    | some p =>
      rw [hp] at h2
      obtain ⟨cs, h1, h2⟩ := h2
      exact ⟨cs, h1.keep (hb p (.inl hp)), h2.imp (fun _ _ => PRd.abide hc (hN fr))⟩
  | box t x =>
    obtain ⟨hs, p, cs, hp, h1, h2⟩ := h
    exact ⟨hs, p, cs, hp, h1.keep (hb p (.inl hp)), h2.abide hc hN⟩
  | cell v =>
    obtain ⟨hs, p, c, hp, h1, h2⟩ := h
    exact ⟨hs, p, c, hp, h1.keep (hb p (.inl hp)), h2.abide hc hN⟩
  | map k v es => cases hm
  | fam e xss =>
    obtain ⟨hf, ps, hs, ha, h⟩ := h
    refine ⟨hf, ps, hs, ha, ?_⟩
    cases hp : gh.pl with
    | none => rw [hp] at h; exact h
    | some p =>
      rw [hp] at h
      obtain ⟨cs, h1, h2⟩ := h
      exact ⟨cs, h1.keep (hb p (.inl hp)), h2.keep hf (fun q hq => hb q (.inr (by rw [hs]; exact hq)))⟩
theorem InBlk.isCells {w : World} {p : Plc} {cs : List Value} (h : InBlk w p cs) : ∃ o : Go.Obj, w.heap[p.blk]? = some o ∧ o.isCells = true := by
  obtain ⟨arr, T, fz, h1, _⟩ := h
  exact ⟨_, h1, rfl⟩
theorem FamRd.isCells {w : World} {e : Ty} : ∀ {xss : List (List (pden e))} {ps : List (Nat × Option Plc)} {cs : List Value} {q : Plc}, FamRd w e xss ps cs → some q ∈ ps.map (·.2) → ∃ o : Go.Obj, w.heap[q.blk]? = some o ∧ o.isCells = true
  | [], _, _, q, h, hq => by obtain ⟨rfl, _⟩ := h; simp at hq
  | xs :: r, _, _, q, h, hq => by
    obtain ⟨p, ps', v, cs', rfl, rfl, h1, h2⟩ := h
    simp only [List.map_cons, List.mem_cons] at hq
    rcases hq with hq | hq
    · subst hq
      obtain ⟨o, cap, cl, a1, a2, a3, a4, a5⟩ := h1
      exact a4.isCells
    · exact h2.isCells hq
theorem ORd.isCells {w : World} {N : Bool → Nat → Prop} {K : Kn} {o : Obj} {gh : Gh} (hm : qdH o = true) (h : ORd w N K o gh) {p : Plc} (hp : Has gh p) : ∃ ob : Go.Obj, w.heap[p.blk]? = some ob ∧ ob.isCells = true := by
  cases o with
  | row e fr xs =>
    obtain ⟨h1, h2⟩ := h
    rcases hp with hp | hp
    · rw [hp] at h2
      obtain ⟨cs, h3, _⟩ := h2
      exact h3.isCells
    · rw [h1] at hp; simp [Shp.ex] at hp
  | box t x =>
    obtain ⟨hs, q, cs, hq, h1, h2⟩ := h
    rcases hp with hp | hp
    · rw [hq] at hp; injection hp with hp; subst hp; exact h1.isCells
    · rw [hs] at hp; simp [Shp.ex] at hp
  | cell v =>
    obtain ⟨hs, q, cs, hq, h1, h2⟩ := h
    rcases hp with hp | hp
    · rw [hq] at hp; injection hp with hp; subst hp; exact h1.isCells
    · rw [hs] at hp; simp [Shp.ex] at hp
  | map k v es => cases hm
  | fam e xss =>
    obtain ⟨hf, ps, hs, ha, h⟩ := h
    cases hpl : gh.pl with
    | none =>
      rw [hpl] at h
      rcases hp with hp | hp
      · rw [hpl] at hp; cases hp
      · rw [hs, h.2] at hp; simp [Shp.ex] at hp
    | some p0 =>
      rw [hpl] at h
      obtain ⟨cs, h1, h2⟩ := h
      rcases hp with hp | hp
      · rw [hpl] at hp; injection hp with hp; subst hp; exact h1.isCells
      · rw [hs] at hp; exact h2.isCells hp
section
variable {c : Cx} {P : Program} {GT : qEh} {H : qnc} {K : Kn} {w w' : World}
theorem Inv.abide (h : Inv c H K w) {row : Option Nat} (hg : w.grownBy w' row) (hr : ∀ r, row = some r → c.w0.heap.size ≤ r ∧ ∃ o : Go.Obj, w.heap[r]? = some o ∧ o.isCells = false) (hm : ∀ l o, H l = some o → qdH o = true) :
    Inv c H K w' ∧ (∀ fr b, NN c H K w fr b → NN c H K w' fr b) := by
  have hN : ∀ fr b, NN c H K w fr b → NN c H K w' fr b := fun fr b hb => ⟨Nat.lt_of_lt_of_le hb.1 hg.size, hb.2⟩
  have hcell : ∀ p v, w.cell? p = some v → w'.cell? p = some v := fun p v hv => cell_kept hv hg (fun r e => (hr r e).2)
  refine ⟨⟨fun l o hl => ?_, fun l o gh p h1 h2 h3 => ?_, h.inj, ?_⟩, hN⟩
  · obtain ⟨gh, g1, g2⟩ := h.objs l o hl
    refine ⟨gh, g1, g2.abide hcell hN (hm l o hl) (fun p hp => ?_)⟩
    obtain ⟨ob, h1, h2⟩ := g2.isCells (hm l o hl) hp
    exact grownBy_keeps_cells hg (fun r e => (hr r e).2) h1 h2
  · have := h.own l o gh p h1 h2 h3
    exact ⟨Nat.lt_of_lt_of_le this.1 hg.size, this.2⟩
  · refine ⟨hg.os.trans h.fr.os, hg.tape.trans h.fr.tape, hg.output.trans h.fr.output, Nat.le_trans h.fr.size hg.size, fun k hk hG => (hg.block k (Nat.lt_of_lt_of_le hk h.fr.size) (fun e => ?_)).trans (h.fr.block k hk hG)⟩
    have := (hr k e.symm).1
    omega
end
section
variable {c : Cx} {P : Program} {GT : qEh} {nt : Nat} {mnz : List Nat} {tab : List (Summ P GT)} {R : Type} {lf fin : Pos → Option R} {r : R}
theorem Glob.abide {w w' : World} (h : Glob P GT w) {row : Option Nat} (hg : w.grownBy w' row) (hr : ∀ r, row = some r → ∃ o : Go.Obj, w.heap[r]? = some o ∧ o.isCells = false) : Glob P GT w' := by
  have hcell : ∀ p v, w.cell? p = some v → w'.cell? p = some v := fun p v hv => cell_kept hv hg hr
  refine ⟨Nat.le_trans h.1 hg.size, fun g t x hl => ?_, fun g hl => ?_, fun g hl => ?_⟩
  · obtain ⟨a, b, cs, d, e⟩ := h.2.1 g t x hl
    exact ⟨a, b, cs, d.abide hcell, e.abide hcell (fun _ h => h)⟩
  · obtain ⟨u, ty, a, b, d, e⟩ := h.2.2.1 g hl
    exact ⟨u, ty, a, b, d, hcell _ _ e⟩
  · obtain ⟨m, e⟩ := h.2.2.2 g hl
    exact ⟨m, hcell _ _ e⟩
theorem RelS.abide {σ : St} {K : Kn} {a : Act} {w w' : World} (h : RelS c P GT nt σ K a w) {row : Option Nat} (hg : w.grownBy w' row) (hr : ∀ r, row = some r → c.w0.heap.size ≤ r ∧ ∃ o : Go.Obj, w.heap[r]? = some o ∧ o.isCells = false) (hm : ∀ l o, qBb σ.heap l = some o → qdH o = true) : RelS c P GT nt σ K a w' := by
  obtain ⟨h1, h2⟩ := h.rel.inv.abide hg hr hm
  have hcell : ∀ p v, w.cell? p = some v → w'.cell? p = some v := fun p v hv => cell_kept hv hg (fun r e => (hr r e).2)
  exact ⟨⟨h1, fun t => (h.rel.tmps t).abide hcell h2, h.rel.size, h.rel.defers, h.rel.ng, h.rel.gng, h.rel.glob.abide hg (fun r e => (hr r e).2)⟩, h.fresh⟩
theorem qvJ {F : Fence} (hF : ∀ f, F.fn f) (hd : F.depth = none) {n : Nat} {o : Oper} {a : Act} {w : World} {R : Value → World → Prop} {next : Act → World → Prop} {Q : Exit → Act → World → Prop} (hnd : ∀ c, o.op ≠ .defer c) (hwide : ∀ f args w R n, Calls P f args w R → CallsIn F n P f args w R)
    (h : Does P o a.eval w R) (hn : ∀ v w', R v w' → next (a.put o.dst v) w') : o.wpIn F n P a w next Q := by
  refine ⟨fun f _ => hF f, ?_⟩
  rw [Oper.semAt_eq _ _ _ hnd]
  unfold Does at h
  generalize (execOp a.eval o).run P w = r at h ⊢
  cases r with
  | ok nx w' =>
    cases nx <;> simp only at h
    case value v => exact hn v w' h
    case skip => exact hn _ w' h
    case enter f args =>
      refine ⟨fun h0 => (by rw [hd] at h0; cases h0), hwide _ _ _ _ _ (Calls.mono h ?_)⟩
      rintro e w'' ⟨v, rfl, h2⟩
      exact hn v w'' h2
  | halt x w' => exact h.elim
theorem Does.mono {o : Oper} {ρ : Operand → Value} {w : World} {R R' : Value → World → Prop} (h : Does P o ρ w R) (hr : ∀ v w', R v w' → R' v w') : Does P o ρ w R' := by
  unfold Does at h ⊢
  split at h
  · exact hr _ _ h
  · exact hr _ _ h
  · refine Calls.mono h ?_
    rintro e w'' ⟨v, e1, h2⟩
    exact ⟨v, e1, hr _ _ h2⟩
  · exact h.elim
theorem qwK (hm : ∀ f ∈ mnz, qWy P f) {T : Nat → TV} {H : qnc} {K : Kn} {a : Act} {w : World} {nl : Nat} (R0 : Rel c P GT nt T H K a w) {ops : Array Oper} {i : Nat} {o : Oper} {ts : List Nat} {k : Ev → Tr}
    (h : den lf fin (opN P GT mnz tab false ops.toList (Ab.keepT ts T) H nl i o k) = some r) (hdk : ∀ e, den lf fin (k e) = some r → qZA nt o.dst = true)
    (hf : ∀ l, nl ≤ l → l < nl + 8 → K l = none) :
    (Region.wanted o (yielded ops a.tmps) = true ∧ Does P o a.eval w fun u w' => ∃ e K', den lf fin (k e) = some r ∧ Rel c P GT nt (qSF T o.dst e.v) (qec H e.upd) K' (a.put o.dst u) w' ∧ (∀ l, K' l = K l ∨ (nl ≤ l ∧ l < nl + 8)) ∧ w.heap.size ≤ w'.heap.size ∧ KeepK w w' (NN c H K w) (NN c (qec H e.upd) K' w') K K') ∨
    (Region.wanted o (yielded ops a.tmps) = false ∧ ∃ e, den lf fin (k e) = some r ∧ Rel c P GT nt (qSF T o.dst e.v) (qec H e.upd) K (a.put o.dst undef) w ∧ KeepK w w (NN c H K w) (NN c (qec H e.upd) K w) K K) := by
  unfold opN at h
  split at h
  · rename_i y hy
    simp only [Bool.false_eq_true, if_false] at hy
    split at hy
    · rename_i hw
      refine .inl ⟨qGn R0 hw, ?_⟩
      obtain ⟨h0, h⟩ := qwu h
      simp only [den] at h
      have A : At c P GT H (qZc H []) K w (Ab.evT GT (Ab.keepT ts T)) a.eval nl :=
        ⟨R0.inv, qij, fun x => R0.keepT ts x, hf, R0.ng, R0.glob, R0.gng⟩
      refine Does.mono (qzD A hm hy h0) ?_
      rintro u w' ⟨x, hx, K', S, hu⟩
      obtain ⟨v', c', os, h1, h2, h3⟩ := qXn (qZk h x hx)
      have hv : TVRd w' (NN c (qec H (y.out x).upd) K' w') K' v' u := by
        have hdec := h1 []
        unfold qzl at hdec
        split at hdec
        · split at hdec
          · rename_i b c'' os'' hb hos
            simp only [Option.some.injEq, Prod.mk.injEq] at hdec
            obtain ⟨rfl, rfl, _⟩ := hdec
            rw [hb] at hu
            have : b = c'' := h2.1
            rw [← this]; exact hu
          · cases hdec
        · simp only [Option.some.injEq, Prod.mk.injEq] at hdec
          obtain ⟨rfl, rfl, _⟩ := hdec
          exact hu
      exact ⟨_, K', h3, R0.put S hv (hdk _ h3), S.fresh, S.size, S.keep⟩
    · cases hy
  · obtain ⟨e, c', os, h1, h2, h3⟩ := qFI h
    replace h1 := h1 []
    rw [List.append_nil] at h1
    unfold qKH at h1
    split at h1
    · rename_i hw
      refine .inl ⟨qGn R0 hw, ?_⟩
      unfold qPG at h1
      split at h1
      · rename_i oc os1 hoc
        simp only at h1
        split at h1
        · rename_i out hout
          split at h1
          · rename_i v c2 os2 hdec
            simp only [Option.some.injEq, Prod.mk.injEq] at h1
            obtain ⟨rfl, rfl, rfl⟩ := h1
            have hc1 : qFh c2 ∧ qFh out.conds := by
              clear hdec
              induction c2 with
              | nil => exact ⟨trivial, h2⟩
              | cons x xs ih => exact ⟨⟨h2.1, (ih h2.2).1⟩, (ih h2.2).2⟩
            have A : At c P GT H (qZc H (qxE (Ab.evT GT (Ab.keepT ts T)) o.op ++ qyv oc)) K w (Ab.evT GT (Ab.keepT ts T)) a.eval nl :=
              ⟨R0.inv, qij, fun x => R0.keepT ts x, hf, R0.ng, R0.glob, R0.gng⟩
            refine Does.mono (qZF A hout hc1.2) ?_
            rintro u w' ⟨K', S, hu⟩
            have hv : TVRd w' (NN c (qec H out.upd) K' w') K' v u := by
              unfold qzl at hdec
              split at hdec
              · split at hdec
                · rename_i b c' os'' hb
                  simp only [Option.some.injEq, Prod.mk.injEq] at hdec
                  obtain ⟨rfl, rfl, rfl⟩ := hdec
                  rw [hb] at hu
                  have : b = c' := hc1.1.1
                  rw [← this]; exact hu
                · cases hdec
              · simp only [Option.some.injEq, Prod.mk.injEq] at hdec
                obtain ⟨rfl, rfl, rfl⟩ := hdec
                exact hu
            exact ⟨_, K', h3, R0.put S hv (hdk _ h3), S.fresh, S.size, S.keep⟩
          · cases h1
        · cases h1
      · cases h1
    · rename_i hw
      refine .inr ⟨qGn R0 hw, ?_⟩
      simp only [Option.some.injEq, Prod.mk.injEq] at h1
      obtain ⟨rfl, rfl, rfl⟩ := h1
      have S := Stp.refl R0.inv nl
      exact ⟨_, h3, R0.put S rfl (hdk _ h3), S.keep⟩
    · cases h1
theorem qEI {F : Fence} (hF : ∀ f, F.fn f) (hd : F.depth = none) {n : Nat} (hwide : ∀ f args w R n, Calls P f args w R → CallsIn F n P f args w R) (hm : ∀ f ∈ mnz, qWy P f) {ops : Array Oper} (hnd : ∀ o ∈ ops.toList, ∀ cl, o.op ≠ .defer cl) {Q : Exit → Act → World → Prop} {n0 : Nat} : ∀ (q : List Oper) (i : Nat) (σ : St) (k : St → List (Oper × Ev) → Tr) (K : Kn) (a : Act) (w : World),
    den lf fin (quK P GT nt mnz tab false ops.toList i q σ k) = some r → ops.toList.drop i = q → i + q.length = ops.size → σ.next = n0 → Rel c P GT nt σ.look (qBb σ.heap) K a w → (∀ l, n0 + 8 * i ≤ l → K l = none) →
    (∀ σ' tr a' w' K', den lf fin (k σ' tr) = some r → σ'.next = n0 → Rel c P GT nt σ'.look (qBb σ'.heap) K' a' w' → (∀ l, n0 + 8 * ops.size ≤ l → K' l = none) → w.heap.size ≤ w'.heap.size → KeepK w w' (NN c (qBb σ.heap) K w) (NN c (qBb σ'.heap) K' w') K K' → Q .normal a' w') →
    wpOpsIn F n P ops Q (List.range' i q.length) a w
  | [], i, σ, k, K, a, w, h, hr, hi, hn, R0, hf, hQ => by
    simp only [List.length_nil] at hi
    exact hQ σ [] a w K h hn R0 (fun l hl => hf l (by omega)) (Nat.le_refl _) (KeepK.refl _ _ _)
  | o :: q, i, σ, k, K, a, w, h, hr, hi, hn, R0, hf, hQ => by
    simp only [quK] at h
    have hoi : ops[i]? = some o := by
      rw [← Array.getElem?_toList, ← List.head?_drop, hr]; rfl
    have hom : o ∈ ops.toList := List.mem_of_getElem? (by rw [Array.getElem?_toList]; exact hoi)
    have hr2 : ops.toList.drop (i + 1) = q := by
      rw [← List.tail_drop, hr]; rfl
    rw [List.length_cons, List.range'_succ, wpOpsIn_cons]
    unfold wpOpIn
    rw [hoi]
    have go : ∀ a' w' K' e, den lf fin (if qZA nt o.dst = true then quK P GT nt mnz tab false ops.toList (i + 1) q (σ.put o.dst e) fun σ' tr => k σ' ((o, e) :: tr) else .dead) = some r → Rel c P GT nt (qSF σ.look o.dst e.v) (qec (qBb σ.heap) e.upd) K' a' w' → (∀ l, K' l = K l ∨ (σ.next + 8 * i ≤ l ∧ l < σ.next + 8 * i + 8)) → w.heap.size ≤ w'.heap.size → KeepK w w' (NN c (qBb σ.heap) K w) (NN c (qec (qBb σ.heap) e.upd) K' w') K K' →
        wpOpsIn F n P ops Q (List.range' (i + 1) q.length) a' w' := by
      intro a' w' K' e he R' hk hsz hmn
      rw [qnv, qlq (dst := o.dst)] at R'
      rw [qlq (dst := o.dst)] at hmn
      split at he
      · refine qEI hF hd hwide hm hnd q (i + 1) (σ.put o.dst e) _ K' a' w' he hr2 (by simp only [List.length_cons] at hi; omega) hn R' (fun l hl => ?_) (fun σ' tr a'' w'' K'' g1 g2 R'' h1 hsz2 h2 => hQ σ' _ a'' w'' K'' g1 g2 R'' h1 (Nat.le_trans hsz hsz2) (hmn.trans h2))
        rcases hk l with h1 | h1
        · rw [h1]; exact hf l (by omega)
        · omega
      · cases he
    rcases qwK hm R0 h (fun e he => by
      split at he
      · assumption
      · cases he) (fun l h1 h2 => hf l (by omega)) with ⟨hw, hdo⟩ | ⟨hw, e, he, R', hk⟩
    · simp only [hw, if_true]
      refine qvJ hF hd (hnd o hom) hwide hdo ?_
      rintro u w' ⟨e, K', he, R', hk, hsz, hmn⟩
      exact go _ _ K' e he R' hk hsz hmn
    · simp only [hw, Bool.false_eq_true, if_false]
      exact ⟨fun f _ => hF f, go _ _ K e he R' (fun _ => .inl rfl) (Nat.le_refl _) hk⟩
theorem qqI {F : Fence} (hF : ∀ f, F.fn f) (hd : F.depth = none) {n : Nat} (hwide : ∀ f args w R n, Calls P f args w R → CallsIn F n P f args w R) (hm : ∀ f ∈ mnz, qWy P f) {id : Nat} {ops : Array Oper} (hnd : ∀ o ∈ ops.toList, ∀ cl, o.op ≠ .defer cl) {σ : St} {k : St → Tr} {K : Kn} {a : Act} {w : World}
    (h : den lf fin (qsm P GT nt mnz tab ops.toList false σ k) = some r) (R0 : RelS c P GT nt σ K a w) {Q : Exit → Act → World → Prop}
    (hQ : ∀ σ' K' a' w', den lf fin (k σ') = some r → RelS c P GT nt σ' K' a' w' → w.heap.size ≤ w'.heap.size → KeepK w w' (NN c (qBb σ.heap) K w) (NN c (qBb σ'.heap) K' w') K K' → Q .normal a' w') :
    (Code.region id ops false).wpIn F n P Q a w := by
  unfold qsm at h
  refine wpIn_region ?_
  have := qEI hF hd hwide hm hnd (Q := Q) (n0 := σ.next) (n := n) ops.toList 0 σ _ K a w h (by simp) (by simp) rfl R0.rel (fun l hl => R0.fresh l (by omega)) (fun σ' tr a' w' K' g1 g2 R' g3 gs g4 => by
    simp only [Bool.not_false, Bool.true_or, if_true] at g1
    exact hQ { σ' with next := σ.next + 8 * ops.toList.length } K' a' w' g1 ⟨R', fun l hl => g3 l (by simpa using hl)⟩ gs g4)
  rw [List.range_eq_range']
  simpa using this
theorem KeepK.others {σ σ' : St} {K K' : Kn} {a a' : Act} {w w' : World} (R0 : RelS c P GT nt σ K a w) (R' : RelS c P GT nt σ' K' a' w') (h : KeepK w w' (NN c (qBb σ.heap) K w) (NN c (qBb σ'.heap) K' w') K K') (hm : ∀ l o, qBb σ.heap l = some o → qdH o = true) (hG : ∀ b, c.G b → qUb (qBb σ.heap) K b) (hs : w.heap.size ≤ w'.heap.size) : KeepsOthers w w' := by
  refine ⟨hs, fun b o hb hno => ?_⟩
  have hlt := (Array.getElem?_eq_some_iff.1 hb).1
  by_cases hlive : qUb (qBb σ.heap) K b
  · exfalso
    obtain ⟨l, ob, gh, p, h1, h2, h3, rfl⟩ := hlive
    obtain ⟨gh', g1, g2⟩ := R0.rel.inv.objs l ob h1
    rw [h2] at g1; injection g1 with g1; subst g1
    obtain ⟨ob2, e1, e2⟩ := g2.isCells (hm l ob h1) h3
    rw [hb] at e1; injection e1 with e1; subst e1
    rw [hno] at e2; cases e2
  · by_cases h0 : c.w0.heap.size ≤ b
    · exact (((h.n true).k b ⟨hlt, hlive, .inl h0⟩).2).trans hb
    · have hnG : ¬ c.G b := fun hg => hlive (hG b hg)
      rw [R'.rel.inv.fr.block b (by omega) hnG, ← R0.rel.inv.fr.block b (by omega) hnG]
      exact hb
theorem RelS.keep {σ σ' : St} {K : Kn} {a : Act} {w : World} {ts : List Nat} {ren : List (Nat × Nat)} {nx : Nat} {lo : Bool} (R0 : RelS c P GT nt σ K a w) (h : σ.keep ts ren nx lo = some σ') :
    ∃ K', RelS c P GT nt σ' K' a w ∧ (∀ l, l < 8 → K' l = K l) ∧ (∀ b, NN c (qBb σ.heap) K w false b → NN c (qBb σ'.heap) K' w false b) ∧ (∀ l m, qKd ren l = some m → K' m = K l) ∧ ∀ l o gh p, qKd ren l = none → qBb σ.heap l = some o → K l = some gh → Has gh p → NN c (qBb σ'.heap) K' w false p.blk := by
  unfold St.keep at h
  split at h
  · rename_i hok
    split at h
    · rename_i tl hl0 e1 e2
      simp only [Option.some.injEq] at h; subst h
      obtain ⟨K', X, hI, h8, hx⟩ := qew R0 hok e2
      refine ⟨K', ⟨⟨hI, fun t => ?_, R0.rel.size, R0.rel.defers, R0.rel.ng, R0.rel.gng, R0.rel.glob⟩, fun l hl => hx l hl⟩, h8, fun b hb => by simpa using X.n false b hb, X.k, fun l o gh p h1 h2 h3 h4 => by simpa using X.gone l o gh p trivial h1 h2 h3 h4 false⟩
      show TVRd w (NN c (qBb hl0) K' w) K' (St.look ⟨tl, hl0, nx⟩ t) _
      unfold St.look
      split
      · rename_i v hv
        exact qgw X R0.rel.inv (fun _ _ h => h) (fun _ _ => trivial) (qKp e1 hv) (R0.rel.tmps t)
      · trivial
    · cases h
  · cases h
def qZB (σ : St) (ts : List Nat) (pre : Bool) : List (Nat × Nat) :=
  let lk := qBb σ.heap
  let locs := qlv lk true 60 ((if pre then (List.range 8).filter fun l => (lk l).isSome else []) ++ ts.flatMap fun t => qbo (σ.look t)) []
  (locs.filter (· < 8)).map (fun l => (l, l)) ++ qcN 8 (locs.filter fun l => !(l < 8))
theorem RelS.keepSt {σ σ' : St} {K : Kn} {a : Act} {w : World} {ts : List Nat} {lo pre : Bool} (R0 : RelS c P GT nt σ K a w) (h : Ab.keepSt σ ts lo pre = some σ') :
    ∃ K', RelS c P GT nt σ' K' a w ∧ (∀ l, l < 8 → K' l = K l) ∧ (∀ b, NN c (qBb σ.heap) K w false b → NN c (qBb σ'.heap) K' w false b) ∧ (∀ l m, qKd (qZB σ ts pre) l = some m → K' m = K l) ∧ ∀ l o gh p, qKd (qZB σ ts pre) l = none → qBb σ.heap l = some o → K l = some gh → Has gh p → NN c (qBb σ'.heap) K' w false p.blk := R0.keep h
theorem Inv.df {H : qnc} {K : Kn} {w : World} (h : Inv c H K w) (d : List Deferred) : Inv { c with df := d } H K w := ⟨h.objs, h.own, h.inj, ⟨h.fr.os, h.fr.tape, h.fr.output, h.fr.size, h.fr.block⟩⟩
theorem RelS.df {σ : St} {K : Kn} {a : Act} {w : World} (h : RelS c P GT nt σ K a w) (d : List Deferred) : RelS { c with df := d } P GT nt σ K { a with defers := d } w :=
  ⟨⟨h.rel.inv.df d, h.rel.tmps, h.rel.size, rfl, h.rel.ng, h.rel.gng, h.rel.glob⟩, h.fresh⟩
theorem RelS.act {σ σ' : St} {K : Kn} {a a' : Act} {w : World} (h : RelS c P GT nt σ K a w) (hh : σ'.heap = σ.heap) (hn : σ'.next = σ.next) (hs : a'.tmps.size = a.tmps.size) (hd : a'.defers = a.defers)
    (ht : ∀ t, TVRd w (NN c (qBb σ.heap) K w) K (σ'.look t) (a'.eval (.tmp t))) : RelS c P GT nt σ' K a' w := by
  refine ⟨⟨by rw [hh]; exact h.rel.inv, by rw [hh]; exact ht, hs.trans h.rel.size, hd.trans h.rel.defers, h.rel.ng, h.rel.gng, h.rel.glob⟩, by rw [hn]; exact h.fresh⟩
end
def qQM : Code → Bool
  | .seq _ _ => true
  | _ => false
def qVL : Code → Bool
  | .cond _ _ _ => true
  | _ => false
def qBK : Code → Bool
  | .block _ _ => true
  | _ => false
def qNN : Code → Nat
  | .block i _ => i
  | _ => 0
def qkM : Code → Operand
  | .cond o _ _ => o
  | _ => .tmp 0
def qbO : Code → List Oper
  | .region _ ops _ => ops.toList
  | _ => []
def qHI : Oper → Bool := fun o => match o.op with
  | .defer _ => false
  | _ => true
def qRM : Code → Bool
  | .region _ ops false => ops.toList.all qHI
  | _ => false
def qjO : Code → Bool
  | .rangeFunc _ _ _ _ => true
  | _ => false
def rfF : Code → Operand
  | .rangeFunc f _ _ _ => f
  | _ => .tmp 0
def rfP : Code → Array Tmp
  | .rangeFunc _ p _ _ => p
  | _ => #[]
def rfA : Code → Code
  | .rangeFunc _ _ a _ => a
  | _ => .skip
def rfB : Code → Code
  | .rangeFunc _ _ _ b => b
  | _ => .skip
theorem rfC {c : Code} (h : qjO c = true) : c = .rangeFunc (rfF c) (rfP c) (rfA c) (rfB c) := by
  cases c <;> first | (cases h; done) | rfl
section
variable {F : Fence} {n : Nat} {P : Program} {Q : Exit → Act → World → Prop} {a : Act} {w : World}
theorem qpp {c : Code} (hs : qQM c = true) (h : (qGa c).wpIn F n P (Exit.then ((qaa c).wpIn F n P Q) Q) a w) : c.wpIn F n P Q a w := by
  cases c <;> first | (cases hs; done) | exact wpIn_seq h
theorem qvD {c : Code} (hs : qBK c = true) (h : (cIn c).wpIn F n P (Exit.inBlock (qNN c) Q) a w) : c.wpIn F n P Q a w := by
  cases c <;> first | (cases hs; done) | exact wpIn_block h
theorem qPK {c : Code} {t : Bool} (hs : qVL c = true) (hc : a.eval (qkM c) = .bool t) (h : (if t then qdO c else qeO c).wpIn F n P Q a w) : c.wpIn F n P Q a w := by
  cases c <;> first | (cases hs; done) | exact wpIn_cond hc h
end
section
variable {c : Cx} {P : Program} {GT : qEh} {nt : Nat} {mnz : List Nat} {tab : List (Summ P GT)} {R : Type} {lf fin : Pos → Option R} {r : R}
theorem qtm {F : Fence} (hF : ∀ f, F.fn f) (hd : F.depth = none) {n : Nat} (hwide : ∀ f args w R n, Calls P f args w R → CallsIn F n P f args w R) (hm : ∀ f ∈ mnz, qWy P f) {cd : Code} (hok : qRM cd = true) {σ : St} {k : St → Tr} {K : Kn} {a : Act} {w : World}
    (h : den lf fin (qsm P GT nt mnz tab (qbO cd) false σ k) = some r) (R0 : RelS c P GT nt σ K a w) {Q : Exit → Act → World → Prop}
    (hQ : ∀ σ' K' a' w', den lf fin (k σ') = some r → RelS c P GT nt σ' K' a' w' → w.heap.size ≤ w'.heap.size → KeepK w w' (NN c (qBb σ.heap) K w) (NN c (qBb σ'.heap) K' w') K K' → Q .normal a' w') :
    cd.wpIn F n P Q a w := by
  cases cd with
  | region id ops draw =>
    cases draw with
    | true => cases hok
    | false =>
      refine qqI hF hd hwide hm (fun o ho cl => ?_) h R0 hQ
      have := List.all_eq_true.1 hok o ho
      unfold qHI at this
      intro he
      rw [he] at this; cases this
  | _ => cases hok
theorem qPD {l : Nat} : ∀ f args w R n, Calls P f args w R → CallsIn (Fence.wide.inRound l) n P f args w R := fun f args w R n h => CallsIn.inRound l (callsIn_wide.2 h)
theorem qkq : ∀ f args w R n, Calls P f args w R → CallsIn Fence.wide n P f args w R := fun f args w R n h => callsIn_wide.2 h
end
end Go.Ab

/-
  A law's row where the world's shape is kept: some int stands in a variable that no one lists.
-/
set_option linter.unusedVariables false
namespace Go.Ab
open Go
variable {H : Type} {enc : TypeId × Value → H}
theorem returns_shaped {C : Checked} {os : Os} {f : FuncId} {fn : Func} {s : ChangeSpec} {conds : List PathCond} {apart : Bool} {X : World → Prop}
    (hX : ∀ w w' : World, w.heap = w'.heap → X w → X w') (own : ownKnob C.prog.godebug = none) (started : os.Started) (noInit : C.prog.inits.idxOf? f = none) (hfn : C.prog.funcs[f]? = some fn)
    (wit : ∃ (w : World) (tape : Tape) (i : Input), w.os = os ∧ (w.forCall tape i).Shaped C.prog ∧ i.vars = [] ∧ Input.okWide C.prog (w.forCall tape i) .any w.heap.size f i ∧
      ((s.pre enc C.prog fn conds apart (w.forCall tape i).memory i.args ∧ X (w.forCall tape i).memory) ∧ sizedMet enc C.prog fn (OpenSpec.ofChange s) apart (w.forCall tape i).memory i.args) ∧ Assume.holds {} C.prog (lone (Frame.enter C.prog f i.args .normal) [] (w.forCall tape i)))
    (con : ∀ (W : World) (base : Nat) (args : Array Value) (ds gs : List (DataW H)) (before : List MemPlace), X W → W.ShapedOpen C.prog →
      (∀ (j : Nat) t v, fn.params[j]? = some t → args[j]? = some v → Value.okWide C.prog W .any base t v) → DataW.Whole enc C.prog fn.params.toList s.vars apart W args.toList ds gs before →
      Calls C.prog f args W fun e W' => ∃ v, e = .returned v ∧ s.post enc C.prog fn apart true false false W args v W') :
    ReturnsInHanded {} C os f .any (fun w args => (s.pre enc C.prog fn conds apart w args ∧ X w) ∧ sizedMet enc C.prog fn (OpenSpec.ofChange s) apart w args) (s.post enc C.prog fn apart true false false) := by
  refine returnsInHanded_of_calls own started noInit wit fun w tape i _ hs _ ok pre _ => ?_
  obtain ⟨_, _, _, fn', e', _, _, _, _, hv⟩ := ok
  obtain rfl : fn' = fn := Option.some.inj (e'.symm.trans hfn)
  obtain ⟨⟨⟨ds, gs, before, hw, _⟩, hx⟩, _⟩ := pre
  refine (con (w.forCall tape i) w.heap.size i.args ds gs before (hX _ _ (by rfl) hx) hs hv (DataW.Whole.of_heap (w' := w.forCall tape i) (by rfl) hw)).mono fun e W' ⟨v, he, hp⟩ => ?_
  subst he
  exact ChangeSpec.post_blind hp
end Go.Ab
