/-
  An abstract machine over the model's code and its soundness; what the functions compute, as plain functions (printed by a program of this repo's own, checked here by the kernel); plain laws of them: part 3. Helper text, no statement of the claim stands here.
-/
import Derived.Test.YtgdhbgphdojmoaaGreatDoorTxtHb
import Derived.WalkKit
import Derived.ProofKit
import Derived.OpenShut
import Derived.ShutString
import Derived.ChangeOld
import Derived.Below
import Derived.SizedLaws
import Derived.LaidMore
import Derived.RangeFuncFrom
import Derived.RangeFuncLeaves
import Derived.RangeFuncCalls
import Derived.OrdersIn
import Derived.Shelf.Vars
/-
  What a function computes, as a plain function: the machine's own runs, with what is open left open.
-/
set_option linter.unusedVariables false
set_option linter.unusedSimpArgs false
namespace Go.Ab
open Go
structure Summ (P : Program) (GT : qfg) where
  f : Nat
  acc : List AV → Bool
  rows : Bool
  nils : Bool
  R : Type
  fn : List AV → List (Nat × Obj) → Option R
  res : R → TV
  post : R → List (Nat × Obj)
  drop : Bool := false
  ok : ∀ as pre r, fn as pre = some r → CallOK P GT f as pre (res r) (post r)
@[reducible] def Summ.dropping {P : Program} {GT : qfg} (S : Summ P GT) : Summ P GT := { S with drop := true }
def qtD {P : Program} {GT : qfg} (f : Nat) (vs : List AV) : List (Summ P GT) → Option (Summ P GT)
  | [] => none
  | S :: r => if S.f == f && S.acc vs then some S else qtD f vs r
theorem qjB {P : Program} {GT : qfg} {f : Nat} {vs : List AV} : ∀ {tab : List (Summ P GT)} {S : Summ P GT}, qtD f vs tab = some S → S.f = f
  | [], S, h => by cases h
  | T :: r, S, h => by
    simp only [qtD] at h
    split at h
    · rename_i hc
      simp only [Option.some.injEq] at h; subst h
      simp only [Bool.and_eq_true, beq_iff_eq] at hc; exact hc.1
    · exact qjB h
inductive Tr : Type 1
  | bit (b : Bool) (t e : Tr)
  | safe (p : Prop) (t : Tr)
  | call (R : Type) (v : Option R) (k : R → Tr)
  | any (R : Type) (p : R → Prop) (k : R → Tr)
  | leaf (s : Pos)
  | ret (s : Pos)
  | dead
@[reducible] noncomputable def gd {R : Type} (p : Prop) (x : Option R) : Option R := @ite _ p (Classical.propDecidable p) x none
theorem qea {R : Type} {p : Prop} (h : p) (x : Option R) : gd p x = x := if_pos h
theorem qLj {R : Type} {p : Prop} {x : Option R} {r : R} (h : gd p x = some r) : p ∧ x = some r := by
  unfold gd at h
  split at h
  · exact ⟨by assumption, h⟩
  · cases h
open Classical in
noncomputable def qIC {X R : Type} (p : X → Prop) (f : X → Option R) : Option R :=
  if h : (∃ x, p x) ∧ ∃ r, ∀ x, p x → f x = some r then some (Classical.choose h.2) else none
theorem qxl {X R : Type} {p : X → Prop} {f : X → Option R} {r : R} (h : qIC p f = some r) : ∀ x, p x → f x = some r := by
  unfold qIC at h
  split at h
  · rename_i hh
    simp only [Option.some.injEq] at h
    exact h ▸ Classical.choose_spec hh.2
  · cases h
theorem qKp {X R : Type} {p : X → Prop} {f : X → Option R} {r : R} (x : X) (hx : p x) (h : ∀ x, p x → f x = some r) : qIC p f = some r := by
  have hh : (∃ x, p x) ∧ ∃ r, ∀ x, p x → f x = some r := ⟨⟨x, hx⟩, r, h⟩
  unfold qIC
  rw [dif_pos hh]
  have := Classical.choose_spec hh.2 x hx
  rw [h x hx] at this
  exact this.symm
theorem qHC {X R : Type} {p : X → Prop} {f : X → Option R} {r : R} (h : qIC p f = some r) : ∃ x, p x := by
  unfold qIC at h
  split at h
  · rename_i hh; exact hh.1
  · cases h
noncomputable def den {R : Type} (lf fin : Pos → Option R) : Tr → Option R
  | .bit b t e => if b = true then den lf fin t else den lf fin e
  | .safe p t => gd p (den lf fin t)
  | .call _ v k => v.bind fun r => den lf fin (k r)
  | .any _ p k => qIC p fun x => den lf fin (k x)
  | .leaf s => lf s
  | .ret s => fin s
  | .dead => none
def qID (rows : Bool) : AV → List Nat
  | .ptr _ l _ => [l]
  | .ifp _ _ l _ => [l]
  | .cptr l => [l]
  | .func _ caps => caps
  | .mapr l => [l]
  | .ref _ l _ _ _ => if rows then [l] else []
  | .bref _ l _ _ _ _ => if rows then [l] else []
  | .agg t x => if rows then qxq t x else []
  | _ => []
def qSG (rows : Bool) : Obj → List Nat
  | .box t x => if rows then qxq t x else []
  | .cell v => qID rows v
  | _ => []
def qCt (lk : qOb) (rows : Bool) : Nat → List Nat → List Nat → List Nat
  | 0, _, acc => acc
  | _, [], acc => acc
  | n + 1, l :: q, acc => if acc.contains l then qCt lk rows n q acc else qCt lk rows n (q ++ (match lk l with
    | some o => qSG rows o
    | none => [])) (acc ++ [l])
def qHG : Nat → List Nat → List (Nat × Nat)
  | _, [] => []
  | n, l :: r => (n, l) :: qHG (n + 1) r
def qvC : List Prop → Tr → Tr
  | [], t => t
  | p :: r, t => .safe p (qvC r t)
def qos (g : Bool) (v : TV) (k : TV → Tr) : Tr :=
  if g then match v with
    | .one (.bool b) => .bit b (k (.one (.bool true))) (k (.one (.bool false)))
    | _ => .dead
  else k v
section
variable (P : Program) (GT : qfg) (nt : Nat) (mnz : List Nat) (tab : List (Summ P GT))
def qmG (H : qOb) (nl : Nat) (ev : Operand → TV) (op : Op) (k : Out → List Nat → Tr) : Tr :=
  match op with
  | .call { callee := .value f, args, argTypes := _ } => match ev1 ev f, evs ev args.toList with
    | some (.func f caps), some vs0 => match qDo (qmd H (qHz ev op)) caps with
      | some cs => match qtD f (vs0 ++ cs) tab with
        | some S =>
          let locs := qCt H S.rows 60 ((vs0 ++ cs).flatMap (qID S.rows)) []
          let ren := qHG 0 locs
          let use := (vs0 ++ cs).flatMap qEi ++ locs.flatMap fun l => match H l with
            | some o => qat o
            | none => []
          let L := qHz ev op ++ (ren.map (·.2) ++ use)
          match qDd (qmd H L) ren true (vs0 ++ cs), qmc (qmd H L) ren true ren with
          | some pv, some hl => match qWo hl with
            | some pre => .call S.R (S.fn ((if S.nils then pv else qJr P (qei P f) pv)) pre) fun r =>
              match qys P GT (qmd H L) nl f (vs0 ++ cs) ⟨(if S.nils then pv else qJr P (qei P f) pv), pre, ren, use, S.res r, S.post r, S.drop⟩ with
              | some out => k out L
              | none => .dead
            | none => .dead
          | _, _ => .dead
        | none => .dead
      | none => .dead
    | _, _ => .dead
  | _ => .dead
def opT (ops : List Oper) (T : Nat → TV) (H : qOb) (nl i : Nat) (o : Oper) (k : Ev → Tr) : Tr :=
  match qwA ops T o with
  | some false => k ⟨.one .gone, [], []⟩
  | none => .dead
  | some true =>
    if qtE o.op then qmG P GT tab H nl (evT GT T) o.op fun out L => qos (qIy ops i) out.v fun v => k ⟨v, out.upd, L⟩
    else match qSa P GT (evT GT T) (qmd H (qHz (evT GT T) o.op)) nl none o.type o.op with
      | some out => qvC out.conds (qos (qIy ops i) out.v fun v => k ⟨v, out.upd, qHz (evT GT T) o.op⟩)
      | none => .dead
def opN (draw : Bool) (ops : List Oper) (T : Nat → TV) (H : qOb) (nl i : Nat) (o : Oper) (k : Ev → Tr) : Tr :=
  match (if draw then none else match qwA ops T o with
    | some true => qKC P mnz (evT GT T) nl o.op
    | _ => none) with
  | some a => qvC a.pre (.any a.R a.p fun x => qos (qIy ops i) (a.out x).v fun v => k ⟨v, (a.out x).upd, []⟩)
  | none => opT P GT tab ops T H nl i o k
def qwF (draw : Bool) (ops : List Oper) : Nat → List Oper → St → (St → List (Oper × Ev) → Tr) → Tr
  | _, [], σ, k => k σ []
  | i, o :: r, σ, k => opN P GT mnz tab draw ops (keepT (o.looksAt ops.toArray) σ.look) (qjd σ.heap) (σ.next + 8 * i) i o fun e =>
    if qBx nt o.dst then qwF draw ops (i + 1) r (σ.put o.dst e) fun σ' tr => k σ' ((o, e) :: tr) else .dead
def qcu (ops : List Oper) (draw : Bool) (σ : St) (k : St → Tr) : Tr :=
  qwF P GT nt mnz tab draw ops 0 ops σ fun σ' tr => if !draw || qPy ops tr then k { σ' with next := σ.next + 8 * ops.length } else .dead
def qlD (s : Pos) (k : Pos → Tr) : Tr :=
  match s.todo with
  | .code .skip :: q | .code (.label _) :: q | .inBlock _ :: q | .inScope _ :: q => k ⟨q, s.st⟩
  | .code (.scope body) :: q => k ⟨.code body :: .inScope body :: q, s.st⟩
  | .code (.seq a b) :: q => k ⟨.code a :: .code b :: q, s.st⟩
  | .code (.cond c x y) :: q => match evO GT s.st c with
    | .one (.bool b) => .bit b (k ⟨.code x :: q, s.st⟩) (k ⟨.code y :: q, s.st⟩)
    | _ => .dead
  | .code (.block id body) :: q => k ⟨.code body :: .inBlock id :: q, s.st⟩
  | .code (.loop body) :: q | .inLoop body :: q => k ⟨.code body :: .inLoop body :: q, s.st⟩
  | .code (.exit id) :: q => match exitTo id q with
    | some q' => k ⟨q', s.st⟩
    | none => .dead
  | .code (.goto l) :: q => match gotoIn l q with
    | some q' => k ⟨q', s.st⟩
    | none => .dead
  | .code (.region _ ops draw) :: q => qcu P GT nt mnz tab ops.toList draw s.st fun σ => k ⟨q, σ⟩
  | _ => .dead
structure Cut where
  key : Nat × Nat
  ts : List Nat
  lo : Bool
  pre : Bool := false
  fams : List Nat := []
def qdq : Code → Option Nat
  | .region id _ _ => some id
  | .seq a b => match qdq a with
    | some i => some i
    | none => qdq b
  | .cond _ a b => match qdq a with
    | some i => some i
    | none => qdq b
  | .block _ b => qdq b
  | .loop b => qdq b
  | .scope b => qdq b
  | _ => none
def qQG (todo : List Item) : Nat × Nat :=
  match todo with
  | .code c :: q => match qdq c with
    | some i => (i, q.length)
    | none => (0, 0)
  | _ => (0, 0)
def qsx (key : Nat × Nat) : List Cut → Option Cut
  | [] => none
  | c :: r => if c.key.1 == key.1 && c.key.2 == key.2 then some c else qsx key r
def qZF (σ : St) (ts : List Nat) (lo pre : Bool) : Option St :=
  let lk := qjd σ.heap
  let locs := qCt lk true 60 ((if pre then (List.range 8).filter fun l => (lk l).isSome else []) ++ ts.flatMap fun t => qgn (σ.look t)) []
  let ren := (locs.filter (· < 8)).map (fun l => (l, l)) ++ qHG 8 (locs.filter fun l => !(l < 8))
  σ.keep ts ren (8 + locs.length) lo
def qeG : Option Obj → Option Obj
  | some (.row (.slice e) fr []) => if e.flat then some (.fam e []) else some (.row (.slice e) fr [])
  | o => o
def qMD (ns : List Nat) : List (Nat × Option Obj) → List (Nat × Option Obj)
  | [] => []
  | p :: r => (if ns.contains p.1 then (p.1, qeG p.2) else p) :: qMD ns r
def qcF (σ : St) (ns : List Nat) : St := match ns with
  | [] => σ
  | ns => { σ with heap := qMD ns σ.heap }
def qIG (c : Cut) (s : Pos) : Tr :=
  match qZF s.st c.ts c.lo c.pre with
  | some σ => .leaf ⟨s.todo, qcF σ c.fams⟩
  | none => .dead
def qJB (todo : List Item) : Option (List Item) :=
  match todo with
  | .code (.loop body) :: q | .inLoop body :: q => some (.code body :: .inLoop body :: q)
  | .code (.goto l) :: q => gotoIn l q
  | _ => none
def qoz (cuts : List Cut) : Nat → Bool → Pos → Tr
  | 0, _, _ => .dead
  | n + 1, first, s =>
    match qPz s.todo with
    | true => .ret s
    | false => match qJB s.todo with
      | some todo' => match qsx (qQG todo') cuts with
        | some c => qIG c ⟨todo', s.st⟩
        | none => qoz cuts n false ⟨todo', s.st⟩
      | none => match first, s.todo with
        | false, .code (.region id _ _) :: q => match qsx (id, q.length) cuts with
          | some c => qIG c s
          | none => qlD P GT nt mnz tab s (qoz cuts n false)
        | _, _ => qlD P GT nt mnz tab s (qoz cuts n false)
end
structure FnI (P : Program) (GT : qfg) where
  f : Nat
  cuts : List Cut
  tab : List (Summ P GT)
  fm : Fm
  mnz : List Nat := []
  mnzOk : ∀ f ∈ mnz, qmA P f := by intro f h; cases h
section
variable {P : Program} {GT : qfg} (I : FnI P GT)
noncomputable def FnI.go (s : Pos) (lf : Pos → Option I.fm.R) : Option I.fm.R :=
  den lf (I.fm.fin P (qGF P I.f)) (qoz P GT (qYu P I.f) I.mnz I.tab I.cuts 3000 true s)
inductive FnI.SemR (r : I.fm.R) : Pos → Prop
  | mk (s : Pos) (lf : Pos → Option I.fm.R) (h : I.go s lf = some r) (hl : ∀ s', lf s' = some r → SemR r s') : SemR r s
open Classical in
noncomputable def FnI.sem (s : Pos) : Option I.fm.R :=
  if h : ∃ r, I.SemR r s then some (Classical.choose h) else none
end
def Lfs {R : Type} (lf fin : Pos → Option R) (r : R) : Tr → Pos → Prop
  | .bit b t e, s => if b = true then Lfs lf fin r t s else Lfs lf fin r e s
  | .safe _ t, s => Lfs lf fin r t s
  | .call R' v k, s => ∃ x, v = some x ∧ Lfs lf fin r (k x) s
  | .any R' p k, s => ∃ x, p x ∧ Lfs lf fin r (k x) s
  | .leaf s', s => s' = s
  | .ret _, _ => False
  | .dead, _ => False
theorem qIl {R : Type} {lf fin : Pos → Option R} {r : R} : ∀ {t : Tr}, den lf fin t = some r → ∀ s, Lfs lf fin r t s → lf s = some r
  | .bit b t e, h, s, hs => by
    simp only [den] at h
    simp only [Lfs] at hs
    split at h
    · rename_i hb; rw [if_pos hb] at hs; exact qIl h s hs
    · rename_i hb; rw [if_neg hb] at hs; exact qIl h s hs
  | .safe p t, h, s, hs => qIl (qLj h).2 s hs
  | .call R' v k, h, s, ⟨x, hx, hs⟩ => by
    simp only [den, hx, Option.bind_some] at h
    exact qIl h s hs
  | .any R' p k, h, s, ⟨x, hx, hs⟩ => qIl (qxl h x hx) s hs
  | .leaf s', h, s, hs => by subst hs; exact h
  | .ret _, h, s, hs => hs.elim
  | .dead, h, s, hs => hs.elim
theorem qMt {R : Type} {lf lf' fin : Pos → Option R} {r : R} : ∀ {t : Tr}, den lf fin t = some r → (∀ s, Lfs lf fin r t s → lf' s = some r) → den lf' fin t = some r
  | .bit b t e, h, hs => by
    simp only [den] at h ⊢
    split at h
    · rename_i hb
      rw [if_pos hb]
      exact qMt h (fun s q => hs s (by simp only [Lfs]; rw [if_pos hb]; exact q))
    · rename_i hb
      rw [if_neg hb]
      exact qMt h (fun s q => hs s (by simp only [Lfs]; rw [if_neg hb]; exact q))
  | .safe p t, h, hs => by
    obtain ⟨hp, h⟩ := qLj h
    simp only [den]
    rw [qea hp]
    exact qMt h hs
  | .call R' v k, h, hs => by
    simp only [den, Option.bind_eq_some_iff] at h ⊢
    obtain ⟨x, hx, h⟩ := h
    exact ⟨x, hx, qMt h (fun s q => hs s ⟨x, hx, q⟩)⟩
  | .any R' p k, h, hs => by
    simp only [den] at h ⊢
    obtain ⟨x, hx⟩ := qHC h
    exact qKp x hx (fun y hy => qMt (qxl h y hy) (fun s q => hs s ⟨y, hy, q⟩))
  | .leaf s', h, hs => hs s' rfl
  | .ret _, h, hs => h
  | .dead, h, hs => by cases h
theorem qsp {R : Type} {lf lf' fin : Pos → Option R} {r r' : R} : ∀ {t : Tr}, den lf fin t = some r → den lf' fin t = some r' → r = r' ∨ ∃ s, lf s = some r ∧ lf' s = some r'
  | .bit b t e, h, h' => by
    simp only [den] at h h'
    split at h
    · rename_i hb; rw [if_pos hb] at h'; exact qsp h h'
    · rename_i hb; rw [if_neg hb] at h'; exact qsp h h'
  | .safe p t, h, h' => qsp (qLj h).2 (qLj h').2
  | .call R' v k, h, h' => by
    simp only [den, Option.bind_eq_some_iff] at h h'
    obtain ⟨x, hx, h⟩ := h
    obtain ⟨x', hx', h'⟩ := h'
    rw [hx] at hx'
    simp only [Option.some.injEq] at hx'
    subst hx'
    exact qsp h h'
  | .any R' p k, h, h' => by
    simp only [den] at h h'
    obtain ⟨x, hx⟩ := qHC h
    exact qsp (qxl h x hx) (qxl h' x hx)
  | .leaf s', h, h' => .inr ⟨s', h, h'⟩
  | .ret _, h, h' => by
    simp only [den] at h h'
    rw [h] at h'
    exact .inl (by simpa using h')
  | .dead, h, h' => by cases h
section
variable {P : Program} {GT : qfg} {I : FnI P GT}
theorem FnI.SemR.det {r r' : I.fm.R} {s : Pos} (h : I.SemR r s) : I.SemR r' s → r = r' := by
  induction h with
  | mk s lf h hl ih =>
    rintro ⟨_, lf', h', hl'⟩
    rcases qsp h h' with e | ⟨s', h1, h2⟩
    · exact e
    · exact ih s' h1 (hl' s' h2)
theorem FnI.sem_iff {s : Pos} {r : I.fm.R} : I.sem s = some r ↔ I.SemR r s := by
  unfold FnI.sem
  constructor
  · intro h
    split at h
    · rename_i he
      simp only [Option.some.injEq] at h
      exact h ▸ Classical.choose_spec he
    · cases h
  · intro h
    have he : ∃ r, I.SemR r s := ⟨r, h⟩
    rw [dif_pos he]
    exact congrArg some ((Classical.choose_spec he).det h)
theorem FnI.sem_eq (s : Pos) : I.sem s = I.go s I.sem := by
  have key : ∀ r, I.sem s = some r ↔ I.go s I.sem = some r := by
    intro r
    constructor
    · intro h
      obtain ⟨_, lf, h, hl⟩ := FnI.sem_iff.1 h
      exact qMt h (fun s' hs => FnI.sem_iff.2 (hl s' (qIl h s' hs)))
    · intro h
      exact FnI.sem_iff.2 ⟨s, I.sem, h, fun s' hs => FnI.sem_iff.1 hs⟩
  cases h : I.go s I.sem with
  | some r => exact (key r).2 h
  | none =>
    cases h' : I.sem s with
    | none => rfl
    | some r => rw [(key r).1 h'] at h; cases h
variable {nt : Nat} {mnz : List Nat} {tab : List (Summ P GT)} {R : Type} {lf fin : Pos → Option R} {r : R}
theorem qui : ∀ {a b : List Prop}, qqh a → qqh b → qqh (a ++ b)
  | [], _, _, h => h
  | _ :: _, _, h, h' => ⟨h.1, qui h.2 h'⟩
theorem qLu : ∀ {cs : List Prop} {t : Tr}, den lf fin (qvC cs t) = some r → qqh cs ∧ den lf fin t = some r
  | [], _, h => ⟨trivial, h⟩
  | p :: q, t, h => by
    simp only [qvC, den] at h
    obtain ⟨hp, h⟩ := qLj h
    obtain ⟨h1, h2⟩ := qLu h
    exact ⟨⟨hp, h1⟩, h2⟩
theorem qtp {g : Bool} {v : TV} {k : TV → Tr} (h : den lf fin (qos g v k) = some r) :
    ∃ v' c os, (∀ rest, qln g v (os ++ rest) = some (v', c, rest)) ∧ qqh c ∧ den lf fin (k v') = some r := by
  unfold qos at h
  split at h
  · rename_i hg
    split at h
    · rename_i b
      simp only [den] at h
      split at h
      · rename_i hb
        exact ⟨.one (.bool true), [b = true], [.bit true], fun rest => by simp [qln, hg], ⟨hb, trivial⟩, h⟩
      · rename_i hb
        simp only [Bool.not_eq_true] at hb
        exact ⟨.one (.bool false), [b = false], [.bit false], fun rest => by simp [qln, hg], ⟨hb, trivial⟩, h⟩
    · cases h
  · rename_i hg
    exact ⟨v, [], [], fun rest => by simp [qln, hg], trivial, h⟩
theorem qpn {lk lk' : qOb} (hs : ∀ l o, lk l = some o → lk' l = some o) : ∀ {ls : List Nat} {cs : List AV}, qDo lk ls = some cs → qDo lk' ls = some cs
  | [], cs, h => h
  | l :: q, cs, h => by
    simp only [qDo] at h ⊢
    split at h
    · rename_i h1 h2
      rw [hs _ _ h1, qpn hs h2]; exact h
    · rename_i h1 h2
      rw [hs _ _ h1, qpn hs h2]; exact h
    · cases h
theorem qqE {ops : List Oper} {T : Nat → TV} {H : qOb} {nl i : Nat} {o : Oper} {k : Ev → Tr} (h : den lf fin (opT P GT tab ops T H nl i o k) = some r) :
    ∃ e c os, (∀ rest, qcC P GT ops T H nl i o (os ++ rest) = some (e, c, rest)) ∧ qqh c ∧ den lf fin (k e) = some r := by
  unfold opT at h
  split at h
  · rename_i hw
    exact ⟨_, [], [], fun rest => by simp [qcC, hw], trivial, h⟩
  · cases h
  · rename_i hw
    split at h
    · rename_i hcall
      unfold qmG at h
      split at h
      · rename_i f args ats hop
        split at h
        · rename_i f caps vs0 hf hvs
          split at h
          · rename_i cs hcs
            split at h
            · rename_i S hS
              simp only at h
              split at h
              · rename_i pv hl hpv hhl
                split at h
                · rename_i pre hpre
                  simp only [den, Option.bind_eq_some_iff] at h
                  obtain ⟨x, hx, h⟩ := h
                  split at h
                  · rename_i out hout
                    obtain ⟨v', c, os, h1, h2, h3⟩ := qtp h
                    let oc : COrc := ⟨(if S.nils then pv else qJr P (qei P f) pv), pre, qHG 0 (qCt H S.rows 60 ((vs0 ++ cs).flatMap (qID S.rows)) []), ((vs0 ++ cs).flatMap qEi ++ (qCt H S.rows 60 ((vs0 ++ cs).flatMap (qID S.rows)) []).flatMap fun l => match H l with
                      | some o => qat o
                      | none => []), S.res x, S.post x, S.drop⟩
                    refine ⟨_, c ++ out.conds, .call oc :: os, fun rest => ?_, qui h2 ?_, h3⟩
                    · simp only [qcC, hw, qQA, List.cons_append]
                      have ht : qJq o.op (.call oc :: (os ++ rest)) = some (some oc, os ++ rest) := by
                        simp only [qJq, hcall, if_true]
                      rw [ht]
                      simp only [qku, hop, qSa, hf, hvs]
                      rw [qpn (fun l ob hlo => ?_) hcs]
                      · simp only
                        rw [hop] at hout
                        rw [hout]
                        simp only [h1]
                        rfl
                      · rw [hop] at hlo
                        unfold qmd at hlo ⊢
                        split at hlo
                        · rename_i hm
                          simp only [List.contains_eq_mem, List.mem_append, decide_eq_true_eq] at hm ⊢
                          rw [if_pos (.inl hm)]; exact hlo
                        · cases hlo
                    · have hA : ∀ as, (if S.nils then pv else qJr P (qei P f) pv) = as → as = qJr P (qei P f) pv ∨ as = pv := by
                        rintro as rfl
                        cases S.nils
                        · exact .inl rfl
                        · exact .inr rfl
                      unfold qys at hout
                      simp only at hout
                      generalize hAs : (if S.nils then pv else qJr P (qei P f) pv) = as at hout hx
                      rw [hpv, hhl] at hout
                      simp only at hout
                      split at hout
                      · injection hout with hout; subst hout
                        refine ⟨hA _ hAs, qOp hpre, ?_, trivial⟩
                        have := S.ok _ _ _ hx
                        rwa [qjB hS] at this
                      · cases hout
                  · cases h
                · cases h
              · cases h
            · cases h
          · cases h
        · cases h
      · cases h
    · rename_i hcall
      split at h
      · rename_i out hout
        obtain ⟨h0, h⟩ := qLu h
        obtain ⟨v', c, os, h1, h2, h3⟩ := qtp h
        refine ⟨_, c ++ out.conds, os, fun rest => ?_, qui h2 h0, h3⟩
        simp only [Bool.not_eq_true] at hcall
        simp only [qcC, hw, qQA, qJq, hcall, qku, List.append_nil, Bool.false_eq_true, if_false]
        rw [hout]
        simp only [h1]
      · cases h
theorem qCD {ops : List Oper} {T : Nat → TV} {H : qOb} {nl i : Nat} {o : Oper} {k : Ev → Tr} : opN P GT mnz tab true ops T H nl i o k = opT P GT tab ops T H nl i o k := rfl
theorem qxB {ops : List Oper} : ∀ {q : List Oper} {i : Nat} {σ : St} {k : St → List (Oper × Ev) → Tr}, den lf fin (qwF P GT nt mnz tab true ops i q σ k) = some r →
    ∃ σ' c os tr, (∀ rest, qAk P GT nt ops i q σ (os ++ rest) = some (σ', c, rest, tr)) ∧ qqh c ∧ den lf fin (k σ' tr) = some r
  | [], i, σ, k, h => ⟨σ, [], [], [], fun rest => rfl, trivial, h⟩
  | o :: q, i, σ, k, h => by
    simp only [qwF, qCD] at h
    obtain ⟨e, c, os, h1, h2, h3⟩ := qqE h
    split at h3
    · rename_i hd
      obtain ⟨σ', c', os', tr, g1, g2, g3⟩ := qxB h3
      refine ⟨σ', c ++ c', os ++ os', _, fun rest => ?_, qui h2 g2, g3⟩
      rw [List.append_assoc]
      simp only [qAk, h1, hd, if_true, g1]
    · cases h3
theorem qAz {ops : List Oper} {σ : St} {k : St → Tr} (h : den lf fin (qcu P GT nt mnz tab ops true σ k) = some r) :
    ∃ σ' c os, (∀ rest, qzk P GT nt ops true σ (os ++ rest) = some (σ', c, rest)) ∧ qqh c ∧ den lf fin (k σ') = some r := by
  unfold qcu at h
  obtain ⟨σ', c, os, tr, h1, h2, h3⟩ := qxB h
  split at h3
  · rename_i hd
    refine ⟨_, c, os, fun rest => ?_, h2, h3⟩
    simp only [qzk, h1, hd, if_true]
  · cases h3
theorem qRF (hm : ∀ f ∈ mnz, qmA P f) {c : Cx} {T : Nat → TV} {H : qOb} {K : Kn} {a : Act} {w : World} {nl : Nat} (R0 : Rel c P GT nt T H K a w) {ops : Array Oper} {i : Nat} {o : Oper} {ts : List Nat} {k : Ev → Tr}
    (h : den lf fin (opN P GT mnz tab false ops.toList (Ab.keepT ts T) H nl i o k) = some r) (hdk : ∀ e, den lf fin (k e) = some r → qBx nt o.dst = true)
    (hf : ∀ l, nl ≤ l → l < nl + 8 → K l = none) {next : Act → World → Prop} {Q : Exit → Act → World → Prop}
    (hn : ∀ e a' w' K', den lf fin (k e) = some r → Rel c P GT nt (qgB T o.dst e.v) (qLb H e.upd) K' a' w' → (∀ l, K' l = K l ∨ (nl ≤ l ∧ l < nl + 8)) → (∀ l gh, K l = some gh → K' l = some gh) → next a' w') :
    (if Region.wanted o (yielded ops a.tmps) then o.wp P a w next Q ∨ (o.asks P a w ∧ LetsOut Q) else next (a.put o.dst undef) w) := by
  unfold opN at h
  split at h
  · rename_i y hy
    simp only [Bool.false_eq_true, if_false] at hy
    split at hy
    · rename_i hw
      rw [qSt R0 hw]
      simp only [if_true]
      refine .inl ?_
      obtain ⟨h0, h⟩ := qLu h
      simp only [den] at h
      have A : At c P GT H (qmd H []) K w (Ab.evT GT (Ab.keepT ts T)) a.eval nl :=
        ⟨R0.inv, qXp, fun x => R0.keepT ts x, hf, R0.ng, R0.glob, R0.gng⟩
      refine qkC (qJC A hm hy h0) ?_
      rintro u w' ⟨x, hx, K', S, hu⟩
      obtain ⟨v', c', os, h1, h2, h3⟩ := qtp (qxl h x hx)
      have hv : TVRd w' (NN c (qLb H (y.out x).upd) K' w') K' v' u := by
        have hdec := h1 []
        unfold qln at hdec
        split at hdec
        · split at hdec
          · rename_i b c'' os'' hb hos
            simp only [Option.some.injEq, Prod.mk.injEq] at hdec
            obtain ⟨rfl, rfl, _⟩ := hdec
            rw [hb] at hu
            have : b = c'' := h2.1
            rw [← this]; exact hu
          · cases hdec
        · simp only [Option.some.injEq, Prod.mk.injEq] at hdec
          obtain ⟨rfl, rfl, _⟩ := hdec
          exact hu
      exact hn _ _ _ K' h3 (R0.put S hv (hdk _ h3)) S.fresh S.keep.k
    · cases hy
  · obtain ⟨e, c', os, h1, h2, h3⟩ := qqE h
    exact qxx R0 (h1 []) h2 (hdk e h3) hf (fun a' w' K' R' q1 q2 => hn e a' w' K' h3 R' q1 q2)
theorem qwB (hm : ∀ f ∈ mnz, qmA P f) {c : Cx} {ops : Array Oper} {Q : Exit → Act → World → Prop} {n0 : Nat} : ∀ (q : List Oper) (i : Nat) (σ : St) (k : St → List (Oper × Ev) → Tr) (K : Kn) (a : Act) (w : World),
    den lf fin (qwF P GT nt mnz tab false ops.toList i q σ k) = some r → ops.toList.drop i = q → i + q.length = ops.size → σ.next = n0 → Rel c P GT nt σ.look (qjd σ.heap) K a w → (∀ l, n0 + 8 * i ≤ l → K l = none) →
    (∀ σ' tr a' w' K', den lf fin (k σ' tr) = some r → σ'.next = n0 → Rel c P GT nt σ'.look (qjd σ'.heap) K' a' w' → (∀ l, n0 + 8 * ops.size ≤ l → K' l = none) → (∀ l gh, K l = some gh → K' l = some gh) → Q .normal a' w') →
    wpOps P ops Q (List.range' i q.length) a w
  | [], i, σ, k, K, a, w, h, hr, hi, hn, R0, hf, hQ => by
    simp only [List.length_nil] at hi
    exact hQ σ [] a w K h hn R0 (fun l hl => hf l (by omega)) (fun _ _ h => h)
  | o :: q, i, σ, k, K, a, w, h, hr, hi, hn, R0, hf, hQ => by
    simp only [qwF] at h
    have hoi : ops[i]? = some o := by
      rw [← Array.getElem?_toList, ← List.head?_drop, hr]; rfl
    have hr2 : ops.toList.drop (i + 1) = q := by
      rw [← List.tail_drop, hr]; rfl
    rw [List.length_cons, List.range'_succ, wpOps_cons]
    unfold wpOp
    rw [hoi]
    refine qRF hm R0 h (fun e he => ?_) (fun l h1 h2 => hf l (by omega)) ?_
    · split at he
      · assumption
      · cases he
    · intro e a' w' K' he R' hk hmn
      rw [qrv, qXu (dst := o.dst)] at R'
      split at he
      · refine qwB hm q (i + 1) (σ.put o.dst e) _ K' a' w' he hr2 (by simp only [List.length_cons] at hi; omega) hn R' (fun l hl => ?_) (fun σ' tr a'' w'' K'' g1 g2 R'' h1 h2 => hQ σ' _ a'' w'' K'' g1 g2 R'' h1 (fun l gh hl => h2 l gh (hmn l gh hl)))
        rcases hk l with h1 | h1
        · rw [h1]; exact hf l (by omega)
        · omega
      · cases he
def Leads (P : Program) (GT : qfg) (nt : Nat) (Q : Pos → Prop) (s : Pos) : Prop :=
  ∀ (c : Cx) (K : Kn) (a : Act) (w : World) (b : Frame) (cs : List Frame), RelS c P GT nt s.st K a w →
    ∃ s' K' a' w', Q s' ∧ RelS c P GT nt s'.st K' a' w' ∧ (∀ l gh, l < 8 → K l = some gh → K' l = some gh) ∧ Steps P (lone (b.at a s.todo) cs w) (lone (b.at a' s'.todo) cs w')
theorem Leads.of {Q : Pos → Prop} {s s' : Pos} (h : Reach P GT nt s s') (hq : Q s') : Leads P GT nt Q s := by
  intro c K a w b cs R0
  obtain ⟨K', a', w', h1, h2, h3⟩ := h c K a w b cs R0
  exact ⟨s', K', a', w', hq, h1, h2, h3⟩
theorem Leads.bind {Q Q' : Pos → Prop} {s : Pos} (h : Leads P GT nt Q s) (hq : ∀ s', Q s' → Leads P GT nt Q' s') : Leads P GT nt Q' s := by
  intro c K a w b cs R0
  obtain ⟨s1, K1, a1, w1, h1, h2, h3, h4⟩ := h c K a w b cs R0
  obtain ⟨s2, K2, a2, w2, g1, g2, g3, g4⟩ := hq s1 h1 c K1 a1 w1 b cs h2
  exact ⟨s2, K2, a2, w2, g1, g2, fun l gh hl hk => g3 l gh hl (h3 l gh hl hk), h4.trans g4⟩
theorem qfy (hm : P.follows .mixedOrders = true) (hz : ∀ f ∈ mnz, qmA P f) {s : Pos} {k : Pos → Tr} (h : den lf fin (qlD P GT nt mnz tab s k) = some r) : Leads P GT nt (fun s' => den lf fin (k s') = some r) s := by
  obtain ⟨todo, σ⟩ := s
  unfold qlD at h
  have go : ∀ {s' : Pos} {os : List Orc} {c : List Prop}, qum P GT nt ⟨todo, σ⟩ os = some (s', c, []) → qqh c → den lf fin (k s') = some r → Leads P GT nt (fun s' => den lf fin (k s') = some r) ⟨todo, σ⟩ := fun h1 h2 h3 => .of (qWh hm h1 h2) h3
  split at h
  · rename_i q hk; simp only at hk; subst hk
    exact go (os := []) (c := []) rfl trivial h
  · rename_i q hk; simp only at hk; subst hk
    exact go (os := []) (c := []) rfl trivial h
  · rename_i q hk; simp only at hk; subst hk
    exact go (os := []) (c := []) rfl trivial h
  · rename_i q hk; simp only at hk; subst hk
    exact go (os := []) (c := []) rfl trivial h
  · rename_i q hk; simp only at hk; subst hk
    exact go (os := []) (c := []) rfl trivial h
  · rename_i q hk; simp only at hk; subst hk
    exact go (os := []) (c := []) rfl trivial h
  · rename_i x y q hk; simp only at hk; subst hk
    split at h
    · rename_i b hb
      simp only at hb
      simp only [den] at h
      split at h
      · rename_i hbt
        exact go (os := [.bit true]) (c := [b = true]) (by simp only [qum, hb, if_true]) ⟨hbt, trivial⟩ h
      · rename_i hbt
        simp only [Bool.not_eq_true] at hbt
        exact go (os := [.bit false]) (c := [b = false]) (by simp only [qum, hb, Bool.false_eq_true, if_false]) ⟨hbt, trivial⟩ h
    · cases h
  · rename_i q hk; simp only at hk; subst hk
    exact go (os := []) (c := []) rfl trivial h
  · rename_i q hk; simp only at hk; subst hk
    exact go (os := []) (c := []) rfl trivial h
  · rename_i q hk; simp only at hk; subst hk
    exact go (os := []) (c := []) rfl trivial h
  · rename_i q hk; simp only at hk; subst hk
    split at h
    · rename_i q' he
      exact go (os := []) (c := []) (by simp only [qum, he]) trivial h
    · cases h
  · rename_i q hk; simp only at hk; subst hk
    split at h
    · rename_i q' he
      exact go (os := []) (c := []) (by simp only [qum, he]) trivial h
    · cases h
  · rename_i id ops draw q hk; simp only at hk; subst hk
    cases draw with
    | true =>
      obtain ⟨σ', c, os, h1, h2, h3⟩ := qAz h
      have h1' := h1 []
      rw [List.append_nil] at h1'
      exact go (os := os) (c := c) (by simp only [qum]; rw [h1']) h2 h3
    | false =>
      intro c K a w b cs R0
      unfold qcu at h
      have hwp : (Code.region id ops false).wp P (fun e a' w' => e = .normal ∧ ∃ σ' K', den lf fin (k ⟨q, σ'⟩) = some r ∧ RelS c P GT nt σ' K' a' w' ∧ (∀ l gh, K l = some gh → K' l = some gh)) a w := by
        refine wp_region ?_
        have := qwB hz (Q := fun e a' w' => e = .normal ∧ ∃ σ' K', den lf fin (k ⟨q, σ'⟩) = some r ∧ RelS c P GT nt σ' K' a' w' ∧ (∀ l gh, K l = some gh → K' l = some gh)) (n0 := σ.next) ops.toList 0 σ _ K a w h (by simp) (by simp) rfl R0.rel (fun l hl => R0.fresh l (by omega)) (fun σ' tr a' w' K' g1 g2 R' g3 g4 => ?_)
        · rw [List.range_eq_range']
          simpa using this
        · simp only [Bool.not_false, Bool.true_or, if_true] at g1
          exact ⟨rfl, { σ' with next := σ.next + 8 * ops.toList.length }, K', g1, ⟨R', fun l hl => g3 l (by simpa using hl)⟩, g4⟩
      obtain ⟨e, a', w', ⟨rfl, σ', K', g1, R', hk⟩, harr⟩ := hwp b q cs
      exact ⟨⟨q, σ'⟩, K', a', w', g1, R', fun l gh _ hl => hk l gh hl, harr⟩
  · cases h
theorem qdF {w : World} {N : Bool → Nat → Prop} {K : Kn} {o : Option Obj} {ob : Obj} {gh : Gh} (h : qeG o = some ob) : (∀ o0, o = some o0 → ORd w N K o0 gh) → ∃ o0, o = some o0 ∧ ORd w N K ob gh := by
  intro hr
  unfold qeG at h
  split at h
  · rename_i e fr
    split at h
    · rename_i hf
      simp only [Option.some.injEq] at h; subst h
      refine ⟨_, rfl, ?_⟩
      obtain ⟨h1, h2⟩ := hr _ rfl
      refine ⟨hf, [], h1, ⟨fun i j p q hi => by simp at hi, fun p q _ hq => by simp at hq⟩, ?_⟩
      revert h2
      cases gh.pl with
      | none => exact fun _ => ⟨rfl, rfl⟩
      | some p =>
        rintro ⟨cs, g1, g2⟩
        simp only [Cat] at g2; subst g2
        exact ⟨[], g1, rfl, rfl⟩
    · simp only [Option.some.injEq] at h; subst h
      exact ⟨_, rfl, hr _ rfl⟩
  · subst h; exact ⟨ob, rfl, hr ob rfl⟩
theorem qWv {ns : List Nat} : ∀ {h : List (Nat × Option Obj)} {l : Nat}, lookL (qMD ns h) l = (if ns.contains l then (lookL h l).map qeG else lookL h l)
  | [], l => by simp [qMD, lookL]
  | (a, b) :: r, l => by
    simp only [qMD]
    by_cases hl : a = l
    · subst hl
      by_cases hc : ns.contains a = true
      · simp only [hc, if_true, lookL, Option.map_some]
      · simp only [Bool.not_eq_true] at hc; simp only [hc, Bool.false_eq_true, if_false, lookL, if_true]
    · have ih := qWv (ns := ns) (h := r) (l := l)
      by_cases hc : ns.contains a = true
      · simp only [hc, if_true, lookL, hl, if_false]; exact ih
      · simp only [Bool.not_eq_true] at hc; simp only [hc, Bool.false_eq_true, if_false] at ih ⊢; simp only [lookL, hl, if_false]; exact ih
theorem qtx {σ : St} {ns : List Nat} (todo : List Item) : Reach P GT nt ⟨todo, σ⟩ ⟨todo, qcF σ ns⟩ := by
  intro c K a w b cs R0
  refine ⟨K, a, w, ?_, fun l gh _ hk => hk, Steps.refl _ _⟩
  unfold qcF
  split
  · exact R0
  · have hH : ∀ l o, qjd (qMD ns σ.heap) l = some o → (∃ o0, qjd σ.heap l = some o0) ∧ ∀ (w : World) (N : Bool → Nat → Prop) (gh : Gh), (∀ o0, qjd σ.heap l = some o0 → ORd w N K o0 gh) → ORd w N K o gh := by
      intro l o hl
      unfold qjd at hl ⊢
      rw [qWv] at hl
      by_cases hc : ns.contains l = true
      · simp only [hc, if_true] at hl
        cases hx : lookL σ.heap l with
        | none => rw [hx] at hl; cases hl
        | some x =>
          rw [hx] at hl
          simp only [Option.map_some] at hl
          refine ⟨?_, fun w N gh h => ?_⟩
          · cases x with
            | none => simp [qeG] at hl
            | some o0 => exact ⟨o0, rfl⟩
          · obtain ⟨_, _, h2⟩ := qdF hl (fun o0 ho => h o0 (by rw [ho]))
            exact h2
      · simp only [hc] at hl
        simp only [Bool.false_eq_true, if_false] at hl
        exact ⟨⟨o, hl⟩, fun w N gh h => h o hl⟩
    have hlive : ∀ b, qEc (qjd (qMD ns σ.heap)) K b → qEc (qjd σ.heap) K b := by
      rintro b ⟨l, o, gh, p, h1, h2⟩
      obtain ⟨⟨o0, h0⟩, _⟩ := hH l o h1
      exact ⟨l, o0, gh, p, h0, h2⟩
    have hN : ∀ fr b, NN c (qjd σ.heap) K w fr b → NN c (qjd (qMD ns σ.heap)) K w fr b := fun fr b hb => ⟨hb.1, fun hn => hb.2.1 (hlive b hn), hb.2.2⟩
    have hk : KeepK w w (NN c (qjd σ.heap) K w) (NN c (qjd (qMD ns σ.heap)) K w) K K := ⟨fun fr => ⟨fun b hb => ⟨hN fr b hb, rfl⟩⟩, fun _ _ h => h⟩
    refine ⟨⟨⟨fun l o hl => ?_, fun l o gh p h1 h2 h3 => ?_, fun l l' o o' gh gh' p p' h1 h2 h3 h4 h5 h6 h7 => ?_, R0.rel.inv.fr⟩, fun t => (R0.rel.tmps t).keep hk, R0.rel.size, R0.rel.defers, R0.rel.ng, R0.rel.gng, R0.rel.glob⟩, R0.fresh⟩
    · obtain ⟨⟨o0, h0⟩, h1⟩ := hH l o hl
      obtain ⟨gh, g1, g2⟩ := R0.rel.inv.objs l o0 h0
      exact ⟨gh, g1, h1 _ _ _ (fun o1 ho => by rw [h0] at ho; injection ho with ho; subst ho; exact g2.keep hk (fun _ _ => rfl))⟩
    · obtain ⟨⟨o0, h0⟩, _⟩ := hH l o h1
      exact R0.rel.inv.own l o0 gh p h0 h2 h3
    · obtain ⟨⟨o0, h0⟩, _⟩ := hH l o h1
      obtain ⟨⟨o0', h0'⟩, _⟩ := hH l' o' h2
      exact R0.rel.inv.inj l l' o0 o0' gh gh' p p' h0 h0' h3 h4 h5 h6 h7
theorem qrC {c : Cut} {s : Pos} (h : den lf fin (qIG c s) = some r) : Leads P GT nt (fun s' => lf s' = some r) s := by
  unfold qIG at h
  split at h
  · rename_i σ hk
    obtain ⟨todo, σ0⟩ := s
    exact (Leads.of (qNz hk _) rfl).bind (fun s1 h1 => by subst h1; exact .of (qtx _) h)
  · cases h
theorem qIB (hm : P.follows .mixedOrders = true) {todo todo' : List Item} {σ : St} (h : qJB todo = some todo') : Reach P GT nt ⟨todo, σ⟩ ⟨todo', σ⟩ := by
  unfold qJB at h
  split at h
  · simp only [Option.some.injEq] at h; subst h
    exact qWh hm (os := []) (cs := []) (os' := []) rfl trivial
  · simp only [Option.some.injEq] at h; subst h
    exact qWh hm (os := []) (cs := []) (os' := []) rfl trivial
  · exact qWh hm (os := []) (cs := []) (os' := []) (by simp only [qum, h]) trivial
  · cases h
theorem qIq (hm : P.follows .mixedOrders = true) (hz : ∀ f ∈ mnz, qmA P f) {cuts : List Cut} : ∀ {n : Nat} {first : Bool} {s : Pos}, den lf fin (qoz P GT nt mnz tab cuts n first s) = some r →
    Leads P GT nt (fun s' => lf s' = some r ∨ (qPz s'.todo = true ∧ fin s' = some r)) s
  | 0, _, _, h => by cases h
  | n + 1, first, s, h => by
    simp only [qoz] at h
    split at h
    · rename_i hr
      exact .of (Reach.refl s) (.inr ⟨hr, h⟩)
    · split at h
      · rename_i todo' hh
        have h0 : Reach P GT nt s ⟨todo', s.st⟩ := qIB hm hh
        split at h
        · exact (Leads.of h0 rfl).bind (fun s1 h1 => by subst h1; exact (qrC h).bind (fun s2 h2 => .of (Reach.refl _) (.inl h2)))
        · exact (Leads.of h0 rfl).bind (fun s1 h1 => by subst h1; exact qIq hm hz h)
      · split at h
        · split at h
          · exact (qrC h).bind (fun s2 h2 => .of (Reach.refl _) (.inl h2))
          · exact (qfy hm hz h).bind (fun s1 h1 => qIq hm hz h1)
        · exact (qfy hm hz h).bind (fun s1 h1 => qIq hm hz h1)
theorem FnI.semR_ok (hm : P.follows .mixedOrders = true) {s : Pos} {r : I.fm.R} (h : I.SemR r s) : Leads P GT (qYu P I.f) (fun s' => qPz s'.todo = true ∧ I.fm.fin P (qGF P I.f) s' = some r) s := by
  induction h with
  | mk s lf h hl ih =>
    refine (qIq hm I.mnzOk h).bind (fun s' hs => ?_)
    rcases hs with hs | hs
    · exact ih s' hs
    · exact .of (Reach.refl _) hs
theorem FnI.sem_ends (hm : P.follows .mixedOrders = true) {s : Pos} {r : I.fm.R} (h : I.sem s = some r) : qgH P GT (qYu P I.f) (qGF P I.f) s (I.fm.res r) (I.fm.post r) := by
  intro c K a w b cs R0
  obtain ⟨s', K', a', w', ⟨h2, h3⟩, R', h4, h5⟩ := FnI.semR_ok hm (FnI.sem_iff.1 h) c K a w b cs R0
  obtain ⟨res0, res1, ren, nx, lo, g1, g2, g3, g3', g4⟩ := Fm.fin_ok h3
  exact ⟨s', res0, res1, ren, nx, lo, K', a', w', R', h4, h5, h2, g1, g2, g3, g3', g4⟩
@[reducible] def FnI.at (I : FnI P GT) (as : List AV) (pre : List (Nat × Obj)) : Pos := ⟨[.code (qja P I.f)], st0 as pre⟩
noncomputable def FnI.call (I : FnI P GT) (as : List AV) (pre : List (Nat × Obj)) : Option I.fm.R :=
  if qGG P I.f as.length && pre.all (fun p => decide (p.1 < 8)) then I.sem (I.at as pre) else none
theorem FnI.call_ok (hm : P.follows .mixedOrders = true) {as : List AV} {pre : List (Nat × Obj)} {r : I.fm.R} (h : I.call as pre = some r) : CallOK P GT I.f as pre (I.fm.res r) (I.fm.post r) := by
  unfold FnI.call at h
  split at h
  · rename_i hc
    simp only [Bool.and_eq_true] at hc
    exact qEC hc.1 hc.2 (FnI.sem_ends hm h)
  · cases h
noncomputable def FnI.summ (I : FnI P GT) (hm : P.follows .mixedOrders = true) (acc : List AV → Bool) (rows nils : Bool) (drop : Bool := false) : Summ P GT :=
  { f := I.f, acc := acc, rows := rows, nils := nils, drop := drop, R := I.fm.R, fn := I.call, res := I.fm.res, post := I.fm.post, ok := fun as pre r h => FnI.call_ok hm h }
theorem FnI.call_eq {as : List AV} {pre : List (Nat × Obj)} (h : (qGG P I.f as.length && pre.all (fun p => decide (p.1 < 8))) = true) : I.call as pre = I.go (I.at as pre) I.sem := by
  unfold FnI.call
  rw [if_pos h]
  exact FnI.sem_eq _
end
end Go.Ab

/-
  From what a law's arguments read as to plain values, and back.
-/
set_option linter.unusedVariables false
set_option linter.unusedSimpArgs false
namespace Go.Ab
open Go
def wfP : (t : Ty) → pden t → Prop
  | .int k, n => (Lit.int k n).wf = true
  | .bool, _ => True
  | .str, s => ByteArray.size s ≤ Go.maxLen
  | .arr n e, xs => xs.length = n ∧ ∀ x ∈ xs, wfP e x
  | .pair a b, x => wfP a x.1 ∧ wfP b x.2
  | .unit, _ => True
  | .slice e, xs => xs.length ≤ Go.maxLen ∧ ∀ x ∈ xs, wfP e x
  | .fn, _ => True
def qje : Ty → Bool
  | .arr _ e => qje e
  | .pair a b => qje a && qje b
  | .slice e => qje e && decide (0 < e.sz)
  | .fn => false
  | _ => true
section
variable {P : Program} {H : Type} {enc : TypeId × Value → H} {w : World} {base : Nat} {spare : Nat → Bool} {held : Bool}
abbrev InW (w : World) : Nat → Prop := fun b => b < w.heap.size
theorem qZy {b o n : Nat} : Addr.add ⟨b, o, none⟩ n = ⟨b, o + n, none⟩ := by
  unfold Addr.add; split <;> simp_all
theorem qUt {m : Nat} {T : TypeId} {t : Ty} (h : qVc P (m + 1) T = some t) : ∃ desc, P.underlying T = some desc ∧ qyi P (qVc P m) desc = some t ∧ P.cellsOf T = t.sz := by
  simp only [qVc] at h
  split at h
  · rename_i desc hd
    split at h
    · rename_i ty hr
      split at h
      · rename_i hc
        simp only [Option.some.injEq] at h; subst h
        exact ⟨desc, hd, hr, by simpa using hc⟩
      · cases h
    · cases h
  · cases h
theorem qEw {m : Nat} {T : TypeId} {t : Ty} (h : qVc P m T = some t) : P.cellsOf T = t.sz := by
  cases m with
  | zero => cases h
  | succ m => obtain ⟨_, _, _, h⟩ := qUt h; exact h
def Rds (P : Program) (enc : TypeId × Value → H) (w : World) (base : Nat) (spare : Nat → Bool) (held : Bool) (n m : Nat) : Prop :=
  ∀ (T : TypeId) (t : Ty) (cs : List Value) (y : DataW H × List MemPlace), qje t = true → qVc P m T = some t → DataW.trod enc P w base spare held n T cs = some y → ∃ x : pden t, PRd w (InW w) t x cs ∧ wfP t x
theorem qVv {n m : Nat} (G : Rds P enc w base spare held n m) {cs : List Value} : ∀ {fs : List Field} {ts : List Ty} {o : Nat}, qxi (qVc P m) fs = some ts → qfi P fs ts o = true → qje (qed ts) = true → cs.length = o + (qed ts).sz →
    (∀ f ∈ fs, ∃ y, DataW.trod enc P w base spare held n f.type ((cs.drop f.offset).take (P.cellsOf f.type)) = some y) → ∃ x : pden (qed ts), PRd w (InW w) (qed ts) x (cs.drop o) ∧ wfP (qed ts) x
  | [], ts, o, h1, h2, h3, h4, h5 => by
    simp only [qxi, Option.some.injEq] at h1; subst h1
    refine ⟨(), ?_, trivial⟩
    show cs.drop o = []
    rw [List.drop_eq_nil_iff]; simp [qed, Ty.sz] at h4; omega
  | f :: fs, ts, o, h1, h2, h3, h4, h5 => by
    simp only [qxi] at h1
    split at h1
    · rename_i t ts' e1 e2
      simp only [Option.some.injEq] at h1; subst h1
      simp only [qfi, Bool.and_eq_true, beq_iff_eq] at h2
      simp only [qed, qje, Bool.and_eq_true] at h3
      simp only [qed, Ty.sz] at h4
      obtain ⟨y, hy⟩ := h5 f List.mem_cons_self
      obtain ⟨x1, p1, w1⟩ := G _ _ _ _ h3.1 e1 hy
      obtain ⟨x2, p2, w2⟩ := qVv G e2 h2.2 h3.2 (by omega) (fun g hg => h5 g (List.mem_cons_of_mem _ hg))
      rw [h2.1, qEw e1] at p1
      refine ⟨(x1, x2), ⟨_, _, ?_, p1, p2⟩, w1, w2⟩
      exact (List.take_append_drop t.sz (cs.drop o)).symm.trans (by rw [List.drop_drop])
    · cases h1
theorem qbw {n m : Nat} (G : Rds P enc w base spare held n m) {E : TypeId} {e : Ty} (hE : qVc P m E = some e) (hp : qje e = true) {b o len : Nat} {elems : List (DataW H × List MemPlace)} (hl : elems.length = len)
    (he : ∀ i, i < len → (w.cells? base (Addr.add ⟨b, o, none⟩ (i * e.sz)) e.sz).bind (DataW.trod enc P w base spare held n E) = elems[i]?) :
    ∀ k, k ≤ len → ∃ (xs : List (pden e)) (cl : List Value), xs.length = k ∧ cl.length = k * e.sz ∧ CellsAt w b o cl ∧ Cat (PRd w (InW w) e) xs cl ∧ ∀ x ∈ xs, wfP e x
  | 0, _ => ⟨[], [], rfl, by simp, fun j v hj => by simp at hj, rfl, fun x hx => by cases hx⟩
  | k + 1, hk => by
    obtain ⟨xs, cl, h1, h2, h3, h4, h5⟩ := qbw G hE hp hl he k (by omega)
    have hi := he k (by omega)
    rw [List.getElem?_eq_getElem (by omega)] at hi
    obtain ⟨cs, hcs, hy⟩ := Option.bind_eq_some_iff.1 hi
    obtain ⟨x, hx, hw⟩ := G _ _ _ _ hp hE hy
    obtain ⟨g1, g2, g3⟩ := World.cells?_some hcs
    refine ⟨xs ++ [x], cl ++ cs, by simp [h1], ?_, ?_, h4.append ⟨cs, [], by simp, hx, rfl⟩, ?_⟩
    · rw [List.length_append, h2, hx.length, Nat.succ_mul]
    · intro j v hj
      rw [List.getElem?_append] at hj
      split at hj
      · exact h3 j v hj
      · rename_i hjl
        have hjc : j - cl.length < cs.length := (List.getElem?_eq_some_iff.1 hj).1
        have := g3 (j - cl.length) (by rw [← g2]; exact hjc)
        rw [hj, qZy, qZy] at this
        rw [← this]
        congr 2
        rw [h2]; rw [h2] at hjl; omega
    · intro y hy
      rcases List.mem_append.1 hy with hy | hy
      · exact h5 y hy
      · simp only [List.mem_singleton] at hy; subst hy; exact hw
theorem qBC {a : Addr} {v : Value} (h : w.cell? a = some v) : a = ⟨a.block, a.off, none⟩ := by
  obtain ⟨b, o, sp⟩ := a
  cases sp with
  | none => rfl
  | some s => simp [World.cell?] at h; split at h <;> simp at h
theorem qbB : ∀ (n m : Nat), Rds P enc w base spare held n m
  | 0, m, T, t, cs, y, hp, hT, hy => by simp [DataW.trod] at hy
  | n + 1, 0, T, t, cs, y, hp, hT, hy => by cases hT
  | n + 1, m + 1, T, t, cs, y, hp, hT, hy => by
    obtain ⟨desc, hd, hr, hs⟩ := qUt hT
    have G := qbB n m
    unfold qyi at hr
    split at hr
    · simp only [Option.some.injEq] at hr; subst hr
      obtain ⟨b, rfl, _⟩ := DataW.trod_bool hd hy
      exact ⟨b, rfl, trivial⟩
    · simp only [Option.some.injEq] at hr; subst hr
      obtain ⟨k, rfl, _, hw⟩ := DataW.trod_int hd hy
      exact ⟨k, rfl, hw⟩
    · simp only [Option.some.injEq] at hr; subst hr
      obtain ⟨s, rfl, _, hw⟩ := DataW.trod_string hd hy
      exact ⟨s, rfl, hw⟩
    · rename_i E
      split at hr
      · rename_i e hE
        simp only [Option.some.injEq] at hr; subst hr
        simp only [qje, Bool.and_eq_true, decide_eq_true_eq] at hp
        rcases DataW.trod_slice hd hy with ⟨rfl, _⟩ | ⟨a, len, cap, elems, rest, n', hn, rfl, _, _, hlc, hcm, hl, he, _⟩
        · exact ⟨[], ⟨none, 0, rfl, Nat.le_refl _, .inl rfl⟩, by simp, fun x hx => by cases hx⟩
        · simp only [Nat.add_right_cancel_iff] at hn; subst hn
          rw [qEw hE] at he
          by_cases h0 : len = 0
          · subst h0
            exact ⟨[], ⟨some a, cap, rfl, Nat.zero_le _, .inl rfl⟩, by simp, fun x hx => by cases hx⟩
          · have h1 := he 0 (by omega)
            rw [List.getElem?_eq_getElem (by omega)] at h1
            obtain ⟨cs0, hcs0, _⟩ := Option.bind_eq_some_iff.1 h1
            obtain ⟨q1, q2, q3⟩ := World.cells?_some hcs0
            have h2 := q3 0 (by omega)
            rw [List.getElem?_eq_getElem (by omega)] at h2
            have ha : a = ⟨a.block, a.off, none⟩ := qBC (v := cs0[0]'(by omega)) (by simpa [Addr.add] using h2)
            have hb := World.cells?_block hcs0 hp.2
            have hb' : a.block < w.heap.size := by simpa [Addr.add] using hb
            rw [ha] at he
            obtain ⟨xs, cl, g1, g2, g3, g4, g5⟩ := qbw G hE hp.1 hl he len (Nat.le_refl _)
            refine ⟨xs, ⟨some a, cap, by rw [g1], by omega, .inr ⟨a.block, a.off, cl, by rw [← ha], hb', g3, g4⟩⟩, by omega, g5⟩
      · cases hr
    · rename_i k E
      split at hr
      · rename_i e hE
        simp only [Option.some.injEq] at hr; subst hr
        simp only [qje] at hp
        obtain ⟨xs0, n', hn, _, hlen, hl, he⟩ := DataW.trod_array hd hy
        simp only [Nat.add_right_cancel_iff] at hn; subst hn
        have hes := qEw hE
        rw [hes] at he
        rw [hs] at hlen
        simp only [Ty.sz] at hlen
        have key : ∀ j, j ≤ k → ∃ xs : List (pden e), xs.length = j ∧ Cat (PRd w (InW w) e) xs (cs.take (j * e.sz)) ∧ ∀ x ∈ xs, wfP e x := by
          intro j
          induction j with
          | zero => intro _; exact ⟨[], rfl, by simp [Cat], fun x hx => by cases hx⟩
          | succ j ih =>
            intro hj
            obtain ⟨xs, h1, h2, h3⟩ := ih (by omega)
            have hi := he j (by omega)
            rw [List.getElem?_eq_getElem (by omega)] at hi
            obtain ⟨x, hx, hw⟩ := G _ _ _ _ hp hE hi
            refine ⟨xs ++ [x], by simp [h1], ?_, ?_⟩
            · rw [Nat.succ_mul, List.take_add]
              exact h2.append ⟨_, [], by simp, hx, rfl⟩
            · intro y hy
              rcases List.mem_append.1 hy with hy | hy
              · exact h3 y hy
              · simp only [List.mem_singleton] at hy; subst hy; exact hw
        obtain ⟨xs, h1, h2, h3⟩ := key k (Nat.le_refl _)
        rw [List.take_of_length_le (by omega)] at h2
        exact ⟨xs, ⟨h1, h2⟩, h1, h3⟩
      · cases hr
    · rename_i fs
      split at hr
      · rename_i ts hts
        split at hr
        · rename_i hof
          simp only [Option.some.injEq] at hr; subst hr
          obtain ⟨xs0, n', hn, _, hlen, hl, he⟩ := DataW.trod_struct hd hy
          simp only [Nat.add_right_cancel_iff] at hn; subst hn
          rw [hs] at hlen
          obtain ⟨x, hx, hw⟩ := qVv (cs := cs) G hts hof hp (by omega) (fun f hf => by
            obtain ⟨i, hi, hfi⟩ := List.mem_iff_getElem.1 hf
            have hi' : i < fs.size := by simpa using hi
            have h1 := he i f (by rw [← Array.getElem?_toList, List.getElem?_eq_getElem hi, hfi])
            rw [List.getElem?_eq_getElem (by omega)] at h1
            exact ⟨_, h1⟩)
          exact ⟨x, by simpa using hx, hw⟩
        · cases hr
      · cases hr
    · cases hr; simp [qje] at hp
    · cases hr
theorem open_ty {fuel m : Nat} {T : TypeId} {t : Ty} {cs : List Value} {y : DataW H × List MemPlace} (hp : qje t = true) (hT : qVc P m T = some t) (hy : DataW.trod enc P w base spare held fuel T cs = some y) :
    ∃ x : pden t, PRd w (InW w) t x cs ∧ wfP t x := qbB fuel m T t cs y hp hT hy
end
section
variable {P : Program} {H : Type} {enc : TypeId × Value → H} {w : World} {base : Nat} {spare : Nat → Bool} {held : Bool}
theorem laid_arr {fuel : Nat} {T E : TypeId} {n : Nat} {k : IntKind} {zs : List Int} {cs : List Value} {q : List MemPlace} (hT : P.underlying T = some (.array n E)) (hE : P.underlying E = some (.int k)) (hc : P.cellsOf E = 1) (hcT : P.cellsOf T = n)
    (h : DataW.trod enc P w base spare held fuel T cs = some (.agg (zs.map fun z => .lit (.int k z)), q)) : cs = zs.map (Value.int k) := by
  obtain ⟨xs, m, _, hx, hlen, hl, he⟩ := DataW.trod_array hT h
  simp only [Prod.mk.injEq, DataW.agg.injEq] at hx
  rw [hcT] at hlen
  have hzl : zs.length = xs.length := by have := congrArg List.length hx.1; simpa using this
  refine List.ext_getElem (by simp; omega) (fun i h1 h2 => ?_)
  have hi := he i (by omega)
  rw [hc, List.getElem?_eq_getElem (by omega)] at hi
  obtain ⟨z, e1, e2, _⟩ := DataW.trod_int hE hi
  have e3 : cs[i]? = some (.int k z) := by
    have := congrArg (·[0]?) e1
    simp only [Nat.mul_one, List.getElem?_take, List.getElem?_drop, Nat.add_zero] at this
    simpa using this
  have e4 : zs[i]? = some z := by
    have := congrArg (·[i]?) hx.1
    simp only [List.getElem?_map] at this
    rw [List.getElem?_eq_getElem (by omega : i < xs.length), e2] at this
    cases hz : zs[i]? with
    | none => rw [hz] at this; simp at this
    | some z' =>
      rw [hz] at this
      simp only [Option.map_some, Option.some.injEq, DataW.lit.injEq, Lit.int.injEq, true_and] at this
      rw [this]
  simp only [List.getElem_map]
  rw [List.getElem?_eq_getElem h1] at e3
  simp only [Option.some.injEq] at e3
  rw [e3]
  rw [List.getElem?_eq_getElem (by simpa using h2)] at e4
  simp only [Option.some.injEq] at e4
  rw [e4]
theorem glob_arr {g n : Nat} {k : IntKind} {zs : List Int} {cs : List Value} (hcs : cs = zs.map (Value.int k)) (hl : zs.length = n) (hcell : ∀ i v, cs[i]? = some v → w.cell? ⟨g, i, none⟩ = some v) :
    ∃ cs, CellsAt w g 0 cs ∧ PRd w (fun _ => False) (.arr n (.int k)) (zs : List Int) cs := by
  refine ⟨cs, fun j v hj => by rw [Nat.zero_add]; exact hcell j v hj, hl, ?_⟩
  subst hcs
  exact qQj zs
end
def qHm : Value → Bool
  | .agg _ => true
  | _ => false
theorem PRd.val {w : World} {N : Bool → Nat → Prop} {K : Kn} (hN : ∀ b, b < w.heap.size → N false b) (hlow : ∀ b, N true b → N false b) {t : Ty} {x : pden t} {v : Value} {cs : List Value} (h0 : PRd w (InW w) t x cs) (hc : v.cells.toList = cs) (hv : qHm v = t.agg) (hf : qje t = true) : VRd w N K (qcy t (inj false t x)) v := by
  have h : PRd w (N false) t x cs := h0.keep ⟨fun b hb => ⟨hN b hb, rfl⟩⟩
  clear h0
  cases t with
  | arr n e => 
    cases v <;> simp [Ty.agg, qHm] at hv
    rename_i a
    exact ⟨cs, by simp [Value.cells] at hc; rw [← hc], rfl, qZi (N := N) hlow false h⟩
  | pair a b =>
    cases v <;> simp [Ty.agg, qHm] at hv
    exact ⟨cs, by simp [Value.cells] at hc; rw [← hc], rfl, qZi (N := N) hlow false h⟩
  | unit =>
    cases v <;> simp [Ty.agg, qHm] at hv
    exact ⟨cs, by simp [Value.cells] at hc; rw [← hc], rfl, qZi (N := N) hlow false h⟩
  | int k =>
    simp only [PRd] at h; subst h
    cases v <;> simp [Ty.agg, qHm, Value.cells] at hv hc <;> first | exact hc | skip
    all_goals simp_all [qcy, inj, VRd]
  | bool =>
    simp only [PRd] at h; subst h
    cases v <;> simp [Ty.agg, qHm, Value.cells] at hv hc <;> first | exact hc | skip
    all_goals simp_all [qcy, inj, VRd]
  | str =>
    simp only [PRd] at h; subst h
    cases v <;> simp [Ty.agg, qHm, Value.cells] at hv hc <;> first | exact hc | skip
    all_goals simp_all [qcy, inj, VRd]
  | slice e =>
    obtain ⟨A, cap, rfl, h1, h2⟩ := h
    cases v <;> simp [Ty.agg, qHm, Value.cells] at hv hc
    obtain ⟨rfl, rfl, rfl⟩ := hc
    exact ⟨_, _, rfl, h1, h2⟩
  | fn => simp [qje] at hf
theorem CallOK.below {P : Program} {GT : qfg} {f : Nat} {args : List AV} {res : TV} {post : List (Nat × Obj)} (h : CallOK P GT f args [] res post) {w : World} (hg : Glob P GT w) {vs : List Value}
    (ha : ∀ (N : Bool → Nat → Prop) (K : Kn), (∀ b, b < w.heap.size → N false b) → (∀ b, N true b → N false b) → VRdL w N K args vs) {v : Value} (hr : ∀ (N : Bool → Nat → Prop) (K : Kn) (w' : World) (u : Value), TVRd w' N K res u → u = v) (hb : (P.funcs[f]?).map (·.body.isSome) = some true) (hn : (P.funcs[f]?).map (·.name == "runtime.NumGoroutine") = some false) :
    Calls P f vs.toArray w fun e w' => e = .returned v ∧ RowKit.Below w.heap.size w w' := by
  have h1 := h w (InW w) (fun _ => False) (fun _ => none) vs hg ⟨(fun l o hl => by cases hl), (fun l o gh p hl => by cases hl), (fun l l' o o' gh gh' p p' hl => by cases hl), ⟨rfl, rfl, rfl, Nat.le_refl _, fun _ _ _ => rfl⟩⟩
    (fun b hb => hb.elim) (fun l hl => rfl) (fun b hb => hb) (ha _ _ (fun b hb => ⟨hb, (fun hl => by obtain ⟨l, o, gh, p, q, _⟩ := hl; cases q), .inr (.inr ⟨rfl, .inl hb⟩)⟩) NN.low)
  unfold qjq at h1
  obtain ⟨fn, hf, hbs⟩ := Option.map_eq_some_iff.1 hb
  obtain ⟨fn', hf', hnm⟩ := Option.map_eq_some_iff.1 hn
  rw [hf] at hf'; injection hf' with hf'; subst hf'
  obtain ⟨body, hbody⟩ := Option.isSome_iff_exists.1 hbs
  have hcf : (callFunc f vs.toArray).run P w = .ok (.enter f vs.toArray) w := by
    have hnm' : ¬ fn.name = "runtime.NumGoroutine" := by simpa using hnm
    simp [callFunc, hf, hnm', hbody]
  rw [hcf] at h1
  refine h1.mono ?_
  rintro e w' ⟨u, rfl, K', _, hI, hu⟩
  exact ⟨by rw [hr _ _ _ _ hu], hI.fr.os, hI.fr.tape, hI.fr.output, hI.fr.size, fun k hk => hI.fr.block k hk (fun h => h)⟩
theorem okWide_form {P : Program} {w : World} {r : Go.Reach} {base : Nat} {T : TypeId} {m : Nat} {t : Ty} {v : Value} (hT : qVc P (m + 1) T = some t) (hnf : qje t = true) (h : Value.okWide P w r base T v) : qHm v = t.agg := by
  obtain ⟨desc, hd, hr, _⟩ := qUt hT
  unfold Value.okWide at h
  rw [hd] at h
  have hcell : Cell.okWide P w r base T v → (match desc with
      | .bool => true
      | .int _ => true
      | .string => true
      | .slice _ => true
      | _ => false) = true → qHm v = false := by
    intro hc hdesc
    cases v with
    | agg cs =>
      exfalso
      unfold Cell.okWide at hc
      rw [hd] at hc
      cases desc <;> simp [Cell.ok, hd] at hc hdesc
    | _ => rfl
  cases desc with
  | bool => simp only [qyi, Option.some.injEq] at hr; subst hr; exact hcell h rfl
  | int k => simp only [qyi, Option.some.injEq] at hr; subst hr; exact hcell h rfl
  | string => simp only [qyi, Option.some.injEq] at hr; subst hr; exact hcell h rfl
  | slice e =>
    simp only [qyi] at hr
    split at hr
    · simp only [Option.some.injEq] at hr; subst hr; exact hcell h rfl
    · cases hr
  | array n e =>
    simp only [qyi] at hr
    split at hr
    · simp only [Option.some.injEq] at hr; subst hr
      obtain ⟨cs, rfl, _⟩ := h; rfl
    · cases hr
  | struct fs =>
    simp only [qyi] at hr
    split at hr
    · rename_i ts _
      split at hr
      · simp only [Option.some.injEq] at hr; subst hr
        obtain ⟨cs, rfl, _⟩ := h
        cases ts <;> rfl
      · cases hr
    · cases hr
  | func _ _ _ => simp only [qyi, Option.some.injEq] at hr; subst hr; simp [qje] at hnf
  | _ => simp [qyi] at hr
end Go.Ab

/-
  Functions that are walked by hand: from what a walk tells to what calls ask for.
-/
set_option linter.unusedVariables false
set_option linter.unusedSimpArgs false
namespace Go.Ab
open Go
theorem Inv.more {c : Cx} {H : qOb} {K : Kn} {w w' : World} (h : Inv c H K w) (h1 : w'.os = w.os) (h2 : w'.tape = w.tape) (h3 : w'.output = w.output) (hs : w.heap.size ≤ w'.heap.size) (hb : ∀ k, k < w.heap.size → w'.heap[k]? = w.heap[k]?) :
    Inv c H K w' ∧ KeepK w w' (NN c H K w) (NN c H K w') K K := by
  have hk : KeepK w w' (NN c H K w) (NN c H K w') K K := ⟨fun fr => ⟨fun b hb' => ⟨⟨Nat.lt_of_lt_of_le hb'.1 hs, hb'.2.1, hb'.2.2⟩, hb b hb'.1⟩⟩, fun _ _ h => h⟩
  refine ⟨⟨fun l o hl => ?_, fun l o gh p hl hg hp => ?_, h.inj, ?_⟩, hk⟩
  · obtain ⟨gh, g1, g2⟩ := h.objs l o hl
    exact ⟨gh, g1, g2.keep hk (fun p hp => hb _ (h.own l o gh p hl g1 hp).1)⟩
  · obtain ⟨a, b, d⟩ := h.own l o gh p hl hg hp
    exact ⟨Nat.lt_of_lt_of_le a hs, b, d⟩
  · exact ⟨h1.trans h.fr.os, h2.trans h.fr.tape, h3.trans h.fr.output, Nat.le_trans h.fr.size hs, fun k hk' hG => (hb k (Nat.lt_of_lt_of_le hk' h.fr.size)).trans (h.fr.block k hk' hG)⟩
theorem qjj {P : Program} {f : Nat} {args : Array Value} {w : World} {R : Value → World → Prop} (hb : (P.funcs[f]?).map (·.body.isSome) = some true) (hn : (P.funcs[f]?).map (·.name == "runtime.NumGoroutine") = some false)
    (h : Calls P f args w fun e w' => ∃ v, e = .returned v ∧ R v w') : qjq P f args w R := by
  obtain ⟨fn, hf, hbs⟩ := Option.map_eq_some_iff.1 hb
  obtain ⟨fn', hf', hnm⟩ := Option.map_eq_some_iff.1 hn
  rw [hf] at hf'; injection hf' with hf'; subst hf'
  obtain ⟨body, hbody⟩ := Option.isSome_iff_exists.1 hbs
  have hcf : (callFunc f args).run P w = .ok (.enter f args) w := by
    have hnm' : ¬ fn.name = "runtime.NumGoroutine" := by simpa using hnm
    simp [callFunc, hf, hnm', hbody]
  unfold qjq
  rw [hcf]
  exact h
end Go.Ab

/-
  Rows of numbers behind functions that are walked by hand: slices.Delete, slices.Insert.
-/
set_option linter.unusedVariables false
set_option linter.unusedSimpArgs false
namespace Go.Ab
open Go
section
variable {c : Cx} {H : qOb} {K : Kn} {w w' : World}
theorem InBlk.of_cells {p : Plc} {ds : List Value} (h : InBlk w ⟨p.blk, 0, p.bs⟩ []) (hl : p.ob + ds.length ≤ p.bs) (hc : CellsAt w p.blk p.ob ds) : InBlk w p ds := by
  obtain ⟨arr, T, fz, h1, h2, h3, _, _⟩ := h
  refine ⟨arr, T, fz, h1, h2, h3, hl, fun j v hj => ?_⟩
  have := hc j v hj
  simp only [World.cell?, h1] at this
  simpa using this
theorem InBlk.bare {p : Plc} {cs : List Value} (h : InBlk w p cs) : InBlk w ⟨p.blk, 0, p.bs⟩ [] := by
  obtain ⟨arr, T, fz, h1, h2, h3, _, _⟩ := h
  exact ⟨arr, T, fz, h1, h2, h3, by simp, fun j v hj => by simp at hj⟩
theorem InBlk.set {b n o : Nat} {s : List Value} (h : InBlk w ⟨b, 0, n⟩ []) (ho : o + s.length ≤ n) : InBlk (w.setCells b o s) ⟨b, 0, n⟩ [] := by
  obtain ⟨arr, T, fz, h1, h2, h3, h4, h5⟩ := h
  simp only at h1 h2
  refine ⟨(put arr.toList o s).toArray, T, fz, qai b T fz s _ w arr h1 (by omega), ?_, h3, by simp, fun j v hj => by simp at hj⟩
  rw [List.size_toArray, qRi (by simp; omega)]; simpa using h2
theorem InBlk.shape {p : Plc} {cs : List Value} (h : InBlk w p cs) : ∃ T, w.shape? p.blk = some (T, p.bs) := by
  obtain ⟨arr, T, fz, h1, h2, _⟩ := h
  exact ⟨T, by simp only [World.shape?, h1, h2]⟩
theorem InBlk.never {p : Plc} {cs : List Value} (h : InBlk w p cs) (o : Nat) : w.frozen? ⟨p.blk, o, none⟩ = false := by
  obtain ⟨arr, T, fz, h1, h2, h3, _⟩ := h
  simp only [World.frozen?, h1]
  simp only [decide_eq_false_iff_not, Bool.and_eq_false_imp, decide_eq_true_eq]
  omega
theorem qEl (A : Inv c H K w) {k : IntKind} {l off n : Nat} {wh fr : Bool} {xs : List Int} {v : Value} (hl : H l = some (.row (.int k) fr xs)) (hr : RefRd K (.int k) l off n wh v) :
    (seg xs off n wh).length = n ∧ ((v = .slice none 0 0 ∧ n = 0) ∨ ∃ p o cap, K l = some ⟨.row (.int k) xs.length [], some p⟩ ∧ v = .slice (some ⟨p.blk, o, none⟩) n cap ∧ n ≤ cap ∧ (cap = 0 ∨ o + cap ≤ p.bs) ∧
      InBlk w ⟨p.blk, 0, p.bs⟩ [] ∧ CellsAt w p.blk o ((seg xs off n wh).map fun x => Value.int k x)) := by
  obtain ⟨q1, q2, q3, q4⟩ := qZn A hl hr
  refine ⟨q1, ?_⟩
  rcases q4 with ⟨h1, _, _, h2⟩ | ⟨p, cs, o, cap, h1, h2, h3, h4, h5, h6⟩
  · exact .inl ⟨h1, h2⟩
  · refine .inr ⟨p, o, cap, h1, h2, h3, h4.imp id (fun h => ?_), h5.bare, ?_⟩
    · have := h.2; have := h.1; simp only [Ty.sz, Nat.mul_one] at *; omega
    · by_cases hc : cap = 0
      · have h0 : seg xs off n wh = [] := List.eq_nil_of_length_eq_zero (by rw [q1]; omega)
        rw [h0]
        intro j v hj
        simp at hj
      · have h4' := h4.resolve_left hc
        rw [← qDg (N := NN c H K w fr) (w := w) (qxk (fun _ _ => PRd.length) h6 q3), h4'.1]
        exact h5.cells.cut _ _
theorem qJt : ∀ (ls : List Nat) (l : Nat), lookL (Ab.kill ls) l = if l ∈ ls then some none else none
  | [], l => rfl
  | x :: r, l => by
    simp only [Ab.kill, List.map_cons, lookL]
    by_cases h : x = l
    · simp [h]
    · have h' : ¬ l = x := fun e => h e.symm
      rw [if_neg h]
      have := qJt r l
      simp only [Ab.kill] at this
      rw [this]
      simp [h']
theorem qWr {α : Type} : ∀ (ls : List (Nat × α)) (l : Nat), l ∉ ls.map (·.1) → lookL ls l = none
  | [], l, _ => rfl
  | (k, v) :: r, l, h => by
    simp only [List.map_cons, List.mem_cons, not_or] at h
    simp only [lookL]
    rw [if_neg (fun e => h.1 e.symm)]
    exact qWr r l h.2
theorem qTG {K' : Kn} {u : List (Nat × Option Obj)} {pre : List (Nat × Obj)} {o : Obj} (S : Stp c (lookL pre) K w u 8 K' w') (h8 : 8 ∉ pre.map (·.1)) (hu : ∀ l, l ∉ pre.map (·.1) → lookL u l = lookL [(8, some o)] l) :
    (∀ l gh, K l = some gh → K' l = some gh) ∧ Inv c (lookL [(8, o)]) K' w' := by
  refine ⟨S.keep.k, ?_⟩
  have := (Stp.kill S.inv 8 (pre.map (·.1))).inv
  have e : qLb (qLb (lookL pre) u) (Ab.kill (pre.map (·.1))) = lookL [(8, o)] := by
    funext l
    simp only [qLb, qJt]
    by_cases h : l ∈ pre.map (·.1)
    · rw [if_pos h]
      simp only [lookL]
      rw [if_neg (show ¬ 8 = l from fun e => h8 (by rw [e]; exact h))]
    · rw [if_neg h, hu l h, qWr pre l h]
      simp only [lookL]
      by_cases h9 : 8 = l <;> simp [h9]
  rw [e] at this
  exact this
theorem qao {pre : List (Nat × Obj)} {k : IntKind} (A : Inv c (lookL pre) K w) (hng : c.ng ≤ c.w0.heap.size) (hf : K 8 = none) (h8 : 8 ∉ pre.map (·.1)) :
    ∃ K', (∀ l gh, K l = some gh → K' l = some gh) ∧ Inv c (lookL [(8, .row (.int k) true [])]) K' w ∧ RefRd K' (.int k) 8 0 0 true (.slice none 0 0) := by
  have S := qLq A hng (nl := 8) (l0 := 8) ⟨Nat.le_refl _, by omega⟩ hf (.int k)
  obtain ⟨h1, h2⟩ := qTG S h8 (fun l _ => rfl)
  exact ⟨_, h1, h2, 0, none, ⟨[], qLa⟩, Nat.le_refl _, fun _ => ⟨rfl, rfl⟩, rfl, rfl⟩
theorem qre {pre : List (Nat × Obj)} {o0 : Obj} {sh : Shp} {p : Plc} {k : IntKind} {o cap : Nat} {zs : List Int} (A : Inv c (lookL pre) K w) (h0 : lookL pre 0 = some o0) (k1 : K 0 = some ⟨sh, some p⟩) (hf : K 8 = none) (h8 : 8 ∉ pre.map (·.1))
    (hw : w'.os = w.os ∧ w'.tape = w.tape ∧ w'.output = w.output ∧ w'.heap.size = w.heap.size ∧ ∀ k, k ≠ p.blk → w'.heap[k]? = w.heap[k]?)
    (hb : InBlk w' ⟨p.blk, 0, p.bs⟩ []) (hle : zs.length ≤ cap) (hc : cap = 0 ∨ o + cap ≤ p.bs) (hcells : CellsAt w' p.blk o (zs.map fun x => Value.int k x)) :
    ∃ K', (∀ l gh, K l = some gh → K' l = some gh) ∧ Inv c (lookL [(8, .row (.int k) true zs)]) K' w' ∧ RefRd K' (.int k) 8 0 zs.length true (.slice (some ⟨p.blk, o, none⟩) zs.length cap) := by
  have h0m : (0 : Nat) ∈ pre.map (·.1) := by
    refine Decidable.byContradiction fun h => ?_
    rw [qWr pre 0 h] at h0; cases h0
  have fin : ∀ q, (cap = 0 ∨ o = q) → q + zs.length ≤ p.bs → CellsAt w' p.blk q (zs.map fun x => Value.int k x) → ∃ K', (∀ l gh, K l = some gh → K' l = some gh) ∧ Inv c (lookL [(8, .row (.int k) true zs)]) K' w' ∧ RefRd K' (.int k) 8 0 zs.length true (.slice (some ⟨p.blk, o, none⟩) zs.length cap) := by
    intro q hq1 hq2 hq3
    have S := Stp.move A 8 0 8 o0 (.row (.int k) true zs) _ ⟨.row (.int k) zs.length [], some ⟨p.blk, q, p.bs⟩⟩ p ⟨p.blk, q, p.bs⟩ h0 k1 rfl ⟨Nat.le_refl _, by omega⟩ hf rfl rfl hw
      (fun N' K' _ hk => ⟨rfl, _, InBlk.of_cells hb (by simpa using hq2) hq3, qQj _⟩)
    obtain ⟨h1, h2⟩ := qTG (o := .row (.int k) true zs) S h8 (fun l hl => by
      simp only [lookL]
      rw [if_neg (show ¬ 0 = l from fun e => hl (by rw [← e]; exact h0m))])
    refine ⟨_, h1, h2, zs.length, some ⟨p.blk, q, p.bs⟩, ⟨[], qLa⟩, by omega, fun _ => ⟨rfl, rfl⟩, o, cap, rfl, hle, ?_⟩
    rcases hc with hc | hc
    · exact .inl hc
    · rcases hq1 with hq1 | rfl
      · exact .inl hq1
      · exact .inr ⟨by simp, by simp [Ty.sz]; exact hc⟩
  by_cases h : cap = 0
  · have hz : zs = [] := List.eq_nil_of_length_eq_zero (by omega)
    subst hz
    exact fin 0 (.inl h) (by simp) (fun j v hj => by simp at hj)
  · exact fin o (.inr rfl) (by have := hc.resolve_left h; omega) hcells
theorem qPq {pre : List (Nat × Obj)} {k : IntKind} {bs cap : Nat} {zs : List Int} (A : Inv c (lookL pre) K w) (hng : c.ng ≤ c.w0.heap.size) (hf : K 8 = none) (h8 : 8 ∉ pre.map (·.1))
    (hw : w'.os = w.os ∧ w'.tape = w.tape ∧ w'.output = w.output ∧ w.heap.size ≤ w'.heap.size ∧ ∀ k, k < w.heap.size → w'.heap[k]? = w.heap[k]?)
    (hb : InBlk w' ⟨w.heap.size, 0, bs⟩ []) (hle : zs.length ≤ cap) (hc : cap ≤ bs) (hcells : CellsAt w' w.heap.size 0 (zs.map fun x => Value.int k x)) :
    ∃ K', (∀ l gh, K l = some gh → K' l = some gh) ∧ Inv c (lookL [(8, .row (.int k) true zs)]) K' w' ∧ RefRd K' (.int k) 8 0 zs.length true (.slice (some ⟨w.heap.size, 0, none⟩) zs.length cap) := by
  have hb2 : InBlk w' ⟨w.heap.size, 0, bs⟩ (zs.map fun x => Value.int k x) := InBlk.of_cells (p := ⟨w.heap.size, 0, bs⟩) hb (by simp; omega) hcells
  have S := qKk A hng (nl := 8) (l0 := 8) ⟨Nat.le_refl _, by omega⟩ hf (e := .int k) (fr := true) (xs := zs) (p := ⟨w.heap.size, 0, bs⟩) hw ⟨Nat.le_refl _, hb.lt⟩ hb2 (qQj _)
  obtain ⟨h1, h2⟩ := qTG S h8 (fun l _ => rfl)
  exact ⟨_, h1, h2, qZm (p := ⟨w.heap.size, 0, bs⟩) rfl hle (.inr (by simp [Ty.sz]; exact hc))⟩
end
end Go.Ab

/-
  Plain laws on numbers and lists, for the printed functions.
-/
set_option linter.unusedVariables false
set_option linter.unusedSimpArgs false
namespace Go.Ab
open Go
theorem w64 {x : Int} (h1 : -9223372036854775808 ≤ x) (h2 : x ≤ 9223372036854775807) : IntKind.wrap .i64 x = x := by
  simp [IntKind.wrap, IntKind.signed, IntKind.bits]; omega
theorem wu8 (x : Int) : IntKind.wrap .u8 x = x % 256 := by
  simp [IntKind.wrap, IntKind.signed, IntKind.bits]
theorem qAG (x : Int) : IntKind.wrap .u32 x = x % 4294967296 := by
  simp [IntKind.wrap, IntKind.signed, IntKind.bits]
theorem qwo (a : Int) {b : Int} (h : 0 < b) : Int.fdiv a b = a / b := Int.fdiv_eq_ediv_of_nonneg _ (by omega)
theorem qHw {a b : Int} (h : 0 ≤ a) : Int.tdiv a b = a / b := Int.tdiv_eq_ediv_of_nonneg h
theorem quj {a b : Int} (h : 0 ≤ a) : Int.tmod a b = a % b := Int.tmod_eq_emod_of_nonneg h
theorem qHA (a b : Int) (h0 : 0 ≤ b) (h : b ≤ 63) : qQi .i64 a b = a / 2 ^ b.toNat := by
  unfold qQi
  have : min b.toNat (IntKind.bits .i64) = b.toNat := by simp [IntKind.bits]; omega
  rw [this]
  exact Int.fdiv_eq_ediv_of_nonneg _ (by have : (0:Int) < 2 ^ b.toNat := Int.pow_pos (by decide); omega)
theorem qJG {n : Int} (h : (Lit.int .u8 n).wf = true) : 0 ≤ n ∧ n < 256 := by
  simp [Lit.wf, IntKind.min, IntKind.max, IntKind.signed, IntKind.bits] at h; omega
def Bts (xs : List Int) : Prop := ∀ x ∈ xs, 0 ≤ x ∧ x < 256
theorem Bts.nil : Bts [] := fun x hx => by cases hx
theorem Bts.append {a b : List Int} (ha : Bts a) (hb : Bts b) : Bts (a ++ b) := fun x hx => (List.mem_append.1 hx).elim (ha x) (hb x)
theorem Bts.take {a : List Int} (h : Bts a) (n : Nat) : Bts (a.take n) := fun x hx => h x (List.mem_of_mem_take hx)
theorem Bts.drop {a : List Int} (h : Bts a) (n : Nat) : Bts (a.drop n) := fun x hx => h x (List.mem_of_mem_drop hx)
theorem Bts.cons {a : List Int} {x : Int} (hx : 0 ≤ x ∧ x < 256) (h : Bts a) : Bts (x :: a) := fun y hy => by
  rcases List.mem_cons.1 hy with rfl | hy
  · exact hx
  · exact h y hy
theorem Bts.of_wf {xs : List Int} (h : ∀ x ∈ xs, wfP (.int .u8) x) : Bts xs := fun x hx => qJG (h x hx)
theorem qCj {xs : List Int} (h : Bts xs) : qob (qEg xs) = xs := by
  unfold qob qEg
  simp only [List.map_map]
  refine (List.map_congr_left (fun x hx => ?_)).trans (List.map_id xs)
  obtain ⟨h0, h1⟩ := h x hx
  simp only [Function.comp, UInt8.toNat_ofNat', id]
  omega
theorem qpz (xs : List Int) : (qEg xs).size = xs.length := by
  show ((xs.map fun n => UInt8.ofNat n.toNat).toArray).size = _
  simp
theorem qBA {xs ys : List Int} (hx : Bts xs) (hy : Bts ys) (h : qEg xs = qEg ys) : xs = ys := by
  rw [← qCj hx, h, qCj hy]
theorem qND {xs ys : List Int} (hx : Bts xs) (hy : Bts ys) : (ByteArray.toList (qEg xs) == ByteArray.toList (qEg ys)) = decide (xs = ys) := by
  rw [Bool.eq_iff_iff, beq_iff_eq, decide_eq_true_eq]
  exact ⟨fun h => qBA hx hy (toList_inj h), fun h => by rw [h]⟩
end Go.Ab

/-
  Regions in the rounds of a range qpE a function, and what abides while its book-keeping turns.
-/
set_option linter.unusedVariables false
set_option linter.unusedSimpArgs false
namespace Go.Ab
open Go
section
variable {c : Cx} {P : Program} {GT : qfg} {H : qOb} {K : Kn} {w w' : World}
end
section
variable {c : Cx} {P : Program} {GT : qfg} {nt : Nat} {mnz : List Nat} {tab : List (Summ P GT)} {R : Type} {lf fin : Pos → Option R} {r : R}
theorem Does.mono {o : Oper} {ρ : Operand → Value} {w : World} {R R' : Value → World → Prop} (h : Does P o ρ w R) (hr : ∀ v w', R v w' → R' v w') : Does P o ρ w R' := by
  unfold Does at h ⊢
  split at h
  · exact hr _ _ h
  · exact hr _ _ h
  · refine Calls.mono h ?_
    rintro e w'' ⟨v, e1, h2⟩
    exact ⟨v, e1, hr _ _ h2⟩
  · exact h.elim
theorem RelS.keep {σ σ' : St} {K : Kn} {a : Act} {w : World} {ts : List Nat} {ren : List (Nat × Nat)} {nx : Nat} {lo : Bool} (R0 : RelS c P GT nt σ K a w) (h : σ.keep ts ren nx lo = some σ') :
    ∃ K', RelS c P GT nt σ' K' a w ∧ (∀ l, l < 8 → K' l = K l) ∧ (∀ b, NN c (qjd σ.heap) K w false b → NN c (qjd σ'.heap) K' w false b) ∧ (∀ l m, quf ren l = some m → K' m = K l) ∧ ∀ l o gh p, quf ren l = none → qjd σ.heap l = some o → K l = some gh → Has gh p → NN c (qjd σ'.heap) K' w false p.blk := by
  unfold St.keep at h
  split at h
  · rename_i hok
    split at h
    · rename_i tl hl0 e1 e2
      simp only [Option.some.injEq] at h; subst h
      obtain ⟨K', X, hI, h8, hx⟩ := qcs R0 hok e2
      refine ⟨K', ⟨⟨hI, fun t => ?_, R0.rel.size, R0.rel.defers, R0.rel.ng, R0.rel.gng, R0.rel.glob⟩, fun l hl => hx l hl⟩, h8, fun b hb => by simpa using X.n false b hb, X.k, fun l o gh p h1 h2 h3 h4 => by simpa using X.gone l o gh p trivial h1 h2 h3 h4 false⟩
      show TVRd w (NN c (qjd hl0) K' w) K' (St.look ⟨tl, hl0, nx⟩ t) _
      unfold St.look
      split
      · rename_i v hv
        exact qes X R0.rel.inv (fun _ _ h => h) (fun _ _ => trivial) (qhn e1 hv) (R0.rel.tmps t)
      · trivial
    · cases h
  · cases h
theorem Inv.df {H : qOb} {K : Kn} {w : World} (h : Inv c H K w) (d : List Deferred) : Inv { c with df := d } H K w := ⟨h.objs, h.own, h.inj, ⟨h.fr.os, h.fr.tape, h.fr.output, h.fr.size, h.fr.block⟩⟩
theorem RelS.df {σ : St} {K : Kn} {a : Act} {w : World} (h : RelS c P GT nt σ K a w) (d : List Deferred) : RelS { c with df := d } P GT nt σ K { a with defers := d } w :=
  ⟨⟨h.rel.inv.df d, h.rel.tmps, h.rel.size, rfl, h.rel.ng, h.rel.gng, h.rel.glob⟩, h.fresh⟩
end
section
variable {F : Fence} {n : Nat} {P : Program} {Q : Exit → Act → World → Prop} {a : Act} {w : World}
end
section
variable {c : Cx} {P : Program} {GT : qfg} {nt : Nat} {mnz : List Nat} {tab : List (Summ P GT)} {R : Type} {lf fin : Pos → Option R} {r : R}
end
end Go.Ab

/-
  A law's row where the world's shape is kept: some int stands in a variable that no one lists.
-/
set_option linter.unusedVariables false
namespace Go.Ab
open Go
variable {H : Type} {enc : TypeId × Value → H}
theorem returns_shaped {C : Checked} {os : Os} {f : FuncId} {fn : Func} {s : ChangeSpec} {conds : List PathCond} {apart : Bool} {X : World → Prop}
    (hX : ∀ w w' : World, w.heap = w'.heap → X w → X w') (own : ownKnob C.prog.godebug = none) (started : os.Started) (noInit : C.prog.inits.idxOf? f = none) (hfn : C.prog.funcs[f]? = some fn)
    (wit : ∃ (w : World) (tape : Tape) (i : Input), w.os = os ∧ (w.forCall tape i).Shaped C.prog ∧ i.vars = [] ∧ Input.okWide C.prog (w.forCall tape i) .any w.heap.size f i ∧
      ((s.pre enc C.prog fn conds apart (w.forCall tape i).memory i.args ∧ X (w.forCall tape i).memory) ∧ sizedMet enc C.prog fn (OpenSpec.ofChange s) apart (w.forCall tape i).memory i.args) ∧ Assume.holds {} C.prog (lone (Frame.enter C.prog f i.args .normal) [] (w.forCall tape i)))
    (con : ∀ (W : World) (base : Nat) (args : Array Value) (ds gs : List (DataW H)) (before : List MemPlace), X W → W.ShapedOpen C.prog →
      (∀ (j : Nat) t v, fn.params[j]? = some t → args[j]? = some v → Value.okWide C.prog W .any base t v) → DataW.Whole enc C.prog fn.params.toList s.vars apart W args.toList ds gs before →
      Calls C.prog f args W fun e W' => ∃ v, e = .returned v ∧ s.post enc C.prog fn apart true false false W args v W') :
    ReturnsInHanded {} C os f .any (fun w args => (s.pre enc C.prog fn conds apart w args ∧ X w) ∧ sizedMet enc C.prog fn (OpenSpec.ofChange s) apart w args) (s.post enc C.prog fn apart true false false) := by
  refine returnsInHanded_of_calls own started noInit wit fun w tape i _ hs _ ok pre _ => ?_
  obtain ⟨_, _, _, fn', e', _, _, _, _, hv⟩ := ok
  obtain rfl : fn' = fn := Option.some.inj (e'.symm.trans hfn)
  obtain ⟨⟨⟨ds, gs, before, hw, _⟩, hx⟩, _⟩ := pre
  refine (con (w.forCall tape i) w.heap.size i.args ds gs before (hX _ _ (by rfl) hx) hs hv (DataW.Whole.of_heap (w' := w.forCall tape i) (by rfl) hw)).mono fun e W' ⟨v, he, hp⟩ => ?_
  subst he
  exact ChangeSpec.post_blind hp
end Go.Ab
