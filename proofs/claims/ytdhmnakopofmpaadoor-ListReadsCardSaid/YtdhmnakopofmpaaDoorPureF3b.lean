/-
  Plain laws of the printed functions.
-/
import Derived.Test.YtdhmnakopofmpaaDoorPureF3
set_option linter.unusedVariables false
set_option linter.unusedSimpArgs false
set_option maxHeartbeats 1000000
namespace Go.Ab
attribute [local irreducible] IntKind.wrap
/-! ### 5. All blocks -/
def zL : D_api_Listing := ((0, (0, ())), ([], ([], ())))
def blkL (a : List Int) (s : D_api_Settings) (rs : List D_api_Record) : List D_api_Piece → Nat → List D_api_BlockHead → List D_api_Block → D_api_Listing × List D_api_Block × Int
  | [], p, hs, bs => if p < a.length then (zL, ([], 12)) else ((s, (rs, (hs, ()))), (bs, 0))
  | x :: ps, p, hs, bs => if (rdB (a.drop p)).2.2 ≠ 0 then (zL, ([], (rdB (a.drop p)).2.2)) else if ¬ isP (rdB (a.drop p)).1.1 x then (zL, ([], 32))
    else blkL a s rs ps (p + (rdB (a.drop p)).2.1.toNat) (hs ++ [(rdB (a.drop p)).1.1]) (bs ++ [(rdB (a.drop p)).1])
def allB (a : List Int) : D_api_Listing × List D_api_Block × Int :=
  if (hdP a).2.2.2 ≠ 0 then (zL, ([], (hdP a).2.2.2)) else blkL a (hdP a).1 (hdP a).2.1 (ap (hdP a).1.2.1 0 (hdP a).2.1) (hdP a).2.2.1.toNat [] []
/-- A block that is read. -/
theorem rdB_ok {c : List Int} (h : (rdB c).2.2 = 0) : hOK (rdB c).1.1 ∧ (rdB c).2.1 = 41 + (rdB c).1.1.2.2.2.2.1 ∧ (rdB c).2.1 ≤ c.length ∧ 41 ≤ c.length ∧ c.length ≤ 50000 ∧ c.take 13 = mark ∧
    rdB c = ((pH ((c.drop 13).take 28), ((c.drop 41).take (pH ((c.drop 13).take 28)).2.2.2.2.1.toNat, ())), (41 + (pH ((c.drop 13).take 28)).2.2.2.2.1, 0)) := by
  unfold rdB at h ⊢
  by_cases h1 : c.length > 50000
  · rw [if_pos h1] at h; simp at h
  · rw [if_neg h1] at h ⊢
    by_cases h2 : c.length < 41
    · rw [if_pos h2] at h; simp at h
    · rw [if_neg h2] at h ⊢
      by_cases h3 : c.take 13 ≠ mark ∨ ¬ hOK (pH ((c.drop 13).take 28))
      · rw [if_pos h3] at h; simp at h
      · rw [if_neg h3] at h ⊢
        by_cases h4 : (c.length : Int) < 41 + (pH ((c.drop 13).take 28)).2.2.2.2.1
        · rw [if_pos h4] at h; simp at h
        · rw [if_neg h4]
          simp only [ne_eq, not_or, Decidable.not_not] at h3
          exact ⟨h3.2, rfl, by simp only; omega, by omega, by omega, h3.1, rfl⟩
structure HeadOK (a : List Int) (l : List D_api_Record) (q : Nat) : Prop where
  eq : hdP a = (sH a, (l, (28 + (q : Int), 0)))
  le : 28 + q ≤ a.length
  big : a.length ≤ 50000
  magic : a.take 4 = magic
  chk : chk (sH a) = 0
  seven : a.getD 7 0 ≤ 16
  read : ReadOK (a.drop 8) (a.getD 7 0).toNat l q
  sum : (a.drop (8 + q)).take 20 = shaB (a.take (8 + q))
  rd : rdRs (a.drop 8) (a.getD 7 0).toNat 0 [] = (l, ((q : Int), 0))
theorem hdP_ok {a : List Int} (hb : Bts a) (h : (hdP a).2.2.2 = 0) : ∃ l q, HeadOK a l q := by
  have b7 := hb.getD 7
  unfold hdP at h
  by_cases h1 : a.length > 50000
  · rw [if_pos h1] at h; simp [hdE] at h
  rw [if_neg h1] at h
  by_cases h2 : a.length < 8
  · rw [if_pos h2] at h; simp [hdE] at h
  rw [if_neg h2] at h
  by_cases h3 : a.take 4 ≠ magic ∨ chk (sH a) ≠ 0 ∨ a.getD 7 0 > 16
  · rw [if_pos h3] at h; simp [hdE] at h
  rw [if_neg h3] at h
  have h3' := h3
  simp only [ne_eq, not_or, Decidable.not_not] at h3'
  obtain ⟨m1, m2, m3⟩ := h3'
  by_cases hr : (rdM (a.drop 8) (a.getD 7 0)).2.2 = 0
  · obtain ⟨q, hq, hO⟩ := rdM_ok (hb.drop 8) (by simp; omega) ⟨b7.1, by omega⟩ hr
    have hle := hO.le
    rw [List.length_drop] at hle
    rw [if_neg (fun h => h hr)] at h
    by_cases h20 : (a.length : Int) - 8 - (rdM (a.drop 8) (a.getD 7 0)).2.1 < 20
    · rw [if_pos h20] at h; simp [hdE] at h
    rw [if_neg h20] at h
    have hqn : (rdM (a.drop 8) (a.getD 7 0)).2.1.toNat = q := by omega
    by_cases hs : (a.drop (8 + (rdM (a.drop 8) (a.getD 7 0)).2.1.toNat)).take 20 ≠ shaB (a.take (8 + (rdM (a.drop 8) (a.getD 7 0)).2.1.toNat))
    · rw [if_pos hs] at h; simp [hdE] at h
    refine ⟨_, q, ?_, by omega, by omega, m1, m2, by omega, hO, ?_, ?_⟩
    · unfold hdP
      rw [if_neg h1, if_neg h2, if_neg h3, if_neg (fun h => h hr), if_neg h20, if_neg hs, hq]
    · rw [hqn] at hs; simpa using hs
    · have e : rdM (a.drop 8) (a.getD 7 0) = rdRs (a.drop 8) (a.getD 7 0).toNat 0 [] := by unfold rdM; rw [if_neg (by omega), if_neg (by simp; omega)]
      rw [← e, ← hq]
      exact Prod.ext rfl (Prod.ext rfl hr)
  · rw [if_pos hr] at h; exact absurd h hr
theorem HeadOK.recsV {a l q} (h : HeadOK a l q) : RecsV l := valid_zero h.read.val
theorem HeadOK.blk {a l q} (h : HeadOK a l q) : 16 ≤ (sH a).2.1 ∧ (sH a).2.1 ≤ 4096 := chk_zero' h.chk
theorem all_c1 (a : List Int) (hb : Bts a) (hl : a.length ≤ 50000) (s t : D_api_Settings) (rs x1 : List D_api_Record) (x2 : List D_api_BlockHead) (ps : List D_api_Piece) (hps : ps.length ≤ 100000) : ∀ (k i p : Nat) (hs : List D_api_BlockHead) (bs : List D_api_Block), i + k = ps.length → p ≤ a.length → hs.length = i → bs.length = i →
    list_all_c1 a (p : Int) (ps.length : Int) (i : Int) t () s () bs ps x1 x2 rs hs = some (blkL a s rs (ps.drop i) p hs bs)
  | 0, i, p, hs, bs, e, hp, h1, h2 => by
    have hl' : Int.ofNat a.length = (a.length : Int) := rfl
    rw [list_all_c1_eq, if_neg (by simp; omega), List.drop_eq_nil_of_le (by omega), blkL, hl']
    by_cases h : p < a.length
    · rw [if_pos (by simp; omega), if_pos h]; rfl
    · rw [if_neg (by simp; omega), if_neg h]
  | k + 1, i, p, hs, bs, e, hp, h1, h2 => by
    have hl' : Int.ofNat a.length = (a.length : Int) := rfl
    have hl2 : Int.ofNat ps.length = (ps.length : Int) := rfl
    obtain ⟨d1, d2, d3⟩ := dropR_at (pzero T_api_Piece : D_api_Piece) (xs := ps) (i := i) (by omega)
    rw [list_all_c1_eq, if_pos (by simp; omega), gd_pos (by omega), gd_pos (by omega), gd_pos (by omega), gd_pos (by omega), Int.toNat_natCast, Int.toNat_natCast, block_Read_spec _ (hb.drop p), Nat.zero_add]
    simp only [Option.bind_some]
    rw [d1, blkL]
    generalize ps.getD i (pzero T_api_Piece) = pc
    by_cases hr : (rdB (a.drop p)).2.2 = 0
    · have hk := rdB_ok hr
      have hlen := hOK_len hk.1
      have hle := hk.2.2.1
      rw [List.length_drop] at hle
      rw [if_neg (by rw [hr]; decide), if_neg (fun h => h hr), list_is_spec]
      simp only [Option.bind_some]
      by_cases hi : isP (rdB (a.drop p)).1.1 pc
      · rw [if_neg (by rw [decide_eq_true hi]; decide), if_neg (fun h => h hi), gd_pos (by simp; omega), gd_pos (by simp; omega), w64 (by omega) (by omega), w64 (by omega) (by omega)]
        have ih := all_c1 a hb hl s t rs x1 x2 ps hps k (i + 1) (p + (rdB (a.drop p)).2.1.toNat) (hs ++ [(rdB (a.drop p)).1.1]) (bs ++ [(rdB (a.drop p)).1]) (by omega) (by omega) (by simp; omega) (by simp; omega)
        rw [show ((i + 1 : Nat) : Int) = (i : Int) + 1 by omega, show ((p + (rdB (a.drop p)).2.1.toNat : Nat) : Int) = (p : Int) + (rdB (a.drop p)).2.1 by omega] at ih
        exact ih
      · rw [if_pos (by rw [decide_eq_false hi]; rfl), if_pos hi]; rfl
    · rw [if_pos (bne_iff_ne.2 hr), if_pos hr]; rfl
theorem list_all_spec (a : List Int) (hb : Bts a) : list_all a = some (allB a) := by
  rw [list_all_eq, list_Head_spec a hb]
  simp only [Option.bind_some, allB]
  by_cases h : (hdP a).2.2.2 = 0
  · obtain ⟨l, q, hO⟩ := hdP_ok hb h
    rw [if_neg (by rw [h]; decide), if_neg (fun k => k h), hO.eq]
    simp only
    have hle := hO.le
    have hsm := ap_small (sH a).2.1 hO.blk.1 l hO.recsV
    rw [list_pieces_spec _ _ hO.blk hO.recsV]
    simp only [Option.bind_some]
    have := all_c1 a hb hO.big (sH a) (0, (0, ())) l [] [] (ap (sH a).2.1 0 l) (by omega) _ 0 (28 + q) [] [] (Nat.zero_add _) (by omega) rfl rfl
    rw [show ((28 + (q : Int))).toNat = 28 + q by omega]
    exact this
  · rw [if_pos (bne_iff_ne.2 h), if_pos h]; rfl
theorem rall_c1 (a : List Int) (hb : Bts a) (hl : a.length ≤ 50000) (s t : D_api_Settings) (rs x1 : List D_api_Record) (x2 : List D_api_BlockHead) (ps : List D_api_Piece) (hps : ps.length ≤ 100000) : ∀ (k i p : Nat) (hs : List D_api_BlockHead) (bs : List D_api_Block), i + k = ps.length → p ≤ a.length → hs.length = i → bs.length = i →
    bitloftref31_Blocks_c1 a (p : Int) (i : Int) t () s () bs ps x1 x2 rs hs = some (blkL a s rs (ps.drop i) p hs bs)
  | 0, i, p, hs, bs, e, hp, h1, h2 => by
    have hl' : Int.ofNat a.length = (a.length : Int) := rfl
    have hl2 : Int.ofNat ps.length = (ps.length : Int) := rfl
    rw [bitloftref31_Blocks_c1_eq, if_neg (by simp; omega), List.drop_eq_nil_of_le (by omega), blkL, hl']
    by_cases h : p < a.length
    · rw [if_pos (by simp; omega), if_pos h]; rfl
    · rw [if_neg (by simp; omega), if_neg h]
  | k + 1, i, p, hs, bs, e, hp, h1, h2 => by
    have hl' : Int.ofNat a.length = (a.length : Int) := rfl
    have hl2 : Int.ofNat ps.length = (ps.length : Int) := rfl
    obtain ⟨d1, d2, d3⟩ := dropR_at (pzero T_api_Piece : D_api_Piece) (xs := ps) (i := i) (by omega)
    rw [bitloftref31_Blocks_c1_eq, if_pos (by simp; omega), gd_pos (by omega), gd_pos (by omega), Int.toNat_natCast, Int.toNat_natCast, ref27_Read_spec _ (hb.drop p), Nat.zero_add]
    simp only [Option.bind_some]
    rw [d1, blkL]
    generalize ps.getD i (pzero T_api_Piece) = pc
    by_cases hr : (rdB (a.drop p)).2.2 = 0
    · have hk := rdB_ok hr
      have hlen := hOK_len hk.1
      have hle := hk.2.2.1
      rw [List.length_drop] at hle
      rw [if_neg (by rw [hr]; decide), if_neg (fun h => h hr), gd_pos (by omega), gd_pos (by omega), ref31_Is_spec]
      simp only [Option.bind_some]
      by_cases hi : isP (rdB (a.drop p)).1.1 pc
      · rw [if_neg (by rw [decide_eq_true hi]; decide), if_neg (fun h => h hi), gd_pos (by simp; omega), gd_pos (by simp; omega), w64 (by omega) (by omega), w64 (by omega) (by omega)]
        have ih := rall_c1 a hb hl s t rs x1 x2 ps hps k (i + 1) (p + (rdB (a.drop p)).2.1.toNat) (hs ++ [(rdB (a.drop p)).1.1]) (bs ++ [(rdB (a.drop p)).1]) (by omega) (by omega) (by simp; omega) (by simp; omega)
        rw [show ((i + 1 : Nat) : Int) = (i : Int) + 1 by omega, show ((p + (rdB (a.drop p)).2.1.toNat : Nat) : Int) = (p : Int) + (rdB (a.drop p)).2.1 by omega] at ih
        exact ih
      · rw [if_pos (by rw [decide_eq_false hi]; rfl), if_pos hi]; rfl
    · rw [if_pos (bne_iff_ne.2 hr), if_pos hr]; rfl
theorem rBlocks_spec (a : List Int) (hb : Bts a) : bitloftref31_Blocks a = some (allB a) := by
  rw [bitloftref31_Blocks_eq, rHead31_spec a hb]
  simp only [Option.bind_some, allB]
  by_cases h : (hdP a).2.2.2 = 0
  · obtain ⟨l, q, hO⟩ := hdP_ok hb h
    rw [if_neg (by rw [h]; decide), if_neg (fun k => k h), hO.eq]
    simp only
    have hle := hO.le
    have hsm := ap_small (sH a).2.1 hO.blk.1 l hO.recsV
    rw [rPieces_spec _ _ hO.blk hO.recsV]
    simp only [Option.bind_some]
    have := rall_c1 a hb hO.big (sH a) (0, (0, ())) l [] [] (ap (sH a).2.1 0 l) (by omega) _ 0 (28 + q) [] [] (Nat.zero_add _) (by omega) rfl rfl
    rw [show ((28 + (q : Int))).toNat = 28 + q by omega]
    exact this
  · rw [if_pos (bne_iff_ne.2 h), if_pos h]; rfl
theorem list_List_spec (a : List Int) (hb : Bts a) : list_List a = some ((allB a).1, (allB a).2.2) := by rw [list_List_eq, list_all_spec a hb]; rfl
theorem rList_spec (a : List Int) (hb : Bts a) : bitloftref31_List a = some ((allB a).1, (allB a).2.2) := by rw [bitloftref31_List_eq, rBlocks_spec a hb]; rfl
/-! ### 6. What stands there -/
/-- Blocks one behind the other. -/
def Std (a : List Int) (e : Nat) : Nat → List D_api_BlockHead → List D_api_Block → Prop
  | p, h :: hs, x :: bs => rdB (a.drop p) = (x, (41 + h.2.2.2.2.1, 0)) ∧ x.1 = h ∧ hOK h ∧ p ≤ a.length ∧ Std a e (p + (41 + h.2.2.2.2.1).toNat) hs bs
  | p, [], [] => p = e
  | _, _, _ => False
theorem blkL_ok (a : List Int) (s : D_api_Settings) (rs : List D_api_Record) : ∀ (ps : List D_api_Piece) (p : Nat) (hs : List D_api_BlockHead) (bs : List D_api_Block), p ≤ a.length → (blkL a s rs ps p hs bs).2.2 = 0 →
    ∃ hs' bs', blkL a s rs ps p hs bs = ((s, (rs, (hs ++ hs', ()))), (bs ++ bs', 0)) ∧ Std a a.length p hs' bs' ∧ hs'.length = ps.length ∧ bs'.length = ps.length ∧ ckL hs' ps = 0
  | [], p, hs, bs, hp, h => by
    simp only [blkL] at h ⊢
    by_cases hlt : p < a.length
    · rw [if_pos hlt] at h; simp at h
    · rw [if_neg hlt]
      exact ⟨[], [], by simp, by unfold Std; omega, rfl, rfl, rfl⟩
  | x :: ps, p, hs, bs, hp, h => by
    simp only [blkL] at h ⊢
    by_cases hr : (rdB (a.drop p)).2.2 = 0
    · have hk := rdB_ok hr
      have hlen := hOK_len hk.1
      have hle := hk.2.2.1
      rw [List.length_drop] at hle
      rw [if_neg (fun k => k hr)] at h ⊢
      by_cases hi : isP (rdB (a.drop p)).1.1 x
      · rw [if_neg (fun k => k hi)] at h ⊢
        obtain ⟨hs', bs', e1, e2, e3, e4, e5⟩ := blkL_ok a s rs ps _ _ _ (by omega) h
        refine ⟨(rdB (a.drop p)).1.1 :: hs', (rdB (a.drop p)).1 :: bs', by rw [e1]; simp, ?_, by simp [e3], by simp [e4], ?_⟩
        · refine ⟨Prod.ext rfl (Prod.ext hk.2.1 hr), rfl, hk.1, hp, ?_⟩
          rw [← hk.2.1]; exact e2
        · simp only [ckL]; rw [if_pos ⟨hk.1, hi⟩]; exact e5
      · rw [if_pos hi] at h; simp at h
    · rw [if_pos hr] at h; exact absurd h hr
structure AllOK (a : List Int) (rs : List D_api_Record) (q : Nat) (hs : List D_api_BlockHead) (bs : List D_api_Block) : Prop where
  head : HeadOK a rs q
  eq : allB a = ((sH a, (rs, (hs, ()))), (bs, 0))
  std : Std a a.length (28 + q) hs bs
  hlen : hs.length = (ap (sH a).2.1 0 rs).length
  blen : bs.length = (ap (sH a).2.1 0 rs).length
  ck : ckL hs (ap (sH a).2.1 0 rs) = 0
theorem allB_ok {a : List Int} (hb : Bts a) (h : (allB a).2.2 = 0) : ∃ rs q hs bs, AllOK a rs q hs bs := by
  unfold allB at h
  by_cases hh : (hdP a).2.2.2 = 0
  · obtain ⟨l, q, hO⟩ := hdP_ok hb hh
    rw [if_neg (fun k => k hh), hO.eq] at h
    simp only at h
    rw [show ((28 + (q : Int))).toNat = 28 + q by omega] at h
    obtain ⟨hs, bs, e1, e2, e3, e4, e5⟩ := blkL_ok a _ _ _ _ _ _ hO.le h
    refine ⟨l, q, hs, bs, hO, ?_, e2, e3, e4, e5⟩
    unfold allB
    rw [if_neg (fun k => k hh), hO.eq]
    simp only
    rw [show ((28 + (q : Int))).toNat = 28 + q by omega, e1]
    simp
  · rw [if_pos hh] at h; exact absurd h hh
theorem blkL_zL (a : List Int) (s : D_api_Settings) (rs : List D_api_Record) : ∀ (ps : List D_api_Piece) (p : Nat) (hs : List D_api_BlockHead) (bs : List D_api_Block), (blkL a s rs ps p hs bs).2.2 ≠ 0 → (blkL a s rs ps p hs bs).1 = zL ∧ (blkL a s rs ps p hs bs).2.1 = []
  | [], p, hs, bs, h => by
    simp only [blkL] at h ⊢
    by_cases hlt : p < a.length
    · rw [if_pos hlt]; exact ⟨rfl, rfl⟩
    · rw [if_neg hlt] at h; simp at h
  | x :: ps, p, hs, bs, h => by
    simp only [blkL] at h ⊢
    by_cases hr : (rdB (a.drop p)).2.2 = 0
    · rw [if_neg (fun k => k hr)] at h ⊢
      by_cases hi : isP (rdB (a.drop p)).1.1 x
      · rw [if_neg (fun k => k hi)] at h ⊢
        exact blkL_zL a s rs ps _ _ _ h
      · rw [if_pos hi]; exact ⟨rfl, rfl⟩
    · rw [if_pos hr]; exact ⟨rfl, rfl⟩
theorem allB_zL {a : List Int} (h : (allB a).2.2 ≠ 0) : (allB a).1 = zL ∧ (allB a).2.1 = [] := by
  unfold allB at h ⊢
  by_cases hh : (hdP a).2.2.2 = 0
  · rw [if_neg (fun k => k hh)] at h ⊢
    exact blkL_zL _ _ _ _ _ _ _ h
  · rw [if_pos hh]; exact ⟨rfl, rfl⟩
theorem allB_small {a : List Int} (hb : Bts a) : (allB a).1.2.1.length ≤ 16 ∧ (allB a).1.2.2.1.length ≤ 100000 ∧ (allB a).2.1.length ≤ 100000 := by
  by_cases h : (allB a).2.2 = 0
  · obtain ⟨rs, q, hs, bs, hO⟩ := allB_ok hb h
    have hsm := ap_small (sH a).2.1 hO.head.blk.1 rs hO.head.recsV
    have h1 := hO.hlen
    have h2 := hO.blen
    rw [hO.eq]
    exact ⟨hO.head.recsV.len, by simp only; omega, by simp only; omega⟩
  · obtain ⟨h1, h2⟩ := allB_zL h
    rw [h1, h2]; exact ⟨by decide, by decide, by decide⟩
/-! ### 7. The same is the same -/
theorem peq_head (r : D_api_BlockHead) : peq T_api_BlockHead r r = true := by
  simp only [peq, decide_true, Bool.true_and, Bool.and_true]
  exact peqL_refl _ (fun x => by simp [peq]) _
theorem Same31_c1 (l : D_api_Listing) (hb : l.2.2.1.length ≤ 1000000) : ∀ (k i : Nat), i + k = l.2.2.1.length → bitloftref31_Same_c1 (i : Int) l l = some true
  | 0, i, e => by
    have hl' : Int.ofNat l.2.2.1.length = (l.2.2.1.length : Int) := rfl
    rw [bitloftref31_Same_c1_eq, if_neg (by simp; omega)]
  | k + 1, i, e => by
    have hl' : Int.ofNat l.2.2.1.length = (l.2.2.1.length : Int) := rfl
    have ih := Same31_c1 l hb k (i + 1) (by omega)
    rw [show ((i + 1 : Nat) : Int) = (i : Int) + 1 by omega] at ih
    rw [bitloftref31_Same_c1_eq, if_pos (by simp; omega), gd_pos (by omega), gd_pos (by rw [hl']; omega), gd_pos (by omega), gd_pos (by rw [hl']; omega), peq_head, if_neg (by simp), w64 (by omega) (by omega), ih]
theorem Same31_refl (l : D_api_Listing) (h1 : l.2.1.length ≤ 1000) (h2 : l.2.2.1.length ≤ 1000000) : bitloftref31_Same l l = some true := by
  rw [bitloftref31_Same_eq, if_neg (by simp [peq]), rSame_refl _ h1]
  simp only [Option.bind_some]
  rw [if_neg (by simp), if_neg (by simp)]
  exact Same31_c1 l h2 _ 0 (Nat.zero_add _)
def zB : D_api_Block := (zH, ([], ()))
def blkAt (a : List Int) (i : Int) : D_api_Block × Int :=
  if (allB a).2.2 ≠ 0 then (zB, (allB a).2.2) else if i < 0 then (zB, 2) else if i ≥ ((allB a).2.1.length : Int) then (zB, 2) else ((allB a).2.1.getD i.toNat (pzero T_api_Block), 0)
theorem list_Block_spec (a : List Int) (hb : Bts a) (i : Int) : list_Block a i = some (blkAt a i) := by
  have hl' : Int.ofNat (allB a).2.1.length = ((allB a).2.1.length : Int) := rfl
  rw [list_Block_eq, list_all_spec a hb]
  simp only [Option.bind_some, blkAt]
  by_cases h : (allB a).2.2 = 0
  · rw [if_neg (by rw [h]; decide), if_neg (show ¬ (allB a).2.2 ≠ 0 from fun k => k h)]
    by_cases h1 : i < 0
    · rw [if_pos (by simpa using h1), if_pos h1]; rfl
    · rw [if_neg (by simpa using h1), if_neg h1, hl']
      by_cases h2 : i ≥ ((allB a).2.1.length : Int)
      · rw [if_pos (by simpa using h2), if_pos h2]; rfl
      · rw [if_neg (by simpa using h2), if_neg h2, gd_pos (by omega), gd_pos (by omega), Nat.zero_add]
  · rw [if_pos (bne_iff_ne.2 h), if_pos h]; rfl
theorem rBlock31_spec (a : List Int) (hb : Bts a) (i : Int) : bitloftref31_Block a i = some (blkAt a i) := by
  have hl' : Int.ofNat (allB a).2.1.length = ((allB a).2.1.length : Int) := rfl
  rw [bitloftref31_Block_eq, rBlocks_spec a hb]
  simp only [Option.bind_some, blkAt]
  by_cases h : (allB a).2.2 = 0
  · rw [if_neg (by rw [h]; decide), if_neg (show ¬ (allB a).2.2 ≠ 0 from fun k => k h)]
    by_cases h1 : i < 0
    · rw [if_pos (by simpa using h1), if_pos h1]; rfl
    · rw [if_neg (by simpa using h1), if_neg h1, hl']
      by_cases h2 : i ≥ ((allB a).2.1.length : Int)
      · rw [if_pos (by simpa using h2), if_pos h2]; rfl
      · rw [if_neg (by simpa using h2), if_neg h2, gd_pos (by omega), gd_pos (by omega), Nat.zero_add]
  · rw [if_pos (bne_iff_ne.2 h), if_pos h]; rfl
theorem hdP_small {a : List Int} (hb : Bts a) : (hdP a).2.1.length ≤ 16 := by
  by_cases h : (hdP a).2.2.2 = 0
  · obtain ⟨l, q, hO⟩ := hdP_ok hb h
    rw [hO.eq]; exact hO.recsV.len
  · unfold hdP at h ⊢
    split; · simp [hdE]
    split; · simp [hdE]
    split; · simp [hdE]
    split; · simp [hdE]
    split; · simp [hdE]
    split; · simp [hdE]
    rename_i h1 h2 h3 h4 h5 h6
    rw [if_neg h1, if_neg h2, if_neg h3, if_neg h4, if_neg h5, if_neg h6] at h
    simp at h
theorem bitloftlaw31_ListReads_true (x0 : pden (.slice (.int .u8))) (z0 : wfP (.slice (.int .u8)) x0) (x1 : pden (.int .i64)) (z1 : wfP (.int .i64) x1) : bitloftlaw31_ListReads x0 x1 = some true := by
  have hb : Bts x0 := Bts.of_wf z0.2
  have s1 := allB_small hb
  have s2 := hdP_small hb
  have hp : peq T_api_Settings (hdP x0).1 (hdP x0).1 = true := by simp [peq]
  rw [bitloftlaw31_ListReads_eq, ofStr_toStr hb, list_Head_spec x0 hb, rHead31_spec x0 hb, list_List_spec x0 hb, rList_spec x0 hb, list_Block_spec x0 hb, rBlock31_spec x0 hb]
  simp only [Option.bind_some, hp, if_true, rSame_refl _ (show (hdP x0).2.1.length ≤ 1000 by omega), beq_self_eq_true, Same31_refl _ (show (allB x0).1.2.1.length ≤ 1000 by omega) (by omega), Same_refl]
  split
  · split <;> rfl
  · rfl
end Go.Ab
