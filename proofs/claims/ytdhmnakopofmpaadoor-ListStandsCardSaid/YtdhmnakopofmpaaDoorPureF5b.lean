/-
  Plain laws of the printed functions.
-/
import Derived.Test.YtdhmnakopofmpaaDoorPureF5
set_option linter.unusedVariables false
set_option linter.unusedSimpArgs false
set_option maxHeartbeats 1000000
namespace Go.Ab
attribute [local irreducible] IntKind.wrap
/-! ### 5. All blocks -/
def zL : D_api_Listing := ((0, (0, ())), ([], ([], ())))
def blkL (a : List Int) (s : D_api_Settings) (rs : List D_api_Record) : List D_api_Piece → Nat → List D_api_BlockHead → List D_api_Block → D_api_Listing × List D_api_Block × Int
  | [], p, hs, bs => if p < a.length then (zL, ([], 12)) else ((s, (rs, (hs, ()))), (bs, 0))
  | x :: ps, p, hs, bs => if (rdB (a.drop p)).2.2 ≠ 0 then (zL, ([], (rdB (a.drop p)).2.2)) else if ¬ isP (rdB (a.drop p)).1.1 x then (zL, ([], 32))
    else blkL a s rs ps (p + (rdB (a.drop p)).2.1.toNat) (hs ++ [(rdB (a.drop p)).1.1]) (bs ++ [(rdB (a.drop p)).1])
def allB (a : List Int) : D_api_Listing × List D_api_Block × Int :=
  if (hdP a).2.2.2 ≠ 0 then (zL, ([], (hdP a).2.2.2)) else blkL a (hdP a).1 (hdP a).2.1 (ap (hdP a).1.2.1 0 (hdP a).2.1) (hdP a).2.2.1.toNat [] []
/-- A block that is read. -/
theorem rdB_ok {c : List Int} (h : (rdB c).2.2 = 0) : hOK (rdB c).1.1 ∧ (rdB c).2.1 = 41 + (rdB c).1.1.2.2.2.2.1 ∧ (rdB c).2.1 ≤ c.length ∧ 41 ≤ c.length ∧ c.length ≤ 50000 ∧ c.take 13 = mark ∧
    rdB c = ((pH ((c.drop 13).take 28), ((c.drop 41).take (pH ((c.drop 13).take 28)).2.2.2.2.1.toNat, ())), (41 + (pH ((c.drop 13).take 28)).2.2.2.2.1, 0)) := by
  unfold rdB at h ⊢
  by_cases h1 : c.length > 50000
  · rw [if_pos h1] at h; simp at h
  · rw [if_neg h1] at h ⊢
    by_cases h2 : c.length < 41
    · rw [if_pos h2] at h; simp at h
    · rw [if_neg h2] at h ⊢
      by_cases h3 : c.take 13 ≠ mark ∨ ¬ hOK (pH ((c.drop 13).take 28))
      · rw [if_pos h3] at h; simp at h
      · rw [if_neg h3] at h ⊢
        by_cases h4 : (c.length : Int) < 41 + (pH ((c.drop 13).take 28)).2.2.2.2.1
        · rw [if_pos h4] at h; simp at h
        · rw [if_neg h4]
          simp only [ne_eq, not_or, Decidable.not_not] at h3
          exact ⟨h3.2, rfl, by simp only; omega, by omega, by omega, h3.1, rfl⟩
structure HeadOK (a : List Int) (l : List D_api_Record) (q : Nat) : Prop where
  eq : hdP a = (sH a, (l, (28 + (q : Int), 0)))
  le : 28 + q ≤ a.length
  big : a.length ≤ 50000
  magic : a.take 4 = magic
  chk : chk (sH a) = 0
  seven : a.getD 7 0 ≤ 16
  nn : 0 ≤ a.getD 7 0
  read : ReadOK (a.drop 8) (a.getD 7 0).toNat l q
  sum : (a.drop (8 + q)).take 20 = shaB (a.take (8 + q))
  rd : rdRs (a.drop 8) (a.getD 7 0).toNat 0 [] = (l, ((q : Int), 0))
theorem hdP_ok {a : List Int} (hb : Bts a) (h : (hdP a).2.2.2 = 0) : ∃ l q, HeadOK a l q := by
  have b7 := hb.getD 7
  unfold hdP at h
  by_cases h1 : a.length > 50000
  · rw [if_pos h1] at h; simp [hdE] at h
  rw [if_neg h1] at h
  by_cases h2 : a.length < 8
  · rw [if_pos h2] at h; simp [hdE] at h
  rw [if_neg h2] at h
  by_cases h3 : a.take 4 ≠ magic ∨ chk (sH a) ≠ 0 ∨ a.getD 7 0 > 16
  · rw [if_pos h3] at h; simp [hdE] at h
  rw [if_neg h3] at h
  have h3' := h3
  simp only [ne_eq, not_or, Decidable.not_not] at h3'
  obtain ⟨m1, m2, m3⟩ := h3'
  by_cases hr : (rdM (a.drop 8) (a.getD 7 0)).2.2 = 0
  · obtain ⟨q, hq, hO⟩ := rdM_ok (hb.drop 8) (by simp; omega) ⟨b7.1, by omega⟩ hr
    have hle := hO.le
    rw [List.length_drop] at hle
    rw [if_neg (fun h => h hr)] at h
    by_cases h20 : (a.length : Int) - 8 - (rdM (a.drop 8) (a.getD 7 0)).2.1 < 20
    · rw [if_pos h20] at h; simp [hdE] at h
    rw [if_neg h20] at h
    have hqn : (rdM (a.drop 8) (a.getD 7 0)).2.1.toNat = q := by omega
    by_cases hs : (a.drop (8 + (rdM (a.drop 8) (a.getD 7 0)).2.1.toNat)).take 20 ≠ shaB (a.take (8 + (rdM (a.drop 8) (a.getD 7 0)).2.1.toNat))
    · rw [if_pos hs] at h; simp [hdE] at h
    refine ⟨_, q, ?_, by omega, by omega, m1, m2, by omega, b7.1, hO, ?_, ?_⟩
    · unfold hdP
      rw [if_neg h1, if_neg h2, if_neg h3, if_neg (fun h => h hr), if_neg h20, if_neg hs, hq]
    · rw [hqn] at hs; simpa using hs
    · have e : rdM (a.drop 8) (a.getD 7 0) = rdRs (a.drop 8) (a.getD 7 0).toNat 0 [] := by unfold rdM; rw [if_neg (by omega), if_neg (by simp; omega)]
      rw [← e, ← hq]
      exact Prod.ext rfl (Prod.ext rfl hr)
  · rw [if_pos hr] at h; exact absurd h hr
theorem HeadOK.recsV {a l q} (h : HeadOK a l q) : RecsV l := valid_zero h.read.val
theorem HeadOK.blk {a l q} (h : HeadOK a l q) : 16 ≤ (sH a).2.1 ∧ (sH a).2.1 ≤ 4096 := chk_zero' h.chk
theorem all_c1 (a : List Int) (hb : Bts a) (hl : a.length ≤ 50000) (s t : D_api_Settings) (rs x1 : List D_api_Record) (x2 : List D_api_BlockHead) (ps : List D_api_Piece) (hps : ps.length ≤ 100000) : ∀ (k i p : Nat) (hs : List D_api_BlockHead) (bs : List D_api_Block), i + k = ps.length → p ≤ a.length → hs.length = i → bs.length = i →
    list_all_c1 a (p : Int) (ps.length : Int) (i : Int) t () s () bs ps x1 x2 rs hs = some (blkL a s rs (ps.drop i) p hs bs)
  | 0, i, p, hs, bs, e, hp, h1, h2 => by
    have hl' : Int.ofNat a.length = (a.length : Int) := rfl
    rw [list_all_c1_eq, if_neg (by simp; omega), List.drop_eq_nil_of_le (by omega), blkL, hl']
    by_cases h : p < a.length
    · rw [if_pos (by simp; omega), if_pos h]; rfl
    · rw [if_neg (by simp; omega), if_neg h]
  | k + 1, i, p, hs, bs, e, hp, h1, h2 => by
    have hl' : Int.ofNat a.length = (a.length : Int) := rfl
    have hl2 : Int.ofNat ps.length = (ps.length : Int) := rfl
    obtain ⟨d1, d2, d3⟩ := dropR_at (pzero T_api_Piece : D_api_Piece) (xs := ps) (i := i) (by omega)
    rw [list_all_c1_eq, if_pos (by simp; omega), gd_pos (by omega), gd_pos (by omega), gd_pos (by omega), gd_pos (by omega), Int.toNat_natCast, Int.toNat_natCast, block_Read_spec _ (hb.drop p), Nat.zero_add]
    simp only [Option.bind_some]
    rw [d1, blkL]
    generalize ps.getD i (pzero T_api_Piece) = pc
    by_cases hr : (rdB (a.drop p)).2.2 = 0
    · have hk := rdB_ok hr
      have hlen := hOK_len hk.1
      have hle := hk.2.2.1
      rw [List.length_drop] at hle
      rw [if_neg (by rw [hr]; decide), if_neg (fun h => h hr), list_is_spec]
      simp only [Option.bind_some]
      by_cases hi : isP (rdB (a.drop p)).1.1 pc
      · rw [if_neg (by rw [decide_eq_true hi]; decide), if_neg (fun h => h hi), gd_pos (by simp; omega), gd_pos (by simp; omega), w64 (by omega) (by omega), w64 (by omega) (by omega)]
        have ih := all_c1 a hb hl s t rs x1 x2 ps hps k (i + 1) (p + (rdB (a.drop p)).2.1.toNat) (hs ++ [(rdB (a.drop p)).1.1]) (bs ++ [(rdB (a.drop p)).1]) (by omega) (by omega) (by simp; omega) (by simp; omega)
        rw [show ((i + 1 : Nat) : Int) = (i : Int) + 1 by omega, show ((p + (rdB (a.drop p)).2.1.toNat : Nat) : Int) = (p : Int) + (rdB (a.drop p)).2.1 by omega] at ih
        exact ih
      · rw [if_pos (by rw [decide_eq_false hi]; rfl), if_pos hi]; rfl
    · rw [if_pos (bne_iff_ne.2 hr), if_pos hr]; rfl
theorem list_all_spec (a : List Int) (hb : Bts a) : list_all a = some (allB a) := by
  rw [list_all_eq, list_Head_spec a hb]
  simp only [Option.bind_some, allB]
  by_cases h : (hdP a).2.2.2 = 0
  · obtain ⟨l, q, hO⟩ := hdP_ok hb h
    rw [if_neg (by rw [h]; decide), if_neg (fun k => k h), hO.eq]
    simp only
    have hle := hO.le
    have hsm := ap_small (sH a).2.1 hO.blk.1 l hO.recsV
    rw [list_pieces_spec _ _ hO.blk hO.recsV]
    simp only [Option.bind_some]
    have := all_c1 a hb hO.big (sH a) (0, (0, ())) l [] [] (ap (sH a).2.1 0 l) (by omega) _ 0 (28 + q) [] [] (Nat.zero_add _) (by omega) rfl rfl
    rw [show ((28 + (q : Int))).toNat = 28 + q by omega]
    exact this
  · rw [if_pos (bne_iff_ne.2 h), if_pos h]; rfl
theorem rall_c1 (a : List Int) (hb : Bts a) (hl : a.length ≤ 50000) (s t : D_api_Settings) (rs x1 : List D_api_Record) (x2 : List D_api_BlockHead) (ps : List D_api_Piece) (hps : ps.length ≤ 100000) : ∀ (k i p : Nat) (hs : List D_api_BlockHead) (bs : List D_api_Block), i + k = ps.length → p ≤ a.length → hs.length = i → bs.length = i →
    bitloftref31_Blocks_c1 a (p : Int) (i : Int) t () s () bs ps x1 x2 rs hs = some (blkL a s rs (ps.drop i) p hs bs)
  | 0, i, p, hs, bs, e, hp, h1, h2 => by
    have hl' : Int.ofNat a.length = (a.length : Int) := rfl
    have hl2 : Int.ofNat ps.length = (ps.length : Int) := rfl
    rw [bitloftref31_Blocks_c1_eq, if_neg (by simp; omega), List.drop_eq_nil_of_le (by omega), blkL, hl']
    by_cases h : p < a.length
    · rw [if_pos (by simp; omega), if_pos h]; rfl
    · rw [if_neg (by simp; omega), if_neg h]
  | k + 1, i, p, hs, bs, e, hp, h1, h2 => by
    have hl' : Int.ofNat a.length = (a.length : Int) := rfl
    have hl2 : Int.ofNat ps.length = (ps.length : Int) := rfl
    obtain ⟨d1, d2, d3⟩ := dropR_at (pzero T_api_Piece : D_api_Piece) (xs := ps) (i := i) (by omega)
    rw [bitloftref31_Blocks_c1_eq, if_pos (by simp; omega), gd_pos (by omega), gd_pos (by omega), Int.toNat_natCast, Int.toNat_natCast, ref27_Read_spec _ (hb.drop p), Nat.zero_add]
    simp only [Option.bind_some]
    rw [d1, blkL]
    generalize ps.getD i (pzero T_api_Piece) = pc
    by_cases hr : (rdB (a.drop p)).2.2 = 0
    · have hk := rdB_ok hr
      have hlen := hOK_len hk.1
      have hle := hk.2.2.1
      rw [List.length_drop] at hle
      rw [if_neg (by rw [hr]; decide), if_neg (fun h => h hr), gd_pos (by omega), gd_pos (by omega), ref31_Is_spec]
      simp only [Option.bind_some]
      by_cases hi : isP (rdB (a.drop p)).1.1 pc
      · rw [if_neg (by rw [decide_eq_true hi]; decide), if_neg (fun h => h hi), gd_pos (by simp; omega), gd_pos (by simp; omega), w64 (by omega) (by omega), w64 (by omega) (by omega)]
        have ih := rall_c1 a hb hl s t rs x1 x2 ps hps k (i + 1) (p + (rdB (a.drop p)).2.1.toNat) (hs ++ [(rdB (a.drop p)).1.1]) (bs ++ [(rdB (a.drop p)).1]) (by omega) (by omega) (by simp; omega) (by simp; omega)
        rw [show ((i + 1 : Nat) : Int) = (i : Int) + 1 by omega, show ((p + (rdB (a.drop p)).2.1.toNat : Nat) : Int) = (p : Int) + (rdB (a.drop p)).2.1 by omega] at ih
        exact ih
      · rw [if_pos (by rw [decide_eq_false hi]; rfl), if_pos hi]; rfl
    · rw [if_pos (bne_iff_ne.2 hr), if_pos hr]; rfl
theorem rBlocks_spec (a : List Int) (hb : Bts a) : bitloftref31_Blocks a = some (allB a) := by
  rw [bitloftref31_Blocks_eq, rHead31_spec a hb]
  simp only [Option.bind_some, allB]
  by_cases h : (hdP a).2.2.2 = 0
  · obtain ⟨l, q, hO⟩ := hdP_ok hb h
    rw [if_neg (by rw [h]; decide), if_neg (fun k => k h), hO.eq]
    simp only
    have hle := hO.le
    have hsm := ap_small (sH a).2.1 hO.blk.1 l hO.recsV
    rw [rPieces_spec _ _ hO.blk hO.recsV]
    simp only [Option.bind_some]
    have := rall_c1 a hb hO.big (sH a) (0, (0, ())) l [] [] (ap (sH a).2.1 0 l) (by omega) _ 0 (28 + q) [] [] (Nat.zero_add _) (by omega) rfl rfl
    rw [show ((28 + (q : Int))).toNat = 28 + q by omega]
    exact this
  · rw [if_pos (bne_iff_ne.2 h), if_pos h]; rfl
theorem list_List_spec (a : List Int) (hb : Bts a) : list_List a = some ((allB a).1, (allB a).2.2) := by rw [list_List_eq, list_all_spec a hb]; rfl
theorem rList_spec (a : List Int) (hb : Bts a) : bitloftref31_List a = some ((allB a).1, (allB a).2.2) := by rw [bitloftref31_List_eq, rBlocks_spec a hb]; rfl
/-! ### 6. What stands there -/
/-- Blocks one behind the other. -/
def Std (a : List Int) (e : Nat) : Nat → List D_api_BlockHead → List D_api_Block → Prop
  | p, h :: hs, x :: bs => rdB (a.drop p) = (x, (41 + h.2.2.2.2.1, 0)) ∧ x.1 = h ∧ hOK h ∧ p ≤ a.length ∧ Std a e (p + (41 + h.2.2.2.2.1).toNat) hs bs
  | p, [], [] => p = e
  | _, _, _ => False
theorem blkL_ok (a : List Int) (s : D_api_Settings) (rs : List D_api_Record) : ∀ (ps : List D_api_Piece) (p : Nat) (hs : List D_api_BlockHead) (bs : List D_api_Block), p ≤ a.length → (blkL a s rs ps p hs bs).2.2 = 0 →
    ∃ hs' bs', blkL a s rs ps p hs bs = ((s, (rs, (hs ++ hs', ()))), (bs ++ bs', 0)) ∧ Std a a.length p hs' bs' ∧ hs'.length = ps.length ∧ bs'.length = ps.length ∧ ckL hs' ps = 0
  | [], p, hs, bs, hp, h => by
    simp only [blkL] at h ⊢
    by_cases hlt : p < a.length
    · rw [if_pos hlt] at h; simp at h
    · rw [if_neg hlt]
      exact ⟨[], [], by simp, by unfold Std; omega, rfl, rfl, rfl⟩
  | x :: ps, p, hs, bs, hp, h => by
    simp only [blkL] at h ⊢
    by_cases hr : (rdB (a.drop p)).2.2 = 0
    · have hk := rdB_ok hr
      have hlen := hOK_len hk.1
      have hle := hk.2.2.1
      rw [List.length_drop] at hle
      rw [if_neg (fun k => k hr)] at h ⊢
      by_cases hi : isP (rdB (a.drop p)).1.1 x
      · rw [if_neg (fun k => k hi)] at h ⊢
        obtain ⟨hs', bs', e1, e2, e3, e4, e5⟩ := blkL_ok a s rs ps _ _ _ (by omega) h
        refine ⟨(rdB (a.drop p)).1.1 :: hs', (rdB (a.drop p)).1 :: bs', by rw [e1]; simp, ?_, by simp [e3], by simp [e4], ?_⟩
        · refine ⟨Prod.ext rfl (Prod.ext hk.2.1 hr), rfl, hk.1, hp, ?_⟩
          rw [← hk.2.1]; exact e2
        · simp only [ckL]; rw [if_pos ⟨hk.1, hi⟩]; exact e5
      · rw [if_pos hi] at h; simp at h
    · rw [if_pos hr] at h; exact absurd h hr
structure AllOK (a : List Int) (rs : List D_api_Record) (q : Nat) (hs : List D_api_BlockHead) (bs : List D_api_Block) : Prop where
  head : HeadOK a rs q
  eq : allB a = ((sH a, (rs, (hs, ()))), (bs, 0))
  std : Std a a.length (28 + q) hs bs
  hlen : hs.length = (ap (sH a).2.1 0 rs).length
  blen : bs.length = (ap (sH a).2.1 0 rs).length
  ck : ckL hs (ap (sH a).2.1 0 rs) = 0
theorem allB_ok {a : List Int} (hb : Bts a) (h : (allB a).2.2 = 0) : ∃ rs q hs bs, AllOK a rs q hs bs := by
  unfold allB at h
  by_cases hh : (hdP a).2.2.2 = 0
  · obtain ⟨l, q, hO⟩ := hdP_ok hb hh
    rw [if_neg (fun k => k hh), hO.eq] at h
    simp only at h
    rw [show ((28 + (q : Int))).toNat = 28 + q by omega] at h
    obtain ⟨hs, bs, e1, e2, e3, e4, e5⟩ := blkL_ok a _ _ _ _ _ _ hO.le h
    refine ⟨l, q, hs, bs, hO, ?_, e2, e3, e4, e5⟩
    unfold allB
    rw [if_neg (fun k => k hh), hO.eq]
    simp only
    rw [show ((28 + (q : Int))).toNat = 28 + q by omega, e1]
    simp
  · rw [if_pos hh] at h; exact absurd h hh
theorem blkL_zL (a : List Int) (s : D_api_Settings) (rs : List D_api_Record) : ∀ (ps : List D_api_Piece) (p : Nat) (hs : List D_api_BlockHead) (bs : List D_api_Block), (blkL a s rs ps p hs bs).2.2 ≠ 0 → (blkL a s rs ps p hs bs).1 = zL ∧ (blkL a s rs ps p hs bs).2.1 = []
  | [], p, hs, bs, h => by
    simp only [blkL] at h ⊢
    by_cases hlt : p < a.length
    · rw [if_pos hlt]; exact ⟨rfl, rfl⟩
    · rw [if_neg hlt] at h; simp at h
  | x :: ps, p, hs, bs, h => by
    simp only [blkL] at h ⊢
    by_cases hr : (rdB (a.drop p)).2.2 = 0
    · rw [if_neg (fun k => k hr)] at h ⊢
      by_cases hi : isP (rdB (a.drop p)).1.1 x
      · rw [if_neg (fun k => k hi)] at h ⊢
        exact blkL_zL a s rs ps _ _ _ h
      · rw [if_pos hi]; exact ⟨rfl, rfl⟩
    · rw [if_pos hr]; exact ⟨rfl, rfl⟩
theorem allB_zL {a : List Int} (h : (allB a).2.2 ≠ 0) : (allB a).1 = zL ∧ (allB a).2.1 = [] := by
  unfold allB at h ⊢
  by_cases hh : (hdP a).2.2.2 = 0
  · rw [if_neg (fun k => k hh)] at h ⊢
    exact blkL_zL _ _ _ _ _ _ _ h
  · rw [if_pos hh]; exact ⟨rfl, rfl⟩
theorem allB_small {a : List Int} (hb : Bts a) : (allB a).1.2.1.length ≤ 16 ∧ (allB a).1.2.2.1.length ≤ 100000 ∧ (allB a).2.1.length ≤ 100000 := by
  by_cases h : (allB a).2.2 = 0
  · obtain ⟨rs, q, hs, bs, hO⟩ := allB_ok hb h
    have hsm := ap_small (sH a).2.1 hO.head.blk.1 rs hO.head.recsV
    have h1 := hO.hlen
    have h2 := hO.blen
    rw [hO.eq]
    exact ⟨hO.head.recsV.len, by simp only; omega, by simp only; omega⟩
  · obtain ⟨h1, h2⟩ := allB_zL h
    rw [h1, h2]; exact ⟨by decide, by decide, by decide⟩
/-! ### 7. The same is the same -/
theorem peq_head (r : D_api_BlockHead) : peq T_api_BlockHead r r = true := by
  simp only [peq, decide_true, Bool.true_and, Bool.and_true]
  exact peqL_refl _ (fun x => by simp [peq]) _
theorem Same31_c1 (l : D_api_Listing) (hb : l.2.2.1.length ≤ 1000000) : ∀ (k i : Nat), i + k = l.2.2.1.length → bitloftref31_Same_c1 (i : Int) l l = some true
  | 0, i, e => by
    have hl' : Int.ofNat l.2.2.1.length = (l.2.2.1.length : Int) := rfl
    rw [bitloftref31_Same_c1_eq, if_neg (by simp; omega)]
  | k + 1, i, e => by
    have hl' : Int.ofNat l.2.2.1.length = (l.2.2.1.length : Int) := rfl
    have ih := Same31_c1 l hb k (i + 1) (by omega)
    rw [show ((i + 1 : Nat) : Int) = (i : Int) + 1 by omega] at ih
    rw [bitloftref31_Same_c1_eq, if_pos (by simp; omega), gd_pos (by omega), gd_pos (by rw [hl']; omega), gd_pos (by omega), gd_pos (by rw [hl']; omega), peq_head, if_neg (by simp), w64 (by omega) (by omega), ih]
theorem Same31_refl (l : D_api_Listing) (h1 : l.2.1.length ≤ 1000) (h2 : l.2.2.1.length ≤ 1000000) : bitloftref31_Same l l = some true := by
  rw [bitloftref31_Same_eq, if_neg (by simp [peq]), rSame_refl _ h1]
  simp only [Option.bind_some]
  rw [if_neg (by simp), if_neg (by simp)]
  exact Same31_c1 l h2 _ 0 (Nat.zero_add _)
def zB : D_api_Block := (zH, ([], ()))
def blkAt (a : List Int) (i : Int) : D_api_Block × Int :=
  if (allB a).2.2 ≠ 0 then (zB, (allB a).2.2) else if i < 0 then (zB, 2) else if i ≥ ((allB a).2.1.length : Int) then (zB, 2) else ((allB a).2.1.getD i.toNat (pzero T_api_Block), 0)
theorem list_Block_spec (a : List Int) (hb : Bts a) (i : Int) : list_Block a i = some (blkAt a i) := by
  have hl' : Int.ofNat (allB a).2.1.length = ((allB a).2.1.length : Int) := rfl
  rw [list_Block_eq, list_all_spec a hb]
  simp only [Option.bind_some, blkAt]
  by_cases h : (allB a).2.2 = 0
  · rw [if_neg (by rw [h]; decide), if_neg (show ¬ (allB a).2.2 ≠ 0 from fun k => k h)]
    by_cases h1 : i < 0
    · rw [if_pos (by simpa using h1), if_pos h1]; rfl
    · rw [if_neg (by simpa using h1), if_neg h1, hl']
      by_cases h2 : i ≥ ((allB a).2.1.length : Int)
      · rw [if_pos (by simpa using h2), if_pos h2]; rfl
      · rw [if_neg (by simpa using h2), if_neg h2, gd_pos (by omega), gd_pos (by omega), Nat.zero_add]
  · rw [if_pos (bne_iff_ne.2 h), if_pos h]; rfl
theorem rBlock31_spec (a : List Int) (hb : Bts a) (i : Int) : bitloftref31_Block a i = some (blkAt a i) := by
  have hl' : Int.ofNat (allB a).2.1.length = ((allB a).2.1.length : Int) := rfl
  rw [bitloftref31_Block_eq, rBlocks_spec a hb]
  simp only [Option.bind_some, blkAt]
  by_cases h : (allB a).2.2 = 0
  · rw [if_neg (by rw [h]; decide), if_neg (show ¬ (allB a).2.2 ≠ 0 from fun k => k h)]
    by_cases h1 : i < 0
    · rw [if_pos (by simpa using h1), if_pos h1]; rfl
    · rw [if_neg (by simpa using h1), if_neg h1, hl']
      by_cases h2 : i ≥ ((allB a).2.1.length : Int)
      · rw [if_pos (by simpa using h2), if_pos h2]; rfl
      · rw [if_neg (by simpa using h2), if_neg h2, gd_pos (by omega), gd_pos (by omega), Nat.zero_add]
  · rw [if_pos (bne_iff_ne.2 h), if_pos h]; rfl
theorem hdP_small {a : List Int} (hb : Bts a) : (hdP a).2.1.length ≤ 16 := by
  by_cases h : (hdP a).2.2.2 = 0
  · obtain ⟨l, q, hO⟩ := hdP_ok hb h
    rw [hO.eq]; exact hO.recsV.len
  · unfold hdP at h ⊢
    split; · simp [hdE]
    split; · simp [hdE]
    split; · simp [hdE]
    split; · simp [hdE]
    split; · simp [hdE]
    split; · simp [hdE]
    rename_i h1 h2 h3 h4 h5 h6
    rw [if_neg h1, if_neg h2, if_neg h3, if_neg h4, if_neg h5, if_neg h6] at h
    simp at h
theorem bitloftlaw31_ListReads_true (x0 : pden (.slice (.int .u8))) (z0 : wfP (.slice (.int .u8)) x0) (x1 : pden (.int .i64)) (z1 : wfP (.int .i64) x1) : bitloftlaw31_ListReads x0 x1 = some true := by
  have hb : Bts x0 := Bts.of_wf z0.2
  have s1 := allB_small hb
  have s2 := hdP_small hb
  have hp : peq T_api_Settings (hdP x0).1 (hdP x0).1 = true := by simp [peq]
  rw [bitloftlaw31_ListReads_eq, ofStr_toStr hb, list_Head_spec x0 hb, rHead31_spec x0 hb, list_List_spec x0 hb, rList_spec x0 hb, list_Block_spec x0 hb, rBlock31_spec x0 hb]
  simp only [Option.bind_some, hp, if_true, rSame_refl _ (show (hdP x0).2.1.length ≤ 1000 by omega), beq_self_eq_true, Same31_refl _ (show (allB x0).1.2.1.length ≤ 1000 by omega) (by omega), Same_refl]
  split
  · split <;> rfl
  · rfl
end Go.Ab

set_option linter.unusedVariables false
set_option linter.unusedSimpArgs false
set_option maxHeartbeats 1000000
namespace Go.Ab
attribute [local irreducible] IntKind.wrap
/-! ### 8. Bytes behind others -/
theorem getD_app {a m : List Int} {i : Nat} (h : i < a.length) : (a ++ m).getD i 0 = a.getD i 0 := by
  simp only [List.getD_eq_getElem?_getD, List.getElem?_append_left h]
theorem td_app {a m : List Int} {p n : Nat} (h : p + n ≤ a.length) : ((a ++ m).drop p).take n = (a.drop p).take n := by
  rw [List.drop_append_of_le_length (by omega), List.take_append_of_le_length (by simp; omega)]
theorem rF_app {a m : List Int} {p : Nat} (h : rF a p) : rF (a ++ m) p ∧ rK (a ++ m) p = rK a p ∧ rR (a ++ m) p = rR a p := by
  obtain ⟨h1, h2⟩ := h
  have hk : rK (a ++ m) p = rK a p := by unfold rK; rw [getD_app h1]
  refine ⟨⟨by simp; omega, by rw [hk]; simp; omega⟩, hk, ?_⟩
  unfold rR
  rw [hk, td_app (by omega), td_app (by omega), getD_app (by omega), getD_app (by omega)]
theorem rdRs_app {a m : List Int} : ∀ (n p : Nat) (acc l : List D_api_Record) (q : Int), rdRs a n p acc = (l, (q, 0)) → rdRs (a ++ m) n p acc = (l, (q, 0))
  | 0, p, acc, l, q, h => h
  | n + 1, p, acc, l, q, h => by
    simp only [rdRs] at h ⊢
    by_cases hf : rF a p
    · obtain ⟨f1, f2, f3⟩ := rF_app (m := m) hf
      rw [if_pos hf] at h
      rw [if_pos f1, f2, f3]
      exact rdRs_app n _ _ l q h
    · rw [if_neg hf] at h; simp at h
theorem hdP_app {a m : List Int} (hm : (a ++ m).length ≤ 50000) {l : List D_api_Record} {q : Nat} (h : HeadOK a l q) : hdP (a ++ m) = (sH a, (l, (28 + (q : Int), 0))) := by
  have hle := h.le
  have hs : sH (a ++ m) = sH a := by unfold sH; rw [getD_app (by omega), getD_app (by omega), getD_app (by omega)]
  have h7 : (a ++ m).getD 7 0 = a.getD 7 0 := getD_app (by omega)
  have h4 : (a ++ m).take 4 = magic := by rw [List.take_append_of_le_length (by omega)]; exact h.magic
  have h8 : (a ++ m).drop 8 = a.drop 8 ++ m := List.drop_append_of_le_length (by omega)
  have hln : (a ++ m).length = a.length + m.length := List.length_append
  have hN := h.seven
  have hnn : ¬ (a.getD 7 0 < 0 ∨ a.getD 7 0 > 16) := by have := h.nn; omega
  have hr : rdM ((a ++ m).drop 8) ((a ++ m).getD 7 0) = (l, ((q : Int), 0)) := by
    unfold rdM
    rw [h7, if_neg hnn, h8, if_neg (by simp; omega)]
    exact rdRs_app _ _ _ _ _ h.rd
  unfold hdP
  rw [if_neg (by omega), if_neg (by omega), hs, h7, if_neg (show ¬ ((a ++ m).take 4 ≠ magic ∨ chk (sH a) ≠ 0 ∨ a.getD 7 0 > 16) from fun k => by rcases k with k | k | k; exact k h4; exact k h.chk; omega), ← h7, hr]
  simp only
  rw [if_neg (by simp), if_neg (by omega), Int.toNat_natCast, td_app (by omega), List.take_append_of_le_length (by omega), if_neg (by rw [h.sum]; simp)]
theorem rdB_app {c m : List Int} (hm : (c ++ m).length ≤ 50000) (h : (rdB c).2.2 = 0) : rdB (c ++ m) = rdB c := by
  obtain ⟨k1, k2, k3, k4, k5, k6, k7⟩ := rdB_ok h
  have e1 : ((c ++ m).drop 13).take 28 = (c.drop 13).take 28 := td_app (by omega)
  have e2 : (c ++ m).take 13 = mark := by rw [List.take_append_of_le_length (by omega)]; exact k6
  have hln : (c ++ m).length = c.length + m.length := List.length_append
  rw [k7] at k1 k2 k3
  simp only at k1 k2 k3
  have hlen := hOK_len k1
  rw [k7]
  unfold rdB
  rw [if_neg (by omega), if_neg (by omega), e1, e2, if_neg (show ¬ (mark ≠ mark ∨ ¬ hOK (pH ((c.drop 13).take 28))) from fun k => by rcases k with k | k; exact k rfl; exact k k1), if_neg (by omega), td_app (by omega)]
theorem blkL_app {a m : List Int} (hm : (a ++ m).length ≤ 50000) (hne : m ≠ []) (s : D_api_Settings) (rs : List D_api_Record) : ∀ (ps : List D_api_Piece) (p : Nat) (hs : List D_api_BlockHead) (bs : List D_api_Block), p ≤ a.length → (blkL a s rs ps p hs bs).2.2 = 0 →
    (blkL (a ++ m) s rs ps p hs bs).2.2 = 12
  | [], p, hs, bs, hp, h => by
    have : 0 < m.length := List.length_pos_iff.2 hne
    simp only [blkL]
    rw [if_pos (by simp; omega)]
  | x :: ps, p, hs, bs, hp, h => by
    simp only [blkL] at h ⊢
    have hdr : (a ++ m).drop p = a.drop p ++ m := List.drop_append_of_le_length hp
    by_cases hr : (rdB (a.drop p)).2.2 = 0
    · have hk := rdB_ok hr
      have hlen := hOK_len hk.1
      have hle := hk.2.2.1
      rw [List.length_drop] at hle
      have hB : rdB ((a ++ m).drop p) = rdB (a.drop p) := by rw [hdr]; exact rdB_app (by rw [List.length_append] at hm ⊢; simp; omega) hr
      rw [hB]
      rw [if_neg (fun k => k hr)] at h ⊢
      by_cases hi : isP (rdB (a.drop p)).1.1 x
      · rw [if_neg (fun k => k hi)] at h ⊢
        exact blkL_app hm hne s rs ps _ _ _ (by omega) h
      · rw [if_pos hi] at h; simp at h
    · rw [if_pos hr] at h; exact absurd h hr
theorem allB_app {a m : List Int} (hb : Bts a) (hm : (a ++ m).length ≤ 50000) (hne : m ≠ []) (h : (allB a).2.2 = 0) : (allB (a ++ m)).2.2 = 12 := by
  have h0 := h
  unfold allB at h
  by_cases hh : (hdP a).2.2.2 = 0
  · obtain ⟨l, q, hO⟩ := hdP_ok hb hh
    rw [if_neg (fun k => k hh), hO.eq] at h
    simp only at h
    rw [show ((28 + (q : Int))).toNat = 28 + q by omega] at h
    unfold allB
    rw [hdP_app hm hO]
    simp only
    rw [if_neg (by simp), show ((28 + (q : Int))).toNat = 28 + q by omega]
    exact blkL_app hm hne _ _ _ _ _ _ hO.le h
  · rw [if_pos hh] at h; exact absurd h hh
end Go.Ab

set_option linter.unusedVariables false
set_option linter.unusedSimpArgs false
set_option maxHeartbeats 1000000
namespace Go.Ab
attribute [local irreducible] IntKind.wrap
/-! ### 9. The chapter's examples -/
def s2 : D_api_Settings := (2, (16, ()))
def frt (x : Int) : List Int := [66, 76, 70, 1, x, 0, 16, 0]
theorem bodyB_s2 : bodyB s2 [] = frt 2 := by decide +kernel
theorem head_any (x : Int) (hx : 0 ≤ x ∧ x ≤ 7) (d m : List Int) (hd : d.length = 20) (hm : m.length ≤ 100) : hdP (frt x ++ (d ++ m)) = if d = shaB (frt x) then ((x, (16, ())), ([], (28, 0))) else hdE 22 := by
  have hl : (frt x ++ (d ++ m)).length = 28 + m.length := by simp [frt, hd]; omega
  have hs : sH (frt x ++ (d ++ m)) = (x, (16, ())) := rfl
  have h7 : (frt x ++ (d ++ m)).getD 7 0 = 0 := rfl
  have h4 : (frt x ++ (d ++ m)).take 4 = magic := rfl
  have h8 : (frt x ++ (d ++ m)).drop 8 = d ++ m := rfl
  have ht : (frt x ++ (d ++ m)).take 8 = frt x := rfl
  have hc : chk ((x, (16, ())) : D_api_Settings) = 0 := by unfold chk; rw [if_pos]; exact ⟨hx.1, hx.2, by simp, by simp⟩
  have hr : rdM (d ++ m) 0 = ([], (0, 0)) := by
    unfold rdM
    rw [if_neg (by omega), if_neg (by simp [hd]; omega)]
    rfl
  unfold hdP
  rw [if_neg (by omega), if_neg (by omega), hs, h7, h8, hr, if_neg (show ¬ ((frt x ++ (d ++ m)).take 4 ≠ magic ∨ chk ((x, (16, ())) : D_api_Settings) ≠ 0 ∨ (0 : Int) > 16) from fun k => by rcases k with k | k | k; exact k h4; exact k hc; omega)]
  simp only
  rw [if_neg (by simp), if_neg (by omega), show 8 + (0 : Int).toNat = 8 from rfl, h8, ht, List.take_append_of_le_length (by omega), List.take_of_length_le (by omega)]
  by_cases h : d = shaB (frt x)
  · rw [if_neg (by simp [h]), if_pos h]; rfl
  · rw [if_pos h, if_neg h]
theorem head_short (x : Int) (hx : 0 ≤ x ∧ x ≤ 7) (d : List Int) (hd : d.length = 19) : hdP (frt x ++ d) = hdE 18 := by
  have hl : (frt x ++ d).length = 27 := by simp [frt, hd]
  have hs : sH (frt x ++ d) = (x, (16, ())) := rfl
  have h7 : (frt x ++ d).getD 7 0 = 0 := rfl
  have h4 : (frt x ++ d).take 4 = magic := rfl
  have h8 : (frt x ++ d).drop 8 = d := rfl
  have hc : chk ((x, (16, ())) : D_api_Settings) = 0 := by unfold chk; rw [if_pos]; exact ⟨hx.1, hx.2, by simp, by simp⟩
  have hr : rdM d 0 = ([], (0, 0)) := by
    unfold rdM
    rw [if_neg (by omega), if_neg (by simp [hd])]
    rfl
  unfold hdP
  rw [if_neg (by omega), if_neg (by omega), hs, h7, h8, hr, if_neg (show ¬ ((frt x ++ d).take 4 ≠ magic ∨ chk ((x, (16, ())) : D_api_Settings) ≠ 0 ∨ (0 : Int) > 16) from fun k => by rcases k with k | k | k; exact k h4; exact k hc; omega)]
  simp only
  rw [if_neg (by simp), if_pos (by omega)]
theorem sha_23 : ¬ shaB (frt 2) = shaB (frt 3) := by decide +kernel
theorem frt_bts (x : Int) (hx : 0 ≤ x ∧ x ≤ 7) : Bts (frt x) := by intro y hy; simp [frt] at hy; omega
theorem allB_none {a : List Int} {s : D_api_Settings} (h : hdP a = (s, ([], (28, 0)))) : allB a = if 28 < a.length then (zL, ([], 12)) else ((s, ([], ([], ()))), ([], 0)) := by
  unfold allB
  rw [h]
  rfl
theorem allB_err {a : List Int} {e : Int} (h : hdP a = hdE e) (he : e ≠ 0) : (allB a).2.2 = e := by
  unfold allB
  rw [h, if_pos (show (hdE e).2.2.2 ≠ 0 from he)]; rfl
theorem alive31 : bitloftlaw31_alive = some true := by
  have hR : RecsV [] := ⟨by simp, fun r hr => (by cases hr), by decide⟩
  have e0 : bitloftref30_Bytes ((2 : Int), ((16 : Int), ())) [] = some (frt 2 ++ (shaB (frt 2) ++ [])) := by
    have := rBytes_spec s2 [] hR SumsOK.nil
    rw [List.append_nil]
    refine Eq.trans this ?_
    unfold headB
    rw [bodyB_s2]
  have hsl := shaB_len (frt 2)
  have b0 := frt_bts 2 (by omega)
  have h0 := head_any 2 (by omega) (shaB (frt 2)) [] hsl (by simp)
  have h1 := head_any 2 (by omega) (shaB (frt 2)) [0] hsl (by simp)
  have h3 := head_any 3 (by omega) (shaB (frt 2)) [] hsl (by simp)
  rw [if_pos rfl] at h0 h1
  rw [if_neg sha_23] at h3
  have fl : (frt 2).length = 8 := rfl
  have l0 : (frt 2 ++ (shaB (frt 2) ++ [])).length = 28 := by simp only [List.length_append, fl, hsl, List.length_nil]
  have a0 := allB_none h0
  rw [l0, if_neg (by omega)] at a0
  have a1 := allB_none h1
  rw [if_pos (by simp only [List.length_append, fl, hsl, List.length_cons, List.length_nil]; omega)] at a1
  have a3 := allB_err h3 (by omega)
  have et : List.take 27 (List.drop 0 (frt 2 ++ (shaB (frt 2) ++ []))) = frt 2 ++ (shaB (frt 2)).take 19 := by
    rw [List.drop_zero, List.append_nil, show (27 : Nat) = 8 + 19 from rfl, take_add']; rfl
  have a2 := allB_err (head_short 2 (by omega) ((shaB (frt 2)).take 19) (by simp [hsl])) (by omega)
  have es : List.set ([] ++ (frt 2 ++ (shaB (frt 2) ++ []))) 4 (3 : Int) = frt 3 ++ (shaB (frt 2) ++ []) := rfl
  have ea : ([] ++ (frt 2 ++ (shaB (frt 2) ++ []))) ++ [(0 : Int)] = frt 2 ++ (shaB (frt 2) ++ [0]) := by simp
  have hB : Bts (frt 2 ++ (shaB (frt 2) ++ [])) := b0.append ((shaB_bts _).append Bts.nil)
  have hB1 : Bts (frt 2 ++ (shaB (frt 2) ++ [0])) := b0.append ((shaB_bts _).append (Bts.cons (by omega) Bts.nil))
  have hB2 : Bts (frt 2 ++ (shaB (frt 2)).take 19) := b0.append ((shaB_bts _).take _)
  have hB3 : Bts (frt 3 ++ (shaB (frt 2) ++ [])) := (frt_bts 3 (by omega)).append ((shaB_bts _).append Bts.nil)
  have hL0 : list_List (frt 2 ++ (shaB (frt 2) ++ [])) = some ((s2, ([], ([], ()))), 0) := by rw [list_List_spec _ hB, a0]; rfl
  have hL1 : list_List (frt 2 ++ (shaB (frt 2) ++ [0])) = some (zL, 12) := by rw [list_List_spec _ hB1, a1]
  have hlck : lck (s2, ([], ([], ()))) = 0 := by decide +kernel
  rw [bitloftlaw31_alive_eq, e0]
  simp only [Option.bind_some]
  rw [hL0]
  simp only [Option.bind_some]
  rw [list_Places_spec _ RecsOK.nil SumsOK.nil, if_pos hlck]
  simp only [Option.bind_some]
  have hl2 : Int.ofNat (frt 2 ++ (shaB (frt 2) ++ [])).length = 28 := by rw [l0]; rfl
  have hl3 : Int.ofNat ([] ++ (frt 2 ++ (shaB (frt 2) ++ []))).length = 28 := by rw [List.nil_append, l0]; rfl
  rw [gd_pos (by rw [List.nil_append, l0]; decide), gd_pos (by rw [ea]; simp only [List.length_append, fl, hsl, List.length_cons, List.length_nil]; omega), ea, hL1]
  simp only [Option.bind_some]
  rw [gd_pos (by decide), gd_pos (by rw [hl2]; decide), et, list_List_spec _ hB2]
  simp only [Option.bind_some]
  rw [gd_pos (by rw [List.nil_append, l0]; decide), gd_pos (by decide), gd_pos (by rw [hl3]; decide), es, list_List_spec _ hB3]
  simp only [Option.bind_some, a2, a3]
  have hS : bitloftref31_Same_v2 (s2, ([], ([], ()))) ((2 : Int), ((16 : Int), ())) () = some true := by
    rw [bitloftref31_Same_v2_eq, if_neg (by decide), rSame_refl [] (by simp)]
    simp only [Option.bind_some]
    rw [if_neg (by simp), if_neg (by decide), bitloftref31_Same_v2_c1_eq, if_neg (by decide)]
  rw [hS]
  rfl
/-! ### 10. The laws -/
theorem bitloftlaw31_ListEnds_core (x0 : List Int) (hb : Bts x0) (x1 : Int) (x2 : List Int) (hb2 : Bts x2) : bitloftlaw31_ListEnds x0 x1 x2 = some true := by
  have hl' : Int.ofNat x0.length = (x0.length : Int) := rfl
  have hl2 : Int.ofNat x2.length = (x2.length : Int) := rfl
  rw [bitloftlaw31_ListEnds_eq, alive31]
  simp only [Option.bind_some]
  by_cases h1 : x0.length > 3000
  · rw [if_pos (by simp; omega)]
  rw [if_neg (by simp; omega)]
  by_cases h2 : x2.length > 100
  · rw [if_pos (by simp; omega)]
  rw [if_neg (by simp; omega), if_neg (by simp), list_List_spec x0 hb]
  simp only [Option.bind_some]
  by_cases h : (allB x0).2.2 = 0
  · rw [if_neg (by rw [h]; decide)]
    have hln : (x0 ++ x2).length = x0.length + x2.length := List.length_append
    have fin : (gd ((List.length ([] ++ x0)) * 1 ≤ 140737488355328) <| gd ((List.length (([] ++ x0) ++ x2)) * 1 ≤ 140737488355328) <|
        (list_List (([] ++ x0) ++ x2)).bind fun (r4 : (D_api_Listing × Int)) => if true = true then some ((r4.2 == (0 : Int)) == ((Int.ofNat (List.length x2)) == (0 : Int))) else some (false)) = some true := by
      rw [gd_pos (by simp; omega), gd_pos (by simp; omega), List.nil_append, list_List_spec _ (hb.append hb2)]
      simp only [Option.bind_some, if_true]
      by_cases hx : x2 = []
      · subst hx
        rw [List.append_nil, h]; rfl
      · rw [allB_app hb (by omega) hx h]
        have : 0 < x2.length := List.length_pos_iff.2 hx
        have : (Int.ofNat x2.length == 0) = false := by rw [hl2]; simp; omega
        rw [this]; rfl
    by_cases h3 : x1 ≥ 0
    · rw [if_pos (by simpa using h3)]
      by_cases h4 : x1 < (x0.length : Int)
      · rw [if_pos (by simpa using h4), gd_pos (by omega), gd_pos (by omega), list_List_spec _ (hb.take _)]
        simp only [Option.bind_some]
        have hne : (allB (x0.take x1.toNat)).2.2 ≠ 0 := fun k => by
          have := allB_app (m := x0.drop x1.toNat) (hb.take _) (by rw [List.take_append_drop]; omega) (by
            intro e
            have := congrArg List.length e
            simp at this; omega) k
          rw [List.take_append_drop, h] at this
          omega
        rw [if_neg (by simpa using hne)]
        exact fin
      · rw [if_neg (by simpa using h4)]
        exact fin
    · rw [if_neg (by simpa using h3)]
      exact fin
  · rw [if_pos (bne_iff_ne.2 h)]
theorem bitloftlaw31_ListEnds_true (x0 : pden (.slice (.int .u8))) (z0 : wfP (.slice (.int .u8)) x0) (x1 : pden (.int .i64)) (z1 : wfP (.int .i64) x1) (x2 : pden (.slice (.int .u8))) (z2 : wfP (.slice (.int .u8)) x2) : bitloftlaw31_ListEnds x0 x1 x2 = some true :=
  bitloftlaw31_ListEnds_core x0 (Bts.of_wf z0.2) x1 x2 (Bts.of_wf z2.2)
theorem recsB_q {a : List Int} {l : List D_api_Record} {q : Nat} (h : HeadOK a l q) : hsum l = q := by
  have := recsB_len l h.read.sums
  rw [h.read.bytes] at this
  have hle := h.read.le
  rw [List.length_take, Nat.min_eq_left hle] at this
  omega
theorem Stands_c1 (a : List Int) (hb : Bts a) (hl : a.length ≤ 3000) (l : D_api_Listing) (bs : List D_api_Block) (hA : allB a = (l, (bs, 0))) (hlen : l.2.2.1.length = bs.length) (hbl : bs.length ≤ 100000) : ∀ (k i p : Nat), i + k = l.2.2.1.length → Std a a.length p (l.2.2.1.drop i) (bs.drop i) → (pls l).drop i = plc (p : Int) (l.2.2.1.drop i) →
    bitloftlaw31_ListStands_c1 a true (p : Int) (i : Int) l (pls l) = some true
  | 0, i, p, e, hS, hP => by
    have hpl : (pls l).length = l.2.2.1.length := by rw [pls, plc_len]
    have hl2 : Int.ofNat (pls l).length = ((pls l).length : Int) := rfl
    rw [bitloftlaw31_ListStands_c1_eq, if_neg (by rw [hl2]; simp; omega), if_pos rfl]
    rw [List.drop_eq_nil_of_le (by omega), List.drop_eq_nil_of_le (by omega)] at hS
    unfold Std at hS
    subst hS
    simp
  | k + 1, i, p, e, hS, hP => by
    have hpl : (pls l).length = l.2.2.1.length := by rw [pls, plc_len]
    have hl' : Int.ofNat a.length = (a.length : Int) := rfl
    have hl2 : Int.ofNat (pls l).length = ((pls l).length : Int) := rfl
    have hl3 : Int.ofNat l.2.2.1.length = (l.2.2.1.length : Int) := rfl
    obtain ⟨d1, d2, d3⟩ := dropR_at (pzero T_api_BlockHead : D_api_BlockHead) (xs := l.2.2.1) (i := i) (by omega)
    obtain ⟨p1, p2, p3⟩ := dropR_at (pzero T_api_Block : D_api_Block) (xs := bs) (i := i) (by omega)
    obtain ⟨q1, q2, q3⟩ := dropR_at (0 : Int) (xs := pls l) (i := i) (by omega)
    rw [d1, p1] at hS
    rw [d1, q1, plc] at hP
    simp only [List.cons.injEq] at hP
    obtain ⟨hP1, hP2⟩ := hP
    obtain ⟨s1, s2, s3, s4, s5⟩ := hS
    have hlen3 := hOK_len' s3
    have hbk : list_Block a (i : Int) = some (bs.getD i (pzero T_api_Block), 0) := by
      rw [list_Block_spec a hb, blkAt, hA]
      simp only
      rw [if_neg (by simp), if_neg (by omega), if_neg (by omega), Int.toNat_natCast]
    rw [bitloftlaw31_ListStands_c1_eq, if_pos (by rw [hl2]; simp; omega), gd_pos (by omega), gd_pos (by rw [hl2]; omega), Int.toNat_natCast, Nat.zero_add, hP1, if_neg (by simp), if_neg (by simp; try omega), if_neg (by rw [hl']; simp; omega), gd_pos (by omega), gd_pos (by rw [hl']; omega), Int.toNat_natCast, block_Read_spec _ (hb.drop p), s1, hbk]
    simp only [Option.bind_some]
    rw [if_neg (by simp), gd_pos (by omega), gd_pos (by rw [hl3]; omega), s2, peq_head, if_neg (by simp), if_neg (by simp), Same_refl]
    simp only [Option.bind_some]
    rw [if_neg (by simp), w64 (x := (p : Int) + _) (by omega) (by omega), w64 (by omega) (by omega)]
    have ih := Stands_c1 a hb hl l bs hA hlen hbl k (i + 1) (p + (41 + (l.2.2.1.getD i (pzero T_api_BlockHead)).2.2.2.2.1).toNat) (by omega) s5 (by
      rw [hP2, show ((p + (41 + (l.2.2.1.getD i (pzero T_api_BlockHead)).2.2.2.2.1).toNat : Nat) : Int) = (p : Int) + (41 + (l.2.2.1.getD i (pzero T_api_BlockHead)).2.2.2.2.1) by omega])
    rw [show ((i + 1 : Nat) : Int) = (i : Int) + 1 by omega, show ((p + (41 + (l.2.2.1.getD i (pzero T_api_BlockHead)).2.2.2.2.1).toNat : Nat) : Int) = (p : Int) + (41 + (l.2.2.1.getD i (pzero T_api_BlockHead)).2.2.2.2.1) by omega] at ih
    exact ih
theorem allB_lck {a : List Int} {rs q hs bs} (h : AllOK a rs q hs bs) : lck (sH a, (rs, (hs, ()))) = 0 := by
  unfold lck
  rw [if_neg (fun k => k h.head.chk), if_neg (fun k => k h.head.read.val), if_neg (fun k => k h.hlen.symm)]
  exact h.ck
theorem bitloftlaw31_ListStands_core (x0 : List Int) (hb : Bts x0) : bitloftlaw31_ListStands x0 = some true := by
  have hl' : Int.ofNat x0.length = (x0.length : Int) := rfl
  rw [bitloftlaw31_ListStands_eq, alive31]
  simp only [Option.bind_some]
  by_cases h1 : x0.length > 3000
  · rw [if_pos (by simp; omega)]
  rw [if_neg (by simp; omega), if_neg (by simp), list_List_spec x0 hb]
  simp only [Option.bind_some]
  by_cases h : (allB x0).2.2 = 0
  · obtain ⟨rs, q, hs, bs, hO⟩ := allB_ok hb h
    have hc := allB_lck hO
    have hsm := ap_small (sH x0).2.1 hO.head.blk.1 rs hO.head.recsV
    have h2 := hO.hlen
    have h3 := hO.blen
    rw [if_neg (by rw [h]; decide), hO.eq, list_Places_spec _ hO.head.read.recs hO.head.read.sums, if_pos hc, list_Head_spec x0 hb, hO.head.eq]
    simp only [Option.bind_some]
    rw [list_Check_spec _ hO.head.read.recs, ref31_Check_spec _ hO.head.read.recs, hc]
    simp only [Option.bind_some]
    have hpl : (pls (sH x0, (rs, (hs, ())))).length = hs.length := by rw [pls, plc_len]
    rw [if_neg (by decide), if_neg (by decide), if_neg (by decide), if_neg (by decide), if_neg (by rw [hpl]; simp)]
    have := Stands_c1 x0 hb (by omega) (sH x0, (rs, (hs, ()))) bs hO.eq (by simp only; omega) (by omega) hs.length 0 (28 + q) (Nat.zero_add _) hO.std (by
      show plc (28 + hsum rs) hs = plc ((28 + q : Nat) : Int) hs
      rw [recsB_q hO.head]; congr 1)
    exact this
  · obtain ⟨z1, z2⟩ := allB_zL h
    rw [if_pos (bne_iff_ne.2 h), z1, if_pos trivial]
    rfl
theorem bitloftlaw31_ListStands_true (x0 : pden (.slice (.int .u8))) (z0 : wfP (.slice (.int .u8)) x0) : bitloftlaw31_ListStands x0 = some true := bitloftlaw31_ListStands_core x0 (Bts.of_wf z0.2)
end Go.Ab
