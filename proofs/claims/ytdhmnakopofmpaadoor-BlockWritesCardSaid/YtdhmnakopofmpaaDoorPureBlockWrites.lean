/-
  The plain law of BlockWrites.
-/
import Derived.Test.YtdhmnakopofmpaaDoorGenBlockWrites
set_option linter.unusedVariables false
set_option linter.unusedSimpArgs false
set_option maxHeartbeats 1000000
namespace Go.Ab
attribute [local irreducible] IntKind.wrap
/-- A header is right. -/
def hOK (h : D_api_BlockHead) : Prop := 0 ≤ h.2.1 ∧ h.2.1 < 16 ∧ 1 ≤ h.2.2.2.1 ∧ h.2.2.2.1 ≤ 4096 ∧ 0 ≤ h.2.2.1 ∧ h.2.2.1 + h.2.2.2.1 ≤ 8192 ∧ ((h.1 = 1 ∧ h.2.2.2.2.1 = h.2.2.2.1) ∨ (h.1 = 2 ∧ 0 < h.2.2.2.2.1 ∧ h.2.2.2.2.1 < h.2.2.2.1))
instance (h : D_api_BlockHead) : Decidable (hOK h) := by unfold hOK; infer_instance
def hC (h : D_api_BlockHead) : Int := if hOK h then 0 else 8
theorem header_Check_spec (h : D_api_BlockHead) : header_Check h = some (hC h) := by
  rw [header_Check_eq]
  obtain ⟨m, mem, off, raw, len, sum, u⟩ := h
  simp only [hC, decide_eq_true_eq, beq_iff_eq]
  by_cases hr : 1 ≤ raw ∧ raw ≤ 4096
  · rw [w64 (by omega) (by omega)]
    by_cases ok : hOK (m, mem, off, raw, len, sum, u)
    · rw [if_pos ok]; simp only [hOK] at ok
      rw [if_neg (by omega), if_neg (by omega), if_neg (by omega), if_neg (by omega), if_neg (by omega), if_neg (by omega)]
      rcases ok.2.2.2.2.2.2 with ⟨h1, h2⟩ | ⟨h1, h2, h3⟩
      · rw [if_pos h1, if_pos h2, if_pos h2]
      · rw [if_neg (by omega), if_pos h1, if_pos h2, if_pos h3]
    · rw [if_neg ok]; simp only [hOK] at ok
      by_cases h1 : mem < 0
      · rw [if_pos h1]
      by_cases h2 : mem ≥ 16
      · rw [if_neg h1, if_pos h2, if_pos h2]
      by_cases h3 : off < 0
      · rw [if_neg h1, if_neg h2, if_neg (by omega), if_neg (by omega), if_pos h3]
      by_cases h4 : off > 8192 - raw
      · rw [if_neg h1, if_neg h2, if_neg (by omega), if_neg (by omega), if_neg h3, if_pos h4]
      rw [if_neg h1, if_neg h2, if_neg (by omega), if_neg (by omega), if_neg h3, if_neg h4]
      by_cases h5 : m = 1
      · rw [if_pos h5, if_neg (by omega), if_neg (by omega)]
      by_cases h6 : m = 2
      · rw [if_neg h5, if_pos h6]
        by_cases h7 : len > 0
        · rw [if_pos h7, if_neg (by omega)]
        · rw [if_neg h7]
      · rw [if_neg h5, if_neg h6]
  · rw [if_neg (show ¬ hOK (m, mem, off, raw, len, sum, u) from fun ok => hr (by simp only [hOK] at ok; omega))]
    by_cases h1 : mem < 0
    · rw [if_pos h1]
    by_cases h2 : mem ≥ 16
    · rw [if_neg h1, if_pos h2, if_pos h2]
    by_cases h3 : raw < 1
    · rw [if_neg h1, if_neg h2, if_pos h3]
    · rw [if_neg h1, if_neg h2, if_neg h3, if_pos (by omega), if_pos (by omega)]
theorem ref26_Check_spec (h : D_api_BlockHead) : bitloftref26_Check h = some (hC h) := by
  rw [bitloftref26_Check_eq]
  obtain ⟨m, mem, off, raw, len, sum, u⟩ := h
  simp only [hC, decide_eq_true_eq, beq_iff_eq, Bool.not_eq_true', decide_eq_false_iff_not, beq_eq_false_iff_ne]
  by_cases hr : 1 ≤ raw ∧ raw ≤ 4096
  · rw [w64 (by omega) (by omega)]
    by_cases ok : hOK (m, mem, off, raw, len, sum, u)
    · rw [if_pos ok]; simp only [hOK] at ok
      rw [if_neg (by omega), if_neg (by omega), if_neg (by omega), if_neg (by omega), if_neg (by omega), if_neg (by omega)]
      rcases ok.2.2.2.2.2.2 with ⟨h1, h2⟩ | ⟨h1, h2, h3⟩
      · rw [if_pos h1, if_neg (by omega), if_neg (by omega)]
      · rw [if_neg (by omega), if_pos h1, if_pos (by omega), if_neg (by omega)]
    · rw [if_neg ok]; simp only [hOK] at ok
      by_cases h1 : mem < 0
      · rw [if_pos h1]
      by_cases h2 : mem ≥ 16
      · rw [if_neg h1, if_pos h2]
      by_cases h3 : off < 0
      · rw [if_neg h1, if_neg h2, if_neg (by omega), if_neg (by omega), if_pos h3]
      by_cases h4 : off > 8192 - raw
      · rw [if_neg h1, if_neg h2, if_neg (by omega), if_neg (by omega), if_neg h3, if_pos h4]
      rw [if_neg h1, if_neg h2, if_neg (by omega), if_neg (by omega), if_neg h3, if_neg h4]
      by_cases h5 : m = 1
      · rw [if_pos h5, if_neg (by omega), if_pos (by omega)]
      by_cases h6 : m = 2
      · rw [if_neg h5, if_pos h6]
        by_cases h7 : len ≥ 1
        · rw [if_pos h7, if_pos (by omega)]
        · rw [if_neg h7]
      · rw [if_neg h5, if_neg h6]
  · rw [if_neg (show ¬ hOK (m, mem, off, raw, len, sum, u) from fun ok => hr (by simp only [hOK] at ok; omega))]
    by_cases h1 : mem < 0
    · rw [if_pos h1]
    by_cases h2 : mem ≥ 16
    · rw [if_neg h1, if_pos h2]
    by_cases h3 : raw < 1
    · rw [if_neg h1, if_neg h2, if_pos h3]
    · rw [if_neg h1, if_neg h2, if_neg h3, if_pos (by omega)]
def bC (b : D_api_Block) : Int := if hOK b.1 ∧ (b.2.1.length : Int) = b.1.2.2.2.2.1 then 0 else 8
theorem hC_ne (h : D_api_BlockHead) : (hC h != 0) = true ↔ ¬ hOK h := by
  unfold hC; split <;> simp_all
theorem block_Check_spec (b : D_api_Block) : block_Check b = some (bC b) := by
  rw [block_Check_eq, header_Check_spec]
  simp only [Option.bind_some, hC_ne]
  simp only [bC, bne_iff_ne, ne_eq, Int.ofNat_eq_natCast]
  by_cases h1 : hOK b.1 <;> by_cases h2 : (b.2.1.length : Int) = b.1.2.2.2.2.1 <;> simp [h1, h2]
theorem ref27_Check_spec (b : D_api_Block) : bitloftref27_Check b = some (bC b) := by
  rw [bitloftref27_Check_eq, ref26_Check_spec]
  simp only [Option.bind_some, hC_ne]
  simp only [bC, bne_iff_ne, ne_eq, Int.ofNat_eq_natCast]
  by_cases h1 : hOK b.1 <;> by_cases h2 : (b.2.1.length : Int) = b.1.2.2.2.2.1 <;> simp [h1, h2]
end Go.Ab

set_option linter.unusedVariables false
set_option linter.unusedSimpArgs false
set_option maxHeartbeats 1000000
namespace Go.Ab
attribute [local irreducible] IntKind.wrap
/-- The first eight bytes of a header. -/
def fr8 (h : D_api_BlockHead) : List Int := [h.1 % 256, h.2.1 % 256, (h.2.2.1 / 256) % 256, h.2.2.1 % 256, (h.2.2.2.1 / 256) % 256, h.2.2.2.1 % 256, (h.2.2.2.2.1 / 256) % 256, h.2.2.2.2.1 % 256]
theorem shr0 (a : Int) : shrBy .i64 a 0 = a := by rw [shr_i64 _ _ (by omega) (by omega)]; simp
theorem shr8 (a : Int) : shrBy .i64 a 8 = a / 256 := by rw [shr_i64 _ _ (by omega) (by omega)]; rfl
theorem wlit (n : Int) (h : -9223372036854775808 ≤ n ∧ n ≤ 9223372036854775807) : IntKind.wrap .i64 n = n := w64 h.1 h.2
theorem front_one (v18 : List Int) (v19 : Int) (h8 : List Int) (v : Int) (h0 : 0 ≤ v19) (h4 : v19 < 5) (hw : G_widths.getD v19.toNat 0 = 1) (hv : v18.getD v19.toNat 0 = v) (hl : h8.length ≤ 100) :
    header_front_c1 v18 v19 h8 = header_front_c1 v18 (v19 + 1) (h8 ++ [v % 256]) := by
  rw [header_front_c1_eq, if_pos (by simpa using h4), gd_pos h0, gd_pos h4, gd_pos h0, gd_pos h4, hw, hv]
  rw [header_front_c2_eq, if_pos (by decide), gd_pos h0, gd_pos h4, hw]
  rw [wlit ((1:Int) - 1) (by omega), wlit ((1:Int) - 1 - 0) (by omega), wlit ((8:Int) * (1 - 1 - 0)) (by omega), wlit ((0:Int)+1) (by omega)]
  rw [gd_pos (by omega), gd_pos (by simp; omega)]
  rw [header_front_c2_eq, if_neg (by decide), w64 (x := v19 + 1) (by omega) (by omega), wu8]
  rw [show (8 * (1 - 1 - 0) : Int) = 0 by decide, shr0]
theorem front_two (v18 : List Int) (v19 : Int) (h8 : List Int) (v : Int) (h0 : 0 ≤ v19) (h4 : v19 < 5) (hw : G_widths.getD v19.toNat 0 = 2) (hv : v18.getD v19.toNat 0 = v) (hl : h8.length ≤ 100) :
    header_front_c1 v18 v19 h8 = header_front_c1 v18 (v19 + 1) (h8 ++ [(v / 256) % 256, v % 256]) := by
  rw [header_front_c1_eq, if_pos (by simpa using h4), gd_pos h0, gd_pos h4, gd_pos h0, gd_pos h4, hw, hv]
  rw [header_front_c2_eq, if_pos (by decide), gd_pos h0, gd_pos h4, hw]
  rw [wlit ((2:Int) - 1) (by omega), wlit ((2:Int) - 1 - 0) (by omega), wlit ((8:Int) * (2 - 1 - 0)) (by omega), wlit ((0:Int)+1) (by omega)]
  rw [gd_pos (by omega), gd_pos (by simp; omega)]
  rw [header_front_c2_eq, if_pos (by decide), gd_pos h0, gd_pos h4, hw]
  rw [wlit ((2:Int) - 1) (by omega), wlit ((2:Int) - 1 - (0 + 1)) (by omega), wlit ((8:Int) * (2 - 1 - (0 + 1))) (by omega), wlit ((0:Int)+1+1) (by omega)]
  rw [gd_pos (by omega), gd_pos (by simp; omega)]
  rw [header_front_c2_eq, if_neg (by decide), w64 (x := v19 + 1) (by omega) (by omega), wu8, wu8]
  rw [show (8 * (2 - 1 - 0) : Int) = 8 by decide, show (8 * (2 - 1 - (0 + 1)) : Int) = 0 by decide, shr0, shr8]
  simp
theorem header_front_spec (h : D_api_BlockHead) (hm : 0 ≤ h.1 ∧ h.1 < 256) : header_front h = some (fr8 h) := by
  rw [header_front_eq, w64 (by omega) (by omega)]
  simp only [List.replicate, List.set_cons_zero, List.set_cons_succ]
  rw [front_one _ 0 _ h.1 (by decide) (by decide) (by decide) rfl (by decide)]
  rw [front_one _ (0+1) _ h.2.1 (by decide) (by decide) (by decide) rfl (by simp)]
  rw [front_two _ (0+1+1) _ h.2.2.1 (by decide) (by decide) (by decide) rfl (by simp)]
  rw [front_two _ (0+1+1+1) _ h.2.2.2.1 (by decide) (by decide) (by decide) rfl (by simp)]
  rw [front_two _ (0+1+1+1+1) _ h.2.2.2.2.1 (by decide) (by decide) (by decide) rfl (by simp)]
  rw [header_front_c1_eq, if_neg (by decide)]
  simp [fr8]
theorem ref26_Front_spec (h : D_api_BlockHead) (hm : 0 ≤ h.1 ∧ h.1 < 256) : bitloftref26_Front h = some (fr8 h) := by
  rw [bitloftref26_Front_eq]
  simp only [bitloftref26_two_eq, wu8, fdiv_pos _ (show (0:Int) < 256 by decide)]
  rw [gd_pos (by decide)]
  simp only [Option.bind_some]
  rw [gd_pos (by simp), gd_pos (by decide)]
  simp only [Option.bind_some]
  rw [gd_pos (by simp), gd_pos (by decide)]
  simp only [Option.bind_some]
  rw [gd_pos (by simp)]
  simp only [fr8, List.cons_append, List.nil_append]
  rw [Int.emod_eq_of_lt hm.1 hm.2]
end Go.Ab

set_option linter.unusedVariables false
set_option linter.unusedSimpArgs false
set_option maxHeartbeats 1000000
namespace Go.Ab
attribute [local irreducible] IntKind.wrap
def mark : List Int := [183, 98, 105, 116, 108, 111, 102, 116, 32, 98, 108, 107, 10]
theorem marker_Bytes_spec : marker_Bytes = some mark := by rw [marker_Bytes_eq, gd_pos (by decide)]; rfl
theorem ref25_Bytes_spec : bitloftref25_Bytes = some mark := by rw [bitloftref25_Bytes_eq]; rfl
/-- A header's bytes. -/
def hB (h : D_api_BlockHead) : List Int := fr8 h ++ h.2.2.2.2.2.1
theorem fr8_len (h : D_api_BlockHead) : (fr8 h).length = 8 := rfl
theorem header_Encode_spec (h : D_api_BlockHead) (hm : 0 ≤ h.1 ∧ h.1 < 256) (hs : h.2.2.2.2.2.1.length = 20) : header_Encode h = some (if hOK h then (hB h, 0) else ([], 8)) := by
  rw [header_Encode_eq, header_Check_spec]
  simp only [Option.bind_some, hC_ne]
  by_cases ok : hOK h
  · rw [if_neg (by simpa using ok), if_pos ok, header_front_spec h hm]
    simp only [Option.bind_some]
    rw [gd_pos (by simp [fr8_len]; omega)]
    simp only [hB, List.drop_zero]
    rw [List.take_of_length_le (by omega)]
  · rw [if_pos ok, if_neg ok]; simp [hC, ok]
theorem ref26_Bytes_spec (h : D_api_BlockHead) (hm : 0 ≤ h.1 ∧ h.1 < 256) (hs : h.2.2.2.2.2.1.length = 20) : bitloftref26_Bytes h = some (hB h) := by
  rw [bitloftref26_Bytes_eq, ref26_Front_spec h hm]
  simp only [Option.bind_some]
  rw [gd_pos (by simp [fr8_len]; omega)]
  simp only [hB, List.drop_zero]
  rw [List.take_of_length_le (by omega)]
/-! bytes.Join, of three, with nothing between -/
theorem join_c1_step (v0 v42 : List (List Int)) (v5 v44 : Int) (n : Nat) (hn : v44 = n) (hlt : n < v42.length) (h5 : 0 ≤ v5) (hl : v5 + (v42.getD n []).length ≤ 140737488355328) (hb : v42.length ≤ 1000) :
    bytes_Join_c1 v0 [] v5 v42 (Int.ofNat v42.length) v44 = bytes_Join_c1 v0 [] (v5 + (v42.getD n []).length) v42 (Int.ofNat v42.length) (n + 1 : Nat) := by
  subst hn
  rw [bytes_Join_c1_eq]
  simp only [Int.ofNat_eq_natCast, Int.toNat_natCast]
  rw [if_pos (by simp; omega), gd_pos (by omega), gd_pos (by omega), if_neg (by simp only [decide_eq_true_eq]; rw [w64 (by omega) (by omega)]; omega), w64 (by omega) (by omega), w64 (by omega) (by omega)]
  rfl
theorem splice_app (a b c : List Int) (o : Nat) (h : o = a.length) (hl : b.length ≤ c.length) : splice (a ++ c) o b = a ++ b ++ c.drop b.length := by
  subst h
  unfold splice
  simp [List.drop_append]
theorem join_c2 (N : Nat) (v70 : List (List Int)) : ∀ (d n : Nat) (pre rest : List Int), v70.length - n = d → n ≤ v70.length → pre.length + rest.length = N → (v70.drop n).flatten.length ≤ rest.length → v70.length ≤ 1000 → N ≤ 140737488355328 →
    bytes_Join_c2 [] 0 N (pre.length : Int) v70 (Int.ofNat v70.length) (n : Int) (pre ++ rest) = some (pre ++ (v70.drop n).flatten ++ rest.drop (v70.drop n).flatten.length)
  | 0, n, pre, rest, hd, hn, hN, hl, hb, hN2 => by
    rw [bytes_Join_c2_eq, if_neg (by simp; omega)]
    have : v70.drop n = [] := List.drop_eq_nil_iff.2 (by omega)
    rw [this]
    simp only [List.flatten_nil, List.length_nil, List.drop_zero, List.append_nil]
    rw [List.take_of_length_le (by simp; omega)]
  | d + 1, n, pre, rest, hd, hn, hN, hl, hb, hN2 => by
    have hlt : n < v70.length := by omega
    have hdr : v70.drop n = v70[n] :: v70.drop (n + 1) := List.drop_eq_getElem_cons hlt
    rw [hdr, List.flatten_cons, List.length_append] at hl
    have hg : v70.getD n [] = v70[n] := by simp [List.getD, hlt]
    rw [bytes_Join_c2_eq]
    simp only [Int.ofNat_eq_natCast, Int.toNat_natCast, List.length_nil, Nat.zero_min, Nat.zero_add, hg]
    rw [if_pos (by simp; omega), gd_pos (by omega), gd_pos (by omega), gd_pos (by omega), gd_pos (by omega)]
    rw [w64 (x := (pre.length : Int) + ((0 : Nat) : Int)) (by omega) (by omega)]
    rw [gd_pos (by omega), gd_pos (by omega)]
    rw [show ((0 : Nat) : Int) = 0 from rfl, Int.add_zero, Int.toNat_natCast]
    have hmin : min v70[n].length (N - pre.length) = v70[n].length := by omega
    rw [hmin, List.take_length, List.take_nil]
    have hs1 : splice (pre ++ rest) pre.length [] = pre ++ rest := by rw [splice_app _ _ _ _ rfl (by simp)]; simp
    rw [hs1, splice_app _ _ _ _ rfl (by omega)]
    rw [w64 (x := (pre.length : Int) + (v70[n].length : Int)) (by omega) (by omega), w64 (x := (n : Int) + 1) (by omega) (by omega)]
    have := join_c2 N v70 d (n + 1) (pre ++ v70[n]) (rest.drop v70[n].length) (by omega) (by omega) (by simp only [List.length_append, List.length_drop]; omega) (by simp only [List.length_drop]; omega) hb hN2
    simp only [List.length_append, Int.natCast_add, Int.ofNat_eq_natCast, show ((1 : Nat) : Int) = 1 from rfl] at this
    rw [this, hdr, List.flatten_cons]
    simp [List.drop_drop]
/-- All parts, one behind the other. -/
theorem bytes_Join3 (a b c : List Int) (ha : a.length ≤ 100000) (hb : b.length ≤ 100000) (hc : c.length ≤ 100000) : bytes_Join [a, b, c] [] = some (a ++ (b ++ c)) := by
  rw [bytes_Join_eq, if_neg (by simp), if_neg (by simp), if_neg (by simp)]
  rw [show Int.ofNat (List.length [a, b, c]) = Int.ofNat [a, b, c].length from rfl]
  rw [join_c1_step [a, b, c] [a, b, c] 0 0 0 rfl (by simp) (by simp) (by first | (simp; omega) | simp) (by simp)]
  rw [join_c1_step [a, b, c] [a, b, c] _ _ 1 rfl (by simp) (by first | (simp; omega) | simp) (by first | (simp; omega) | simp) (by simp)]
  rw [join_c1_step [a, b, c] [a, b, c] _ _ 2 rfl (by simp) (by first | (simp; omega) | simp) (by first | (simp; omega) | simp) (by simp)]
  rw [bytes_Join_c1_eq, if_neg (by simp)]
  simp only [List.getD_cons_zero, List.getD_cons_succ, List.drop_succ_cons, List.drop_zero, Nat.sub_zero]
  generalize hN : (0 + (a.length : Int) + (b.length : Int) + (c.length : Int)) = N
  rw [gd_pos (by omega), gd_pos (by omega)]
  have hNn : N.toNat = a.length + b.length + c.length := by omega
  refine anyv_eq (List.replicate N.toNat 0) (by simp) (fun r hr => ?_)
  rw [gd_pos (by omega), gd_pos (by omega), gd_pos (by simp only [Int.ofNat_eq_natCast]; omega), gd_pos (by simp), gd_pos (by simp), gd_pos (by simp), gd_pos (by simp)]
  have hmin : min a.length N.toNat = a.length := by omega
  rw [hmin, List.take_length]
  have hs : splice r 0 a = a ++ r.drop a.length := by
    have := splice_app [] a r 0 rfl (by omega)
    simpa using this
  rw [hs]
  have := join_c2 N.toNat [b, c] 2 0 a (r.drop a.length) rfl (by simp) (by simp only [List.length_drop]; omega) (by first | (simp; omega) | simp) (by simp) (by omega)
  simp only [Int.ofNat_eq_natCast] at this ⊢
  rw [show ((0 : Nat) : Int) = 0 from rfl] at this
  rw [this]
  simp only [List.drop_zero, List.flatten_cons, List.flatten_nil, List.append_nil]
  rw [List.drop_of_length_le (by first | (simp; omega) | simp)]
  simp
/-- A block's bytes. -/
def bB (b : D_api_Block) : List Int := mark ++ hB b.1 ++ b.2.1
/-- What is asked of a block. -/
def bWf (b : D_api_Block) : Prop := (0 ≤ b.1.1 ∧ b.1.1 < 256) ∧ b.1.2.2.2.2.2.1.length = 20
theorem bC_ne (b : D_api_Block) : (bC b != 0) = true ↔ bC b = 8 := by unfold bC; split <;> simp
theorem block_Write_spec (b : D_api_Block) (hw : bWf b) : block_Write b = some (if bC b = 0 then (bB b, 0) else ([], 8)) := by
  rw [block_Write_eq, block_Check_spec]
  simp only [Option.bind_some, bC_ne]
  by_cases h0 : bC b = 0
  · rw [if_neg (by omega), if_pos h0, header_Encode_spec _ hw.1 hw.2]
    have hok : hOK b.1 ∧ (b.2.1.length : Int) = b.1.2.2.2.2.1 := by
      unfold bC at h0
      split at h0
      · assumption
      · cases h0
    simp only [Option.bind_some, if_pos hok.1, marker_Bytes_spec]
    have hl : (hB b.1).length = 28 := by simp [hB, fr8_len, hw.2]
    have hlen : b.2.1.length ≤ 5000 := by have := hok.1; unfold hOK at this; omega
    rw [bytes_Join3 _ _ _ (by decide) (by omega) (by omega)]
    simp [bB]
  · have h8 : bC b = 8 := by unfold bC at h0 ⊢; split <;> simp_all
    rw [if_pos h8, if_neg h0, h8]
theorem ref27_Write_spec (b : D_api_Block) (hw : bWf b) : bitloftref27_Write b = some (if bC b = 0 then (bB b, 0) else ([], 8)) := by
  rw [bitloftref27_Write_eq, ref27_Check_spec]
  simp only [Option.bind_some, bC_ne]
  by_cases h0 : bC b = 0
  · rw [if_neg (by omega), if_pos h0, bitloftref27_Bytes_eq, ref25_Bytes_spec, ref26_Bytes_spec _ hw.1 hw.2]
    have hok : hOK b.1 ∧ (b.2.1.length : Int) = b.1.2.2.2.2.1 := by
      unfold bC at h0
      split at h0
      · assumption
      · cases h0
    have hl : (hB b.1).length = 28 := by simp [hB, fr8_len, hw.2]
    have hlen : b.2.1.length ≤ 5000 := by have := hok.1; unfold hOK at this; omega
    have hm : mark.length = 13 := rfl
    simp only [Option.bind_some]
    rw [gd_pos (by simp only [List.length_append]; omega), gd_pos (by simp only [List.length_append]; omega)]
    simp [bB]
  · have h8 : bC b = 8 := by unfold bC at h0 ⊢; split <;> simp_all
    rw [if_pos h8, if_neg h0]
    simp [h8]
end Go.Ab

set_option linter.unusedVariables false
set_option linter.unusedSimpArgs false
set_option maxHeartbeats 1000000
namespace Go.Ab
attribute [local irreducible] IntKind.wrap
theorem or_shift (a b : Nat) (ha : a < 4294967296) (hb : b < 256) : bitsOr .i64 ((a : Int) * 256) (b : Int) = (a : Int) * 256 + b := by
  unfold bitsOr
  have h1 : BitVec.ofInt 64 ((a : Int) * 256) = BitVec.ofNat 64 (a * 256) := by
    rw [show (a : Int) * 256 = ((a * 256 : Nat) : Int) by omega]; exact BitVec.ofInt_natCast _ _
  have h2 : BitVec.ofInt 64 (b : Int) = BitVec.ofNat 64 b := BitVec.ofInt_natCast _ _
  show IntKind.wrap .i64 ((BitVec.ofInt 64 ((a : Int) * 256) ||| BitVec.ofInt 64 (b : Int)).toNat : Int) = _
  rw [h1, h2, BitVec.toNat_or, BitVec.toNat_ofNat, BitVec.toNat_ofNat, Nat.mod_eq_of_lt (by omega), Nat.mod_eq_of_lt (by omega)]
  have h3 := Nat.two_pow_add_eq_or_of_lt (i := 8) (b := b) (by omega) a
  rw [show a * 256 = 2 ^ 8 * a by omega, ← h3, w64 (by omega) (by omega)]
  omega
theorem or_byte {x y : Int} (hx : 0 ≤ x ∧ x < 4294967296) (hy : 0 ≤ y ∧ y < 256) : bitsOr .i64 (x * 256) y = x * 256 + y := by
  obtain ⟨a, rfl⟩ := Int.eq_ofNat_of_zero_le hx.1
  obtain ⟨b, rfl⟩ := Int.eq_ofNat_of_zero_le hy.1
  exact or_shift a b (by omega) (by omega)
theorem getD_set {α : Type} (xs : List α) (i : Nat) (x d : α) (h : i < xs.length) : (xs.set i x).getD i d = x := by
  simp [List.getD, h]
theorem Bts.getD {xs : List Int} (h : Bts xs) (i : Nat) : 0 ≤ xs.getD i 0 ∧ xs.getD i 0 < 256 := by
  by_cases hi : i < xs.length
  · simp only [List.getD_eq_getElem?_getD, List.getElem?_eq_getElem hi, Option.getD_some]; exact h _ (List.getElem_mem hi)
  · simp [List.getD_eq_getElem?_getD, List.getElem?_eq_none (by omega : xs.length ≤ i)]
theorem parse_step (v0 : List Int) (v5 v17 v18 : Int) (b8 : D_api_BlockHead) (b9 : List Int) (h0 : 0 ≤ v5) (h5 : v5 < 5) (hlt : v18 < v17) (h18 : 0 ≤ v18) (h17 : v17 ≤ 2) (hb : Bts v0) (hl : 0 < v0.length) (hx : 0 ≤ b9.getD v5.toNat 0 ∧ b9.getD v5.toNat 0 < 256) :
    header_Parse_c2 v0 v5 G_widths v5 v17 v18 b8 b9 = header_Parse_c2 (v0.drop 1) v5 G_widths v5 v17 (v18 + 1) b8 (b9.set v5.toNat (b9.getD v5.toNat 0 * 256 + v0.getD 0 0)) := by
  have hy := hb.getD 0
  rw [header_Parse_c2_eq, if_pos (by simpa using hlt)]
  rw [gd_pos h0, gd_pos h5, gd_pos (by decide), gd_pos (by decide), gd_pos (by simp only [Int.ofNat_eq_natCast]; omega), gd_pos h0, gd_pos h5, gd_pos (by decide), gd_pos (by simp only [Int.ofNat_eq_natCast]; omega)]
  rw [w64 (x := v18 + 1) (by omega) (by omega), w64 (x := b9.getD v5.toNat 0 * 256) (by omega) (by omega), w64 (x := v0.getD 0 0) (by omega) (by omega), or_byte ⟨hx.1, by omega⟩ hy]
theorem parse_one (v0 : List Int) (v5 : Int) (b8 : D_api_BlockHead) (b9 : List Int) (h0 : 0 ≤ v5) (h5 : v5 < 5) (hw : G_widths.getD v5.toNat 0 = 1) (hb : Bts v0) (hl : 0 < v0.length) (hx : b9.getD v5.toNat 0 = 0) (hn : b9.length = 5) :
    header_Parse_c1 v0 G_widths v5 b8 b9 = header_Parse_c1 (v0.drop 1) G_widths (v5 + 1) b8 (b9.set v5.toNat (v0.getD 0 0)) := by
  rw [header_Parse_c1_eq, if_pos (by simpa using h5), gd_pos h0, gd_pos h5, hw, parse_step v0 v5 1 0 b8 b9 h0 h5 (by decide) (by decide) (by decide) hb hl (by rw [hx]; decide)]
  rw [header_Parse_c2_eq, if_neg (by decide), w64 (x := v5 + 1) (by omega) (by omega), hx, Int.zero_mul, Int.zero_add]
theorem parse_two (v0 : List Int) (v5 : Int) (b8 : D_api_BlockHead) (b9 : List Int) (h0 : 0 ≤ v5) (h5 : v5 < 5) (hw : G_widths.getD v5.toNat 0 = 2) (hb : Bts v0) (hl : 1 < v0.length) (hx : b9.getD v5.toNat 0 = 0) (hn : b9.length = 5) :
    header_Parse_c1 v0 G_widths v5 b8 b9 = header_Parse_c1 (v0.drop 2) G_widths (v5 + 1) b8 (b9.set v5.toNat (v0.getD 0 0 * 256 + v0.getD 1 0)) := by
  have hy := hb.getD 0
  have hi : v5.toNat < b9.length := by omega
  have hg : (v0.drop 1).getD 0 0 = v0.getD 1 0 := by simp [List.getD_eq_getElem?_getD]
  rw [header_Parse_c1_eq, if_pos (by simpa using h5), gd_pos h0, gd_pos h5, hw, parse_step v0 v5 2 0 b8 b9 h0 h5 (by decide) (by decide) (by decide) hb (by omega) (by rw [hx]; decide)]
  rw [hx, Int.zero_mul, Int.zero_add (v0.getD 0 0)]
  rw [parse_step (v0.drop 1) v5 2 (0 + 1) b8 _ h0 h5 (by decide) (by decide) (by decide) (hb.drop 1) (by simp; omega) (by rw [getD_set _ _ _ _ hi]; exact hy)]
  rw [header_Parse_c2_eq, if_neg (by decide), w64 (x := v5 + 1) (by omega) (by omega), getD_set _ _ _ _ hi, List.set_set, List.drop_drop, hg]
def zH : D_api_BlockHead := (0, (0, (0, (0, (0, (List.replicate 20 0, ()))))))
/-- The header that bytes are. -/
def pH (a : List Int) : D_api_BlockHead := (a.getD 0 0, (a.getD 1 0, (a.getD 2 0 * 256 + a.getD 3 0, (a.getD 4 0 * 256 + a.getD 5 0, (a.getD 6 0 * 256 + a.getD 7 0, (a.drop 8, ()))))))
def pP (a : List Int) : D_api_BlockHead × Int := if a.length = 28 ∧ hOK (pH a) then (pH a, 0) else (zH, 12)
theorem drop_getD (a : List Int) (k i : Nat) : (a.drop k).getD i 0 = a.getD (k + i) 0 := by simp [List.getD_eq_getElem?_getD]
theorem header_Parse_spec (a : List Int) (hb : Bts a) : header_Parse a = some (pP a) := by
  rw [header_Parse_eq]
  by_cases hl : a.length = 28
  · rw [if_neg (by simp [hl])]
    have hrep : (List.replicate 5 (0:Int)) = [0,0,0,0,0] := rfl
    rw [hrep]
    rw [parse_one a 0 _ _ (by decide) (by decide) (by decide) hb (by omega) (by decide) (by decide)]
    rw [parse_one (a.drop 1) (0+1) _ _ (by decide) (by decide) (by decide) (hb.drop 1) (by simp; omega) (by simp) (by simp)]
    rw [parse_two _ (0+1+1) _ _ (by decide) (by decide) (by decide) ((hb.drop 1).drop 1) (by simp; omega) (by simp) (by simp)]
    rw [parse_two _ (0+1+1+1) _ _ (by decide) (by decide) (by decide) (((hb.drop 1).drop 1).drop 2) (by simp; omega) (by simp) (by simp)]
    rw [parse_two _ (0+1+1+1+1) _ _ (by decide) (by decide) (by decide) ((((hb.drop 1).drop 1).drop 2).drop 2) (by simp; omega) (by simp) (by simp)]
    rw [header_Parse_c1_eq, if_neg (by decide)]
    iterate 10 rw [gd_pos (by decide)]
    simp only [List.drop_drop, drop_getD]
    have h0 := hb.getD 0
    have hsp : splice (List.replicate 20 (0:Int)) 0 (List.take (min (List.drop (1 + 1 + 2 + 2 + 2) a).length 20) (List.drop (1 + 1 + 2 + 2 + 2) a)) = a.drop 8 := by
      have hln : (a.drop 8).length = 20 := by simp [hl]
      show splice (List.replicate 20 (0:Int)) 0 (List.take (min (a.drop 8).length 20) (a.drop 8)) = a.drop 8
      rw [hln, List.take_of_length_le (by omega)]
      unfold splice
      simp [hl]
    rw [hsp]
    have e0 : (([0,0,0,0,0] : List Int).set (Int.toNat 0) (a.getD 0 0) |>.set (Int.toNat (0+1)) (a.getD (1+0) 0) |>.set (Int.toNat (0+1+1)) (a.getD (1+1+0) 0 * 256 + a.getD (1+1+1) 0) |>.set (Int.toNat (0+1+1+1)) (a.getD (1+1+2+0) 0 * 256 + a.getD (1+1+2+1) 0) |>.set (Int.toNat (0+1+1+1+1)) (a.getD (1+1+2+2+0) 0 * 256 + a.getD (1+1+2+2+1) 0)) = [a.getD 0 0, a.getD 1 0, a.getD 2 0 * 256 + a.getD 3 0, a.getD 4 0 * 256 + a.getD 5 0, a.getD 6 0 * 256 + a.getD 7 0] := rfl
    rw [e0]
    simp only [List.getD_cons_zero, List.getD_cons_succ, wu8, Int.emod_eq_of_lt h0.1 h0.2]
    rw [header_Check_spec]
    show (some (hC (pH a))).bind _ = _
    simp only [Option.bind_some, hC_ne]
    unfold pP
    by_cases ok : hOK (pH a)
    · rw [if_neg (by simpa using ok), if_pos ⟨hl, ok⟩]; rfl
    · rw [if_pos ok, if_neg (fun h => ok h.2)]; rfl
  · rw [if_pos (by simp; omega)]
    unfold pP
    rw [if_neg (fun h => hl h.1)]; rfl
end Go.Ab

set_option linter.unusedVariables false
set_option linter.unusedSimpArgs false
set_option maxHeartbeats 1000000
namespace Go.Ab
attribute [local irreducible] IntKind.wrap
theorem take_set_succ (S : List Int) (n : Nat) (x : Int) (h : n < S.length) : (S.set n x).take (n + 1) = S.take n ++ [x] := by
  rw [List.take_succ_eq_append_getElem (by simpa using h), List.take_set, List.set_eq_of_length_le (by simp; omega)]
  simp
theorem parse26_loop (v0 : List Int) (hl : v0.length = 28) (b8 : D_api_BlockHead) (m mem off raw len : Int) : ∀ (d n : Nat) (S : List Int), 20 - n = d → n ≤ 20 → S.length = 20 → S.take n = (v0.drop 8).take n →
    bitloftref26_Parse_c1 v0 (n : Int) b8 (m, (mem, (off, (raw, (len, (S, ())))))) = some (if hOK (m, (mem, (off, (raw, (len, (v0.drop 8, ())))))) then ((m, (mem, (off, (raw, (len, (v0.drop 8, ())))))), 0) else (zH, 12))
  | 0, n, S, hd, hn, hS, ht => by
    have hS' : S = v0.drop 8 := by
      rw [List.take_of_length_le (by omega), List.take_of_length_le (by simp; omega)] at ht; exact ht
    subst hS'
    rw [bitloftref26_Parse_c1_eq, if_neg (by simp; omega), ref26_Check_spec]
    simp only [Option.bind_some, hC_ne]
    by_cases ok : hOK (m, (mem, (off, (raw, (len, (v0.drop 8, ()))))))
    · rw [if_neg (by simpa using ok), if_pos ok]
    · rw [if_pos ok, if_neg ok]; rfl
  | d + 1, n, S, hd, hn, hS, ht => by
    rw [bitloftref26_Parse_c1_eq, if_pos (by simp; omega), w64 (x := 8 + (n : Int)) (by omega) (by omega), gd_pos (by omega), gd_pos (by simp only [Int.ofNat_eq_natCast]; omega), gd_pos (by omega), gd_pos (by omega), w64 (x := (n : Int) + 1) (by omega) (by omega)]
    have e1 : Int.toNat (8 + (n : Int)) = 8 + n := by omega
    simp only [e1, Int.toNat_natCast]
    have := parse26_loop v0 hl b8 m mem off raw len d (n + 1) (S.set n (v0.getD (8 + n) 0)) (by omega) (by omega) (by simpa using hS) (by
      rw [take_set_succ _ _ _ (by omega), ht, List.take_succ_eq_append_getElem (by simp; omega)]
      have h8 : 8 + n < v0.length := by omega
      simp [List.getD_eq_getElem?_getD, h8])
    exact this
theorem ref26_Parse_spec (a : List Int) (hb : Bts a) : bitloftref26_Parse a = some (pP a) := by
  rw [bitloftref26_Parse_eq]
  by_cases hl : a.length = 28
  · rw [if_neg (by simp [hl])]
    repeat rw [gd_pos (by first | decide | (simp only [Int.ofNat_eq_natCast]; omega))]
    have h1 := hb.getD 1; have h2 := hb.getD 2; have h3 := hb.getD 3; have h4 := hb.getD 4; have h5 := hb.getD 5; have h6 := hb.getD 6; have h7 := hb.getD 7
    rw [w64 (x := a.getD 1 0) (by omega) (by omega), w64 (x := a.getD 2 0) (by omega) (by omega), w64 (x := a.getD 3 0) (by omega) (by omega), w64 (x := a.getD 4 0) (by omega) (by omega), w64 (x := a.getD 5 0) (by omega) (by omega), w64 (x := a.getD 6 0) (by omega) (by omega), w64 (x := a.getD 7 0) (by omega) (by omega)]
    rw [w64 (x := a.getD 2 0 * 256) (by omega) (by omega), w64 (x := a.getD 4 0 * 256) (by omega) (by omega), w64 (x := a.getD 6 0 * 256) (by omega) (by omega)]
    rw [w64 (x := a.getD 2 0 * 256 + a.getD 3 0) (by omega) (by omega), w64 (x := a.getD 4 0 * 256 + a.getD 5 0) (by omega) (by omega), w64 (x := a.getD 6 0 * 256 + a.getD 7 0) (by omega) (by omega)]
    have := parse26_loop a hl zH (a.getD 0 0) (a.getD 1 0) (a.getD 2 0 * 256 + a.getD 3 0) (a.getD 4 0 * 256 + a.getD 5 0) (a.getD 6 0 * 256 + a.getD 7 0) 20 0 (List.replicate 20 0) rfl (by omega) (by simp) (by simp)
    refine Eq.trans this ?_
    show some (if hOK (pH a) then (pH a, (0 : Int)) else (zH, 12)) = _
    unfold pP
    by_cases ok : hOK (pH a)
    · rw [if_pos (show hOK (pH a) from ok), if_pos ⟨hl, ok⟩]
    · rw [if_neg (show ¬ hOK (pH a) from ok), if_neg (fun h => ok h.2)]
  · rw [if_pos (by simp; omega)]
    unfold pP
    rw [if_neg (fun h => hl h.1)]; rfl
theorem mark_bts : Bts mark := by
  intro x hx
  simp [mark] at hx
  omega
theorem mark_len : mark.length = 13 := rfl
theorem marker_At_spec (a : List Int) (hb : Bts a) (h1 : 41 ≤ a.length) (h2 : a.length ≤ 50000) : marker_At a 0 = some (decide (a.take 13 = mark), 0) := by
  rw [marker_At_eq, marker_check_eq, if_neg (by simp; omega), if_neg (by decide), if_neg (by simp)]
  simp only [Option.bind_some]
  rw [if_neg (by decide), gd_pos (by decide), gd_pos (by simp), marker_Bytes_spec]
  simp only [Option.bind_some]
  rw [bytes_HasPrefix_eq, if_pos (by simp [mark_len]; omega), gd_pos (by simp), gd_pos (by simp [mark_len]; omega), bytes_Equal_eq]
  simp only [Option.bind_some]
  rw [eqStr ((hb.drop _).take _) mark_bts]
  rfl
theorem stands_loop (v0 : List Int) (h1 : 41 ≤ v0.length) (h2 : v0.length ≤ 50000) : ∀ (d n : Nat), 13 - n = d → n ≤ 13 → bitloftref25_Stands_c1 v0 0 (n : Int) mark = some (decide ((v0.drop n).take (13 - n) = mark.drop n))
  | 0, n, hd, hn => by
    have : n = 13 := by omega
    subst this
    rw [bitloftref25_Stands_c1_eq, if_neg (by decide)]
    simp [mark]
  | d + 1, n, hd, hn => by
    have hlt : n < v0.length := by omega
    have hm : n < mark.length := by rw [mark_len]; omega
    rw [bitloftref25_Stands_c1_eq, if_pos (by simp; omega), w64 (x := 0 + (n : Int)) (by omega) (by omega), gd_pos (by omega), gd_pos (by simp only [Int.ofNat_eq_natCast]; omega), gd_pos (by omega), gd_pos (by simp only [Int.ofNat_eq_natCast]; omega), w64 (x := (n : Int) + 1) (by omega) (by omega)]
    have e1 : Int.toNat (0 + (n : Int)) = n := by omega
    have ih := stands_loop v0 h1 h2 d (n + 1) (by omega) (by omega)
    simp only [Int.natCast_add, show ((1 : Nat) : Int) = 1 from rfl] at ih
    simp only [e1, Int.toNat_natCast, Nat.zero_add]
    rw [ih]
    have g1 : v0.getD n 0 = v0[n] := by simp [List.getD_eq_getElem?_getD, hlt]
    have g2 : mark.getD n 0 = mark[n] := by simp [List.getD_eq_getElem?_getD, hm]
    rw [g1, g2, List.drop_eq_getElem_cons hlt, List.drop_eq_getElem_cons hm, show 13 - n = (13 - (n + 1)) + 1 by omega, List.take_succ_cons]
    by_cases he : v0[n] = mark[n]
    · rw [if_neg (by simp [he]), he]
      congr 1
      rw [decide_eq_decide]
      exact ⟨fun h => by rw [h], fun h => (List.cons.inj h).2⟩
    · rw [if_pos (by simpa using he)]
      have : ¬ (v0[n] :: List.take (13 - (n + 1)) (List.drop (n + 1) v0) = mark[n] :: List.drop (n + 1) mark) := fun h => he (List.cons.inj h).1
      rw [decide_eq_false this]
theorem Stands_spec (a : List Int) (h1 : 41 ≤ a.length) (h2 : a.length ≤ 50000) : bitloftref25_Stands a 0 = some (decide (a.take 13 = mark)) := by
  rw [bitloftref25_Stands_eq, ref25_Bytes_spec]
  simp only [Option.bind_some]
  rw [if_neg (by decide), if_neg (by simp), if_neg (by simp only [decide_eq_true_eq, Int.ofNat_eq_natCast]; rw [w64 (by omega) (by omega)]; omega)]
  have := stands_loop a h1 h2 13 0 rfl (by omega)
  rw [show ((0 : Nat) : Int) = 0 from rfl] at this
  rw [this]
  rfl
theorem bytes_Clone_spec (xs : List Int) (h : xs.length ≤ 1000000) : bytes_Clone xs = some xs := by
  rw [bytes_Clone_eq]
  refine anyv_eq false (by simp) (fun b hb => ?_)
  cases b with
  | true => rw [if_pos rfl, hb rfl]
  | false => rw [if_neg (by simp), gd_pos (by simp; omega)]; simp
/-- What reading gives. -/
def rd (a : List Int) : D_api_Block × Int × Int :=
  if a.length > 50000 then ((zH, ([], ())), (0, 4)) else if a.length < 41 then ((zH, ([], ())), (0, 18))
  else if a.take 13 ≠ mark ∨ ¬ hOK (pH ((a.drop 13).take 28)) then ((zH, ([], ())), (0, 12))
  else if (a.length : Int) < 41 + (pH ((a.drop 13).take 28)).2.2.2.2.1 then ((zH, ([], ())), (0, 18))
  else ((pH ((a.drop 13).take 28), ((a.drop 41).take (pH ((a.drop 13).take 28)).2.2.2.2.1.toNat, ())), (41 + (pH ((a.drop 13).take 28)).2.2.2.2.1, 0))
theorem hOK_len {h : D_api_BlockHead} (ok : hOK h) : 1 ≤ h.2.2.2.2.1 ∧ h.2.2.2.2.1 ≤ 4096 := by unfold hOK at ok; omega
theorem pP_eq (a : List Int) (h : 41 ≤ a.length) : pP ((a.drop 13).take 28) = if hOK (pH ((a.drop 13).take 28)) then (pH ((a.drop 13).take 28), 0) else (zH, 12) := by
  have hl : ((a.drop 13).take 28).length = 28 := by simp; omega
  unfold pP
  simp only [hl, true_and]
theorem block_Read_spec (a : List Int) (hb : Bts a) : block_Read a = some (rd a) := by
  rw [block_Read_eq]
  unfold rd
  by_cases h1 : a.length > 50000
  · rw [if_pos (by simp; omega), if_pos h1]; rfl
  rw [if_neg (by simp; omega), if_neg h1]
  by_cases h2 : a.length < 41
  · rw [if_pos (by simp; omega), if_pos h2]; rfl
  rw [if_neg (by simp; omega), if_neg h2, gd_pos (by decide), gd_pos (by decide), gd_pos (by simp only [Int.ofNat_eq_natCast]; omega), header_Parse_spec _ ((hb.drop _).take _), pP_eq a (by omega), marker_At_spec a hb (by omega) (by omega)]
  simp only [Option.bind_some]
  by_cases h3 : a.take 13 = mark
  · by_cases ok : hOK (pH ((a.drop 13).take 28))
    · have hlen := hOK_len ok
      rw [if_pos ok, if_neg (by simp [h3]), if_neg (by simp), if_neg (show ¬ (a.take 13 ≠ mark ∨ ¬ hOK (pH ((a.drop 13).take 28))) from fun h => h.elim (fun h => h h3) (fun h => h ok))]
      generalize pH ((a.drop 13).take 28) = h at ok hlen ⊢
      simp only
      rw [w64 (x := 41 + h.2.2.2.2.1) (by omega) (by omega)]
      by_cases h4 : (a.length : Int) < 41 + h.2.2.2.2.1
      · rw [if_pos (by simpa using h4), if_pos h4]; rfl
      · rw [if_neg (by simpa using h4), if_neg h4, gd_pos (by decide), gd_pos (by omega), gd_pos (by simp only [Int.ofNat_eq_natCast]; omega), bytes_Clone_spec _ (by simp; omega)]
        have e : Int.toNat (41 + h.2.2.2.2.1) - 41 = h.2.2.2.2.1.toNat := by omega
        simp only [Option.bind_some, e]
    · rw [if_neg ok, if_neg (by simp [h3]), if_pos (by simp), if_pos (show (a.take 13 ≠ mark ∨ ¬ hOK (pH ((a.drop 13).take 28))) from .inr ok)]; rfl
  · rw [if_pos (by simp [h3]), if_pos (show (a.take 13 ≠ mark ∨ ¬ hOK (pH ((a.drop 13).take 28))) from .inl h3)]; rfl
theorem ref27_Read_spec (a : List Int) (hb : Bts a) : bitloftref27_Read a = some (rd a) := by
  rw [bitloftref27_Read_eq]
  unfold rd
  by_cases h1 : a.length > 50000
  · rw [if_pos (by simp; omega), if_pos h1]; rfl
  rw [if_neg (by simp; omega), if_neg h1, bitloftref27_Begins_eq]
  by_cases h2 : a.length < 41
  · rw [if_pos (by simp; omega), if_pos h2]; rfl
  rw [if_neg (by simp; omega), if_neg h2, gd_pos (by decide), gd_pos (by decide), gd_pos (by simp only [Int.ofNat_eq_natCast]; omega), ref26_Parse_spec _ ((hb.drop _).take _), pP_eq a (by omega), Stands_spec a (by omega) (by omega)]
  simp only [Option.bind_some]
  by_cases h3 : a.take 13 = mark
  · by_cases ok : hOK (pH ((a.drop 13).take 28))
    · have hlen := hOK_len ok
      rw [if_pos ok, if_neg (by simp [h3]), if_neg (by simp), if_neg (show ¬ (a.take 13 ≠ mark ∨ ¬ hOK (pH ((a.drop 13).take 28))) from fun h => h.elim (fun h => h h3) (fun h => h ok))]
      generalize pH ((a.drop 13).take 28) = h at ok hlen ⊢
      simp only [Int.ofNat_eq_natCast, decide_eq_true_eq]
      rw [w64 (x := 41 + h.2.2.2.2.1) (by omega) (by omega), w64 (x := (a.length : Int) - 41) (by omega) (by omega)]
      by_cases h4 : (a.length : Int) < 41 + h.2.2.2.2.1
      · rw [if_pos (by omega), if_pos h4]; rfl
      · rw [if_neg (by omega), if_neg h4, gd_pos (by decide), gd_pos (by omega), gd_pos (by omega), gd_pos (by simp; omega)]
        have e : Int.toNat (41 + h.2.2.2.2.1) - 41 = h.2.2.2.2.1.toNat := by omega
        simp only [Option.bind_some, e, List.nil_append]
    · rw [if_neg ok, if_neg (by simp [h3]), if_pos (by simp), if_pos (show (a.take 13 ≠ mark ∨ ¬ hOK (pH ((a.drop 13).take 28))) from .inr ok)]; rfl
  · rw [if_pos (by simp [h3]), if_pos (show (a.take 13 ≠ mark ∨ ¬ hOK (pH ((a.drop 13).take 28))) from .inl h3)]; rfl
theorem peqL_refl {α : Type} (eq : α → α → Bool) (he : ∀ x, eq x x = true) : ∀ xs : List α, peqL eq xs xs = true
  | [] => rfl
  | x :: xs => by simp only [peqL, he, peqL_refl eq he xs, Bool.and_self]
theorem Same_refl (b : D_api_Block) : bitloftref27_Same b b = some true := by
  rw [bitloftref27_Same_eq, if_pos]
  · simp
  · simp only [peq, decide_true, Bool.true_and, Bool.and_true]
    exact peqL_refl _ (fun x => by simp [peq]) _
theorem bitloftlaw27_BlockWrites_true (x0 : pden T_api_Block) (z0 : wfP T_api_Block x0) (x1 : pden (.slice (.int .u8))) (z1 : wfP (.slice (.int .u8)) x1) : bitloftlaw27_BlockWrites x0 x1 = some true := by
  have hb : Bts x1 := Bts.of_wf z1.2
  have hw : bWf x0 := ⟨wf_u8 z0.1.1, z0.1.2.2.2.2.2.1.1⟩
  rw [bitloftlaw27_BlockWrites_eq]
  have key : ∀ (r : D_api_Block × Int × Int), ((block_Write x0).bind fun (r8 : List Int × Int) => (bitloftref27_Write x0).bind fun (r9 : List Int × Int) => (block_Read x1).bind fun (r10 : D_api_Block × Int × Int) => (bitloftref27_Read (ofStr (toStr x1))).bind fun (r11 : D_api_Block × Int × Int) =>
      (block_Check x0).bind fun (r12 : Int) => (bitloftref27_Check x0).bind fun (r13 : Int) =>
      if (r12 == r13) = true then
        if ((ByteArray.toList (toStr r8.1)) == (ByteArray.toList (toStr r9.1))) = true then
          if (r8.2 == r9.2) = true then
            (bitloftref27_Same r10.1 r11.1).bind fun (r14 : Bool) =>
            if r14 = true then
              if (r10.2.1 == r11.2.1) = true then
                if (r10.2.2 == r11.2.2) = true then
                  some ((ByteArray.toList (toStr x1)) == (ByteArray.toList (toStr x1)))
                else some false
              else some false
            else some false
          else some false
        else some false
      else some false) = some true := by
    intro r
    rw [block_Write_spec _ hw, ref27_Write_spec _ hw, ofStr_toStr hb, block_Read_spec _ hb, ref27_Read_spec _ hb, block_Check_spec, ref27_Check_spec]
    simp only [Option.bind_some, beq_self_eq_true, if_true, Same_refl]
  by_cases h1 : (Int.ofNat (List.length x0.2.1)) > (5000 : Int)
  · rw [if_pos (by simpa using h1)]
  rw [if_neg (by simpa using h1)]
  by_cases h2 : (Int.ofNat (List.length x1)) > (5000 : Int)
  · rw [if_pos (by simpa using h2)]
    by_cases h3 : (Int.ofNat (List.length x1)) ≤ (50000 : Int)
    · rw [if_pos (by simpa using h3)]
    · rw [if_neg (by simpa using h3)]
      exact key ((zH, ([], ())), (0, 0))
  · rw [if_neg (by simpa using h2)]
    exact key ((zH, ([], ())), (0, 0))
end Go.Ab
