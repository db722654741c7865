/- Contract of the law SaltOrder: it returns true for every input. -/
import Derived.Test.YthmebjbaigiehaaLawB
import Derived.Test.YthmebjbaigiehaaPlainB
namespace Go.Proofs.Ythmebjbaigiehaa
open Go.RowKit

/-- the first k elements -/
theorem rd_first {w : World} {B : Nat} {A : Option Addr} {n k : Nat} {X Y : Nat → Int} (h : RdP w B A n X Y) (hk : k ≤ n) : RdP w B A k X Y := Rd.less h (by omega)
/-- the elements from k on -/
theorem rd_rest {w : World} {B : Nat} {A : Option Addr} {n k : Nat} {X Y : Nat → Int} (h : RdP w B A n X Y) (hk : k ≤ n) : RdP w B (Option.map (fun x => x.add (k * 2)) A) (n - k) (fun q => X (k + q)) (fun q => Y (k + q)) := fun hm => by
  obtain ⟨b, off, rfl, hb, hc⟩ := h (by omega)
  refine ⟨b, off + k * 2, by simp [add_none], hb, fun j hj => ?_⟩
  rw [Nat.add_assoc, hc (k * 2 + j) (by omega)]
  unfold ptc
  rw [show (k * 2 + j) % 2 = j % 2 by omega, show (k * 2 + j) / 2 = k + j / 2 by omega]
set_option maxRecDepth 100000 in
set_option maxHeartbeats 4000000 in
theorem order_9 (A : Option Addr) (n c B : Nat) (X Y : Nat → Int) (many : Int) (w : World) (hm : n ≤ c ∧ c ≤ 9223372036854775807) (hB : B ≤ w.heap.size) (hr : RdP w B A n X Y) (hmany : 0 ≤ many ∧ many ≤ 255) :
    Calls Try.prog 9 #[.slice A n c, .int .u8 many] w fun e w' => e = .returned (.bool true) ∧ Below w.heap.size w w' := by
  have HR := Lib.hid hr
  clear hr
  have HX1 : Hid (mixE n X Y = 0 → ∀ W m c k (hc : k ≤ n) (h1 : RdP W B A k X Y) (h2 : B ≤ W.heap.size), m = k → Calls Try.prog 12 #[.slice A m c] W fun e w' => e = .returned (.tuple #[.agg #[.int .i64 (sm X k), .int .i64 (sm Y k)], .int .i64 0]) ∧ Below W.heap.size W w') := Lib.hid fun h W m c k hc h1 h2 hk => by
    have h3 := Mix_12 A k c B X Y W (by omega) h2 h1
    rw [mix_first h hc] at h3
    subst hk
    exact h3
  have HX2 : Hid (mixE n X Y = 0 → ∀ W m c k A' (hc : k ≤ n) (h1 : RdP W B A' (n - k) (fun q => X (k + q)) (fun q => Y (k + q))) (h2 : B ≤ W.heap.size), m = n - k → Calls Try.prog 12 #[.slice A' m c] W fun e w' => e = .returned (.tuple #[.agg #[.int .i64 (sm X n - sm X k), .int .i64 (sm Y n - sm Y k)], .int .i64 0]) ∧ Below W.heap.size W w') := Lib.hid fun h W m c k A' hc h1 h2 hk => by
    have h3 := Mix_12 A' (n - k) c B _ _ W (by omega) h2 h1
    have e1 := sm_split X k (n - k)
    have e2 := sm_split Y k (n - k)
    rw [Nat.add_sub_cancel' hc] at e1 e2
    rw [mix_rest h hc] at h3
    subst hk
    have e3 : sm X n - sm X k = sm (fun q => X (k + q)) (n - k) := by omega
    have e4 : sm Y n - sm Y k = sm (fun q => Y (k + q)) (n - k) := by omega
    rw [e3, e4]
    exact h3
  have HX3 : Hid (mixE n X Y = 0 → ∀ W A' m c, m = n → RdP W W.heap.size A' n (fun q => X (n - 1 - q)) (fun q => Y (n - 1 - q)) → Calls Try.prog 12 #[.slice A' m c] W fun e w' => e = .returned (.tuple #[.agg #[.int .i64 (sm X n), .int .i64 (sm Y n)], .int .i64 0]) ∧ Below W.heap.size W w') := Lib.hid fun h W A' m c hk h1 => by
    have h3 := Mix_12 A' n c _ _ _ W (by omega) (Nat.le_refl _) h1
    rw [mix_back h, sm_back, sm_back] at h3
    subst hk
    exact h3
  have HX4 : Hid (mixE n X Y = 0 → ∀ W g k (hc : k ≤ n), Blk W g 24 #[.int .i64 (sm X k), .int .i64 (sm Y k), .int .i64 (sm X n - sm X k), .int .i64 (sm Y n - sm Y k)] → Calls Try.prog 12 #[.slice (some ⟨g, 0, none⟩) 2 2] W fun e w' => e = .returned (.tuple #[.agg #[.int .i64 (sm X n), .int .i64 (sm Y n)], .int .i64 0]) ∧ Below W.heap.size W w') := Lib.hid fun h W g k hc h1 => by
    have e1 := sm_split X k (n - k)
    have e2 := sm_split Y k (n - k)
    rw [Nat.add_sub_cancel' hc] at e1 e2
    obtain ⟨z1, z2, z3⟩ := mix_two h hc (a := sm X k) (b := sm Y k) (c := sm X n - sm X k) (d := sm Y n - sm Y k) rfl rfl (by omega) (by omega)
    have h3 := Mix_12 (some ⟨g, 0, none⟩) 2 2 W.heap.size (two (sm X k) (sm X n - sm X k)) (two (sm Y k) (sm Y n - sm Y k)) W (by decide) (Nat.le_refl _) (h1.rd _ (pts2 (sm X k) (sm Y k) (sm X n - sm X k) (sm Y n - sm Y k)))
    rw [z1, z2, z3] at h3
    exact h3
  have HE4 : Hid (mixE n X Y = 0 → orZ (mixE n X Y) (sm X n) = sm X n ∧ orZ (mixE n X Y) (sm Y n) = sm Y n) := Lib.hid fun h => by simp [orZ, h]
  have HE2 : Hid (mixE n X Y ≠ 0 → orZ (mixE n X Y) (sm X n) = 0 ∧ orZ (mixE n X Y) (sm Y n) = 0) := Lib.hid fun h => by simp [orZ, h]
  have HE3 : Hid (mixE n X Y = 0 → n ≤ 64 ∧ ∀ k, k ≤ n → True) := Lib.hid fun h => ⟨(mixE_zero h).1, fun _ _ => trivial⟩
  have HX := Lib.hid (fun W (h1 : RdP W B A n X Y) (h2 : B ≤ W.heap.size) => Mix_12 A n c B X Y W (by omega) h2 h1)
  unfold wtE at HX
  generalize orZ (mixE n X Y) (sm X n) = a at HX HE2 HE4
  generalize orZ (mixE n X Y) (sm Y n) = b at HX HE2 HE4
  generalize mixE n X Y = E at HX HX1 HX2 HX3 HX4 HE2 HE3 HE4
  go_enter Try.func9, Try.ntmps9
  go_wp2_with fail
  refine (sane_11 _).mono ?_
  rintro e v0 ⟨rfl, hb⟩
  have B1 := Lib.hid (show Below w.heap.size w v0 from hb)
  have hz1 := B1.out.size
  clear hb 
  go_wp2_with fail
  refine (HX.out _ (HR.out.below (B1.out.mono hB)) (by omega)).mono ?_
  rintro e v1 ⟨rfl, hb⟩
  have B2 := Lib.hid (B1.out.trans (hb.mono B1.out.size))
  have hz2 := B2.out.size
  clear hb B1 hz1
  go_upto_region 4 with fail
  obtain ⟨u1, hbx⟩ : ∃ zz, zz = v1.alloc (.cells #[.int .i64 a, .int .i64 b] 24) := ⟨_, rfl⟩
  have NX : Blk u1 (v1.heap.size) 24 #[.int .i64 a, .int .i64 b] := hbx ▸ ((Blk.new' rfl))
  have hb : Below v1.heap.size v1 u1 := by rw [hbx]; (repeat (first | exact Below.refl _ _ | exact below_alloc _ _ | refine Below.alloc ?_ (by simp; omega) _ | refine Below.alloc ?_ (by simp) _))
  rw [← hbx]
  clear hbx
  have B3 := Lib.hid (B2.out.trans (hb.mono B2.out.size))
  have hz3 := B3.out.size
  clear hb B2 hz2
  have X3 := Lib.hid NX
  clear NX
  have hsX3 := X3.out.lt
  have cX0 : u1.cell? ⟨v1.heap.size, 0, none⟩ = some (.int .i64 a) := X3.out.cell 0
  have cX1 : u1.cell? ⟨v1.heap.size, 1, none⟩ = some (.int .i64 b) := X3.out.cell 1
  by_cases hE : E = 0
  · obtain ⟨hn, _⟩ := HE3.out hE
    subst hE
    obtain ⟨i0, hi, hi0, hi1, hi2⟩ := info_parts info24
    have hnn : (n : Int) ≤ 64 := by omega
    have hwn : IntKind.i64.wrap ((n : Int) - 1) = (n : Int) - 1 := IntWalk.i64_in _ ⟨by omega, by omega⟩
    go_wp2_with fail
    clear cX0 cX1
    go_loopw [7, 8] (fun l i wr => ∃ j k : Nat, j + k = n ∧ i = .int .i64 ((k : Int) - 1) ∧ wr.ownsRow u1.heap.size 24 2 l j (rowP (fun q => X (n - 1 - q)) (fun q => Y (n - 1 - q)) j) ∧ Below u1.heap.size u1 wr) (fun _ i _ => (intOf i + 1).toNat)
    case atStart => exact ⟨0, n, by omega, rfl, World.ownsRow_nil _ _ _ _, Below.refl _ _⟩
    case round =>
      obtain ⟨j, k, hjk, rfl, hO, hb⟩ := hrel
      obtain ⟨A1, c1, hv1⟩ := own_form hO
      subst hv1
      have HO := Lib.hid hO
      clear hO
      have B4 := Lib.hid (B3.out.trans (hb.mono B3.out.size))
      have C4 := Lib.hid (show Below u1.heap.size u1 wr from hb)
      have X4 := Lib.hid (X3.out.below hb X3.out.lt)
      have hz4 := B4.out.size
      clear hb B3 X3 hz3
      have hsX4 := X4.out.lt
      clear hsX3
      cases k with
      | succ k =>
        have ek : ((k + 1 : Nat) : Int) - 1 = k := by omega
        rw [ek]
        have hkn : (k : Int) < n := by omega
        obtain ⟨b, off, rfl, hbB, ca, cb⟩ := RdP.at_ (HR.out.below (B4.out.mono hB)) (show k < n by omega)
        have ejk : n - 1 - j = k := by omega
        have hzc := C4.out.size
        go_wp2_with (at_builtin; refine wpList_append_own_at _ rfl _ _ 22 rfl u1.heap.size 24 i0 (.agg #[.int .i64 0, .int .i64 0]) 2 16 Try.underlying22 hi hi0 hi1 hi2 rfl (by decide) (.slice A1 j c1) j (rowP (fun q => X (n - 1 - q)) (fun q => Y (n - 1 - q)) j) rfl (HO.out.alloc _) ⟨_, 0, none⟩ 1 1 [.int .i64 (X k), .int .i64 (Y k)] rfl rfl (cell_two_new _ _ _ _) (one_two _ _) (by unfold maxLen; omega) (by omega) (by simp; omega) ?_; intro vv w8 hown8 hgrow8 _ _; obtain ⟨A3, c3, hvv⟩ := own_form hown8; subst hvv)
        go_roundw
        case rel => exact ⟨j + 1, k, by omega, by go_num, by rw [← rowP_succ]; simp only [ejk]; exact hown8, below_behind HO.out hgrow8 C4.out hzc⟩
        case measure => simp [intOf]
      | zero =>
        obtain rfl : j = n := by omega
        have hK : RdP wr wr.heap.size A1 j (fun q => X (j - 1 - q)) (fun q => Y (j - 1 - q)) := Rd.of_own HO.out fun q hq => rowP_at _ _ _ _ hq
        obtain ⟨k, hk⟩ : ∃ k : Nat, (k : Int) = many % ((j : Int) + 1) := ⟨(many % ((j : Int) + 1)).toNat, by have := Int.emod_nonneg many (show (j : Int) + 1 ≠ 0 by omega); omega⟩
        have hkj : k ≤ j := by have := Int.emod_lt_of_pos many (show 0 < (j : Int) + 1 by omega); omega
        have K4 := Lib.hid hK
        clear hK
        clear hjk hwn
        go_upto_region 12 with fail
        rw [← hk]
        clear hk
        have cX0 : wr.cell? ⟨v1.heap.size, 0, none⟩ = some (.int .i64 a) := X4.out.cell 0
        have cX1 : wr.cell? ⟨v1.heap.size, 1, none⟩ = some (.int .i64 b) := X4.out.cell 1
        go_wp2_with fail
        refine (HX1.out trivial _ k c k hkj (rd_first (HR.out.below (B4.out.mono hB)) hkj) (by omega) rfl).mono ?_
        rintro e v2 ⟨rfl, hb⟩
        clear cX0 cX1
        have B5 := Lib.hid (B4.out.trans (hb.mono B4.out.size))
        have C5 := Lib.hid (C4.out.trans (hb.mono C4.out.size))
        have X5 := Lib.hid (X4.out.below hb X4.out.lt)
        have K5 := Lib.hid (rd_step K4.out hb)
        have hz5 := B5.out.size
        clear hb B4 C4 X4 K4 hz4
        have hsX5 := X5.out.lt
        clear hsX4
        go_upto_region 13 with fail
        obtain ⟨u2, hbx⟩ : ∃ zz, zz = v2.alloc (.cells #[.int .i64 (sm X k), .int .i64 (sm Y k)] 24) := ⟨_, rfl⟩
        have NP : Blk u2 (v2.heap.size) 24 #[.int .i64 (sm X k), .int .i64 (sm Y k)] := hbx ▸ ((Blk.new' rfl))
        have hb : Below v2.heap.size v2 u2 := by rw [hbx]; (repeat (first | exact Below.refl _ _ | exact below_alloc _ _ | refine Below.alloc ?_ (by simp; omega) _ | refine Below.alloc ?_ (by simp) _))
        rw [← hbx]
        clear hbx
        have B6 := Lib.hid (B5.out.trans (hb.mono B5.out.size))
        have C6 := Lib.hid (C5.out.trans (hb.mono C5.out.size))
        have X6 := Lib.hid (X5.out.below hb X5.out.lt)
        have K6 := Lib.hid (rd_step K5.out hb)
        have hz6 := B6.out.size
        clear hb B5 C5 X5 K5 hz5
        have hsX6 := X6.out.lt
        clear hsX5
        have P6 := Lib.hid NP
        clear NP
        have hsP6 := P6.out.lt
        go_cut [12, 13] (fun s12 s13 wc => ∃ g, s12 = .pointer (some ⟨g, 0, none⟩) ∧ s13 = .int .i64 0 ∧ Blk wc g 24 #[.int .i64 (sm X j - sm X k), .int .i64 (sm Y j - sm Y k)] ∧ Below u2.heap.size u2 wc)
        case first =>
          by_cases hck : c = k
          · subst hck
            go_wp2_with fail
            have hv : RdP u2 B A (j - c) (fun q => X (c + q)) (fun q => Y (c + q)) := by
              have e : j - c = 0 := by omega
              rw [e]
              exact Rd.nil
            have hj0 : j - c = j - c := rfl
            refine (HX2.out trivial u2 _ _ c A hkj hv (by omega) ?_).mono ?_
            · first | exact hj0 | omega
            rintro e w9 ⟨rfl, hb9⟩
            go_wp2_with fail
            go_meet
            case rel => exact ⟨_, rfl, rfl, Blk.new _ _ _, hb9.alloc (by have := hb9.size; omega) _⟩
          · go_wp2_with fail
            refine (HX2.out trivial _ (j - k) _ k _ hkj (rd_rest (HR.out.below (B6.out.mono hB)) hkj) (by omega) rfl).mono ?_
            rintro e w9 ⟨rfl, hb9⟩
            go_wp2_with fail
            go_meet
            case rel => exact ⟨_, rfl, rfl, Blk.new _ _ _, hb9.alloc (by have := hb9.size; omega) _⟩
        case rest =>
          obtain ⟨g, rfl, rfl, hg, hcb⟩ := hcut
          have B7 := Lib.hid (B6.out.trans (hcb.mono B6.out.size))
          have C7 := Lib.hid (C6.out.trans (hcb.mono C6.out.size))
          have X7 := Lib.hid (X6.out.below hcb X6.out.lt)
          have P7 := Lib.hid (P6.out.below hcb P6.out.lt)
          have K7 := Lib.hid (rd_step K6.out hcb)
          have hz7 := B7.out.size
          clear hcb B6 C6 X6 P6 K6 hz6
          have hsX7 := X7.out.lt
          have hsP7 := P7.out.lt
          clear hsX6 hsP6
          have Q7 := Lib.hid hg
          clear hg
          have hsQ7 := Q7.out.lt
          have cX0 : wc.cell? ⟨v1.heap.size, 0, none⟩ = some (.int .i64 a) := X7.out.cell 0
          have cX1 : wc.cell? ⟨v1.heap.size, 1, none⟩ = some (.int .i64 b) := X7.out.cell 1
          have cP0 : wc.cell? ⟨v2.heap.size, 0, none⟩ = some (.int .i64 (sm X k)) := P7.out.cell 0
          have cP1 : wc.cell? ⟨v2.heap.size, 1, none⟩ = some (.int .i64 (sm Y k)) := P7.out.cell 1
          have cQ0 : wc.cell? ⟨g, 0, none⟩ = some (.int .i64 (sm X j - sm X k)) := Q7.out.cell 0
          have cQ1 : wc.cell? ⟨g, 1, none⟩ = some (.int .i64 (sm Y j - sm Y k)) := Q7.out.cell 1
          go_wp2_with fail
          refine (HX3.out trivial _ A1 _ c1 rfl K7.out).mono ?_
          rintro e v3 ⟨rfl, hb⟩
          clear cX0 cX1 cP0 cP1 cQ0 cQ1
          have B8 := Lib.hid (B7.out.trans (hb.mono B7.out.size))
          have C8 := Lib.hid (C7.out.trans (hb.mono C7.out.size))
          have X8 := Lib.hid (X7.out.below hb X7.out.lt)
          have P8 := Lib.hid (P7.out.below hb P7.out.lt)
          have Q8 := Lib.hid (Q7.out.below hb Q7.out.lt)
          have K8 := Lib.hid (rd_step K7.out hb)
          have hz8 := B8.out.size
          clear hb B7 C7 X7 P7 Q7 K7 hz7
          have hsX8 := X8.out.lt
          have hsP8 := P8.out.lt
          have hsQ8 := Q8.out.lt
          clear hsX7 hsP7 hsQ7
          go_upto_region 15 with fail
          obtain ⟨u3, hbx⟩ : ∃ zz, zz = v3.alloc (.cells #[.int .i64 (sm X j), .int .i64 (sm Y j)] 24) := ⟨_, rfl⟩
          have NR : Blk u3 (v3.heap.size) 24 #[.int .i64 (sm X j), .int .i64 (sm Y j)] := hbx ▸ ((Blk.new' rfl))
          have hb : Below v3.heap.size v3 u3 := by rw [hbx]; (repeat (first | exact Below.refl _ _ | exact below_alloc _ _ | refine Below.alloc ?_ (by simp; omega) _ | refine Below.alloc ?_ (by simp) _))
          rw [← hbx]
          clear hbx
          have B9 := Lib.hid (B8.out.trans (hb.mono B8.out.size))
          have C9 := Lib.hid (C8.out.trans (hb.mono C8.out.size))
          have X9 := Lib.hid (X8.out.below hb X8.out.lt)
          have P9 := Lib.hid (P8.out.below hb P8.out.lt)
          have Q9 := Lib.hid (Q8.out.below hb Q8.out.lt)
          have K9 := Lib.hid (rd_step K8.out hb)
          have hz9 := B9.out.size
          clear hb B8 C8 X8 P8 Q8 K8 hz8
          have hsX9 := X9.out.lt
          have hsP9 := P9.out.lt
          have hsQ9 := Q9.out.lt
          clear hsX8 hsP8 hsQ8
          have R9 := Lib.hid NR
          clear NR
          have hsR9 := R9.out.lt
          have cP0 : u3.cell? ⟨v2.heap.size, 0, none⟩ = some (.int .i64 (sm X k)) := P9.out.cell 0
          have cP1 : u3.cell? ⟨v2.heap.size, 1, none⟩ = some (.int .i64 (sm Y k)) := P9.out.cell 1
          have cQ0 : u3.cell? ⟨g, 0, none⟩ = some (.int .i64 (sm X j - sm X k)) := Q9.out.cell 0
          have cQ1 : u3.cell? ⟨g, 1, none⟩ = some (.int .i64 (sm Y j - sm Y k)) := Q9.out.cell 1
          go_wp2_with fail
          clear cP0 cP1 cQ0 cQ1
          obtain ⟨u4, hbx⟩ : ∃ zz, zz = u3.alloc (.cells #[.int .i64 (sm X k), .int .i64 (sm Y k), .int .i64 (sm X j - sm X k), .int .i64 (sm Y j - sm Y k)] 24) := ⟨_, rfl⟩
          have NT : Blk u4 (u3.heap.size) 24 #[.int .i64 (sm X k), .int .i64 (sm Y k), .int .i64 (sm X j - sm X k), .int .i64 (sm Y j - sm Y k)] := hbx ▸ ((Blk.new' rfl))
          have hb : Below u3.heap.size u3 u4 := by rw [hbx]; (repeat (first | exact Below.refl _ _ | exact below_alloc _ _ | refine Below.alloc ?_ (by simp; omega) _ | refine Below.alloc ?_ (by simp) _))
          rw [← hbx]
          clear hbx
          have B10 := Lib.hid (B9.out.trans (hb.mono B9.out.size))
          have C10 := Lib.hid (C9.out.trans (hb.mono C9.out.size))
          have X10 := Lib.hid (X9.out.below hb X9.out.lt)
          have P10 := Lib.hid (P9.out.below hb P9.out.lt)
          have Q10 := Lib.hid (Q9.out.below hb Q9.out.lt)
          have R10 := Lib.hid (R9.out.below hb R9.out.lt)
          have K10 := Lib.hid (rd_step K9.out hb)
          have hz10 := B10.out.size
          clear hb B9 C9 X9 P9 Q9 R9 K9 hz9
          have hsX10 := X10.out.lt
          have hsP10 := P10.out.lt
          have hsQ10 := Q10.out.lt
          have hsR10 := R10.out.lt
          clear hsX9 hsP9 hsQ9 hsR9
          have T10 := Lib.hid NT
          clear NT
          have hsT10 := T10.out.lt
          refine (HX4.out trivial _ _ k hkj T10.out).mono ?_
          rintro e v4 ⟨rfl, hb⟩
          have B11 := Lib.hid (B10.out.trans (hb.mono B10.out.size))
          have C11 := Lib.hid (C10.out.trans (hb.mono C10.out.size))
          have X11 := Lib.hid (X10.out.below hb X10.out.lt)
          have P11 := Lib.hid (P10.out.below hb P10.out.lt)
          have Q11 := Lib.hid (Q10.out.below hb Q10.out.lt)
          have R11 := Lib.hid (R10.out.below hb R10.out.lt)
          have T11 := Lib.hid (T10.out.below hb T10.out.lt)
          have K11 := Lib.hid (rd_step K10.out hb)
          have hz11 := B11.out.size
          clear hb B10 C10 X10 P10 Q10 R10 T10 K10 hz10
          have hsX11 := X11.out.lt
          have hsP11 := P11.out.lt
          have hsQ11 := Q11.out.lt
          have hsR11 := R11.out.lt
          have hsT11 := T11.out.lt
          clear hsX10 hsP10 hsQ10 hsR10 hsT10
          clear T11 hsT11
          go_upto_region 16 with fail
          obtain ⟨u5, hbx⟩ : ∃ zz, zz = v4.alloc (.cells #[.int .i64 (sm X j), .int .i64 (sm Y j)] 24) := ⟨_, rfl⟩
          have NV : Blk u5 (v4.heap.size) 24 #[.int .i64 (sm X j), .int .i64 (sm Y j)] := hbx ▸ ((Blk.new' rfl))
          have hb : Below v4.heap.size v4 u5 := by rw [hbx]; (repeat (first | exact Below.refl _ _ | exact below_alloc _ _ | refine Below.alloc ?_ (by simp; omega) _ | refine Below.alloc ?_ (by simp) _))
          rw [← hbx]
          clear hbx
          have B12 := Lib.hid (B11.out.trans (hb.mono B11.out.size))
          have C12 := Lib.hid (C11.out.trans (hb.mono C11.out.size))
          have X12 := Lib.hid (X11.out.below hb X11.out.lt)
          have P12 := Lib.hid (P11.out.below hb P11.out.lt)
          have Q12 := Lib.hid (Q11.out.below hb Q11.out.lt)
          have R12 := Lib.hid (R11.out.below hb R11.out.lt)
          have K12 := Lib.hid (rd_step K11.out hb)
          have hz12 := B12.out.size
          clear hb B11 C11 X11 P11 Q11 R11 K11 hz11
          have hsX12 := X12.out.lt
          have hsP12 := P12.out.lt
          have hsQ12 := Q12.out.lt
          have hsR12 := R12.out.lt
          clear hsX11 hsP11 hsQ11 hsR11
          have V12 := Lib.hid NV
          clear NV
          have hsV12 := V12.out.lt
          obtain ⟨rfl, rfl⟩ := HE4.out trivial
          have cX0 : u5.cell? ⟨v1.heap.size, 0, none⟩ = some (.int .i64 (sm X j)) := X12.out.cell 0
          have cX1 : u5.cell? ⟨v1.heap.size, 1, none⟩ = some (.int .i64 (sm Y j)) := X12.out.cell 1
          have cR0 : u5.cell? ⟨v3.heap.size, 0, none⟩ = some (.int .i64 (sm X j)) := R12.out.cell 0
          have cR1 : u5.cell? ⟨v3.heap.size, 1, none⟩ = some (.int .i64 (sm Y j)) := R12.out.cell 1
          have cV0 : u5.cell? ⟨v4.heap.size, 0, none⟩ = some (.int .i64 (sm X j)) := V12.out.cell 0
          have cV1 : u5.cell? ⟨v4.heap.size, 1, none⟩ = some (.int .i64 (sm Y j)) := V12.out.cell 1
          go_wp2_with fail
          go_ret
          exact ⟨rfl, B12.out⟩
  · obtain ⟨rfl, rfl⟩ := HE2.out hE
    have hE1 : (E != 0) = true := by simpa using hE
    go_wp2_with fail
    go_ret
    exact ⟨rfl, B3.out⟩
end Go.Proofs.Ythmebjbaigiehaa
