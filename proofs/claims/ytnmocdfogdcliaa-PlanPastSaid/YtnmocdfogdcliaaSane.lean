/- Contract of sane: it returns true. -/
import Derived.Test.YtnmocdfogdcliaaSaneA
namespace Go.Proofs.Ytnmocdfogdcliaa
open Go.RowKit

theorem ex_f : ∀ j, j < 2 * 2 → rsc (rb 10 2 1 (fun _ => 3) (fun _ => 5) (fun _ => 4) (fun _ => 6) (fun _ => 0)) j = rsc (fun j => if j = 0 then (4, 10) else (2, 10)) j := fun j hj => by
  match j, hj with
  | 0, _ => unfold rsc; rw [show 0 / 2 = 0 from rfl, ex_rb.1]; rfl
  | 1, _ => unfold rsc; rw [show 1 / 2 = 0 from rfl, ex_rb.1]; rfl
  | 2, _ => unfold rsc; rw [show 2 / 2 = 1 from rfl, ex_rb.2]; rfl
  | 3, _ => unfold rsc; rw [show 3 / 2 = 1 from rfl, ex_rb.2]; rfl

set_option maxRecDepth 100000 in
set_option maxHeartbeats 8000000 in
theorem sane_11 (w : World) : Calls Try.prog 11 #[] w fun e w' => e = .returned (.bool true) ∧ Below w.heap.size w w' := by
  go_enter Try.func11, Try.ntmps11
  go_wp2_with fail
  refine (one_32 _).mono ?_
  rintro e w1 ⟨b, rfl, hb0, hp, hbl⟩
  have HB1 := Lib.hid hbl
  have HP1 := Lib.hid hp
  clear hbl hp
  go_upto_region 2 with fail
  obtain ⟨cb, hcb⟩ : ∃ cb, cb = w1.heap.size := ⟨_, rfl⟩
  obtain ⟨w2, hw2⟩ : ∃ zz, zz = w1.alloc (.cells #[.int .i64 10, .int .i64 4, .int .i64 2, .slice (some ⟨b, 0, none⟩) 1 1] 26) := ⟨_, rfl⟩
  have HC2 : Hid (Blk w2 cb 26 #[.int .i64 10, .int .i64 4, .int .i64 2, .slice (some ⟨b, 0, none⟩) 1 1]) := Lib.hid (hw2 ▸ hcb ▸ Blk.new _ _ _)
  have HP2 : Hid (Blk w2 b 50 #[.int .i64 3, .int .i64 5, .int .i64 4, .int .i64 6, .int .i64 0]) := Lib.hid (hw2 ▸ HP1.out.alloc _)
  have HB2 : Hid (Below w.heap.size w w2) := Lib.hid (hw2 ▸ HB1.out.alloc HB1.out.size _)
  have hcw : w.heap.size ≤ cb := hcb ▸ HB1.out.size
  have hbc : b < cb := hcb ▸ HP1.out.lt
  rw [← hw2, ← hcb]
  clear hw2 hcb HB1 HP1
  clear w1
  have c0 : w2.cell? ⟨cb, 0, none⟩ = some (.int .i64 10) := HC2.out.cell 0
  have c1 : w2.cell? ⟨cb, 1, none⟩ = some (.int .i64 4) := HC2.out.cell 1
  have c2 : w2.cell? ⟨cb, 2, none⟩ = some (.int .i64 2) := HC2.out.cell 2
  have c3 : w2.cell? ⟨cb, 3, none⟩ = some (.slice (some ⟨b, 0, none⟩) 1 1) := HC2.out.cell 3
  go_wp2_with fail
  refine (rob_c 10 4 2 3 5 4 6 0 b w2 HP2.out (ex_chk 0 (.inl rfl))).mono ?_
  rintro e w3 ⟨⟨A, rfl, hrd⟩, hbl⟩
  have HC3 := Lib.hid (HC2.out.below hbl HC2.out.lt)
  have HP3 := Lib.hid (HP2.out.below hbl HP2.out.lt)
  have HB3 := Lib.hid (HB2.out.trans (hbl.mono HB2.out.size))
  have HA3 := Lib.hid (hrd.congr ex_f)
  clear hbl hrd HC2 HP2 HB2 c0 c1 c2 c3
  have c0 : w3.cell? ⟨cb, 0, none⟩ = some (.int .i64 10) := HC3.out.cell 0
  have c1 : w3.cell? ⟨cb, 1, none⟩ = some (.int .i64 4) := HC3.out.cell 1
  have c2 : w3.cell? ⟨cb, 2, none⟩ = some (.int .i64 2) := HC3.out.cell 2
  have c3 : w3.cell? ⟨cb, 3, none⟩ = some (.slice (some ⟨b, 0, none⟩) 1 1) := HC3.out.cell 3
  go_wp2_with fail
  refine (rel_c 10 4 2 3 5 4 6 0 b w3 HP3.out 4 4 0 ex_rel.1.1 ex_rel.1.2).mono ?_
  rintro e w4 ⟨rfl, hbl⟩
  have HC4 := Lib.hid (HC3.out.below hbl HC3.out.lt)
  have HP4 := Lib.hid (HP3.out.below hbl HP3.out.lt)
  have HB4 := Lib.hid (HB3.out.trans (hbl.mono HB3.out.size))
  have HA4 := Lib.hid ((HA3.out.below hbl).mono hbl.size)
  clear hbl HC3 HP3 HB3 HA3 c0 c1 c2 c3
  have c0 : w4.cell? ⟨cb, 0, none⟩ = some (.int .i64 10) := HC4.out.cell 0
  have c1 : w4.cell? ⟨cb, 1, none⟩ = some (.int .i64 4) := HC4.out.cell 1
  have c2 : w4.cell? ⟨cb, 2, none⟩ = some (.int .i64 2) := HC4.out.cell 2
  have c3 : w4.cell? ⟨cb, 3, none⟩ = some (.slice (some ⟨b, 0, none⟩) 1 1) := HC4.out.cell 3
  go_wp2_with fail
  refine (rel_c 10 4 2 3 5 4 6 0 b w4 HP4.out 10 5 0 ex_rel.2.1.1 ex_rel.2.1.2).mono ?_
  rintro e w5 ⟨rfl, hbl⟩
  have HC5 := Lib.hid (HC4.out.below hbl HC4.out.lt)
  have HP5 := Lib.hid (HP4.out.below hbl HP4.out.lt)
  have HB5 := Lib.hid (HB4.out.trans (hbl.mono HB4.out.size))
  have HA5 := Lib.hid ((HA4.out.below hbl).mono hbl.size)
  clear hbl HC4 HP4 HB4 HA4 c0 c1 c2 c3
  have c0 : w5.cell? ⟨cb, 0, none⟩ = some (.int .i64 10) := HC5.out.cell 0
  have c1 : w5.cell? ⟨cb, 1, none⟩ = some (.int .i64 4) := HC5.out.cell 1
  have c2 : w5.cell? ⟨cb, 2, none⟩ = some (.int .i64 2) := HC5.out.cell 2
  have c3 : w5.cell? ⟨cb, 3, none⟩ = some (.slice (some ⟨b, 0, none⟩) 1 1) := HC5.out.cell 3
  go_wp2_with fail
  refine (rel_c 10 4 2 3 5 4 6 0 b w5 HP5.out 3 0 390 ex_rel.2.2.1 ex_rel.2.2.2).mono ?_
  rintro e w6 ⟨rfl, hbl⟩
  have HC6 := Lib.hid (HC5.out.below hbl HC5.out.lt)
  have HP6 := Lib.hid (HP5.out.below hbl HP5.out.lt)
  have HB6 := Lib.hid (HB5.out.trans (hbl.mono HB5.out.size))
  have HA6 := Lib.hid ((HA5.out.below hbl).mono hbl.size)
  clear hbl HC5 HP5 HB5 HA5 c0 c1 c2 c3
  obtain ⟨f, hf⟩ : ∃ f : Nat → Int × Int, f = fun j => if j = 0 then (4, 10) else (2, 10) := ⟨_, rfl⟩
  have HS6 : Hid (Rd (w6.alloc (.cells #[.int .i64 4, .int .i64 10, .int .i64 2, .int .i64 10] 48)) (w6.heap.size + 1) (some ⟨w6.heap.size, 0, none⟩) (2 * 2) (rsc f)) := Lib.hid (rd_new w6 #[.int .i64 4, .int .i64 10, .int .i64 2, .int .i64 10] 48 (rsc f) (fun j hj => by
    subst hf
    match j, hj with
    | 0, _ => rfl
    | 1, _ => rfl
    | 2, _ => rfl
    | 3, _ => rfl))
  rw [← hf] at HA6
  clear hf
  have HQ6 := Lib.hid ((HA6.out.alloc (Nat.le_refl _) (.cells #[.int .i64 4, .int .i64 10, .int .i64 2, .int .i64 10] 48)).mono (Nat.le_succ _))
  have HX6 := Lib.hid (same_16 A (some ⟨w6.heap.size, 0, none⟩) 2 2 2 (w6.heap.size + 1) f _ (by omega) HQ6.out HS6.out)
  go_wp2_with fail
  refine HX6.out.mono ?_
  rintro e w7 ⟨rfl, hq⟩
  have hbl : Below w6.heap.size w6 w7 := below_quiet (below_alloc _ _) hq
  have HC7 := Lib.hid (HC6.out.below hbl HC6.out.lt)
  have HP7 := Lib.hid (HP6.out.below hbl HP6.out.lt)
  have HB7 := Lib.hid (HB6.out.trans (hbl.mono HB6.out.size))
  clear hbl hq HC6 HP6 HB6 HA6 HS6 HQ6 HX6
  have c0 : w7.cell? ⟨cb, 0, none⟩ = some (.int .i64 10) := HC7.out.cell 0
  have c1 : w7.cell? ⟨cb, 1, none⟩ = some (.int .i64 4) := HC7.out.cell 1
  have c2 : w7.cell? ⟨cb, 2, none⟩ = some (.int .i64 2) := HC7.out.cell 2
  have c3 : w7.cell? ⟨cb, 3, none⟩ = some (.slice (some ⟨b, 0, none⟩) 1 1) := HC7.out.cell 3
  go_wp2_with fail
  refine (nxt_c 10 4 2 3 5 4 6 0 b w7 HP7.out 10 5 5 _ ex_nx.1).mono ?_
  rintro e w8 ⟨rfl, hbl⟩
  have HC8 := Lib.hid (HC7.out.below hbl HC7.out.lt)
  have HP8 := Lib.hid (HP7.out.below hbl HP7.out.lt)
  have HB8 := Lib.hid (HB7.out.trans (hbl.mono HB7.out.size))
  clear hbl HC7 HP7 HB7 c0 c1 c2 c3
  have c0 : w8.cell? ⟨cb, 0, none⟩ = some (.int .i64 10) := HC8.out.cell 0
  have c1 : w8.cell? ⟨cb, 1, none⟩ = some (.int .i64 4) := HC8.out.cell 1
  have c2 : w8.cell? ⟨cb, 2, none⟩ = some (.int .i64 2) := HC8.out.cell 2
  have c3 : w8.cell? ⟨cb, 3, none⟩ = some (.slice (some ⟨b, 0, none⟩) 1 1) := HC8.out.cell 3
  go_wp2_with fail
  refine (nxt_c 10 4 2 3 5 4 6 0 b w8 HP8.out 10 4 5 _ ex_nx.2.1).mono ?_
  rintro e w9 ⟨rfl, hbl⟩
  have HC9 := Lib.hid (HC8.out.below hbl HC8.out.lt)
  have HP9 := Lib.hid (HP8.out.below hbl HP8.out.lt)
  have HB9 := Lib.hid (HB8.out.trans (hbl.mono HB8.out.size))
  clear hbl HC8 HP8 HB8 c0 c1 c2 c3
  have c0 : w9.cell? ⟨cb, 0, none⟩ = some (.int .i64 10) := HC9.out.cell 0
  have c1 : w9.cell? ⟨cb, 1, none⟩ = some (.int .i64 4) := HC9.out.cell 1
  have c2 : w9.cell? ⟨cb, 2, none⟩ = some (.int .i64 2) := HC9.out.cell 2
  have c3 : w9.cell? ⟨cb, 3, none⟩ = some (.slice (some ⟨b, 0, none⟩) 1 1) := HC9.out.cell 3
  have c3' : w9.cell? ⟨cb, 2 + 1, none⟩ = some (.slice (some ⟨b, 0, none⟩) 1 1) := HC9.out.cell 3
  have q4 : w9.cell? ⟨b, 4, none⟩ = some (.int .i64 0) := HP9.out.cell 4
  have q5 := HP9.out.frozen 4
  go_upto_region 11 with fail
  obtain ⟨w10, hw10⟩ : ∃ zz, zz = w9.setCell ⟨b, 4, none⟩ (.int .i64 1) := ⟨_, rfl⟩
  have HP10 : Hid (Blk w10 b 50 #[.int .i64 3, .int .i64 5, .int .i64 4, .int .i64 6, .int .i64 1]) := Lib.hid (hw10 ▸ HP9.out.set_ 4 (.int .i64 1))
  have HC10 : Hid (Blk w10 cb 26 #[.int .i64 10, .int .i64 4, .int .i64 2, .slice (some ⟨b, 0, none⟩) 1 1]) := Lib.hid (hw10 ▸ HC9.out.far (p := ⟨b, 4, none⟩) (show cb ≠ b by omega) _)
  have HB10 : Hid (Below w.heap.size w w10) := Lib.hid (hw10 ▸ HB9.out.setCell (p := ⟨b, 4, none⟩) hb0 _)
  rw [← hw10]
  clear hw10 HP9 HC9 HB9 c0 c1 c2 c3 c3' q4 q5
  have c0 : w10.cell? ⟨cb, 0, none⟩ = some (.int .i64 10) := HC10.out.cell 0
  have c1 : w10.cell? ⟨cb, 1, none⟩ = some (.int .i64 4) := HC10.out.cell 1
  have c2 : w10.cell? ⟨cb, 2, none⟩ = some (.int .i64 2) := HC10.out.cell 2
  have c3 : w10.cell? ⟨cb, 3, none⟩ = some (.slice (some ⟨b, 0, none⟩) 1 1) := HC10.out.cell 3
  go_wp2_with fail
  refine (nxt_c 10 4 2 3 5 4 6 1 b w10 HP10.out 10 4 5 _ ex_nx.2.2).mono ?_
  rintro e w11 ⟨rfl, hbl⟩
  have HB11 := Lib.hid (HB10.out.trans (hbl.mono HB10.out.size))
  clear hbl HC10 HP10 HB10 c0 c1 c2 c3
  go_wp2_with fail
  refine (one_32 _).mono ?_
  rintro e w12 ⟨d, rfl, hd0, hp, hbl⟩
  have HB12 := Lib.hid (HB11.out.trans (hbl.mono HB11.out.size))
  have HP12 := Lib.hid hp
  have hdw : w.heap.size ≤ d := Nat.le_trans HB11.out.size hd0
  clear hbl hp HB11
  go_upto_region 15 with fail
  obtain ⟨db, hdb⟩ : ∃ cb, cb = w12.heap.size := ⟨_, rfl⟩
  obtain ⟨w13, hw13⟩ : ∃ zz, zz = w12.alloc (.cells #[.int .i64 10, .int .i64 4, .int .i64 2, .slice (some ⟨d, 0, none⟩) 1 1] 26) := ⟨_, rfl⟩
  have HD13 : Hid (Blk w13 db 26 #[.int .i64 10, .int .i64 4, .int .i64 2, .slice (some ⟨d, 0, none⟩) 1 1]) := Lib.hid (hw13 ▸ hdb ▸ Blk.new _ _ _)
  have HP13 : Hid (Blk w13 d 50 #[.int .i64 3, .int .i64 5, .int .i64 4, .int .i64 6, .int .i64 0]) := Lib.hid (hw13 ▸ HP12.out.alloc _)
  have HB13 : Hid (Below w.heap.size w w13) := Lib.hid (hw13 ▸ HB12.out.alloc HB12.out.size _)
  have hdbw : w.heap.size ≤ db := hdb ▸ HB12.out.size
  have hddb : d < db := hdb ▸ HP12.out.lt
  rw [← hw13, ← hdb]
  clear hw13 hdb HB12 HP12
  have c2 : w13.cell? ⟨db, 2, none⟩ = some (.int .i64 2) := HD13.out.cell 2
  have c2' : w13.cell? ⟨db, 1 + 1, none⟩ = some (.int .i64 2) := HD13.out.cell 2
  have f2 := HD13.out.frozen 2
  go_upto_region 16 with fail
  obtain ⟨w14, hw14⟩ : ∃ zz, zz = w13.setCell ⟨db, 2, none⟩ (.int .i64 4) := ⟨_, rfl⟩
  have HD14 : Hid (Blk w14 db 26 #[.int .i64 10, .int .i64 4, .int .i64 4, .slice (some ⟨d, 0, none⟩) 1 1]) := Lib.hid (hw14 ▸ HD13.out.set_ 2 (.int .i64 4))
  have HP14 : Hid (Blk w14 d 50 #[.int .i64 3, .int .i64 5, .int .i64 4, .int .i64 6, .int .i64 0]) := Lib.hid (hw14 ▸ HP13.out.far (p := ⟨db, 2, none⟩) (show d ≠ db by omega) _)
  have HB14 : Hid (Below w.heap.size w w14) := Lib.hid (hw14 ▸ HB13.out.setCell (p := ⟨db, 2, none⟩) hdbw _)
  rw [← hw14]
  clear hw14 HD13 HP13 HB13 c2 c2' f2
  have c0 : w14.cell? ⟨db, 0, none⟩ = some (.int .i64 10) := HD14.out.cell 0
  have c1 : w14.cell? ⟨db, 1, none⟩ = some (.int .i64 4) := HD14.out.cell 1
  have c2 : w14.cell? ⟨db, 2, none⟩ = some (.int .i64 4) := HD14.out.cell 2
  have c3 : w14.cell? ⟨db, 3, none⟩ = some (.slice (some ⟨d, 0, none⟩) 1 1) := HD14.out.cell 3
  go_wp2_with fail
  refine (spo_c 10 4 4 3 5 4 6 0 d w14 HP14.out 4 4 3 0 ex_sp.1.1 ex_sp.1.2).mono ?_
  rintro e w15 ⟨rfl, hbl⟩
  have HD15 := Lib.hid (HD14.out.below hbl HD14.out.lt)
  have HP15 := Lib.hid (HP14.out.below hbl HP14.out.lt)
  have HB15 := Lib.hid (HB14.out.trans (hbl.mono HB14.out.size))
  clear hbl HD14 HP14 HB14 c0 c1 c2 c3
  have c3 : w15.cell? ⟨db, 2 + 1, none⟩ = some (.slice (some ⟨d, 0, none⟩) 1 1) := HD15.out.cell 3
  have c3' : w15.cell? ⟨db, 3, none⟩ = some (.slice (some ⟨d, 0, none⟩) 1 1) := HD15.out.cell 3
  have q1 : w15.cell? ⟨d, 1, none⟩ = some (.int .i64 5) := HP15.out.cell 1
  have q3 : w15.cell? ⟨d, 3, none⟩ = some (.int .i64 6) := HP15.out.cell 3
  have f1 := HP15.out.frozen 1
  have f3 := HP15.out.frozen 3
  have hdne : db ≠ d := by omega
  go_upto_region 17 with fail
  go_cut [20] (fun s20 wc => s20 = .int .i64 3 ∧ Hid (Blk wc d 50 #[.int .i64 3, .int .i64 9, .int .i64 4, .int .i64 4, .int .i64 0]) ∧ Hid (Blk wc db 26 #[.int .i64 10, .int .i64 4, .int .i64 4, .slice (some ⟨d, 0, none⟩) 1 1]) ∧ Hid (Below w.heap.size w wc))
  case first =>
    go_region
    all_goals
      go_wp2_with fail
      go_meet
      case rel =>
        first
          | exact ⟨rfl, Lib.hid (((HP15.out.drewN 1).set_ 1 (.int .i64 9)).set_ 3 (.int .i64 4)), Lib.hid (((HD15.out.drewN 1).far (p := ⟨d, 1, none⟩) hdne _).far (p := ⟨d, 3, none⟩) hdne _), Lib.hid ((HB15.out.drew.setCell (p := ⟨d, 1, none⟩) hdw _).setCell (p := ⟨d, 3, none⟩) hdw _)⟩
          | exact ⟨rfl, Lib.hid (((HP15.out.set_ 1 (.int .i64 9)).set_ 3 (.int .i64 4)).drewN 1), Lib.hid (((HD15.out.far (p := ⟨d, 1, none⟩) hdne _).far (p := ⟨d, 3, none⟩) hdne _).drewN 1), Lib.hid (((HB15.out.setCell (p := ⟨d, 1, none⟩) hdw _).setCell (p := ⟨d, 3, none⟩) hdw _).drew)⟩
  case rest =>
    obtain ⟨rfl, HP16, HD16, HB16⟩ := hcut
    obtain ⟨w16, hyy⟩ : ∃ y, y = wc := ⟨_, rfl⟩
    subst hyy
    clear HP15 HD15 HB15 c3 c3' q1 q3 f1 f3
    have c0 : w16.cell? ⟨db, 0, none⟩ = some (.int .i64 10) := HD16.out.cell 0
    have c1 : w16.cell? ⟨db, 1, none⟩ = some (.int .i64 4) := HD16.out.cell 1
    have c2 : w16.cell? ⟨db, 2, none⟩ = some (.int .i64 4) := HD16.out.cell 2
    have c3 : w16.cell? ⟨db, 3, none⟩ = some (.slice (some ⟨d, 0, none⟩) 1 1) := HD16.out.cell 3
    go_wp2_with fail
    refine (spo_c 10 4 4 3 9 4 4 0 d w16 HP16.out 10 4 9 0 ex_sp.2.1 ex_sp.2.2).mono ?_
    rintro e w17 ⟨rfl, hbl⟩
    have HB17 := Lib.hid (HB16.out.trans (hbl.mono HB16.out.size))
    clear hbl HD16 HP16 HB16 c0 c1 c2 c3
    go_wp2_with fail
    refine (one_32 _).mono ?_
    rintro e w18 ⟨g, rfl, hg0, hp, hbl⟩
    have HB18 := Lib.hid (HB17.out.trans (hbl.mono HB17.out.size))
    have HP18 := Lib.hid hp
    clear hbl hp HB17
    have HX18 : Hid (Calls Try.prog 23 #[.agg #[.int .i64 10, .int .i64 4, .int .i64 2, .slice (some ⟨g, 0, none⟩) 1 1], .slice (some ⟨w18.heap.size, 0, none⟩) 1 1] (w18.alloc (.cells #[.int .i64 1] 3)) fun e w' => e = .returned (.tuple #[.int .i64 4, .bool true, .int .i64 0]) ∧ Below w18.heap.size w18 w') := Lib.hid (by
      have h1 := rd_new w18 #[.int .i64 1] 3 (fun _ => .int .i64 1) (fun j hj => by
        match j, hj with
        | 0, _ => rfl)
      have h2 := Firm_23 (cp := 10) (st := 4) (fl := 2) (pc := 1) (w18.heap.size + 1) 1 1 (some ⟨w18.heap.size, 0, none⟩) (fun _ => 1) (w18.alloc (.cells #[.int .i64 1] 3)) (by omega) (by omega) (by simp) ((per_blk (HP18.out.alloc (.cells #[.int .i64 1] 3))).mono (by have := HP18.out.lt; omega)) h1
      rw [ex_fi] at h2
      exact h2.mono fun e w' h => ⟨h.1, (below_alloc _ _).trans (h.2.mono (by simp))⟩)
    go_wp2_with fail
    refine HX18.out.mono ?_
    rintro e w19 ⟨rfl, hbl⟩
    have HB19 := Lib.hid (HB18.out.trans (hbl.mono HB18.out.size))
    clear hbl HX18 HP18 HB18
    have HX19 : Hid (Calls Try.prog 23 #[.agg #[.int .i64 5, .int .i64 0, .int .i64 1, .slice none 0 0], .slice none 0 0] w19 fun e w' => e = .returned (.tuple #[.int .i64 0, .bool false, .int .i64 0]) ∧ Below w19.heap.size w19 w') := Lib.hid (by
      have h2 := Firm_23 (cp := 5) (st := 0) (fl := 1) (n := 0) (pc := 0) (PA := none) (lo := fun _ => 0) (hi := fun _ => 0) (dm := fun _ => 0) (ou := fun _ => 0) (sp := fun _ => 0) w19.heap.size 0 0 none (fun _ => 0) w19 (by omega) (by omega) (Nat.le_refl _) Rd.nil Rd.nil
      rw [ex_fi0] at h2
      exact h2)
    go_wp2_with fail
    refine HX19.out.mono ?_
    rintro e w20 ⟨rfl, hbl⟩
    have HB20 := Lib.hid (HB19.out.trans (hbl.mono HB19.out.size))
    clear hbl HX19 HB19
    have HX20 : Hid (∀ W, Calls Try.prog 14 #[.agg #[.int .i64 0, .int .i64 0, .int .i64 0, .slice none 0 0]] W fun e w' => e = .returned (.int .i64 0) ∧ Below W.heap.size W w') := Lib.hid fun W => by
      have h2 := Check_14 (cp := 0) (st := 0) (fl := 0) (n := 0) (pc := 0) (PA := none) (lo := fun _ => 0) (hi := fun _ => 0) (dm := fun _ => 0) (ou := fun _ => 0) (sp := fun _ => 0) W.heap.size W (by omega) (Nat.le_refl _) Rd.nil
      rw [(ex_chk0 _).1] at h2
      exact h2
    have HX21 : Hid (∀ W, Calls Try.prog 14 #[.agg #[.int .i64 0, .int .i64 0, .int .i64 1, .slice none 0 0]] W fun e w' => e = .returned (.int .i64 390) ∧ Below W.heap.size W w') := Lib.hid fun W => by
      have h2 := Check_14 (cp := 0) (st := 0) (fl := 1) (n := 0) (pc := 0) (PA := none) (lo := fun _ => 0) (hi := fun _ => 0) (dm := fun _ => 0) (ou := fun _ => 0) (sp := fun _ => 0) W.heap.size W (by omega) (Nat.le_refl _) Rd.nil
      rw [(ex_chk0 _).2] at h2
      exact h2
    go_wp2_with fail
    refine (HX20.out _).mono ?_
    rintro e w21 ⟨rfl, hbl⟩
    have HB21 := Lib.hid (HB20.out.trans (hbl.mono HB20.out.size))
    clear hbl HB20
    go_wp2_with fail
    refine (HX21.out _).mono ?_
    rintro e w22 ⟨rfl, hbl⟩
    have HB22 := Lib.hid (HB21.out.trans (hbl.mono HB21.out.size))
    clear hbl HB21
    go_wp2_with fail
    go_ret
    exact ⟨rfl, HB22.out⟩
end Go.Proofs.Ytnmocdfogdcliaa
