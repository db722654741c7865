/- Contracts of Check, ask and asked. -/
import Derived.Test.YtbojjhdcmogjdaaRead
namespace Go.Proofs.Ytbojjhdcmogjdaa
open Go.RowKit

theorem results_row_two {P : Program} {fn : Func} {p u v : Tmp} {ty : TypeId} (h : fn.results = #[.cell p ty, .tmp u, .tmp v]) (tmps : Array Value) (w : World) (g : Nat) (t : TypeId) (cs : Array Value) (fr : Nat × Nat) (d : TypeDesc)
    (hp : tmps.getD p undef = .pointer (some ⟨g, 0, none⟩)) (hg : w.heap[g]? = some (.cells cs t fr))
    (hu : P.underlying ty = some d) (hd : (match d with | .struct _ | .array _ _ => true | _ => false) = true) (hi : (P.info? ty).map (·.size) = some cs.size) :
    (results fn tmps).run P w = .ok (.tuple #[.agg cs, tmps.getD u undef, tmps.getD v undef]) w := by
  have hp' : tmps[p]?.getD undef = .pointer (some ⟨g, 0, none⟩) := by simpa using hp
  simp [results, h, hp', asAddr, run_loadVar_row w g t ty cs fr d hg hu hd hi]

theorem rd_set {w : World} {B m n c L : Nat} {A : Option Addr} {f : Nat → Value} (h : Rd w B A m f) (hL : ∀ q, (Value.slice A n c).ownBlock = some q → L ≤ q) {p : Addr} (hp : p.block < L) (u : Value) : Rd (w.setCell p u) B A m f := fun hm => by
  obtain ⟨b, off, rfl, hb, hc⟩ := h hm
  have h1 := hL b rfl
  refine ⟨b, off, rfl, hb, fun j hj => ?_⟩
  rw [World.cell?_setCell_other _ _ _ _ (fun e => by subst e; simp at hp; omega)]
  exact hc j hj

set_option maxRecDepth 100000 in
theorem Check_13 {SA CA : Option Addr} {sn sc n cc : Nat} {S no hr wi : Nat → Int} {FA RA : Nat → Option Addr} {fn fc rn rc : Nat → Nat} {F R : Nat → Nat → Int} (B : Nat) (w : World) (hs : SmK sn n fn rn) (hB : B ≤ w.heap.size) (hr0 : RdK w B SA sn S CA n no hr wi FA fn fc F RA rn rc R) :
    Calls Try.prog 13 #[(.agg #[.slice SA sn sc, .slice CA n cc])] w fun e w' => e = .returned (.int .i64 (chkE S sn n no hr wi fn F rn R)) ∧ Below w.heap.size w w' := by
  have HX : Hid (∀ W, Below w.heap.size w W → Calls Try.prog 25 #[(.agg #[.slice SA sn sc, .slice CA n cc])] W fun e w' => ReadR W.heap.size (chkE S sn n no hr wi fn F rn R) (fav S 0 sn) (fav S 1 sn) n (dcc wi fn F rn R) e w' ∧ Below W.heap.size W w') := Lib.hid fun W h => read_25 B W hs (Nat.le_trans hB h.size) (hr0.below (h.mono hB))
  clear hs hr0
  generalize (chkE S sn n no hr wi fn F rn R) = E at HX ⊢
  go_enter Try.func13, Try.ntmps13
  go_wp2_with fail
  refine (HX.out _ (below_alloc _ _)).mono ?_
  rintro e w1 ⟨⟨a, b, A, m, c, rfl, _⟩, hb⟩
  go_wp2_with fail
  go_ret
  exact ⟨rfl, (below_alloc _ _).trans (hb.mono (by simp))⟩

/-- the error of asking -/
def askE (E : Int) (sn : Nat) (f : Nat → Int) (m : Nat) (x : Int) : Int := if E ≠ 0 then E else if okS sn f m = false then 520 else if inB 1 x = false then 1 else 0
theorem askE_zero {E : Int} {sn : Nat} {f : Nat → Int} {m : Nat} {x : Int} (h : askE E sn f m x = 0) : E = 0 ∧ okS sn f m = true ∧ inB 1 x = true := by
  unfold askE at h
  split at h
  · rename_i h1; exact absurd h h1
  split at h
  · cases h
  split at h
  · cases h
  rename_i h1 h2 h3
  exact ⟨Decidable.not_not.1 h1, by simpa using h2, by simpa using h3⟩
/-- what ask hands back -/
def AskR (E : Int) (f0 f1 n g : Nat) (D : Nat → Value) (e : Ending) (w' : World) : Prop :=
  ∃ (a b u : Nat) (A : Option Addr) (m c : Nat), e = .returned (.tuple #[.agg #[.int .u64 a, .int .u64 b, .slice A m c], .int .u64 u, .int .i64 E]) ∧ (E = 0 → a = f0 ∧ b = f1 ∧ m = n ∧ u = g ∧ Rd w' w'.heap.size A (n * 3) D)
theorem askR_bad {E : Int} {f0 f1 n g : Nat} {D : Nat → Value} {w' : World} {a b u m c : Nat} {A : Option Addr} (hE : E ≠ 0) : AskR E f0 f1 n g D (.returned (.tuple #[.agg #[.int .u64 a, .int .u64 b, .slice A m c], .int .u64 u, .int .i64 E])) w' :=
  ⟨a, b, u, A, m, c, rfl, fun h => absurd h hE⟩

set_option maxRecDepth 100000 in
set_option maxHeartbeats 4000000 in
theorem asked_37 {SA CA : Option Addr} {sn sc n cc : Nat} {S no hr wi : Nat → Int} {FA RA : Nat → Option Addr} {fn fc rn rc : Nat → Nat} {F R : Nat → Nat → Int} (B : Nat) (A : Option Addr) (m c : Nat) (f : Nat → Int) (x : Int) (w : World) (hs : SmK sn n fn rn) (hm : m ≤ 1000) (hB : B ≤ w.heap.size) (hr0 : RdK w B SA sn S CA n no hr wi FA fn fc F RA rn rc R) (hf : Rd w B A m (fun j => .int .i64 (f j))) :
    Calls Try.prog 37 #[(.agg #[.slice SA sn sc, .slice CA n cc]), .slice A m c, .int .i64 x] w fun e w' => e = .returned (.int .i64 (askE (chkE S sn n no hr wi fn F rn R) sn f m x)) ∧ Below w.heap.size w w' := by
  have HX : Hid (∀ W, Below w.heap.size w W → Calls Try.prog 14 #[(.agg #[.slice SA sn sc, .slice CA n cc])] W fun e w' => e = .returned (.int .i64 (chkE S sn n no hr wi fn F rn R)) ∧ Below W.heap.size W w') := Lib.hid fun W h => ref_Check_14 B W hs (Nat.le_trans hB h.size) (hr0.below (h.mono hB))
  have HS : Hid (∀ W, Below w.heap.size w W → Calls Try.prog 31 #[(.agg #[.slice SA sn sc, .slice CA n cc]), .slice A m c] W fun e w' => e = .returned (.bool (okS sn f m)) ∧ Below W.heap.size W w') := Lib.hid fun W h => Set_31 SA CA A sn sc n cc m c B f W (by have := hs.1; omega) hm (Nat.le_trans hB h.size) (hf.below (h.mono hB))
  clear hs hr0 hf
  generalize (chkE S sn n no hr wi fn F rn R) = E at HX ⊢
  go_enter Try.func37, Try.ntmps37
  go_wp2_with fail
  obtain ⟨w0, hw0⟩ : ∃ zz, zz = w.alloc (.cells #[.slice SA sn sc, .slice CA n cc] 25) := ⟨_, rfl⟩
  have HK0 : Hid (Blk w0 w.heap.size 25 #[.slice SA sn sc, .slice CA n cc]) := Lib.hid (hw0 ▸ Blk.new _ _ _)
  have HB0 : Hid (Below w.heap.size w w0) := Lib.hid (hw0 ▸ below_alloc _ _)
  rw [← hw0]
  clear hw0
  have hs0 := HK0.out.lt
  have hz0 := HB0.out.size
  have cb0 : w0.cell? ⟨w.heap.size, 0, none⟩ = some (.slice SA sn sc) := HK0.out.cell 0
  have cb1 : w0.cell? ⟨w.heap.size, 1, none⟩ = some (.slice CA n cc) := HK0.out.cell 1
  go_wp2_with fail
  refine (HX.out _ HB0.out).mono ?_
  rintro e w1 ⟨rfl, hb⟩
  have HK1 := Lib.hid (HK0.out.below hb hs0)
  have HB1 := Lib.hid (HB0.out.trans (hb.mono hz0))
  clear hb HK0 HB0 cb0 cb1
  have hz1 := HB1.out.size
  have cb0 : w1.cell? ⟨w.heap.size, 0, none⟩ = some (.slice SA sn sc) := HK1.out.cell 0
  have cb1 : w1.cell? ⟨w.heap.size, 1, none⟩ = some (.slice CA n cc) := HK1.out.cell 1
  by_cases hE : E = 0
  · subst hE
    go_wp2_with fail
    refine (HS.out _ HB1.out).mono ?_
    rintro e w2 ⟨rfl, hb⟩
    have HB2 := Lib.hid (HB1.out.trans (hb.mono hz1))
    clear hb
    cases h1 : okS sn f m
    · have HV : Hid (askE 0 sn f m x = 520) := Lib.hid (by simp [askE, h1])
      clear h1
      go_wp2_with fail
      go_ret
      exact ⟨ret_int HV.out.symm, HB2.out⟩
    go_wp2_with fail
    refine (within_0 _ _ _).mono ?_
    rintro e w' ⟨rfl, rfl⟩
    cases h2 : inB 1 x
    · have HV : Hid (askE 0 sn f m x = 1) := Lib.hid (by simp [askE, h1, h2])
      clear h1 h2
      go_wp2_with fail
      go_ret
      exact ⟨ret_int HV.out.symm, HB2.out⟩
    · have HV : Hid (askE 0 sn f m x = 0) := Lib.hid (by simp [askE, h1, h2])
      clear h1 h2
      go_wp2_with fail
      go_ret
      exact ⟨ret_int HV.out.symm, HB2.out⟩
  · have HV : Hid (askE E sn f m x = E) := Lib.hid (by simp [askE, hE])
    have hE' : (E != 0) = true := by simpa using hE
    go_wp2_with fail
    go_ret
    exact ⟨ret_int HV.out.symm, HB1.out⟩

set_option maxRecDepth 100000 in
set_option maxHeartbeats 4000000 in
theorem ask_33 {SA CA : Option Addr} {sn sc n cc : Nat} {S no hr wi : Nat → Int} {FA RA : Nat → Option Addr} {fn fc rn rc : Nat → Nat} {F R : Nat → Nat → Int} (B : Nat) (A : Option Addr) (m c : Nat) (f : Nat → Int) (x : Int) (w : World) (hs : SmK sn n fn rn) (hm : m ≤ 1000) (hB : B ≤ w.heap.size) (hr0 : RdK w B SA sn S CA n no hr wi FA fn fc F RA rn rc R) (hf : Rd w B A m (fun j => .int .i64 (f j))) :
    Calls Try.prog 33 #[(.agg #[.slice SA sn sc, .slice CA n cc]), .slice A m c, .int .i64 x] w fun e w' => AskR (askE (chkE S sn n no hr wi fn F rn R) sn f m x) (fav S 0 sn) (fav S 1 sn) n (mask f m) (dcc wi fn F rn R) e w' ∧ Below w.heap.size w w' := by
  have HX : Hid (∀ W, Below w.heap.size w W → Calls Try.prog 25 #[(.agg #[.slice SA sn sc, .slice CA n cc])] W fun e w' => ReadR W.heap.size (chkE S sn n no hr wi fn F rn R) (fav S 0 sn) (fav S 1 sn) n (dcc wi fn F rn R) e w' ∧ Below W.heap.size W w') := Lib.hid fun W h => read_25 B W hs (Nat.le_trans hB h.size) (hr0.below (h.mono hB))
  have HS : Hid (sn ≤ 32 → ∀ W, Below w.heap.size w W → Calls Try.prog 39 #[.slice A m c, .int .i64 sn] W fun e w' => e = .returned (ofV sn f m) ∧ W = w') := Lib.hid fun h32 W h => of_39 A m c B f sn W h32 (by omega) (hf.below (h.mono hB))
  have HZ : Hid ((chkE S sn n no hr wi fn F rn R) = 0 → sn ≤ 32) := Lib.hid fun h => by
    unfold chkE at h
    split at h
    · cases h
    · omega
  clear hs hr0 hf
  generalize (chkE S sn n no hr wi fn F rn R) = E at HX HZ ⊢
  generalize fav S 0 sn = f0 at HX ⊢
  generalize fav S 1 sn = f1 at HX ⊢
  generalize dcc wi fn F rn R = D at HX ⊢
  go_enter Try.func33, Try.ntmps33
  go_upto_region 1 with fail
  obtain ⟨w0, hw0⟩ : ∃ zz, zz = (w.alloc (.cells #[.slice SA sn sc, .slice CA n cc] 25)).alloc (.cells #[.int .u64 0, .int .u64 0, .slice none 0 0] 52) := ⟨_, rfl⟩
  have HK0 : Hid (Blk w0 w.heap.size 25 #[.slice SA sn sc, .slice CA n cc]) := Lib.hid (hw0 ▸ (Blk.new _ _ _).alloc _)
  have HC0 : Hid (Blk w0 (w.heap.size + 1) 52 #[.int .u64 0, .int .u64 0, .slice none 0 0]) := Lib.hid (hw0 ▸ Blk.new' (by simp))
  have HB0 : Hid (Below w.heap.size w w0) := Lib.hid (by rw [hw0]; (repeat (first | exact Below.refl _ _ | exact below_alloc _ _ | refine Below.alloc ?_ (by simp; omega) _ | refine Below.alloc ?_ (by simp) _)))
  rw [← hw0]
  clear hw0
  have hs0 := HC0.out.lt
  have hz0 := HB0.out.size
  have cb0 : w0.cell? ⟨w.heap.size, 0, none⟩ = some (.slice SA sn sc) := HK0.out.cell 0
  have cb1 : w0.cell? ⟨w.heap.size, 1, none⟩ = some (.slice CA n cc) := HK0.out.cell 1
  go_wp2_with fail
  refine (HX.out _ HB0.out).mono ?_
  rintro e w1 ⟨⟨a, b, A1, m1, c1, rfl, hrd⟩, hb⟩
  have HRD := Lib.hid hrd
  have HK1 := Lib.hid (HK0.out.below hb (by omega))
  have HC1 := Lib.hid (HC0.out.below hb hs0)
  have HB1 := Lib.hid (HB0.out.trans (hb.mono hz0))
  clear hrd hb HK0 HC0 HB0 cb0 cb1
  have hs1 := HC1.out.lt
  have hz1 := HB1.out.size
  have cc0 : w1.cell? ⟨w.heap.size + 1, 0, none⟩ = some (.int .u64 (0 : Nat)) := HC1.out.cell 0
  have cc1 : w1.cell? ⟨w.heap.size + 1, 1, none⟩ = some (.int .u64 (0 : Nat)) := HC1.out.cell 1
  have cc2 : w1.cell? ⟨w.heap.size + 1, 2, none⟩ = some (.slice none 0 0) := HC1.out.cell 2
  have ff0 := HC1.out.frozen 0
  have ff1 := HC1.out.frozen 1
  have ff2 := HC1.out.frozen 2
  go_upto_region 2 with fail
  clear cc0 cc1 cc2 ff0 ff1 ff2
  have HC2 := Lib.hid (((HC1.out.set_ 0 (.int .u64 (a : Nat))).set_ 1 (.int .u64 (b : Nat))).set_ 2 (.slice A1 m1 c1))
  have HK2 := Lib.hid (((HK1.out.far (p := ⟨w.heap.size + 1, 0, none⟩) (by simp) (.int .u64 (a : Nat))).far (p := ⟨w.heap.size + 1, 1, none⟩) (by simp) (.int .u64 (b : Nat))).far (p := ⟨w.heap.size + 1, 2, none⟩) (by simp) (.slice A1 m1 c1))
  have HB2 := Lib.hid (((HB1.out.setCell (p := ⟨w.heap.size + 1, 0, none⟩) (by simp) (.int .u64 (a : Nat))).setCell (p := ⟨w.heap.size + 1, 1, none⟩) (by simp) (.int .u64 (b : Nat))).setCell (p := ⟨w.heap.size + 1, 2, none⟩) (by simp) (.slice A1 m1 c1))
  have hrd2 : E = 0 → a = f0 ∧ b = f1 ∧ m1 = n ∧ Rd (((w1.setCell ⟨w.heap.size + 1, 0, none⟩ (.int .u64 (a : Nat))).setCell ⟨w.heap.size + 1, 1, none⟩ (.int .u64 (b : Nat))).setCell ⟨w.heap.size + 1, 2, none⟩ (.slice A1 m1 c1)) w1.heap.size A1 (n * 3) D ∧ ∀ q, (Value.slice A1 m1 c1).ownBlock = some q → w0.heap.size ≤ q := fun h => by
    obtain ⟨e1, e2, e3, h4, h5⟩ := HRD.out h
    refine ⟨e1, e2, e3, rd_set (rd_set (rd_set h4 h5 ?_ _) h5 ?_ _) h5 ?_ _, h5⟩ <;> (simp; omega)
  have HRD2 := Lib.hid hrd2
  have hzz : (((w1.setCell ⟨w.heap.size + 1, 0, none⟩ (.int .u64 (a : Nat))).setCell ⟨w.heap.size + 1, 1, none⟩ (.int .u64 (b : Nat))).setCell ⟨w.heap.size + 1, 2, none⟩ (.slice A1 m1 c1)).heap.size = w1.heap.size := by simp [World.setCell]
  clear hrd2 HRD HC1 HK1 HB1
  generalize (((w1.setCell ⟨w.heap.size + 1, 0, none⟩ (.int .u64 (a : Nat))).setCell ⟨w.heap.size + 1, 1, none⟩ (.int .u64 (b : Nat))).setCell ⟨w.heap.size + 1, 2, none⟩ (.slice A1 m1 c1)) = w2 at HC2 HK2 HB2 HRD2 hzz ⊢
  rw [← hzz] at HRD2
  clear hzz hs1 hz1
  have hs2 := HC2.out.lt
  have cb0 : w2.cell? ⟨w.heap.size, 0, none⟩ = some (.slice SA sn sc) := HK2.out.cell 0
  have cc0 : w2.cell? ⟨w.heap.size + 1, 0, none⟩ = some (.int .u64 (a : Nat)) := HC2.out.cell 0
  have cc1 : w2.cell? ⟨w.heap.size + 1, 1, none⟩ = some (.int .u64 (b : Nat)) := HC2.out.cell 1
  have cc2 : w2.cell? ⟨w.heap.size + 1, 2, none⟩ = some (.slice A1 m1 c1) := HC2.out.cell 2
  have ff0 := HC2.out.frozen 0
  have ff1 := HC2.out.frozen 1
  have ff2 := HC2.out.frozen 2
  by_cases hE : E = 0
  · subst hE
    have h32 := HZ.out rfl
    go_wp2_with fail
    refine (HS.out h32 _ HB2.out).mono ?_
    rintro e w' ⟨rfl, rfl⟩
    cases h1 : okS sn f m
    · have HE : Hid (askE 0 sn f m x = 520) := Lib.hid (by simp [askE, h1])
      rw [ofV_bad h1]
      clear h1
      go_wp2_with fail
      have hg := ((HC2.out.set_ 0 (.int .u64 (a : Nat))).set_ 1 (.int .u64 (b : Nat))).set_ 2 (.slice A1 m1 c1)
      refine bodyPost_ret (results_row_two rfl _ _ _ 52 _ (0, 0) _ rfl hg Try.underlying52 rfl (by kernel_rfl)) rfl ?_
      exact ⟨HE.out.symm ▸ askR_bad (u := 0) (by decide), ((HB2.out.setCell (p := ⟨w.heap.size + 1, 0, none⟩) (by simp) _).setCell (p := ⟨w.heap.size + 1, 1, none⟩) (by simp) _).setCell (p := ⟨w.heap.size + 1, 2, none⟩) (by simp) _⟩
    rw [ofV_ok h1]
    go_wp2_with fail
    refine (within_41 _ _ _).mono ?_
    rintro e w' ⟨rfl, rfl⟩
    cases h2 : inB 1 x
    · have HE : Hid (askE 0 sn f m x = 1) := Lib.hid (by simp [askE, h1, h2])
      clear h1 h2
      go_wp2_with fail
      have hg := ((HC2.out.set_ 0 (.int .u64 (a : Nat))).set_ 1 (.int .u64 (b : Nat))).set_ 2 (.slice A1 m1 c1)
      refine bodyPost_ret (results_row_two rfl _ _ _ 52 _ (0, 0) _ rfl hg Try.underlying52 rfl (by kernel_rfl)) rfl ?_
      exact ⟨HE.out.symm ▸ askR_bad (u := 0) (by decide), ((HB2.out.setCell (p := ⟨w.heap.size + 1, 0, none⟩) (by simp) _).setCell (p := ⟨w.heap.size + 1, 1, none⟩) (by simp) _).setCell (p := ⟨w.heap.size + 1, 2, none⟩) (by simp) _⟩
    · have HE : Hid (askE 0 sn f m x = 0) := Lib.hid (by simp [askE, h1, h2])
      clear h1 h2
      go_wp2_with fail
      obtain ⟨e1, e2, e3, h4, h5⟩ := HRD2.out (by first | rfl | trivial)
      have hg := ((HC2.out.set_ 0 (.int .u64 (a : Nat))).set_ 1 (.int .u64 (b : Nat))).set_ 2 (.slice A1 m1 c1)
      refine bodyPost_ret (results_row_two rfl _ _ _ 52 _ (0, 0) _ rfl hg Try.underlying52 rfl (by kernel_rfl)) rfl ?_
      refine ⟨⟨a, b, mask f m, A1, m1, c1, by rw [HE.out]; rfl, fun _ => ⟨e1, e2, e3, rfl, ?_⟩⟩, (((HB2.out.setCell (p := ⟨w.heap.size + 1, 0, none⟩) (by simp) _).setCell (p := ⟨w.heap.size + 1, 1, none⟩) (by simp) _).setCell (p := ⟨w.heap.size + 1, 2, none⟩) (by simp) _)⟩
      have hzz : (((w2.setCell ⟨w.heap.size + 1, 0, none⟩ (.int .u64 (a : Nat))).setCell ⟨w.heap.size + 1, 1, none⟩ (.int .u64 (b : Nat))).setCell ⟨w.heap.size + 1, 2, none⟩ (.slice A1 m1 c1)).heap.size = w2.heap.size := by simp [World.setCell]
      rw [hzz]
      refine rd_set (rd_set (rd_set h4 h5 ?_ _) h5 ?_ _) h5 ?_ _ <;> (simp; omega)
  · have HE : Hid (askE E sn f m x = E) := Lib.hid (by simp [askE, hE])
    have hE' : (E != 0) = true := by simpa using hE
    have hne := hE
    clear hE
    go_wp2_with fail
    have hg := ((HC2.out.set_ 0 (.int .u64 (a : Nat))).set_ 1 (.int .u64 (b : Nat))).set_ 2 (.slice A1 m1 c1)
    refine bodyPost_ret (results_row_two rfl _ _ _ 52 _ (0, 0) _ rfl hg Try.underlying52 rfl (by kernel_rfl)) rfl ?_
    exact ⟨HE.out.symm ▸ askR_bad (u := 0) hne, (((HB2.out.setCell (p := ⟨w.heap.size + 1, 0, none⟩) (by simp) _).setCell (p := ⟨w.heap.size + 1, 1, none⟩) (by simp) _).setCell (p := ⟨w.heap.size + 1, 2, none⟩) (by simp) _)⟩
end Go.Proofs.Ytbojjhdcmogjdaa
