/- Law 40's last: a diary that nobody made has no deeds, and no more are kept than may be. -/
import Derived.Test.YtbbbodfikgdhcaaGreatDoorSnap3
namespace Go.Proofs.YtbbbodfikgdhcaaGreatDoor
open Go Go.RowKit

theorem awake40 (w : World) : Calls Tryz.prog 36 #[] w fun e w' => e = .returned (.bool true) ∧ Fr No w w' := by
  go_enter Tryz.func36, Tryz.ntmps36
  go_wp2_with fail
  refine (diaryNew 2 (by decide) (by decide) _).mono ?_
  rintro e w1 ⟨d, sb, L, rfl, hd, hs, hc, hL, hsb, hdz, hf1⟩
  have Hd := Lib.hid hd
  have HF1 := Lib.hid hf1
  clear hd hs hc hL hf1
  go_wp2_with fail
  refine (bytes_new d sb _ Hd.out).mono ?_
  rintro e w2 ⟨g, cap, rfl, ho, hf2⟩
  have hcb := run_convert_bytes_back w2 65 9 5 ⟨g, 0, none⟩ cap [66, 82, 84, 49, 2, 0] Tryz.underlying65 Tryz.underlying5 Tryz.underlying9 (fun j hj => by
    have h6 : j < 6 := hj
    refine ho.cells rfl j _ ?_
    match j, h6 with
    | 0, _ => rfl
    | 1, _ => rfl
    | 2, _ => rfl
    | 3, _ => rfl
    | 4, _ => rfl
    | 5, _ => rfl)
  have HF2 := Lib.hid (HF1.out.then hf2)
  clear ho hf2
  simp only [List.length_cons, List.length_nil] at hcb
  go_wp2_with fail
  go_ret
  exact ⟨rfl, HF2.out⟩

theorem DEnv.frNo {w w' : World} {B d sb k : Nat} {nodes : Int} {L : Locs} {s : St} {v : Value} {xs : List Value} (h : DEnv w B d sb nodes L s k v xs) (hf : Fr No w w') : DEnv w' B d sb nodes L s k v xs :=
  ⟨h.diary.fr hf id, h.sched.fr hf id, h.core.frNo hf, own_frB h.deeds hf (fun _ _ => id), h.low.1, h.low.2.1, Nat.le_trans h.low.2.2 hf.size⟩

set_option maxHeartbeats 1000000 in
set_option maxRecDepth 100000 in
theorem snapNobody40 (n : Int) (w : World) : Calls Tryz.prog 5 #[.int .i64 n] w fun e w' => e = .returned (.bool true) ∧ Fr No w w' := by
  have hn : n < 4090 ∨ (4090 ≤ n ∧ 4100 < n) ∨ ∃ N : Nat, n = N ∧ 4090 ≤ N ∧ N ≤ 4100 := by
    rcases Int.lt_or_le n 4090 with h | h
    · exact .inl h
    · rcases Int.lt_or_le 4100 n with h2 | h2
      · exact .inr (.inl ⟨h, h2⟩)
      · exact .inr (.inr ⟨n.toNat, by omega, by omega, by omega⟩)
  have Hn := Lib.hid hn
  clear hn
  go_enter Tryz.func5, Tryz.ntmps5
  go_wp2_with fail
  have hz := Blk.new w 57 #[.pointer none, .int .i64 0, .slice none 0 0]
  refine (act_nil _).mono ?_
  rintro e w1 ⟨rfl, hf1⟩
  simp only [Rep.v, Rep.zero]
  have hz1 := hz.frNo hf1
  have hF1 := Lib.hid (((Fr.refl No w).alloc (.cells #[.pointer none, .int .i64 0, .slice none 0 0] 57)).then hf1)
  clear hz hf1
  have HZ1 := Lib.hid hz1
  clear hz1
  go_wp2_with fail
  have hz2 := HZ1.out.alloc (.cells #[.int .i64 0, .int .i64 0, .int .i64 0, .int .i64 0, .int .i64 0, .int .i64 0, .int .i64 0, .int .i64 0, .int .i64 0] 59)
  refine (act_zero w.heap.size _ (hz2.cell 0) hz2.lt).mono ?_
  rintro e w2 ⟨rfl, hf2⟩
  simp only [Rep.v, Rep.zero]
  have HZ2 := Lib.hid (hz2.frNo hf2)
  have hF2 := Lib.hid ((hF1.out.alloc (.cells #[.int .i64 0, .int .i64 0, .int .i64 0, .int .i64 0, .int .i64 0, .int .i64 0, .int .i64 0, .int .i64 0, .int .i64 0] 59)).then hf2)
  clear hz2 hf2 hF1
  go_wp2_with fail
  refine (deeds_nil _).mono ?_
  rintro e w3 ⟨rfl, rfl⟩
  go_wp2_with fail
  have hz3 := HZ2.out.alloc (.cells #[.int .i64 0, .int .i64 0, .int .i64 0, .int .i64 0, .int .i64 0, .int .i64 0, .int .i64 0, .int .i64 0, .int .i64 0] 59)
  refine (bytes_zero w.heap.size _ (hz3.cell 0) hz3.lt).mono ?_
  rintro e w3 ⟨rfl, rfl⟩
  clear hz3
  have hF3 := Lib.hid (hF2.out.alloc (.cells #[.int .i64 0, .int .i64 0, .int .i64 0, .int .i64 0, .int .i64 0, .int .i64 0, .int .i64 0, .int .i64 0, .int .i64 0] 59))
  clear hF2 HZ1 HZ2
  rcases Hn.out with hn | hn | ⟨N, rfl, hn1, hn2⟩
  · clear Hn
    go_wp2_with fail
    refine (awake40 _).mono ?_
    rintro e w4 ⟨rfl, hf4⟩
    go_wp2_with fail
    go_ret
    exact ⟨rfl, hF3.out.then hf4⟩
  · obtain ⟨h1, h2⟩ := hn
    clear Hn
    go_wp2_with fail
    refine (awake40 _).mono ?_
    rintro e w4 ⟨rfl, hf4⟩
    go_wp2_with fail
    go_ret
    exact ⟨rfl, hF3.out.then hf4⟩
  · clear Hn
    go_wp2_with fail
    refine (diaryNew 1 (by decide) (by decide) _).mono ?_
    rintro e w4 ⟨d, sb, L, rfl, hd, hs, hc, hL, hsb, hdz, hf4⟩
    have h0 : w.heap.size ≤ w2.heap.size + 1 := by have := hF3.out.size; simpa using this
    have h4 : w2.heap.size + 1 ≤ w4.heap.size := by have := hf4.size; simpa using this
    have hF4 := Lib.hid (hF3.out.then hf4)
    have hE : DEnv w4 (w2.heap.size + 1) d sb 1 L (.new 1) 0 (.slice none 0 0) [] := ⟨hd, hs, hc, World.ownsRow_nil _ _ _ _, fun i hi => by simpa using hL i hi, by simpa using hdz, h4⟩
    have HE := Lib.hid hE
    clear hd hs hc hL hsb hdz hf4 hF3 hE h4
    go_wp2_with fail
    go_loopw [11] (fun i wr => ∃ (a : Nat) (L : Locs) (v : Value) (xs : List Value), i = .int .i64 ((a : Int) + 1) ∧ a ≤ N ∧ DEnv wr (w2.heap.size + 1) d sb 1 L (.new 1) (min a 4096) v xs ∧ Fr No w wr) (fun i _ => N + 1 - (intOf i).toNat)
    case atStart => exact ⟨0, L, _, _, rfl, by omega, HE.out, hF4.out⟩
    case round =>
      obtain ⟨a, L', v, xs, rfl, ha, hE, hF⟩ := hrel
      have HE2 := Lib.hid hE
      have HF := Lib.hid hF
      clear hE hF HE hF4
      by_cases hlt : a < N
      · by_cases hm : a < 4096
        · have hmin : min a 4096 = a := by omega
          rw [hmin] at HE2
          have hd1 : (a : Int) + 1 ≤ 4096 := by omega
          go_wp2_with fail
          refine (act_load (w2.heap.size + 1) d sb 1 L' (.new 1) a v xs _ HE2.out hm (by simp [St.new]) rfl).mono ?_
          rintro e w5 ⟨rfl, L5, v5, xs5, hE5, hF5⟩
          have HE5 := Lib.hid hE5
          have HF5 := Lib.hid (HF.out.trans hF5 (H := No) (fun _ x => x) (fun i hi h => by omega))
          simp only [Rep.v, St.load, Rep.zero, St.new]
          clear hE5 hF5
          go_wp2_with fail
          go_roundw
          case rel => exact ⟨a + 1, L5, v5, xs5, by go_num, by omega, by rw [show min (a + 1) 4096 = a + 1 from by omega]; exact HE5.out.frNo ((Fr.refl No _).alloc _), HF5.out.alloc _⟩
          case measure => simp [intOf]; omega
        · have hmin : min a 4096 = 4096 := by omega
          rw [hmin] at HE2
          have hd1 : ¬ (a : Int) + 1 ≤ 4096 := by omega
          go_wp2_with fail
          refine (act_full (w2.heap.size + 1) d sb 1 L' (.new 1) 4096 v xs 11 _ HE2.out (by decide) (by decide)).mono ?_
          rintro e w5 ⟨rfl, hF5⟩
          have HE5 := Lib.hid (HE2.out.frNo hF5)
          have HF5 := Lib.hid (HF.out.then hF5)
          simp only [Rep.v, Rep.zero]
          clear hF5
          go_wp2_with fail
          go_roundw
          case rel => exact ⟨a + 1, L', v, xs, by go_num, by omega, by rw [show min (a + 1) 4096 = 4096 from by omega]; exact HE5.out.frNo ((Fr.refl No _).alloc _), HF5.out.alloc _⟩
          case measure => simp [intOf]; omega
      · have hge : ¬ (a : Int) + 1 ≤ N := by omega
        go_wp2_with fail
        refine (awake40 _).mono ?_
        rintro e w5 ⟨rfl, hf5⟩
        go_wp2_with fail
        go_ret
        exact ⟨rfl, HF.out.then hf5⟩
end Go.Proofs.YtbbbodfikgdhcaaGreatDoor
