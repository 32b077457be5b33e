/- A new diary as bytes. -/
import Derived.Test.YtbbbodfikgdhcaaGreatDoorSnap2
import Derived.Laws.IdiomStrings
import Derived.Lib.SlBytesConst
import Derived.ArgAppend
namespace Go.Proofs.YtbbbodfikgdhcaaGreatDoor
open Go Go.RowKit

theorem infoU8 : (Tryz.prog.info? 5).map (fun i => (i.zero, i.size, i.bytes)) = some (some (.int .u8 0), 1, 1) := by kernel_rfl

set_option maxRecDepth 100000 in
theorem putSmall (B : Nat) (v : Value) (n : Nat) (xs : List Value) (x : Nat) (hx : x < 128) (w : World) (h : w.ownsRow B 5 1 v n xs) (hn : n ≤ 1048576) (hB : B ≤ w.heap.size) :
    Calls Tryz.prog 91 #[v, .int .i64 x] w fun e w' => ∃ g cap, e = .returned (.slice (some ⟨g, 0, none⟩) (n + 1) cap) ∧ w'.ownsRow B 5 1 (.slice (some ⟨g, 0, none⟩) (n + 1) cap) (n + 1) (xs ++ [.int .u8 x]) ∧ Fr (fun i => B ≤ i) w w' := by
  obtain ⟨i, hi, hz, hsz, hby⟩ := info_parts infoU8
  have Hi := Lib.hid hi
  have Hz := Lib.hid hz
  have Hs := Lib.hid hsz
  have Hb := Lib.hid hby
  have H := Lib.hid h
  clear hi hz hsz hby h
  go_enter Tryz.func91, Tryz.ntmps91
  go_wp2_with fail
  go_loopw [0, 1] (fun a b wr => a = v ∧ b = .int .i64 x ∧ wr = w) (fun _ _ _ => 0)
  case atStart => exact ⟨rfl, rfl, rfl⟩
  case round =>
    obtain ⟨rfl, rfl, rfl⟩ := hrel
    go_wp2_with (first
      | (at_builtin; go_loud (refine wpList_append_lies _ rfl _ _ 65 rfl B 5 i _ 1 1 Tryz.underlying65 Hi.out Hz.out Hs.out Hb.out rfl (by decide) _ n xs rfl (H.out.alloc _) ⟨wr.heap.size, 0, none⟩ 1 1 [.int .u8 x] rfl rfl ((Blk.new _ _ _).news rfl) (by simp [Value.oneCell']) (by omega) (by unfold maxLen; omega) (by omega) (by simp; omega) (wr.heap.size + 1) (by simp) ?_)))
    intro g cap w' hown hgrow hat hlt
    have Hown := Lib.hid hown
    have hF : Fr (fun i => B ≤ i) wr w' := (((Fr.refl (fun i => B ≤ i) wr).alloc _).then (Fr.grown hgrow (fun q e => (H.out.lt q e).1)))
    clear hown hgrow hat
    go_wp2_with fail
    go_ret
    exact ⟨g, cap, rfl, Hown.out, hF⟩

set_option maxRecDepth 100000 in
theorem putGrow (g n : Nat) (xs : List Value) (x : Nat) (hx : x < 128) (w : World) (hl : xs.length = n) (hn : n ≤ 1024) (hc : ∀ j u, xs[j]? = some u → w.cell? ((⟨g, 0, none⟩ : Addr).add j) = some u) (hg : g < w.heap.size) :
    Calls Tryz.prog 91 #[.slice (some ⟨g, 0, none⟩) n n, .int .i64 x] w fun e w' => ∃ g' cap, e = .returned (.slice (some ⟨g', 0, none⟩) (n + 1) cap) ∧ w'.ownsRow w.heap.size 5 1 (.slice (some ⟨g', 0, none⟩) (n + 1) cap) (n + 1) (xs ++ [.int .u8 x]) ∧ Fr No w w' := by
  obtain ⟨i, hi, hz, hsz, hby⟩ := info_parts infoU8
  have Hi := Lib.hid hi
  have Hz := Lib.hid hz
  have Hs := Lib.hid hsz
  have Hb := Lib.hid hby
  have Hc := Lib.hid hc
  have Hl := Lib.hid hl
  clear hi hz hsz hby hc hl
  go_enter Tryz.func91, Tryz.ntmps91
  go_wp2_with fail
  go_loopw [0, 1] (fun a b wr => a = .slice (some ⟨g, 0, none⟩) n n ∧ b = .int .i64 x ∧ wr = w) (fun _ _ _ => 0)
  case atStart => exact ⟨rfl, rfl, rfl⟩
  case round =>
    obtain ⟨rfl, rfl, rfl⟩ := hrel
    go_wp2_with (first
      | (at_builtin; go_loud (refine wpList_append_grows _ rfl _ _ 65 rfl 5 i _ 1 1 Tryz.underlying65 Hi.out Hz.out Hs.out Hb.out rfl (by decide) (some ⟨g, 0, none⟩) n n xs rfl (by simp) (by have := Hl.out; omega) ?_ ⟨wr.heap.size, 0, none⟩ 1 1 [.int .u8 x] rfl rfl ((Blk.new _ _ _).news rfl) (by simp [Value.oneCell']) (by omega) (by unfold maxLen; omega) (by omega) ?_)))
    · intro b hb j u hu
      obtain rfl := Option.some.inj hb
      rw [← Hc.out j u hu]
      refine Fr.cell (F := No) ((Fr.refl No wr).alloc _) ?_ (fun x => x)
      rw [Addr.add_lit]
      exact hg
    intro v' w' hown hgrow
    obtain ⟨g', cap, rfl, _, _⟩ := hown.form (by omega)
    have Hown := Lib.hid (own_mono (base' := wr.heap.size) hown (by simp))
    have hF : Fr No wr w' := (((Fr.refl No wr).alloc _).then (Fr.grown hgrow (fun q e => by cases e)))
    clear hown hgrow
    go_wp2_with fail
    go_ret
    exact ⟨g', cap, rfl, Hown.out, hF⟩

theorem bytes_zero (d : Nat) (w : World) (h : w.cell? ⟨d, 0, none⟩ = some (.pointer none)) (hz : d < w.heap.size) : Calls Tryz.prog 35 #[.pointer (some ⟨d, 0, none⟩)] w fun e w' => e = .returned (.slice none 0 0) ∧ w = w' := by
  go_enter Tryz.func35, Tryz.ntmps35
  go_wp2_with fail
  refine (dnone_zero d _ h hz).mono ?_
  rintro e w1 ⟨rfl, rfl⟩
  go_wp2_with fail
  go_ret
  exact ⟨rfl, rfl⟩
theorem deeds_nil (w : World) : Calls Tryz.prog 34 #[.pointer none] w fun e w' => e = .returned (.slice none 0 0) ∧ w = w' := by
  go_enter Tryz.func34, Tryz.ntmps34
  go_wp2_with fail
  refine (dnone_nil _).mono ?_
  rintro e w1 ⟨rfl, rfl⟩
  go_wp2_with fail
  go_ret
  exact ⟨rfl, rfl⟩

set_option maxRecDepth 100000 in
theorem bytes_new (d sb : Nat) (w : World) (h : DiaryAt w d sb 2 (.slice none 0 0)) :
    Calls Tryz.prog 35 #[.pointer (some ⟨d, 0, none⟩)] w fun e w' => ∃ g cap, e = .returned (.slice (some ⟨g, 0, none⟩) 6 cap) ∧ w'.ownsRow w.heap.size 5 1 (.slice (some ⟨g, 0, none⟩) 6 cap) 6 [.int .u8 66, .int .u8 82, .int .u8 84, .int .u8 49, .int .u8 2, .int .u8 0] ∧ Fr No w w' := by
  obtain ⟨c0, c1, c2, c3, c4⟩ := h.facts
  have H := Lib.hid h
  clear h
  have hcv := Lib.run_convert_bytes_const w 65 5 #[.int .u8 66, .int .u8 82, .int .u8 84, .int .u8 49] 4 4 Tryz.underlying65 Tryz.underlying5
  go_enter Tryz.func35, Tryz.ntmps35
  go_wp2_with fail
  refine (dnone_no d sb 2 _ _ H.out).mono ?_
  rintro e w1 ⟨rfl, rfl⟩
  go_wp2_with fail
  refine (putGrow w.heap.size 4 [.int .u8 66, .int .u8 82, .int .u8 84, .int .u8 49] 2 (by decide) _ rfl (by decide) ?_ (by simp)).mono ?_
  · intro j u hu
    rw [show ((⟨w.heap.size, 0, none⟩ : Addr).add j) = ⟨w.heap.size, j, none⟩ from by rw [Addr.add_lit, Nat.zero_add], World.cell?_alloc_mark]
    simpa using hu
  rintro e w1 ⟨g1, cap1, rfl, ho1, hf1⟩
  have hF1 : Fr No w w1 := ((Fr.refl No w).alloc _).then hf1
  have ho1 := own_mono (base' := w.heap.size) ho1 (by simp)
  have HO1 := Lib.hid ho1
  have HF1 := Lib.hid hF1
  have k2 := (hF1.cell (p := ⟨d, 2, none⟩) c4 (fun x => x)).trans c2
  have k1 := hF1.size
  have k4 : d < w1.heap.size := by omega
  clear ho1 hf1 hF1
  go_wp2_with fail
  refine (putSmall w.heap.size _ _ _ 0 (by decide) _ HO1.out (by decide) k1).mono ?_
  rintro e w2 ⟨g2, cap2, rfl, ho2, hf2⟩
  have hF2 : Fr No w w2 := HF1.out.trans hf2 (fun _ x => x) (fun i hi h => by omega)
  have HO2 := Lib.hid ho2
  have HF2 := Lib.hid hF2
  have m2 := (hF2.cell (p := ⟨d, 2, none⟩) c4 (fun x => x)).trans c2
  have m1 := hF2.size
  have m4 : d < w2.heap.size := by omega
  clear ho2 hf2 hF2
  go_wp2_with fail
  refine wp_loop_rounds 1 ?_
  rw [rounds_succ]
  go_wp2_with fail
  go_ret
  exact ⟨g2, cap2, rfl, HO2.out, HF2.out⟩
end Go.Proofs.YtbbbodfikgdhcaaGreatDoor
