/- A clone of a slice that is owned is owned, new, and reads alike. -/
import Derived.Test.YtbbbodfikgdhcaaGreatDoorCore1
import Derived.ProofKit
import Derived.Lib.SliceRun
namespace Go.Proofs.YtbbbodfikgdhcaaGreatDoor
open Go Go.RowKit

theorem infoStep : (Tryz.prog.info? 167).map (fun i => (i.zero, i.size, i.bytes)) = some (some (.agg #[.int .i64 0, .int .i64 0]), 2, 16) := by kernel_rfl
theorem cloneStep (v : Value) (n : Nat) (xs : List Value) (w : World) (h : w.ownsRow 0 167 2 v n xs) (h1 : ∀ u ∈ xs, u.oneCell' = true) (hn : n ≤ 1048576) :
    Calls Tryz.prog 99 #[v] w fun e w' => ∃ v', e = .returned v' ∧ w'.ownsRow w.heap.size 167 2 v' n xs ∧ Fr No w w' := by
  obtain ⟨i, hi, hz, hs, hb⟩ := info_parts infoStep
  rcases h.2 with ⟨rfl, rfl⟩ | ⟨g, cap, cur, rfl, hg, hh, r1, r2, r3, r4⟩
  · have hx : xs = [] := List.eq_nil_of_length_eq_zero (by simpa using h.1)
    subst hx
    clear h h1 hi hz hs hb hn
    have heq := fun u => Lib.run_eql_slice_nil u 92 _ none 0 0 0 0 Tryz.underlying92
    go_enter Tryz.func99, Tryz.ntmps99
    go_wp2
    go_ret
    exact ⟨_, rfl, World.ownsRow_nil _ _ _ _, Fr.refl _ _⟩
  · have hl : xs.length = n * 2 := h.1
    have hc : ∀ j u, xs[j]? = some u → (w.alloc (.cells #[] 167)).cell? ((⟨g, 0, none⟩ : Addr).add j) = some u := fun j u e =>
      (h.alloc (.cells #[] 167)).cells rfl j u e
    have Hc := Lib.hid hc
    have H1 := Lib.hid h1
    have Hi := Lib.hid hi
    have Hz := Lib.hid hz
    have Hs := Lib.hid hs
    have Hb := Lib.hid hb
    have Hl := Lib.hid hl
    have Hn := Lib.hid hn
    clear h hh r1 r2 r3 r4 hc h1 hi hz hs hb hl hn
    have heq := fun u => Lib.run_eql_slice_nil u 92 _ (some ⟨g, 0, none⟩) n cap 0 0 Tryz.underlying92
    go_enter Tryz.func99, Tryz.ntmps99
    go_wp2_with (first
      | (at_builtin; refine wpList_append_own _ rfl _ _ 92 rfl w.heap.size 167 i _ 2 16 Tryz.underlying92 Hi.out Hz.out Hs.out Hb.out rfl (by decide) _ 0 [] rfl (World.ownsRow_made w #[] 0 (Nat.le_refl _) (by decide) rfl) ⟨g, 0, none⟩ n cap xs rfl Hl.out Hc.out H1.out (by have := Hn.out; unfold maxLen; omega) (by have := Hn.out; omega) (by simp) ?_
         intro v' w1 hown hgrow hnil))
    go_ret
    refine ⟨_, rfl, by simpa using hown, ?_⟩
    exact (Fr.refl No w).alloc _ |>.trans (Fr.grown hgrow (F := fun k => w.heap.size ≤ k) (fun k e => by have : w.heap.size = k := Option.some.inj e; omega)) (fun _ x => x) (fun k hk hx => by omega)

theorem infoItem : (Tryz.prog.info? 111).map (fun i => (i.zero, i.size, i.bytes)) = some (some (.agg #[.int .i64 0, .int .i64 0, .int .i64 0, .int .i64 0]), 4, 32) := by kernel_rfl
theorem cloneItem (v : Value) (n : Nat) (xs : List Value) (w : World) (h : w.ownsRow 0 111 4 v n xs) (h1 : ∀ u ∈ xs, u.oneCell' = true) (hn : n ≤ 1048576) :
    Calls Tryz.prog 138 #[v] w fun e w' => ∃ v', e = .returned v' ∧ w'.ownsRow w.heap.size 111 4 v' n xs ∧ Fr No w w' := by
  obtain ⟨i, hi, hz, hs, hb⟩ := info_parts infoItem
  rcases h.2 with ⟨rfl, rfl⟩ | ⟨g, cap, cur, rfl, hg, hh, r1, r2, r3, r4⟩
  · have hx : xs = [] := List.eq_nil_of_length_eq_zero (by simpa using h.1)
    subst hx
    clear h h1 hi hz hs hb hn
    have heq := fun u => Lib.run_eql_slice_nil u 51 _ none 0 0 0 0 Tryz.underlying51
    go_enter Tryz.func138, Tryz.ntmps138
    go_wp2
    go_ret
    exact ⟨_, rfl, World.ownsRow_nil _ _ _ _, Fr.refl _ _⟩
  · have hl : xs.length = n * 4 := h.1
    have hc : ∀ j u, xs[j]? = some u → (w.alloc (.cells #[] 111)).cell? ((⟨g, 0, none⟩ : Addr).add j) = some u := fun j u e =>
      (h.alloc (.cells #[] 111)).cells rfl j u e
    have Hc := Lib.hid hc
    have H1 := Lib.hid h1
    have Hi := Lib.hid hi
    have Hz := Lib.hid hz
    have Hs := Lib.hid hs
    have Hb := Lib.hid hb
    have Hl := Lib.hid hl
    have Hn := Lib.hid hn
    clear h hh r1 r2 r3 r4 hc h1 hi hz hs hb hl hn
    have heq := fun u => Lib.run_eql_slice_nil u 51 _ (some ⟨g, 0, none⟩) n cap 0 0 Tryz.underlying51
    go_enter Tryz.func138, Tryz.ntmps138
    go_wp2_with (first
      | (at_builtin; refine wpList_append_own _ rfl _ _ 51 rfl w.heap.size 111 i _ 4 32 Tryz.underlying51 Hi.out Hz.out Hs.out Hb.out rfl (by decide) _ 0 [] rfl (World.ownsRow_made w #[] 0 (Nat.le_refl _) (by decide) rfl) ⟨g, 0, none⟩ n cap xs rfl Hl.out Hc.out H1.out (by have := Hn.out; unfold maxLen; omega) (by have := Hn.out; omega) (by simp) ?_
         intro v' w1 hown hgrow hnil))
    go_ret
    refine ⟨_, rfl, by simpa using hown, ?_⟩
    exact (Fr.refl No w).alloc _ |>.trans (Fr.grown hgrow (F := fun k => w.heap.size ≤ k) (fun k e => by have : w.heap.size = k := Option.some.inj e; omega)) (fun _ x => x) (fun k hk hx => by omega)

theorem infoChoice : (Tryz.prog.info? 44).map (fun i => (i.zero, i.size, i.bytes)) = some (some (.agg #[.int .i64 0, .int .i64 0]), 2, 16) := by kernel_rfl
theorem cloneChoice (v : Value) (n : Nat) (xs : List Value) (w : World) (h : w.ownsRow 0 44 2 v n xs) (h1 : ∀ u ∈ xs, u.oneCell' = true) (hn : n ≤ 1048576) :
    Calls Tryz.prog 141 #[v] w fun e w' => ∃ v', e = .returned v' ∧ w'.ownsRow w.heap.size 44 2 v' n xs ∧ Fr No w w' := by
  obtain ⟨i, hi, hz, hs, hb⟩ := info_parts infoChoice
  rcases h.2 with ⟨rfl, rfl⟩ | ⟨g, cap, cur, rfl, hg, hh, r1, r2, r3, r4⟩
  · have hx : xs = [] := List.eq_nil_of_length_eq_zero (by simpa using h.1)
    subst hx
    clear h h1 hi hz hs hb hn
    have heq := fun u => Lib.run_eql_slice_nil u 81 _ none 0 0 0 0 Tryz.underlying81
    go_enter Tryz.func141, Tryz.ntmps141
    go_wp2
    go_ret
    exact ⟨_, rfl, World.ownsRow_nil _ _ _ _, Fr.refl _ _⟩
  · have hl : xs.length = n * 2 := h.1
    have hc : ∀ j u, xs[j]? = some u → (w.alloc (.cells #[] 44)).cell? ((⟨g, 0, none⟩ : Addr).add j) = some u := fun j u e =>
      (h.alloc (.cells #[] 44)).cells rfl j u e
    have Hc := Lib.hid hc
    have H1 := Lib.hid h1
    have Hi := Lib.hid hi
    have Hz := Lib.hid hz
    have Hs := Lib.hid hs
    have Hb := Lib.hid hb
    have Hl := Lib.hid hl
    have Hn := Lib.hid hn
    clear h hh r1 r2 r3 r4 hc h1 hi hz hs hb hl hn
    have heq := fun u => Lib.run_eql_slice_nil u 81 _ (some ⟨g, 0, none⟩) n cap 0 0 Tryz.underlying81
    go_enter Tryz.func141, Tryz.ntmps141
    go_wp2_with (first
      | (at_builtin; refine wpList_append_own _ rfl _ _ 81 rfl w.heap.size 44 i _ 2 16 Tryz.underlying81 Hi.out Hz.out Hs.out Hb.out rfl (by decide) _ 0 [] rfl (World.ownsRow_made w #[] 0 (Nat.le_refl _) (by decide) rfl) ⟨g, 0, none⟩ n cap xs rfl Hl.out Hc.out H1.out (by have := Hn.out; unfold maxLen; omega) (by have := Hn.out; omega) (by simp) ?_
         intro v' w1 hown hgrow hnil))
    go_ret
    refine ⟨_, rfl, by simpa using hown, ?_⟩
    exact (Fr.refl No w).alloc _ |>.trans (Fr.grown hgrow (F := fun k => w.heap.size ≤ k) (fun k e => by have : w.heap.size = k := Option.some.inj e; omega)) (fun _ x => x) (fun k hk hx => by omega)

theorem infoDeed : (Tryz.prog.info? 63).map (fun i => (i.zero, i.size, i.bytes)) = some (some (.agg #[.int .i64 0, .int .i64 0, .int .i64 0, .int .i64 0, .int .i64 0, .int .i64 0, .bool false, .int .i64 0, .int .i64 0, .int .i64 0, .int .i64 0, .bool false]), 12, 96) := by kernel_rfl
theorem cloneDeed (v : Value) (n : Nat) (xs : List Value) (w : World) (h : w.ownsRow 0 63 12 v n xs) (h1 : ∀ u ∈ xs, u.oneCell' = true) (hn : n ≤ 1048576) :
    Calls Tryz.prog 90 #[v] w fun e w' => ∃ v', e = .returned v' ∧ w'.ownsRow w.heap.size 63 12 v' n xs ∧ Fr No w w' := by
  obtain ⟨i, hi, hz, hs, hb⟩ := info_parts infoDeed
  rcases h.2 with ⟨rfl, rfl⟩ | ⟨g, cap, cur, rfl, hg, hh, r1, r2, r3, r4⟩
  · have hx : xs = [] := List.eq_nil_of_length_eq_zero (by simpa using h.1)
    subst hx
    clear h h1 hi hz hs hb hn
    have heq := fun u => Lib.run_eql_slice_nil u 55 _ none 0 0 0 0 Tryz.underlying55
    go_enter Tryz.func90, Tryz.ntmps90
    go_wp2
    go_ret
    exact ⟨_, rfl, World.ownsRow_nil _ _ _ _, Fr.refl _ _⟩
  · have hl : xs.length = n * 12 := h.1
    have hc : ∀ j u, xs[j]? = some u → (w.alloc (.cells #[] 63)).cell? ((⟨g, 0, none⟩ : Addr).add j) = some u := fun j u e =>
      (h.alloc (.cells #[] 63)).cells rfl j u e
    have Hc := Lib.hid hc
    have H1 := Lib.hid h1
    have Hi := Lib.hid hi
    have Hz := Lib.hid hz
    have Hs := Lib.hid hs
    have Hb := Lib.hid hb
    have Hl := Lib.hid hl
    have Hn := Lib.hid hn
    clear h hh r1 r2 r3 r4 hc h1 hi hz hs hb hl hn
    have heq := fun u => Lib.run_eql_slice_nil u 55 _ (some ⟨g, 0, none⟩) n cap 0 0 Tryz.underlying55
    go_enter Tryz.func90, Tryz.ntmps90
    go_wp2_with (first
      | (at_builtin; refine wpList_append_own _ rfl _ _ 55 rfl w.heap.size 63 i _ 12 96 Tryz.underlying55 Hi.out Hz.out Hs.out Hb.out rfl (by decide) _ 0 [] rfl (World.ownsRow_made w #[] 0 (Nat.le_refl _) (by decide) rfl) ⟨g, 0, none⟩ n cap xs rfl Hl.out Hc.out H1.out (by have := Hn.out; unfold maxLen; omega) (by have := Hn.out; omega) (by simp) ?_
         intro v' w1 hown hgrow hnil))
    go_ret
    refine ⟨_, rfl, by simpa using hown, ?_⟩
    exact (Fr.refl No w).alloc _ |>.trans (Fr.grown hgrow (F := fun k => w.heap.size ≤ k) (fun k e => by have : w.heap.size = k := Option.some.inj e; omega)) (fun _ x => x) (fun k hk hx => by omega)

theorem infoJob : (Tryz.prog.info? 89).map (fun i => (i.zero, i.size, i.bytes)) = some (some (.agg #[.int .i64 0, .int .i64 0, .int .i64 0, .int .i64 0, .int .i64 0, .int .i64 0, .int .i64 0, .int .i64 0, .int .i64 0, .int .u64 0]), 10, 80) := by kernel_rfl
theorem cloneJob (v : Value) (n : Nat) (xs : List Value) (w : World) (h : w.ownsRow 0 89 10 v n xs) (h1 : ∀ u ∈ xs, u.oneCell' = true) (hn : n ≤ 1048576) :
    Calls Tryz.prog 96 #[v] w fun e w' => ∃ v', e = .returned v' ∧ w'.ownsRow w.heap.size 89 10 v' n xs ∧ Fr No w w' := by
  obtain ⟨i, hi, hz, hs, hb⟩ := info_parts infoJob
  rcases h.2 with ⟨rfl, rfl⟩ | ⟨g, cap, cur, rfl, hg, hh, r1, r2, r3, r4⟩
  · have hx : xs = [] := List.eq_nil_of_length_eq_zero (by simpa using h.1)
    subst hx
    clear h h1 hi hz hs hb hn
    have heq := fun u => Lib.run_eql_slice_nil u 71 _ none 0 0 0 0 Tryz.underlying71
    go_enter Tryz.func96, Tryz.ntmps96
    go_wp2
    go_ret
    exact ⟨_, rfl, World.ownsRow_nil _ _ _ _, Fr.refl _ _⟩
  · have hl : xs.length = n * 10 := h.1
    have hc : ∀ j u, xs[j]? = some u → (w.alloc (.cells #[] 89)).cell? ((⟨g, 0, none⟩ : Addr).add j) = some u := fun j u e =>
      (h.alloc (.cells #[] 89)).cells rfl j u e
    have Hc := Lib.hid hc
    have H1 := Lib.hid h1
    have Hi := Lib.hid hi
    have Hz := Lib.hid hz
    have Hs := Lib.hid hs
    have Hb := Lib.hid hb
    have Hl := Lib.hid hl
    have Hn := Lib.hid hn
    clear h hh r1 r2 r3 r4 hc h1 hi hz hs hb hl hn
    have heq := fun u => Lib.run_eql_slice_nil u 71 _ (some ⟨g, 0, none⟩) n cap 0 0 Tryz.underlying71
    go_enter Tryz.func96, Tryz.ntmps96
    go_wp2_with (first
      | (at_builtin; refine wpList_append_own _ rfl _ _ 71 rfl w.heap.size 89 i _ 10 80 Tryz.underlying71 Hi.out Hz.out Hs.out Hb.out rfl (by decide) _ 0 [] rfl (World.ownsRow_made w #[] 0 (Nat.le_refl _) (by decide) rfl) ⟨g, 0, none⟩ n cap xs rfl Hl.out Hc.out H1.out (by have := Hn.out; unfold maxLen; omega) (by have := Hn.out; omega) (by simp) ?_
         intro v' w1 hown hgrow hnil))
    go_ret
    refine ⟨_, rfl, by simpa using hown, ?_⟩
    exact (Fr.refl No w).alloc _ |>.trans (Fr.grown hgrow (F := fun k => w.heap.size ≤ k) (fun k e => by have : w.heap.size = k := Option.some.inj e; omega)) (fun _ x => x) (fun k hk hx => by omega)

end Go.Proofs.YtbbbodfikgdhcaaGreatDoor
