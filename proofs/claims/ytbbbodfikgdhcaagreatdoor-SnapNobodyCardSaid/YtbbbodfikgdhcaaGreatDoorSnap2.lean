/- A deed that asks for the load is done and kept. -/
import Derived.Test.YtbbbodfikgdhcaaGreatDoorSnap1
namespace Go.Proofs.YtbbbodfikgdhcaaGreatDoor
open Go Go.RowKit

theorem own_ne {w : World} {base n size g : Nat} {e t : TypeId} {v : Value} {xs : List Value} {cs : Array Value} (h : w.ownsRow base e size v n xs) (hb : Blk w g t cs) (hte : t ≠ e) : v.ownBlock ≠ some g := by
  intro hv
  rcases h.2 with ⟨rfl, _⟩ | ⟨g', cap, cur, rfl, _, hg, _⟩
  · cases hv
  · obtain rfl : g' = g := Option.some.inj hv
    exact hb.ne_ (t' := e) (cs' := cur) hg hte rfl

theorem own_frB {F : Nat → Prop} {w w' : World} {base : Nat} {e : TypeId} {size n : Nat} {v : Value} {xs : List Value} (h : w.ownsRow base e size v n xs) (hf : Fr F w w') (hn : ∀ g, v.ownBlock = some g → ¬ F g) : w'.ownsRow base e size v n xs := by
  obtain ⟨h1, h2⟩ := h
  refine ⟨h1, ?_⟩
  rcases h2 with h2 | ⟨g, cap, cur, rfl, hg, hh, r⟩
  · exact .inl h2
  · exact .inr ⟨g, cap, cur, rfl, hg, (hf.block g (Array.getElem?_eq_some_iff.1 hh).1 (hn g rfl)).trans hh, r⟩

theorem own_off {w : World} {L : Locs} {s : St} {base n size : Nat} {e : TypeId} {v : Value} {xs : List Value} (hc : CoreAt w L s) (h : w.ownsRow base e size v n xs)
    (ht : e ≠ 79 ∧ e ≠ 165 ∧ e ≠ 187 ∧ e ≠ 169 ∧ e ≠ 167 ∧ e ≠ 89) : ∀ g, v.ownBlock = some g → ¬ L.foot g := by
  intro g hv
  rcases h.2 with ⟨rfl, _⟩ | ⟨g', cap, cur, rfl, _, hg, _⟩
  · cases hv
  · obtain rfl : g' = g := Option.some.inj hv
    exact hc.off (cs := cur) hg ht

theorem DEnv.fin {w wA w2 w9 : World} {B d sb R k : Nat} {nodes : Int} {L : Locs} {s s' : St} {v v' : Value} {xs xs' : List Value} (H : DEnv w B d sb nodes L s k v xs) (HD : DiaryAt wA d sb nodes v') (HO : wA.ownsRow B 63 12 v' (k + 1) xs')
    (HFA : Fr (fun i => v.ownBlock = some i ∨ i = d) w wA) (HS : SchedAt wA sb L.c) (HC : CoreAt wA L s) {cs : Array Value} (HR : Blk wA R 59 cs) (hR : w.heap.size ≤ R) (ht : CoreTo L wA.drew s' w2) (hr : Fr (One R) w2 w9) :
    ∃ L' v' xs', DEnv w9 B d sb nodes L' s' (k + 1) v' xs' ∧ Fr (fun i => B ≤ i) w w9 := by
  obtain ⟨L', g1, g2, g3⟩ := ht.core
  have hcl := H.core.lt
  have hdl := H.diary.lt
  have hsl := H.sched.lt
  have zA := HFA.size
  have zR := HR.lt
  have nR : ¬ L.foot R := fun e => by have := hcl _ e; omega
  have nD : ¬ L.foot d := H.core.off H.diary (by decide)
  have nS : ¬ L.foot sb := H.core.off H.sched (by decide)
  have hR2 := (HR.drew).fr ht.fr nR
  have hO2 := own_frB (w := wA.drew) HO ht.fr (own_off HC HO (by decide))
  refine ⟨L', v', xs', ⟨(HD.fr (w := wA.drew) ht.fr nD).fr hr ?_, ?_, g1.fr hr ?_, own_frB hO2 hr ?_, ?_, H.low.2.1, ?_⟩, ?_⟩
  · intro e; have : d = R := e; omega
  · rw [g2]
    refine (SchedAt.fr (w := wA.drew) HS ht.fr nS).fr hr ?_
    intro e; have : sb = R := e; omega
  · intro q hq e
    obtain rfl : q = R := e
    rcases g3 q hq with h | h
    · exact nR h
    · have : wA.heap.size ≤ q := h
      omega
  · intro q hq e
    obtain rfl : q = R := e
    exact own_ne hO2 hR2 (by decide) hq
  · intro q hq
    rcases g3 q hq with h | h
    · exact H.low.1 q h
    · have : wA.heap.size ≤ q := h
      have := H.low.2.2
      omega
  · have := ht.fr.size
    have := hr.size
    have h3 : wA.drew.heap.size = wA.heap.size := rfl
    have := H.low.2.2
    omega
  · refine ((HFA.trans (b := wA) (c := wA.drew) (G := No) (H := fun i => B ≤ i) ((Fr.refl No wA).drew) ?_ (fun _ _ x => x.elim)).trans ht.fr (fun _ x => x) ?_).trans hr (fun _ x => x) ?_
    · rintro i (e | rfl)
      · exact (H.deeds.lt i e).1
      · exact H.low.2.1
    · intro i _ hi
      exact H.low.1 i hi
    · intro i hi e
      have : i = R := e
      omega

set_option maxHeartbeats 2000000 in
set_option maxRecDepth 100000 in
theorem act_load (B d sb : Nat) (nodes : Int) (L : Locs) (s : St) (k : Nat) (v : Value) (xs : List Value) (w : World) (h : DEnv w B d sb nodes L s k v xs) (hk : k < 4096) (hn : s.jobs.length ≤ 1048576) (hcl : s.closed = false) :
    Calls Tryz.prog 33 #[.pointer (some ⟨d, 0, none⟩), deed0 11] w fun e w' => e = .returned (.tuple #[s.load.v, .int .i64 0]) ∧ ∃ L' v' xs', DEnv w' B d sb nodes L' s (k + 1) v' xs' ∧ Fr (fun i => B ≤ i) w w' := by
  obtain ⟨ao, cap, rfl⟩ := own_slice h.deeds
  obtain ⟨c0, c1, c2, c3, c4⟩ := h.diary.facts
  obtain ⟨i, hi, hz, hsz, hby⟩ := info_parts infoDeed
  have Hi := Lib.hid hi
  have Hz := Lib.hid hz
  have Hs := Lib.hid hsz
  have Hb := Lib.hid hby
  clear hi hz hsz hby
  have H := Lib.hid h
  have zB := h.low.2.2
  clear h
  have hdn : (Value.slice ao k cap).ownBlock ≠ some d := own_ne H.out.deeds H.out.diary (by decide)
  have hlt0 : ∀ g, (Value.slice ao k cap).ownBlock = some g → g < w.heap.size := fun g e => (H.out.deeds.lt g e).2
  have Hdn := Lib.hid hdn
  have Hlt0 := Lib.hid hlt0
  have hbox := ((((Blk.new w 63 #[.int .i64 11, .int .i64 0, .int .i64 0, .int .i64 0, .int .i64 0, .int .i64 0, .bool false, .int .i64 0, .int .i64 0, .int .i64 0, .int .i64 0, .bool false]).alloc (.cells #[.int .i64 0, .int .i64 0, .int .i64 0, .int .i64 0, .int .i64 0, .int .i64 0, .int .i64 0, .int .i64 0, .int .i64 0] 59)).alloc
    (.cells #[.int .i64 11, .int .i64 0, .int .i64 0, .int .i64 0, .int .i64 0, .int .i64 0, .bool false, .int .i64 0, .int .i64 0, .int .i64 0, .int .i64 0, .bool false] 63)).drew)
  have hrep := (((Blk.new1 w (.cells #[.int .i64 11, .int .i64 0, .int .i64 0, .int .i64 0, .int .i64 0, .int .i64 0, .bool false, .int .i64 0, .int .i64 0, .int .i64 0, .int .i64 0, .bool false] 63) 59 #[.int .i64 0, .int .i64 0, .int .i64 0, .int .i64 0, .int .i64 0, .int .i64 0, .int .i64 0, .int .i64 0, .int .i64 0]).alloc
    (.cells #[.int .i64 11, .int .i64 0, .int .i64 0, .int .i64 0, .int .i64 0, .int .i64 0, .bool false, .int .i64 0, .int .i64 0, .int .i64 0, .int .i64 0, .bool false] 63)).drew)
  have hf3 := (((Fr.refl No w).alloc (.cells #[.int .i64 11, .int .i64 0, .int .i64 0, .int .i64 0, .int .i64 0, .int .i64 0, .bool false, .int .i64 0, .int .i64 0, .int .i64 0, .int .i64 0, .bool false] 63)).alloc (.cells #[.int .i64 0, .int .i64 0, .int .i64 0, .int .i64 0, .int .i64 0, .int .i64 0, .int .i64 0, .int .i64 0, .int .i64 0] 59)).alloc
    (.cells #[.int .i64 11, .int .i64 0, .int .i64 0, .int .i64 0, .int .i64 0, .int .i64 0, .bool false, .int .i64 0, .int .i64 0, .int .i64 0, .int .i64 0, .bool false] 63) |>.drew
  have HBox := Lib.hid hbox
  have HRep := Lib.hid hrep
  have HF3 := Lib.hid hf3
  have m2 := (hf3.cell (p := ⟨d, 2, none⟩) c4 (fun x => x)).trans c2
  simp only [World.cell?_drew] at m2
  clear hdn hlt0 hbox hrep hf3
  go_enter Tryz.func33, Tryz.ntmps33
  go_wp2_with fail
  refine (dnone_no d sb nodes _ _ (H.out.diary.fr (F := No) ?_ (fun x => x))).mono ?_
  · exact ((Fr.refl No w).alloc _).alloc _
  rintro e w1 ⟨rfl, rfl⟩
  go_wp2_with fail
  go_region_law (refine step_append_lies _ (by rfl) _ _ _ (by rfl) B 63 i _ 12 96 Tryz.underlying55 Hi.out Hz.out Hs.out Hb.out rfl (by omega) _ k xs (by rfl) (((H.out.deeds.alloc _).alloc _).alloc _).drew ⟨w.heap.size + 1 + 1, 0, none⟩ 1 1 [.int .i64 11, .int .i64 0, .int .i64 0, .int .i64 0, .int .i64 0, .int .i64 0, .bool false, .int .i64 0, .int .i64 0, .int .i64 0, .int .i64 0, .bool false] (by rfl) (by rfl) ((Blk.new2 _ _ _ _ _).drew.news rfl) (by simp [Value.oneCell']) (by omega) (by unfold maxLen; omega) (by omega) (by simp; omega) (w.heap.size + 1 + 1 + 1) (by simp) ?_; intro g cap' w1 hown hgrow hat hglt; have hgr := Fr.grown (F := fun i => (Value.slice ao k cap).ownBlock = some i) hgrow (fun _ e => e); obtain ⟨e0, e1, e2⟩ := own ((H.out.diary.fr HF3.out (fun x => x))) hgr Hdn.out; obtain ⟨b0, b1, b2⟩ := own HBox.out hgr (fun e => absurd (Hlt0.out _ e) (by omega)); obtain ⟨r0, r1, r2⟩ := own HRep.out hgr (fun e => absurd (Hlt0.out _ e) (by omega)))
  all_goals
    have hgd : g ≠ d := fun e => by
      subst e
      rcases hat with h | h
      · exact Hdn.out h
      · omega
    have hD : DiaryAt (w1.setCell ⟨d, 2, none⟩ (.slice (some ⟨g, 0, none⟩) (k + 1) cap')) d sb nodes (.slice (some ⟨g, 0, none⟩) (k + 1) cap') := Blk.cast (Blk.set_ ((H.out.diary.fr HF3.out (fun x => x)).fr hgr Hdn.out) 2 _) (by kernel_rfl)
    have hs1 : Fr (One d) w1 (w1.setCell ⟨d, 2, none⟩ (.slice (some ⟨g, 0, none⟩) (k + 1) cap')) := (Fr.refl _ _).set1 _ _
    have hown1 := own_frB hown hs1 (fun q e => by
      have : g = q := Option.some.inj e
      subst this
      exact hgd)
    have hfA := (HF3.out.noThen hgr).trans hs1 (H := fun i => (Value.slice ao k cap).ownBlock = some i ∨ i = d) (fun _ e => .inl e) (fun _ _ e => .inr e)
    have nS : ¬ ((Value.slice ao k cap).ownBlock = some sb ∨ sb = d) := by
      rintro (e | e)
      · exact own_ne H.out.deeds H.out.sched (by decide) e
      · exact Blk.ne_ H.out.sched H.out.diary (by decide) e
    have nL : ∀ q, L.foot q → ¬ ((Value.slice ao k cap).ownBlock = some q ∨ q = d) := by
      rintro q hq (e | rfl)
      · rcases H.out.deeds.2 with ⟨h1, _⟩ | ⟨g2, cap2, cur2, h1, _, hg2, _⟩
        · rw [h1] at e; cases e
        · rw [h1] at e
          obtain rfl : g2 = q := Option.some.inj e
          exact H.out.core.off (cs := cur2) hg2 (by decide) hq
      · exact H.out.core.off H.out.diary (by decide) hq
    have hS1 := H.out.sched.fr hfA nS
    have hC1 := H.out.core.fr hfA nL
    have hRep1 := (HRep.out.fr hgr (fun e => absurd (Hlt0.out _ e) (by omega))).fr hs1 (fun e => by have : w.heap.size + 1 = d := e; omega)
    have hBox1 := (HBox.out.fr hgr (fun e => absurd (Hlt0.out _ e) (by omega))).fr hs1 (fun e => by have : w.heap.size = d := e; omega)
    have HD := Lib.hid hD
    have HO := Lib.hid hown1
    have HFA := Lib.hid hfA
    have HS := Lib.hid hS1
    have HC := Lib.hid hC1
    have HR := Lib.hid hRep1
    have HX := Lib.hid hBox1
    clear hD hs1 hown1 hfA nS nL hS1 hC1 hRep1 hBox1 e0 e1 b0 b1 r0 r1 hgr hgrow hat hown m2 c0 c1 c2 c3
    generalize hwA : w1.setCell ⟨d, 2, none⟩ (.slice (some ⟨g, 0, none⟩) (k + 1) cap') = wA at *
    clear hwA
    obtain ⟨a0, a1, a2, a3, a4⟩ := HD.out.facts
    clear a1 a2 a3
    have zx := HX.out.lt
    have zr := HR.out.lt
    have x0 : wA.cell? ⟨w.heap.size, 0, none⟩ = some (.int .i64 11) := HX.out.cell 0
    have x1 : wA.cell? ⟨w.heap.size, 1, none⟩ = some (.int .i64 0) := HX.out.cell 1
    have x2 : wA.cell? ⟨w.heap.size, 2, none⟩ = some (.int .i64 0) := HX.out.cell 2
    have x3 : wA.cell? ⟨w.heap.size, 3, none⟩ = some (.int .i64 0) := HX.out.cell 3
    have x4 : wA.cell? ⟨w.heap.size, 4, none⟩ = some (.int .i64 0) := HX.out.cell 4
    have x5 : wA.cell? ⟨w.heap.size, 5, none⟩ = some (.int .i64 0) := HX.out.cell 5
    have x6 : wA.cell? ⟨w.heap.size, 6, none⟩ = some (.bool false) := HX.out.cell 6
    have x7 : wA.cell? ⟨w.heap.size, 7, none⟩ = some (.int .i64 0) := HX.out.cell 7
    have x8 : wA.cell? ⟨w.heap.size, 8, none⟩ = some (.int .i64 0) := HX.out.cell 8
    have x11 : wA.cell? ⟨w.heap.size, 11, none⟩ = some (.bool false) := HX.out.cell 11
    clear e2 b2 r2
    go_wp2_with fail
    have nR : ¬ L.foot (w.heap.size + 1) := fun e => by have := H.out.core.lt _ e; omega
    have nX : ¬ L.foot (w.heap.size) := fun e => by have := H.out.core.lt _ e; omega
    have nD : ¬ L.foot d := H.out.core.off H.out.diary (by decide)
    have d1 : ¬ d = w.heap.size + 1 := by omega
    have d2 : ¬ w.heap.size + 1 = d := by omega
    go_region_held3 (fun w' => w'.cell? ⟨d, 0, none⟩ = some (.pointer (some ⟨sb, 0, none⟩)) ∧ w'.cell? ⟨w.heap.size, 0, none⟩ = some (.int .i64 11) ∧ w'.cell? ⟨w.heap.size, 1, none⟩ = some (.int .i64 0) ∧ w'.cell? ⟨w.heap.size, 2, none⟩ = some (.int .i64 0) ∧ w'.cell? ⟨w.heap.size, 3, none⟩ = some (.int .i64 0) ∧
        w'.cell? ⟨w.heap.size, 4, none⟩ = some (.int .i64 0) ∧ w'.cell? ⟨w.heap.size, 5, none⟩ = some (.int .i64 0) ∧ w'.cell? ⟨w.heap.size, 6, none⟩ = some (.bool false) ∧ w'.cell? ⟨w.heap.size, 7, none⟩ = some (.int .i64 0) ∧ w'.cell? ⟨w.heap.size, 8, none⟩ = some (.int .i64 0)) (go_keep)
      (first
      | (go_at_call 89; refine (do_load sb ⟨11, 0, 0, 0, 0, 0, false, 0, 0⟩ L s _ (HS.out.fr (F := No) (Fr.refl _ _).drew (fun x => x)) (HC.out.frNo (Fr.refl _ _).drew) hn (by decide) rfl hcl).mono ?_; rintro e w2 ⟨rfl, ht⟩
         obtain ⟨q1, q2, q3⟩ := own HR.out.drew ht.fr nR; obtain ⟨y1, y2, y3⟩ := own HX.out.drew ht.fr nX; have k0 := (ht.fr.cell (p := ⟨d, 0, none⟩) (by simpa using a4) nD).trans a0))
    rename_i hHeld
    clear hHeld x0 x1 x2 x3 x4 x5 x6 x7 x8 x11
    go_wp2_with fail
    refine bodyPost_ret (by (simp [results, Tryz.results33, go_sem, *]; try rfl)) rfl ?_
    refine ⟨rfl, DEnv.fin H.out HD.out HO.out HFA.out HS.out HC.out HR.out (by omega) ht ?_⟩
    repeat (first | with_reducible exact Fr.refl _ _ | with_reducible refine Fr.set1 ?_ _ _)
end Go.Proofs.YtbbbodfikgdhcaaGreatDoor
