/- The state of the scheduler as Lean has it, how it lies in memory, and the contracts of what makes it. -/
import Derived.Test.YtbbbodfikgdhcaaGreatDoorData
import Derived.Test.YtbbbodfikgdhcaaGreatDoorProf2
namespace Go.Proofs.YtbbbodfikgdhcaaGreatDoor
open Go Go.RowKit

def Job.cs (j : Job) : List Value := [.int .i64 j.id, .int .i64 j.user, .int .i64 j.width, .int .i64 j.limit, .int .i64 j.prio, .int .i64 j.state, .int .i64 j.start, .int .i64 j.end_, .int .i64 j.plan, .int .u64 (j.nodes.toNat : Int)]
def rowsJ (l : List Job) : List Value := l.flatMap Job.cs

/-- The table of jobs behind `b`, `v` the slice of its jobs. -/
structure JobsAt (w : World) (b : Nat) (v : Value) (l : List Job) (live : Int) : Prop where
  blk : Blk w b 165 #[v, .int .i64 live, .bool true]
  own : w.ownsRow 0 89 10 v l.length (rowsJ l)
/-- The table of nodes behind `b`. -/
def NodesAt (w : World) (b : Nat) (a u d : BitVec 64) : Prop := Blk w b 187 #[.int .u64 (a.toNat : Int), .int .u64 (u.toNat : Int), .int .u64 (d.toNat : Int)]

theorem own_fr {F : Nat → Prop} {w w' : World} {e : TypeId} {size n : Nat} {v : Value} {xs : List Value} (h : w.ownsRow 0 e size v n xs) (hf : Fr F w w') (hn : ∀ g, v.ownBlock = some g → ¬ F g) : w'.ownsRow 0 e size v n xs := by
  obtain ⟨h1, h2⟩ := h
  refine ⟨h1, ?_⟩
  rcases h2 with h2 | ⟨g, cap, cur, rfl, hg, hh, r⟩
  · exact .inl h2
  · exact .inr ⟨g, cap, cur, rfl, hg, (hf.block g (Array.getElem?_eq_some_iff.1 hh).1 (hn g rfl)).trans hh, r⟩
theorem JobsAt.fr {F : Nat → Prop} {w w' : World} {b : Nat} {v : Value} {l : List Job} {live : Int} (h : JobsAt w b v l live) (hf : Fr F w w') (hb : ¬ F b) (hn : ∀ g, v.ownBlock = some g → ¬ F g) : JobsAt w' b v l live :=
  ⟨h.blk.fr hf hb, own_fr h.own hf hn⟩
theorem NodesAt.fr {F : Nat → Prop} {w w' : World} {b : Nat} {x u d : BitVec 64} (h : NodesAt w b x u d) (hf : Fr F w w') (hb : ¬ F b) : NodesAt w' b x u d := Blk.fr h hf hb

/-- Where a core lies. -/
structure Locs where
  c : Nat
  jb : Nat
  nb : Nat
  pb : Nat
  g : Nat
  v : Value
def Locs.foot (L : Locs) (k : Nat) : Prop := k = L.c ∨ k = L.jb ∨ k = L.nb ∨ k = L.pb ∨ k = L.g ∨ L.v.ownBlock = some k

structure CoreAt (w : World) (L : Locs) (s : St) : Prop where
  blk : Blk w L.c 79 #[.pointer (some ⟨L.jb, 0, none⟩), .pointer (some ⟨L.nb, 0, none⟩), .pointer (some ⟨L.pb, 0, none⟩), .bool s.closed]
  jobs : JobsAt w L.jb L.v s.jobs s.live
  nodes : NodesAt w L.nb s.all s.used s.drain
  prof : ProfAt w L.pb L.g s.steps s.ver

theorem CoreAt.fr {F : Nat → Prop} {w w' : World} {L : Locs} {s : St} (h : CoreAt w L s) (hf : Fr F w w') (hn : ∀ k, L.foot k → ¬ F k) : CoreAt w' L s :=
  ⟨h.blk.fr hf (hn _ (.inl rfl)), h.jobs.fr hf (hn _ (.inr (.inl rfl))) (fun _ hg => hn _ (.inr (.inr (.inr (.inr (.inr hg)))))), h.nodes.fr hf (hn _ (.inr (.inr (.inl rfl)))),
    h.prof.fr hf (hn _ (.inr (.inr (.inr (.inl rfl))))) (hn _ (.inr (.inr (.inr (.inr (.inl rfl))))))⟩
theorem CoreAt.frNo {w w' : World} {L : Locs} {s : St} (h : CoreAt w L s) (hf : Fr No w w') : CoreAt w' L s := h.fr hf fun _ _ => id
theorem CoreAt.lt {w : World} {L : Locs} {s : St} (h : CoreAt w L s) : ∀ k, L.foot k → k < w.heap.size := by
  rintro k (rfl | rfl | rfl | rfl | rfl | hk)
  · exact h.blk.lt
  · exact h.jobs.blk.lt
  · exact Blk.lt h.nodes
  · obtain ⟨_, _, _, h1, _⟩ := h.prof.ex; exact h1.lt
  · obtain ⟨_, _, _, _, h2, _⟩ := h.prof.ex; exact h2.lt
  · exact (h.jobs.own.lt k hk).2
/-- What a walk wants of a core's own block. -/
theorem CoreAt.cells {w : World} {L : Locs} {s : St} (h : CoreAt w L s) : w.cell? ⟨L.c, 0, none⟩ = some (.pointer (some ⟨L.jb, 0, none⟩)) ∧ w.cell? ⟨L.c, 1, none⟩ = some (.pointer (some ⟨L.nb, 0, none⟩)) ∧ w.cell? ⟨L.c, 2, none⟩ = some (.pointer (some ⟨L.pb, 0, none⟩)) ∧
    w.cell? ⟨L.c, 3, none⟩ = some (.bool s.closed) ∧ L.c < w.heap.size :=
  ⟨by rw [h.blk.cell]; rfl, by rw [h.blk.cell]; rfl, by rw [h.blk.cell]; rfl, by rw [h.blk.cell]; rfl, h.blk.lt⟩

/-- A block of another make is none of a core's. -/
theorem CoreAt.off {w : World} {L : Locs} {s : St} (h : CoreAt w L s) {b : Nat} {t : TypeId} {cs : Array Value} (hb : Blk w b t cs)
    (ht : t ≠ 79 ∧ t ≠ 165 ∧ t ≠ 187 ∧ t ≠ 169 ∧ t ≠ 167 ∧ t ≠ 89) : ¬ L.foot b := by
  rintro (e | e | e | e | e | e)
  · exact hb.ne_ h.blk ht.1 e
  · exact hb.ne_ h.jobs.blk ht.2.1 e
  · exact Blk.ne_ hb h.nodes ht.2.2.1 e
  · obtain ⟨_, _, _, h1, _⟩ := h.prof.ex; exact hb.ne_ h1 ht.2.2.2.1 e
  · obtain ⟨_, _, _, _, h2, _⟩ := h.prof.ex; exact hb.ne_ h2 ht.2.2.2.2.1 e
  · rcases h.jobs.own.2 with ⟨hv, _⟩ | ⟨g, cap, cur, hv, _, hg, _⟩
    · rw [hv] at e; simp [Value.ownBlock] at e
    · rw [hv] at e
      have : g = b := by simpa [Value.ownBlock] using e
      subst this
      exact hb.ne_ (t' := 89) (cs' := cur) hg ht.2.2.2.2.2 rfl

theorem allSet_toNat {n : Nat} (h : n ≤ 64) : (allSet n).toNat = 2 ^ n - 1 := by
  unfold allSet
  rw [BitVec.toNat_ofNat]
  apply Nat.mod_eq_of_lt
  have : 2 ^ n ≤ 2 ^ 64 := Nat.pow_le_pow_right (by omega) h
  have : 0 < 2 ^ n := Nat.pow_pos (by omega)
  omega

theorem setAll (n : Nat) (h1 : 1 ≤ n) (h2 : n ≤ 64) (w : World) : Calls Tryz.prog 168 #[.int .i64 n] w fun e w' => e = .returned (.int .u64 ((allSet n).toNat : Int)) ∧ w = w' := by
  rw [allSet_toNat h2]
  by_cases h : n = 64
  · subst h
    clear h1 h2
    go_enter Tryz.func168, Tryz.ntmps168
    go_wp2
    go_ret
    exact ⟨rfl, rfl⟩
  · have h3 : n < 64 := by omega
    have hp : 2 ^ n ≤ 2 ^ 63 := Nat.pow_le_pow_right (by omega) (by omega)
    have hp0 : 0 < 2 ^ n := Nat.pow_pos (by omega)
    have hc : ((2 ^ n : Nat) : Int) = (2 : Int) ^ n := by simp
    have Hp := Lib.hid hp
    have Hp0 := Lib.hid hp0
    have Hc := Lib.hid hc
    clear hp hp0 hc h h2
    go_enter Tryz.func168, Tryz.ntmps168
    go_wp2
    go_ret
    refine ⟨ret_int ?_, rfl⟩
    rw [IntKind.wrap_u64, IntKind.wrap_u64, ← Hc.out]
    have h6 : 2 ^ n ≤ 9223372036854775808 := Hp.out
    have h7 := Hp0.out
    clear Hp Hp0 Hc
    generalize 2 ^ n = m at *
    omega

theorem nodeNew (n : Nat) (h1 : 1 ≤ n) (h2 : n ≤ 64) (w : World) : Calls Tryz.prog 124 #[.int .i64 n] w fun e w' => ∃ b, e = .returned (.tuple #[.pointer (some ⟨b, 0, none⟩), .int .i64 0]) ∧ NodesAt w' b (allSet n) 0 0 ∧ w.heap.size ≤ b ∧ Fr No w w' := by
  go_enter Tryz.func124, Tryz.ntmps124
  go_wp2_with fail
  refine (setAll n h1 h2 _).mono ?_
  rintro e w1 ⟨rfl, rfl⟩
  go_wp2_with fail
  go_ret2
  exact ⟨_, rfl, Blk.new _ _ _, Nat.le_refl _, by (repeat' (first | with_reducible exact Fr.refl _ _ | with_reducible assumption | with_reducible refine Fr.setCell ?_ (Or.inr (by (first | with_reducible exact Nat.le_refl _ | (simp; done) | omega | (simp; omega)))) _ | with_reducible refine Fr.alloc ?_ _ | with_reducible refine Fr.drew ?_ | with_reducible refine Fr.drewN ?_ _ | (with_reducible refine Fr.then ?_ (by with_reducible assumption))))⟩

/-- There is no such table. -/
theorem nodeNew_no (n : Int) (h : n < 1 ∨ 64 < n) (w : World) : Calls Tryz.prog 124 #[.int .i64 n] w fun e w' => e = .returned (.tuple #[.pointer none, .int .i64 1]) ∧ w = w' := by
  rcases h with h | h
  · go_enter Tryz.func124, Tryz.ntmps124
    go_wp2
    go_ret2
    exact ⟨rfl, rfl⟩
  · have h1 : decide (n < 1) = false := by simp; omega
    go_enter Tryz.func124, Tryz.ntmps124
    go_wp2
    go_ret2
    exact ⟨rfl, rfl⟩

theorem profNew (n : Nat) (h2 : n ≤ 64) (w : World) : Calls Tryz.prog 125 #[.int .i64 n] w fun e w' => ∃ b g, e = .returned (.tuple #[.pointer (some ⟨b, 0, none⟩), .int .i64 0]) ∧ ProfAt w' b g [⟨0, n⟩] 0 ∧ w.heap.size ≤ b ∧ w.heap.size ≤ g ∧ Fr No w w' := by
  go_enter Tryz.func125, Tryz.ntmps125
  go_wp2_with fail
  go_ret2
  refine ⟨w.heap.size + 1, w.heap.size, rfl, ⟨0, 1, #[.int .i64 0, .int .i64 n], ?_, (Blk.new w _ _).alloc _, Nat.le_refl _, rfl, ?_, by decide⟩, by omega, Nat.le_refl _, by (repeat' (first | with_reducible exact Fr.refl _ _ | with_reducible assumption | with_reducible refine Fr.setCell ?_ (Or.inr (by (first | with_reducible exact Nat.le_refl _ | (simp; done) | omega | (simp; omega)))) _ | with_reducible refine Fr.alloc ?_ _ | with_reducible refine Fr.drew ?_ | with_reducible refine Fr.drewN ?_ _ | (with_reducible refine Fr.then ?_ (by with_reducible assumption))))⟩
  · have := Blk.new (w.alloc (.cells #[.int .i64 0, .int .i64 n] 167)) 169 #[.slice (some ⟨w.heap.size, 0, none⟩) 1 1, .int .i64 0]
    simpa using this
  · intro i s hs
    have hb := (Blk.new w 167 #[.int .i64 0, .int .i64 n]).alloc (.cells #[.slice (some ⟨w.heap.size, 0, none⟩) 1 1, .int .i64 0] 169)
    cases i with
    | zero => simp at hs; subst hs; exact ⟨hb.cell 0, hb.cell 1⟩
    | succ i => simp at hs

theorem jobNew (w : World) : Calls Tryz.prog 126 #[] w fun e w' => ∃ b, e = .returned (.pointer (some ⟨b, 0, none⟩)) ∧ JobsAt w' b (.slice none 0 0) [] 0 ∧ w.heap.size ≤ b ∧ Fr No w w' := by
  go_enter Tryz.func126, Tryz.ntmps126
  go_wp2_with fail
  go_ret
  exact ⟨_, rfl, ⟨Blk.new _ _ _, World.ownsRow_nil _ _ _ _⟩, Nat.le_refl _, by (repeat' (first | with_reducible exact Fr.refl _ _ | with_reducible assumption | with_reducible refine Fr.setCell ?_ (Or.inr (by (first | with_reducible exact Nat.le_refl _ | (simp; done) | omega | (simp; omega)))) _ | with_reducible refine Fr.alloc ?_ _ | with_reducible refine Fr.drew ?_ | with_reducible refine Fr.drewN ?_ _ | (with_reducible refine Fr.then ?_ (by with_reducible assumption))))⟩

theorem coreNew (n : Nat) (h1 : 1 ≤ n) (h2 : n ≤ 64) (w : World) : Calls Tryz.prog 79 #[.int .i64 n] w fun e w' => ∃ L, e = .returned (.tuple #[.pointer (some ⟨L.c, 0, none⟩), .int .i64 0]) ∧ CoreAt w' L (.new n) ∧ (∀ k, L.foot k → w.heap.size ≤ k) ∧ Fr No w w' := by
  go_enter Tryz.func79, Tryz.ntmps79
  go_wp2_with fail
  refine (nodeNew n h1 h2 _).mono ?_
  rintro e w1 ⟨nb, rfl, hn, hnb, hf1⟩
  go_wp2_with fail
  refine (profNew n h2 _).mono ?_
  rintro e w2 ⟨pb, g, rfl, hp, hpb, hg, hf2⟩
  go_wp2_with fail
  refine (jobNew _).mono ?_
  rintro e w3 ⟨jb, rfl, hj, hjb, hf3⟩
  go_wp2_with fail
  go_ret2
  have z1 := hf1.size
  have z2 := hf2.size
  have z3 := hf3.size
  refine ⟨⟨w3.heap.size, jb, nb, pb, g, .slice none 0 0⟩, rfl, ⟨Blk.new _ _ _, hj.fr (F := No) (by (repeat' (first | with_reducible exact Fr.refl _ _ | with_reducible assumption | with_reducible refine Fr.setCell ?_ (Or.inr (by (first | with_reducible exact Nat.le_refl _ | (simp; done) | omega | (simp; omega)))) _ | with_reducible refine Fr.alloc ?_ _ | with_reducible refine Fr.drew ?_ | with_reducible refine Fr.drewN ?_ _ | (with_reducible refine Fr.then ?_ (by with_reducible assumption))))) id (fun _ _ => id), ((hn.fr hf2 id).fr hf3 id).fr (F := No) (by (repeat' (first | with_reducible exact Fr.refl _ _ | with_reducible assumption | with_reducible refine Fr.setCell ?_ (Or.inr (by (first | with_reducible exact Nat.le_refl _ | (simp; done) | omega | (simp; omega)))) _ | with_reducible refine Fr.alloc ?_ _ | with_reducible refine Fr.drew ?_ | with_reducible refine Fr.drewN ?_ _ | (with_reducible refine Fr.then ?_ (by with_reducible assumption))))) id, (hp.fr hf3 id id).fr (F := No) (by (repeat' (first | with_reducible exact Fr.refl _ _ | with_reducible assumption | with_reducible refine Fr.setCell ?_ (Or.inr (by (first | with_reducible exact Nat.le_refl _ | (simp; done) | omega | (simp; omega)))) _ | with_reducible refine Fr.alloc ?_ _ | with_reducible refine Fr.drew ?_ | with_reducible refine Fr.drewN ?_ _ | (with_reducible refine Fr.then ?_ (by with_reducible assumption))))) id id⟩, ?_, by (repeat' (first | with_reducible exact Fr.refl _ _ | with_reducible assumption | with_reducible refine Fr.setCell ?_ (Or.inr (by (first | with_reducible exact Nat.le_refl _ | (simp; done) | omega | (simp; omega)))) _ | with_reducible refine Fr.alloc ?_ _ | with_reducible refine Fr.drew ?_ | with_reducible refine Fr.drewN ?_ _ | (with_reducible refine Fr.then ?_ (by with_reducible assumption))))⟩
  intro k hk
  simp [Locs.foot, Value.ownBlock] at hk
  omega

theorem coreNew_no (n : Int) (h : n < 1 ∨ 64 < n) (w : World) : Calls Tryz.prog 79 #[.int .i64 n] w fun e w' => e = .returned (.tuple #[.pointer none, .int .i64 1]) ∧ w = w' := by
  go_enter Tryz.func79, Tryz.ntmps79
  go_wp2_with fail
  refine (nodeNew_no n h _).mono ?_
  rintro e w1 ⟨rfl, rfl⟩
  go_wp2_with fail
  go_ret2
  exact ⟨rfl, rfl⟩

theorem none_no (L : Locs) (s : St) (w : World) (h : CoreAt w L s) : Calls Tryz.prog 97 #[.pointer (some ⟨L.c, 0, none⟩)] w fun e w' => e = .returned (.bool false) ∧ w = w' := by
  obtain ⟨c0, c1, c2, c3, hz⟩ := h.cells
  clear h
  go_enter Tryz.func97, Tryz.ntmps97
  go_wp2
  go_ret
  exact ⟨rfl, rfl⟩

theorem closed_any (L : Locs) (s : St) (w : World) (h : CoreAt w L s) : Calls Tryz.prog 55 #[.pointer (some ⟨L.c, 0, none⟩)] w fun e w' => e = .returned (.bool s.closed) ∧ w = w' := by
  obtain ⟨c0, c1, c2, c3, hz⟩ := h.cells
  have H := Lib.hid h
  clear h
  go_enter Tryz.func55, Tryz.ntmps55
  go_wp2_with fail
  refine (none_no L s _ H.out).mono ?_
  rintro e w1 ⟨rfl, rfl⟩
  go_wp2_with fail
  go_ret
  exact ⟨rfl, rfl⟩
end Go.Proofs.YtbbbodfikgdhcaaGreatDoor
