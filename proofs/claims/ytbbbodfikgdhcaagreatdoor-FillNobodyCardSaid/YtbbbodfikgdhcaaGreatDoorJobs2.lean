/- The jobs of a table that are in some states. -/
import Derived.Test.YtbbbodfikgdhcaaGreatDoorJobs1
import Derived.OwnWalk
namespace Go.Proofs.YtbbbodfikgdhcaaGreatDoor
open Go Go.RowKit

theorem own_form {w : World} {base n size : Nat} {e : TypeId} {v : Value} {xs : List Value} (h : w.ownsRow base e size v n xs) : (v = .slice none 0 0 ∧ n = 0) ∨ ∃ g cap, v = .slice (some ⟨g, 0, none⟩) n cap ∧ base ≤ g ∧ g < w.heap.size := by
  rcases h.2 with ⟨hv, hn⟩ | ⟨g, cap, cur, hv, hb, hg, _⟩
  · exact .inl ⟨hv, hn⟩
  · exact .inr ⟨g, cap, hv, hb, (Array.getElem?_eq_some_iff.1 hg).1⟩

theorem own_mono {w : World} {base base' size n : Nat} {e : TypeId} {v : Value} {xs : List Value} (h : w.ownsRow base e size v n xs) (hb : base' ≤ base) : w.ownsRow base' e size v n xs := by
  refine ⟨h.1, ?_⟩
  rcases h.2 with h2 | ⟨g, cap, cur, h2, h3, h4⟩
  · exact .inl h2
  · exact .inr ⟨g, cap, cur, h2, Nat.le_trans hb h3, h4⟩

theorem Blk.news {w : World} {g : Nat} {t : TypeId} {cs : Array Value} {xs : List Value} (h : Blk w g t cs) (e : cs.toList = xs) : ∀ j u, xs[j]? = some u → w.cell? ((⟨g, 0, none⟩ : Addr).add j) = some u := by
  intro j u hu
  subst e
  rw [show ((⟨g, 0, none⟩ : Addr).add j) = ⟨g, j, none⟩ from by rw [Addr.add_lit, Nat.zero_add], h.cell]
  simpa using hu

theorem take_succ_filter {l : List Job} {st : List Int} {a : Nat} {j : Job} (h : l[a]? = some j) : inStates (l.take (a + 1)) st = inStates (l.take a) st ++ (if st.contains j.state then [j] else []) := by
  unfold inStates
  obtain ⟨ha, hj⟩ := List.getElem?_eq_some_iff.1 h
  rw [List.take_succ_eq_append_getElem ha, List.filter_append, hj]
  simp [List.filter_cons]

set_option maxHeartbeats 1000000 in
theorem jin (b : Nat) (v : Value) (l : List Job) (live : Int) (gs cap : Nat) (st : List Int) (w : World) (h : JobsAt w b v l live) (hn : l.length ≤ 1048576) (hs : st.length ≤ 1024) (hcap : st.length ≤ cap) (hg : gs < w.heap.size)
    (hst : ∀ i z, st[i]? = some z → w.cell? ⟨gs, i, none⟩ = some (.int .i64 z)) :
    Calls Tryz.prog 131 #[.pointer (some ⟨b, 0, none⟩), .slice (some ⟨gs, 0, none⟩) st.length cap] w fun e w' => ∃ v', e = .returned v' ∧ w'.ownsRow w.heap.size 89 10 v' (inStates l st).length (rowsJ (inStates l st)) ∧ Fr No w w' := by
  have H := Lib.hid h
  have Hst := Lib.hid hst
  clear h hst
  obtain ⟨i, hi, hz, hsz, hby⟩ := info_parts infoJob
  have Hi := Lib.hid hi
  have Hz := Lib.hid hz
  have Hs := Lib.hid hsz
  have Hb := Lib.hid hby
  clear hi hz hsz hby
  go_enter Tryz.func131, Tryz.ntmps131
  go_wp2_with fail
  refine (jall b v l live _ H.out hn).mono ?_
  rintro e w1 ⟨v', rfl, ho, hf1⟩
  have Ho := Lib.hid ho
  have Hf1 := Lib.hid hf1
  have z1 := hf1.size
  clear ho hf1
  rcases own_form Ho.out with ⟨rfl, hl0⟩ | ⟨g, cap', rfl, hgb, hgl⟩
  · obtain rfl : l = [] := List.eq_nil_of_length_eq_zero hl0
    go_wp2_with fail
    go_loopw [5, 11] (fun o i wr => i = .int .i64 0 ∧ o = .slice none 0 0 ∧ wr = w1) (fun _ _ _ => 0)
    case atStart => exact ⟨rfl, rfl, rfl⟩
    case round =>
      obtain ⟨rfl, rfl, rfl⟩ := hrel
      go_wp2_with fail
      go_ret
      exact ⟨_, rfl, World.ownsRow_nil _ _ _ _, Hf1.out⟩
  · go_wp2_with fail
    go_loopw [5, 11] (fun o i wr => ∃ a : Nat, i = .int .i64 a ∧ a ≤ l.length ∧ wr.ownsRow w1.heap.size 89 10 o (inStates (l.take a) st).length (rowsJ (inStates (l.take a) st)) ∧ Fr No w1 wr) (fun _ i _ => l.length - (intOf i).toNat)
    case atStart => exact ⟨0, rfl, by omega, by simpa [inStates, rowsJ] using World.ownsRow_nil _ _ _ _, Fr.refl _ _⟩
    case round =>
      obtain ⟨a, rfl, ha, how, hfr⟩ := hrel
      have How := Lib.hid how
      have Hfr := Lib.hid hfr
      have z2 := hfr.size
      clear how hfr
      by_cases hlt : a < l.length
      · obtain ⟨j, hj⟩ : ∃ j, l[a]? = some j := ⟨_, List.getElem?_eq_getElem hlt⟩
        have hcell : ∀ k, k < 10 → wr.cell? ⟨g, a * 10 + k, none⟩ = j.cs[k]? := fun k hk => (Hfr.out.cell (p := ⟨g, a * 10 + k, none⟩) hgl id).trans (row_cells Ho.out hj k hk)
        have c0 : wr.cell? ⟨g, a * 10, none⟩ = some (.int .i64 j.id) := hcell 0 (by omega)
        have c1 : wr.cell? ⟨g, a * 10 + 1, none⟩ = some (.int .i64 j.user) := hcell 1 (by omega)
        have c2 : wr.cell? ⟨g, a * 10 + 2, none⟩ = some (.int .i64 j.width) := hcell 2 (by omega)
        have c3 : wr.cell? ⟨g, a * 10 + 3, none⟩ = some (.int .i64 j.limit) := hcell 3 (by omega)
        have c4 : wr.cell? ⟨g, a * 10 + 4, none⟩ = some (.int .i64 j.prio) := hcell 4 (by omega)
        have c5 : wr.cell? ⟨g, a * 10 + 5, none⟩ = some (.int .i64 j.state) := hcell 5 (by omega)
        have c6 : wr.cell? ⟨g, a * 10 + 6, none⟩ = some (.int .i64 j.start) := hcell 6 (by omega)
        have c7 : wr.cell? ⟨g, a * 10 + 7, none⟩ = some (.int .i64 j.end_) := hcell 7 (by omega)
        have c8 : wr.cell? ⟨g, a * 10 + 8, none⟩ = some (.int .i64 j.plan) := hcell 8 (by omega)
        have c9 : wr.cell? ⟨g, a * 10 + 9, none⟩ = some (.int .u64 (j.nodes.toNat : Int)) := hcell 9 (by omega)
        have Hj := Lib.hid hj
        clear hcell hj
        go_wp2_with fail
        refine (containsInt gs cap st j.state _ hs hcap ?_).mono ?_
        · intro i z hz
          refine Eq.trans ?_ (Hst.out i z hz)
          refine Fr.cell (F := No) ?_ hg id
          exact ((Hf1.out.then Hfr.out).alloc _)
        rintro e w3 ⟨rfl, rfl⟩
        have Hn := Lib.hid (take_succ_filter (st := st) Hj.out)
        cases hst : st.contains j.state
        · go_wp2_with fail
          go_roundw
          case rel => exact ⟨a + 1, by go_num, by omega, by rw [Hn.out, hst]; simpa using How.out.alloc _, Hfr.out.alloc _⟩
          case measure => simp [intOf]; omega
        · have hfl : (inStates (l.take a) st).length ≤ 1048576 := Nat.le_trans (List.length_filter_le _ _) (by simp; omega)
          go_wp2_with (first
            | (at_builtin; go_loud (refine wpList_append_own _ rfl _ _ 71 rfl w1.heap.size 89 i _ 10 80 Tryz.underlying71 Hi.out Hz.out Hs.out Hb.out rfl (by decide) _ _ _ rfl ((How.out.alloc _).alloc _) ⟨wr.heap.size + 1, 0, none⟩ 1 1 j.cs rfl rfl ?_ j.cs_one (by unfold maxLen; omega) (by omega) (by simp; omega) ?_)))
          · exact (Blk.new1 wr _ 89 _).news rfl
          intro v' w4 hown hgrow hnil
          have Hown := Lib.hid hown
          have Hg4 : Hid (Fr No w1 w4) := Lib.hid (((Hfr.out.alloc _).alloc _).trans (Fr.grown hgrow (F := fun k => u5.ownBlock = some k) (fun k e => e)) (fun _ x => x) (fun k hk hx => by
            have := (How.out.lt k hx).1
            omega))
          clear hown hgrow hnil
          go_wp2_with fail
          go_roundw
          case rel =>
            refine ⟨a + 1, by go_num, by omega, ?_, Hg4.out⟩
            rw [Hn.out, hst]
            have := Hown.out
            simpa [rowsJ_append, rowsJ] using this
          case measure => simp [intOf]; omega
      · go_wp2_with fail
        go_ret
        refine ⟨_, rfl, ?_, Hf1.out.then Hfr.out⟩
        obtain rfl : a = l.length := by omega
        have := own_mono How.out z1
        simpa using this
end Go.Proofs.YtbbbodfikgdhcaaGreatDoor
