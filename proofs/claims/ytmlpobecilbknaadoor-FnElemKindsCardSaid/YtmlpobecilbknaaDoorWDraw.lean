/- The walks of the reader of a code (l10Open, pick, num): what each draws, and that it changes its own block alone. -/
import Derived.Test.YtmlpobecilbknaaDoorRows
import Derived.Test.YtmlpobecilbknaaDoorRdr
import Derived.WalkKit
import Derived.WalkSpells
import Derived.WalkLawsBesides
import Derived.OpenShut
import Derived.Deep.QuietTactic
import Derived.BigQuiet
namespace Go.Proofs.YtmlpobecilbknaaDoor
open Go.RowKit Rdr
set_option linter.unusedVariables false

set_option maxRecDepth 100000 in
set_option maxHeartbeats 400000 in
theorem pick_low (w : World) (g : Nat) (A : Option Addr) (n c p : Nat) (m : Int) (hp9 : p ≤ 1000000) (h1 : m < 1)
    (c0 : w.cell? ⟨g, 0, none⟩ = some (.slice A n c)) (c1 : w.cell? ⟨g, 1, none⟩ = some (.int .i64 (p : Int))) (f1 : w.frozen? ⟨g, 1, none⟩ = false) :
    Calls Tryd.prog 66 #[.pointer (some ⟨g, 0, none⟩), .int .i64 m] w fun e w' => e = .returned (.int .i64 0) ∧ w.setCell ⟨g, 1, none⟩ (.int .i64 ((p : Int) + 1)) = w' := by
  go_enter Tryd.func66, Tryd.ntmps66
  go_wp2_with fail
  go_ret
  exact ⟨rfl, rfl⟩
set_option maxRecDepth 100000 in
set_option maxHeartbeats 400000 in
theorem pick_empty (w : World) (g : Nat) (A : Option Addr) (c p : Nat) (m : Int) (hp9 : p ≤ 1000000) (h1 : 1 ≤ m)
    (c0 : w.cell? ⟨g, 0, none⟩ = some (.slice A 0 c)) (c1 : w.cell? ⟨g, 1, none⟩ = some (.int .i64 (p : Int))) (f1 : w.frozen? ⟨g, 1, none⟩ = false) :
    Calls Tryd.prog 66 #[.pointer (some ⟨g, 0, none⟩), .int .i64 m] w fun e w' => e = .returned (.int .i64 0) ∧ w.setCell ⟨g, 1, none⟩ (.int .i64 ((p : Int) + 1)) = w' := by
  have hd : decide (m < 1) = false := by simp; omega
  go_enter Tryd.func66, Tryd.ntmps66
  go_wp2_with fail
  go_ret
  exact ⟨rfl, rfl⟩
set_option maxRecDepth 100000 in
set_option maxHeartbeats 400000 in
theorem pick_in (w : World) (g b off n c p u : Nat) (m : Int) (hp9 : p ≤ 1000000) (h1 : 1 ≤ m) (hpn : p < n) (hn2 : n ≤ 2000) (hu : u < 256) (hbg : b < g)
    (c0 : w.cell? ⟨g, 0, none⟩ = some (.slice (some ⟨b, off, none⟩) n c)) (c1 : w.cell? ⟨g, 1, none⟩ = some (.int .i64 (p : Int))) (f1 : w.frozen? ⟨g, 1, none⟩ = false) (cu : w.cell? ⟨b, off + p, none⟩ = some (.int .u8 u)) :
    Calls Tryd.prog 66 #[.pointer (some ⟨g, 0, none⟩), .int .i64 m] w fun e w' => e = .returned (.int .i64 ((u : Int) % m)) ∧ w.setCell ⟨g, 1, none⟩ (.int .i64 ((p : Int) + 1)) = w' := by
  have hd : decide (m < 1) = false := by simp; omega
  have hd0 : ((n : Int) == 0) = false := by simp; omega
  have hne : ¬ b = g := by omega
  go_enter Tryd.func66, Tryd.ntmps66
  go_wp2_with fail
  go_ret
  exact ⟨rfl, rfl⟩
/-- WHAT IS DRAWN PAST THE CODE's END -/
def mix (u v p n : Nat) (m : Int) : Int := (bits .xor .i64 ((u : Int) * 131 + (v : Int) * 1117 + (p : Int) * 29 + (p : Int) / n * 53) (((u : Int) * 131 + (v : Int) * 1117 + (p : Int) * 29 + (p : Int) / n * 53) / 64)).tmod m
theorem mix_in (u v p n : Nat) (m : Int) (hu : u < 256) (hv : v < 256) (hp : p ≤ 1000000) (h1 : 1 ≤ m) : 0 ≤ mix u v p n m ∧ mix u v p n m < m := by
  have d1 : (0 : Int) ≤ (p : Int) / n := Int.ediv_nonneg (by omega) (by omega)
  have d2 : (p : Int) / n ≤ 1000000 := by
    have := Int.ediv_le_self (n : Int) (a := (p : Int)) (by omega)
    omega
  have hx := xor_nonneg ((u : Int) * 131 + (v : Int) * 1117 + (p : Int) * 29 + (p : Int) / n * 53) (((u : Int) * 131 + (v : Int) * 1117 + (p : Int) * 29 + (p : Int) / n * 53) / 64) (by omega) (by omega) (by omega) (by omega)
  exact tmod_in _ m hx h1
set_option maxRecDepth 100000 in
set_option maxHeartbeats 400000 in
theorem pick_out (w : World) (g b off n c p u v : Nat) (m : Int) (hp9 : p ≤ 1000000) (h1 : 1 ≤ m) (hpn : n ≤ p) (hn : 0 < n) (hn2 : n ≤ 2000) (hu : u < 256) (hv : v < 256) (hbg : b < g)
    (c0 : w.cell? ⟨g, 0, none⟩ = some (.slice (some ⟨b, off, none⟩) n c)) (c1 : w.cell? ⟨g, 1, none⟩ = some (.int .i64 (p : Int))) (f1 : w.frozen? ⟨g, 1, none⟩ = false) (cu : w.cell? ⟨b, off + p % n, none⟩ = some (.int .u8 u)) (cv : w.cell? ⟨b, off + (p * 7 + 3) % n, none⟩ = some (.int .u8 v)) :
    Calls Tryd.prog 66 #[.pointer (some ⟨g, 0, none⟩), .int .i64 m] w fun e w' => e = .returned (.int .i64 (mix u v p n m)) ∧ ∃ k : Nat, (w.setCell ⟨g, 1, none⟩ (.int .i64 ((p : Int) + 1))).drewN k = w' := by
  have hd : decide (m < 1) = false := by simp; omega
  have hd0 : ((n : Int) == 0) = false := by simp; omega
  have hne : ¬ b = g := by omega
  have hn0 : ¬ n = 0 := by omega
  have hnz : (n : Int) ≠ 0 := by omega
  have hnp : (0 : Int) < n := by omega
  have m1 : (p : Int).tmod n = (p : Int) % n := Int.tmod_eq_emod_of_nonneg (by omega)
  have m2 : ((p : Int) * 7 + 3).tmod n = ((p : Int) * 7 + 3) % n := Int.tmod_eq_emod_of_nonneg (by omega)
  have a1 := Int.emod_nonneg (p : Int) hnz
  have a2 := Int.emod_lt_of_pos (p : Int) hnp
  have a3 : ((p : Int) % n).toNat = p % n := by rw [← Int.natCast_emod, Int.toNat_natCast]
  have b1 := Int.emod_nonneg ((p : Int) * 7 + 3) hnz
  have b2 := Int.emod_lt_of_pos ((p : Int) * 7 + 3) hnp
  have b3 : (((p : Int) * 7 + 3) % n).toNat = (p * 7 + 3) % n := by
    have : ((p : Int) * 7 + 3) % n = (((p * 7 + 3) % n : Nat) : Int) := by rw [Int.natCast_emod]; rfl
    rw [this, Int.toNat_natCast]
  have d1 : (0 : Int) ≤ (p : Int) / n := Int.ediv_nonneg (by omega) (by omega)
  have d2 : (p : Int) / n ≤ 1000000 := by
    have := Int.ediv_le_self (n : Int) (a := (p : Int)) (by omega)
    omega
  have hmz : ¬ m = 0 := by omega
  clear hnz hnp
  go_enter Tryd.func66, Tryd.ntmps66
  go_wp2_with fail
  go_quiet (fail)
  go_wp2
  go_ret
  exact ⟨rfl, _, rfl⟩

/-- A PICK: a number below m (0 where m is below 1); the reader goes on by one; no other block turns. -/
def Picked (m : Int) (w : World) (g k : Nat) (e : Ending) (w' : World) : Prop :=
  ∃ x : Int, e = .returned (.int .i64 x) ∧ 0 ≤ x ∧ (1 ≤ m → x < m) ∧ (m < 1 → x = 0) ∧ Rd 82 w' g (k + 1) ∧ Only g w w'
/-- the pick, what it draws being fixed ahead of the call -/
theorem pick_fix (w : World) (g k : Nat) (m : Int) (h : Rd 82 w g k) (hk : k ≤ 1000000) :
    ∃ x : Int, 0 ≤ x ∧ (1 ≤ m → x < m) ∧ (m < 1 → x = 0) ∧ Calls Tryd.prog 66 #[.pointer (some ⟨g, 0, none⟩), .int .i64 m] w fun e w' => e = .returned (.int .i64 x) ∧ Rd 82 w' g (k + 1) ∧ Only g w w' := by
  obtain ⟨A, n, c, p, hb, hn, hp, hB⟩ := h
  have c0 : w.cell? ⟨g, 0, none⟩ = some (.slice A n c) := by simp [World.cell?, hb]
  have c1 : w.cell? ⟨g, 1, none⟩ = some (.int .i64 (p : Int)) := by simp [World.cell?, hb]
  have f1 : w.frozen? ⟨g, 1, none⟩ = false := by simp [World.frozen?, hb]
  have hs := fun m => Rd.step (m := m) hb hn hp hB
  have ho : ∀ j, Only g w ((w.setCell ⟨g, 1, none⟩ (.int .i64 ((p : Int) + 1))).drewN j) := fun j => ((Only.refl g w).setCell (p := ⟨g, 1, none⟩) (.inl rfl) _).drewN j
  by_cases h1 : m < 1
  · refine ⟨0, by omega, fun h => by omega, fun _ => rfl, (pick_low w g A n c p m (by omega) h1 c0 c1 f1).mono fun e w' ⟨he, hw⟩ => ?_⟩
    subst hw
    exact ⟨he, hs 0, ho 0⟩
  · rcases Nat.eq_zero_or_pos n with hz | hz
    · subst hz
      refine ⟨0, by omega, fun h => by omega, fun h => by omega, (pick_empty w g A c p m (by omega) (by omega) c0 c1 f1).mono fun e w' ⟨he, hw⟩ => ?_⟩
      subst hw
      exact ⟨he, hs 0, ho 0⟩
    · rcases hB with hB | ⟨b, off, rfl, hbg, hc⟩
      · omega
      · by_cases hpn : p < n
        · obtain ⟨u, hu, cu⟩ := hc p hpn
          refine ⟨(u : Int) % m, Int.emod_nonneg _ (by omega), fun _ => Int.emod_lt_of_pos _ (by omega), fun h => by omega, (pick_in w g b off n c p u m (by omega) (by omega) hpn hn hu hbg c0 c1 f1 cu).mono fun e w' ⟨he, hw⟩ => ?_⟩
          subst hw
          exact ⟨he, hs 0, ho 0⟩
        · obtain ⟨u, hu, cu⟩ := hc (p % n) (Nat.mod_lt _ hz)
          obtain ⟨v, hv, cv⟩ := hc ((p * 7 + 3) % n) (Nat.mod_lt _ hz)
          have hm := mix_in u v p n m hu hv (by omega) (by omega)
          refine ⟨_, hm.1, fun _ => hm.2, fun h => by omega, (pick_out w g b off n c p u v m (by omega) (by omega) (by omega) hz hn hu hv hbg c0 c1 f1 cu cv).mono fun e w' ⟨he, j, hw⟩ => ?_⟩
          subst hw
          exact ⟨he, hs j, ho j⟩
theorem pick_any (w : World) (g k : Nat) (m : Int) (h : Rd 82 w g k) (hk : k ≤ 1000000) :
    Calls Tryd.prog 66 #[.pointer (some ⟨g, 0, none⟩), .int .i64 m] w (Picked m w g k) := by
  obtain ⟨x, h0, h1, h2, hp⟩ := pick_fix w g k m h hk
  exact hp.mono fun e w' ⟨he, hr, ho⟩ => ⟨x, he, h0, h1, h2, hr, ho⟩

/-- WHAT A CODE IS: a slice of bytes that came in. -/
def IsCode (w : World) (a : Option Addr) (len cap : Nat) : Prop :=
  len = 0 ∨ ∃ b off, a = some ⟨b, off, none⟩ ∧ len ≤ cap ∧ b < w.heap.size ∧ ∀ i, i < len → ∃ u : Nat, u < 256 ∧ w.cell? ⟨b, off + i, none⟩ = some (.int .u8 u)
/-- A NEW READER at place 0, in a block of its own. -/
def Opened (w : World) (e : Ending) (w' : World) : Prop :=
  e = .returned (.pointer (some ⟨w.heap.size, 0, none⟩)) ∧ Rd 82 w' w.heap.size 0 ∧ Below w.heap.size w w' ∧ w'.heap.size = w.heap.size + 1
set_option maxRecDepth 100000 in
set_option maxHeartbeats 400000 in
theorem open_small (a : Option Addr) (n c : Nat) (h : n ≤ 2000) (w : World) :
    Calls Tryd.prog 64 #[.slice a n c] w fun e w' => e = .returned (.pointer (some ⟨w.heap.size, 0, none⟩)) ∧ w.alloc (.cells #[.slice a n c, .int .i64 0] 82) = w' := by
  have hd : decide ((2000 : Int) < (n : Int)) = false := by simp; omega
  go_enter Tryd.func64, Tryd.ntmps64
  go_wp2
  go_ret
  exact ⟨rfl, rfl⟩
set_option maxRecDepth 100000 in
set_option maxHeartbeats 400000 in
theorem open_great (b off : Nat) (n c : Nat) (h : 2000 < n) (hc : n ≤ c) (w : World) :
    Calls Tryd.prog 64 #[.slice (some ⟨b, off, none⟩) n c] w fun e w' => ∃ c', e = .returned (.pointer (some ⟨w.heap.size, 0, none⟩)) ∧ w.alloc (.cells #[.slice (some ⟨b, off, none⟩) 2000 c', .int .i64 0] 82) = w' := by
  have hd : decide ((2000 : Int) < (n : Int)) = true := by simp; omega
  go_enter Tryd.func64, Tryd.ntmps64
  go_wp2
  go_ret
  exact ⟨_, rfl, rfl⟩
theorem open_any (a : Option Addr) (n c : Nat) (w : World) (h : IsCode w a n c) : Calls Tryd.prog 64 #[.slice a n c] w (Opened w) := by
  have hbel : ∀ o, Below w.heap.size w (w.alloc o) := fun o => (Below.refl _ _).alloc (Nat.le_refl _) o
  rcases h with rfl | ⟨b, off, rfl, hc, hb, hcell⟩
  · refine (open_small a 0 c (by omega) w).mono fun e w' ⟨he, hw⟩ => ?_
    subst hw
    exact ⟨he, ⟨a, 0, c, 0, heap_alloc_new w _, by omega, by omega, .inl rfl⟩, hbel _, by simp⟩
  · by_cases hn : n ≤ 2000
    · refine (open_small _ n c hn w).mono fun e w' ⟨he, hw⟩ => ?_
      subst hw
      refine ⟨he, ⟨_, n, c, 0, heap_alloc_new w _, hn, by omega, .inr ⟨b, off, rfl, hb, fun i hi => ?_⟩⟩, hbel _, by simp⟩
      obtain ⟨u, hu, h1⟩ := hcell i hi
      exact ⟨u, hu, ((hbel _).cell (p := ⟨b, off + i, none⟩) hb).trans h1⟩
    · refine (open_great b off n c (by omega) hc w).mono fun e w' ⟨c', he, hw⟩ => ?_
      subst hw
      refine ⟨he, ⟨_, 2000, c', 0, heap_alloc_new w _, by omega, by omega, .inr ⟨b, off, rfl, hb, fun i hi => ?_⟩⟩, hbel _, by simp⟩
      obtain ⟨u, hu, h1⟩ := hcell i (by omega)
      exact ⟨u, hu, ((hbel _).cell (p := ⟨b, off + i, none⟩) hb).trans h1⟩

/-- WHAT IS KNOWN OF A SLICE OF INTEGERS THAT CAME IN: it is nil; or it leads to a row of 'cap' cells. -/
def IsRow (k : IntKind) (w : World) (a : Option Addr) (len cap : Nat) (zs : List Int) : Prop :=
  (a = none ∧ len = 0 ∧ cap = 0 ∧ zs = []) ∨
  ∃ x, a = some x ∧ len ≤ cap ∧ cap ≤ maxLen ∧ zs.length = cap ∧ (∀ i, i < zs.length → w.cell? (x.add i) = some (.int k (zs.getD i 0))) ∧ ∀ n ∈ zs, (Lit.int k n).wf = true
theorem isCode_of {w : World} {a : Option Addr} {len cap : Nat} {zs : List Int} (h : IsRow .u8 w a len cap zs) : IsCode w a len cap := by
  rcases h with ⟨rfl, rfl, rfl, _⟩ | ⟨x, rfl, hl, _, hz, hc, hw⟩
  · exact .inl rfl
  · rcases Nat.eq_zero_or_pos len with h0 | h0
    · exact .inl h0
    · right
      obtain ⟨b, off, spot⟩ := x
      have h1 := hc 0 (by omega)
      have hs : spot = none := by simpa [Addr.add] using World.cell?_spot h1
      subst hs
      have hb : b < w.heap.size := by
        rcases Nat.lt_or_ge b w.heap.size with h | h
        · exact h
        · simp [World.cell?, Addr.add, Array.getElem?_eq_none h] at h1
      refine ⟨b, off, rfl, hl, hb, fun i hi => ?_⟩
      have h2 := hc i (by omega)
      have hm : zs.getD i 0 ∈ zs := by rw [List.getD_eq_getElem?_getD, List.getElem?_eq_getElem (by omega)]; exact List.getElem_mem _
      have h3 := bounds_u8 (hw _ hm)
      refine ⟨(zs.getD i 0).toNat, by omega, ?_⟩
      rw [show ((zs.getD i 0).toNat : Int) = zs.getD i 0 by omega, ← h2]
      rcases Nat.eq_zero_or_pos i with rfl | hi0
      · simp [Addr.add]
      · rw [Addr.add, if_neg (by omega)]
end Go.Proofs.YtmlpobecilbknaaDoor
