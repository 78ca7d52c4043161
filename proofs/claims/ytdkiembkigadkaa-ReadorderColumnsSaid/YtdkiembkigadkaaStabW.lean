/- Merged of Swr, Rot, Sym1, Sym2, SymG, SymL, Sym, Stb. -/
import Derived.Test.YtdkiembkigadkaaStab
import Derived.Test.YtdkiembkigadkaaPSym2
import Derived.Sort.WalkA
import Derived.Sort.WalkB2
import Derived.Sort.WalkB12
import Derived.Deep.LoopGhost
/- Swr -/
set_option linter.unusedSimpArgs false
set_option linter.unusedVariables false
namespace Go.Proofs.Ytdkiembkigadkaa.M
open Go.Shelf Go.RowKit Go.Lib Go.Sort Go.Proofs
open Go.Proofs.Ytdkiembkigadkaa.P (swR size_swR)
variable {α : Type} [Inhabited α]
set_option maxHeartbeats 16000000 in
set_option maxRecDepth 1000000 in
theorem swapRange_s (enc : α → Value) (blk off cap a b n : Nat) (fv : Value) (d0 d : Array α) (w0 w : World) (R : Row1 enc w0 blk off d0) (hs : d0.size = d.size) (S : SW enc w0 blk off d w) (ha : a + n ≤ d.size) (hb : b + n ≤ d.size) (hsz : d.size < 4611686018427387904) :
    Calls Try.prog 88 #[.slice (some ⟨blk, off, none⟩) d.size cap, .int .i64 a, .int .i64 b, .int .i64 n, fv] w fun e w' => e = .returned (.tuple #[]) ∧ SW enc w0 blk off (swR d a b n) w' := by
  have mixed : Try.prog.follows Departure.mixedOrders = true := by kernel_rfl
  have hcl0 := R.hO.cells
  simp only [Value.cells] at hcl0
  have hst := R.hO.store Try.prog
  have S0 : Aside (SW enc w0 blk off d w) := S
  clear S
  go_enter Try.func88, Try.ntmps88
  go_wp2
  go_loopg [10] n (fun g1 vi wr => ∃ (i : Nat), vi = .int .i64 i ∧ i ≤ n ∧ n - i ≤ g1 ∧ Aside (SW enc w0 blk off (swR d a b i) wr))
  case atStart => exact ⟨0, by go_num, by omega, by omega, S0⟩
  case round =>
    clear S0
    obtain ⟨i, rfl, hin, hg1, S2⟩ := hrel
    have hsk := size_swR d a b i
    by_cases hlt : i < n
    · have hltz : (i : Int) < (n : Int) := by omega
      obtain ⟨dk, hdk⟩ : ∃ q, q = swR d a b i := ⟨_, rfl⟩
      rw [← hdk] at S2 hsk
      have pa : (0 : Int) ≤ (a : Int) + (i : Int) := by omega
      have ba : (a : Int) + (i : Int) < (d.size : Int) := by omega
      have ra : IntKind.i64.wrap ((a : Int) + (i : Int)) = (a : Int) + (i : Int) := by rw [IntKind.wrap_i64]; omega
      have pc : (0 : Int) ≤ (b : Int) + (i : Int) := by omega
      have bc : (b : Int) + (i : Int) < (d.size : Int) := by omega
      have rc : IntKind.i64.wrap ((b : Int) + (i : Int)) = (b : Int) + (i : Int) := by rw [IntKind.wrap_i64]; omega
      obtain ⟨x, hx⟩ : ∃ x, x = dk[a + i]! := ⟨_, rfl⟩
      obtain ⟨y, hy⟩ : ∃ x, x = dk[b + i]! := ⟨_, rfl⟩
      have S3 : Aside (SW enc w0 blk off (swp dk (a + i) (b + i)) ((wr.setCell ⟨blk, off + (a + i), none⟩ (enc y)).setCell ⟨blk, off + (b + i), none⟩ (enc x)).drew) := by rw [hx, hy]; exact S2.out.swapped R (a + i) (b + i) (by omega) (by omega)
      have c1a := S2.out.c1 R (by omega) (a + i) (by omega)
      have c1b := S2.out.c1 R (by omega) (b + i) (by omega)
      have f1a := S2.out.f1 R (by omega) (a + i) (by omega)
      have f1b := S2.out.f1 R (by omega) (b + i) (by omega)
      obtain ⟨u, c1c⟩ := S2.out.c2 R (by omega) (a + i) (b + i) (by omega) (by omega) (enc y)
      rw [← hx] at c1a
      rw [← hy] at c1b
      clear S2 hx hy
      go_wp2_with fail
      go_big_region_o
      clear c1a c1b c1c f1a f1b
      generalize ((wr.setCell ⟨blk, off + (a + i), none⟩ (enc y)).setCell ⟨blk, off + (b + i), none⟩ (enc x)).drew = w3 at S3 ⊢
      go_wp2
      go_roundg (n - (i + 1))
      case measure => omega
      case rel => exact ⟨i + 1, by go_num, by omega, Nat.le_refl _, by rw [swR, ← hdk]; exact S3⟩
    · have hltz : ¬ (i : Int) < (n : Int) := by omega
      have e : i = n := by omega
      subst e
      go_wp2
      go_end0
      exact ⟨rfl, S2.out⟩
end Go.Proofs.Ytdkiembkigadkaa.M

/- Rot -/
set_option linter.unusedSimpArgs false
set_option linter.unusedVariables false
namespace Go.Proofs.Ytdkiembkigadkaa.M
open Go.Shelf Go.RowKit Go.Lib Go.Sort Go.Proofs
open Go.Proofs.Ytdkiembkigadkaa.P (swR size_swR swR_get swR_perm rotV rotV_gt rotV_lt rotV_eq)
variable {α : Type} [Inhabited α]
set_option maxHeartbeats 16000000 in
set_option maxRecDepth 1000000 in
theorem rotate_s (enc : α → Value) (blk off cap a m b : Nat) (fv : Value) (d0 d : Array α) (w0 w : World) (R : Row1 enc w0 blk off d0) (hs : d0.size = d.size) (S : SW enc w0 blk off d w) (ham : a < m) (hmb : m < b) (hb : b ≤ d.size) (hsz : d.size < 4611686018427387904) :
    Calls Try.prog 75 #[.slice (some ⟨blk, off, none⟩) d.size cap, .int .i64 a, .int .i64 m, .int .i64 b, fv] w fun e w' => e = .returned (.tuple #[]) ∧ ∃ r, PermIn a b d r ∧ (∀ t, r[t]! = rotV a m b d t) ∧ SW enc w0 blk off r w' := by
  have S0 : Aside (SW enc w0 blk off d w) := S
  clear S
  have zi : (m : Int) - (a : Int) = ((m - a : Nat) : Int) := by omega
  have zj : (b : Int) - (m : Int) = ((b - m : Nat) : Int) := by omega
  go_enter Try.func75, Try.ntmps75
  go_wp2
  go_loopg [10, 11] (b - a) (fun g1 vi vj wr => ∃ (i j : Nat) (dk : Array α), vi = .int .i64 i ∧ vj = .int .i64 j ∧ 0 < i ∧ 0 < j ∧ i ≤ m - a ∧ j ≤ b - m ∧ i + j ≤ g1 ∧ Hid (PermIn a b d dk ∧ ∀ t, rotV a m b d t = rotV (m - i) m (m + j) dk t) ∧ Aside (SW enc w0 blk off dk wr))
  case atStart => exact ⟨m - a, b - m, d, by go_num, by go_num, by omega, by omega, Nat.le_refl _, Nat.le_refl _, by omega, ⟨permIn_refl _ _ _, fun t => by rw [show m - (m - a) = a by omega, show m + (b - m) = b by omega]⟩, S0⟩
  case round =>
    clear S0
    obtain ⟨i, j, dk, rfl, rfl, hi0, hj0, hia, hjb, hg1, HP, S1⟩ := hrel
    have hsk : dk.size = d.size := HP.out.1.1
    have z1 : (m : Int) - (i : Int) = ((m - i : Nat) : Int) := by omega
    by_cases hne : i = j
    · subst hne
      go_wp2_with (go_at_call 88; (try rw [z1]); rw [← hsk]; refine (swapRange_s enc blk off cap (m - i) m i _ d0 dk w0 _ R (by omega) S1.out (by omega) (by omega) (by omega)).mono ?_; rintro e w' ⟨rfl, hS⟩)
      go_end0
      refine ⟨rfl, swR dk (m - i) m i, ?_, ?_, hS⟩
      · exact permIn_trans _ _ _ _ _ HP.out.1 (swR_perm dk (m - i) m a b i (by omega) (by omega) (by omega) (by omega) (by omega))
      · intro t
        rw [HP.out.2 t, rotV_eq dk m i (by omega) (by omega)]
    · have hnez : ¬ (i : Int) = (j : Int) := by omega
      by_cases hgt : j < i
      · have hgtz : (j : Int) < (i : Int) := by omega
        have z2 : (i : Int) - (j : Int) = ((i - j : Nat) : Int) := by omega
        go_wp2_with (go_at_call 88; (try rw [z1]); rw [← hsk]; refine (swapRange_s enc blk off cap (m - i) m j _ d0 dk w0 _ R (by omega) S1.out (by omega) (by omega) (by omega)).mono ?_; rintro e w' ⟨rfl, hS⟩)
        go_roundg (i - j + j)
        case measure => omega
        case rel =>
          refine ⟨i - j, j, swR dk (m - i) m j, by go_num, rfl, by omega, hj0, by omega, hjb, by omega, ⟨permIn_trans _ _ _ _ _ HP.out.1 (swR_perm dk (m - i) m a b j (by omega) (by omega) (by omega) (by omega) (by omega)), fun t => ?_⟩, hS⟩
          rw [HP.out.2 t, rotV_gt dk m i j hgt (by omega) (by omega)]
      · have hgtz : ¬ (j : Int) < (i : Int) := by omega
        have z2 : (j : Int) - (i : Int) = ((j - i : Nat) : Int) := by omega
        have z3 : (m : Int) + (j : Int) - (i : Int) = ((m + j - i : Nat) : Int) := by omega
        go_wp2_with (go_at_call 88; (try rw [z1]); (try rw [z3]); rw [← hsk]; refine (swapRange_s enc blk off cap (m - i) (m + j - i) i _ d0 dk w0 _ R (by omega) S1.out (by omega) (by omega) (by omega)).mono ?_; rintro e w' ⟨rfl, hS⟩)
        go_roundg (i + (j - i))
        case measure => omega
        case rel =>
          refine ⟨i, j - i, swR dk (m - i) (m + j - i) i, rfl, by go_num, hi0, by omega, hia, by omega, by omega, ⟨permIn_trans _ _ _ _ _ HP.out.1 (swR_perm dk (m - i) (m + j - i) a b i (by omega) (by omega) (by omega) (by omega) (by omega)), fun t => ?_⟩, hS⟩
          rw [HP.out.2 t, rotV_lt dk m i j (by omega) (by omega) (by omega)]
end Go.Proofs.Ytdkiembkigadkaa.M

/- Sym1 -/
set_option linter.unusedSimpArgs false
set_option linter.unusedVariables false
namespace Go.Proofs.Ytdkiembkigadkaa.M
open Go.Shelf Go.RowKit Go.Lib Go.Sort Go.Proofs
open Go.Proofs.Ytdkiembkigadkaa.P (swR size_swR swR_get swR_perm rotV So shU shU_get shU_perm size_shU shD shD_get shD_perm size_shD one_up one_down Cut cut_of halves)
variable {α : Type} [Inhabited α]
set_option maxHeartbeats 16000000 in
set_option maxRecDepth 1000000 in
theorem sym_one (K : α → Int) (enc : α → Value) (cf : α → α → Int) (I : α → Nat) (hK : ∀ x y, I y < I x → (cf x y < 0 ↔ K x < K y)) (g : Nat) (cb : Array Value) (blk off cap a m b : Nat) (d0 d : Array α) (w0 w : World) (eg : ∀ args w, (callFunc g args).run Try.prog w = .ok (.enter g args) w) (hcmp : CmpLays1 Try.prog g cb enc cf blk off d0.size w0) (R : Row1 enc w0 blk off d0) (hs : d0.size = d.size) (S : SW enc w0 blk off d w) (ham : a < m) (hmb : m < b) (hb : b ≤ d.size) (hsz : d.size < 4611686018427387904) (hSa : So K a m d) (hSb : So K m b d) (hI : ∀ p q, a ≤ p → p < m → m ≤ q → q < b → I d[p]! < I d[q]!) (h1 : m - a = 1) :
    Calls Try.prog 62 #[.slice (some ⟨blk, off, none⟩) d.size cap, .int .i64 a, .int .i64 m, .int .i64 b, .func (.func g) #[] cb] w fun e w' => e = .returned (.tuple #[]) ∧ ∃ r, PermIn a b d r ∧ So K a b r ∧ SW enc w0 blk off r w' := by
  have mixed : Try.prog.follows Departure.mixedOrders = true := by kernel_rfl
  have hcl0 := R.hO.cells
  simp only [Value.cells] at hcl0
  have hst := R.hO.store Try.prog
  have HC : Aside _ := hcmp
  have S0 : Aside (SW enc w0 blk off d w) := S
  have HSa : Aside (So K a m d) := hSa
  have HSb : Aside (So K m b d) := hSb
  have HK : Aside (∀ x y, I y < I x → (cf x y < 0 ↔ K x < K y)) := hK
  have HX : Aside (∀ p q, a ≤ p → p < m → m ≤ q → q < b → I d[p]! < I d[q]!) := hI
  clear S hcmp hSa hSb hK hI
  have hm1 : (m : Int) - (a : Int) = 1 := by omega
  go_enter Try.func62, Try.ntmps62
  go_wp2
  go_loopg [10, 11] (b - a) (fun g1 vi vj wr => ∃ (i j : Nat), vi = .int .i64 i ∧ vj = .int .i64 j ∧ m ≤ i ∧ i ≤ j ∧ j ≤ b ∧ j - i ≤ g1 ∧ Hid ((∀ t, m ≤ t → t < i → K d[t]! < K d[a]!) ∧ (∀ t, j ≤ t → t < b → K d[a]! ≤ K d[t]!)) ∧ Aside (SW enc w0 blk off d wr))
  case atStart => exact ⟨m, b, by go_num, by go_num, by omega, by omega, Nat.le_refl _, by omega, ⟨fun t h1 h2 => by omega, fun t h1 h2 => by omega⟩, S0⟩
  case round =>
    clear S0
    obtain ⟨i, j, rfl, rfl, hmi, hij, hjb, hg1, HI, S1⟩ := hrel
    by_cases hlt : i < j
    · have hltz : (i : Int) < (j : Int) := by omega
      go_wp2
      obtain ⟨h, hh⟩ : ∃ q, q = (i + j) / 2 := ⟨_, rfl⟩
      have zh : ((i : Int) + (j : Int)) / 2 = (h : Int) := by omega
      have hih : i ≤ h := by omega
      have hhj : h < j := by omega
      rw [zh]
      clear zh hh
      have ph : (0 : Int) ≤ (h : Int) := by omega
      have bh : (h : Int) < (d.size : Int) := by omega
      have pa : (0 : Int) ≤ (a : Int) := by omega
      have ba : (a : Int) < (d.size : Int) := by omega
      by_cases hlv0 : K d[h]! < K d[a]!
      · have hlv : Hid (K d[h]! < K d[a]!) := hlv0
        clear hlv0
        obtain ⟨x, hx⟩ : ∃ x, x = d[h]! := ⟨_, rfl⟩
        obtain ⟨y, hy⟩ : ∃ x, x = d[a]! := ⟨_, rfl⟩
        have la := S1.out.cl R (by omega) h (by omega)
        have lb := S1.out.cl R (by omega) a (by omega)
        rw [← hx] at la
        rw [← hy] at lb
        have hc := S1.out.cmp HC.out (by omega) x y
        have hv : cf x y < 0 := (HK.out x y (by rw [hx, hy]; exact HX.out a h (by omega) (by omega) (by omega) (by omega))).2 (by rw [hx, hy]; exact hlv.out)
        have hd : decide (cf x y < 0) = true := decide_eq_true hv
        clear hx hy
        go_wp2_with fail
        go_quiet_grown (first | (go_at_fn g; refine Calls.grown_of (hc _ _)))
        have S2 : Aside (SW enc w0 blk off d (grow (wr.drewN nq) osq)) := S1.out.grown nq osq
        clear la lb hc S1
        generalize grow (wr.drewN nq) osq = w2 at S2 ⊢
        clear nq osq
        go_wp2
        go_roundg (j - (h + 1))
        case measure => omega
        case rel => exact ⟨h + 1, j, by go_num, rfl, by omega, by omega, hjb, Nat.le_refl _, ⟨fun t g1 g2 => Int.lt_of_le_of_lt (HSb.out.le g1 (by omega) (by omega)) hlv.out, HI.out.2⟩, S2⟩
      · have hlv : Hid (K d[a]! ≤ K d[h]!) := Int.not_lt.1 hlv0
        clear hlv0
        obtain ⟨x, hx⟩ : ∃ x, x = d[h]! := ⟨_, rfl⟩
        obtain ⟨y, hy⟩ : ∃ x, x = d[a]! := ⟨_, rfl⟩
        have la := S1.out.cl R (by omega) h (by omega)
        have lb := S1.out.cl R (by omega) a (by omega)
        rw [← hx] at la
        rw [← hy] at lb
        have hc := S1.out.cmp HC.out (by omega) x y
        have hv : ¬ cf x y < 0 := fun h9 => by have g0 := (HK.out x y (by rw [hx, hy]; exact HX.out a h (by omega) (by omega) (by omega) (by omega))).1 h9; have g1 := hlv.out; rw [← hx, ← hy] at g1; omega
        have hd : decide (cf x y < 0) = false := decide_eq_false hv
        clear hx hy
        go_wp2_with fail
        go_quiet_grown (first | (go_at_fn g; refine Calls.grown_of (hc _ _)))
        have S2 : Aside (SW enc w0 blk off d (grow (wr.drewN nq) osq)) := S1.out.grown nq osq
        clear la lb hc S1
        generalize grow (wr.drewN nq) osq = w2 at S2 ⊢
        clear nq osq
        go_wp2
        go_roundg (h - i)
        case measure => omega
        case rel => exact ⟨i, h, rfl, by go_num, hmi, by omega, by omega, Nat.le_refl _, ⟨HI.out.1, fun t g1 g2 => Int.le_trans hlv.out (HSb.out.le (by omega) g1 g2)⟩, S2⟩
    · have e : i = j := by omega
      subst e
      have hltz : ¬ (i : Int) < (i : Int) := by omega
      obtain ⟨ip, hip⟩ : ∃ q, q + 1 = i := ⟨i - 1, by omega⟩
      have zip : (i : Int) = (ip : Int) + 1 := by omega
      go_wp2
      go_loopg [13] (i - a) (fun g2 vk wr2 => ∃ (k : Nat), vk = .int .i64 k ∧ a ≤ k ∧ k ≤ ip ∧ ip - k ≤ g2 ∧ Aside (SW enc w0 blk off (shU d a (k - a)) wr2))
      case atStart => exact ⟨a, by go_num, Nat.le_refl _, by omega, by omega, by rw [Nat.sub_self]; exact S1⟩
      case round =>
        clear S1
        obtain ⟨k, rfl, hak, hn, hg2, S4⟩ := hrel
        have hsk := size_shU d a (k - a)
        obtain ⟨dk, hdk⟩ : ∃ q, q = shU d a (k - a) := ⟨_, rfl⟩
        rw [← hdk] at S4 hsk
        by_cases hlt2 : k < ip
        · have hkz : (k : Int) < (ip : Int) := by omega
          have p1 : (0 : Int) ≤ (k : Int) := by omega
          have b1 : (k : Int) < (d.size : Int) := by omega
          have p2 : (0 : Int) ≤ (k : Int) + 1 := by omega
          have b2 : (k : Int) + 1 < (d.size : Int) := by omega
          have r2 : IntKind.i64.wrap ((k : Int) + 1) = (k : Int) + 1 := by rw [IntKind.wrap_i64]; omega
          obtain ⟨x, hx⟩ : ∃ x, x = dk[k]! := ⟨_, rfl⟩
          obtain ⟨y, hy⟩ : ∃ x, x = dk[k + 1]! := ⟨_, rfl⟩
          have S3 : Aside (SW enc w0 blk off (swp dk (k) (k + 1)) ((wr.setCell ⟨blk, off + (k), none⟩ (enc y)).setCell ⟨blk, off + (k + 1), none⟩ (enc x)).drew) := by rw [hx, hy]; exact S4.out.swapped R (k) (k + 1) (by omega) (by omega)
          have c1a := S4.out.c1 R (by omega) (k) (by omega)
          have c1b := S4.out.c1 R (by omega) (k + 1) (by omega)
          have f1a := S4.out.f1 R (by omega) (k) (by omega)
          have f1b := S4.out.f1 R (by omega) (k + 1) (by omega)
          obtain ⟨u, c1c⟩ := S4.out.c2 R (by omega) (k) (k + 1) (by omega) (by omega) (enc y)
          rw [← hx] at c1a
          rw [← hy] at c1b
          clear S4 hx hy
          go_wp2_with fail
          go_big_region_o
          clear c1a c1b c1c f1a f1b
          generalize ((wr.setCell ⟨blk, off + (k), none⟩ (enc y)).setCell ⟨blk, off + (k + 1), none⟩ (enc x)).drew = w3 at S3 ⊢
          go_wp2
          go_roundg (ip - (k + 1))
          case measure => omega
          case rel => exact ⟨k + 1, by go_num, by omega, by omega, Nat.le_refl _, by rw [show k + 1 - a = (k - a) + 1 by omega, shU, ← hdk, show a + (k - a) = k by omega]; exact S3⟩
        · have hkz : ¬ (k : Int) < (ip : Int) := by omega
          go_wp2
          (try simp only [Exit.inBlock, Exit.then]); refine bodyPost_ret (results_none rfl _ _ _) rfl ?_
          refine ⟨rfl, dk, ?_, ?_, S4.out⟩
          · rw [hdk]; exact shU_perm d a a b (k - a) (Nat.le_refl _) (by omega) hb
          · refine one_up (a := a) (i := i) (d := d) (by rw [show a + 1 = m by omega]; exact HSb.out) (by omega) (by omega) (fun t g1 g2 => HI.out.1 t (by omega) g2) HI.out.2 fun t => ?_
            rw [hdk, shU_get d a (k - a) (by omega) t, show a + (k - a) + 1 = i by omega]
end Go.Proofs.Ytdkiembkigadkaa.M

/- Sym2 -/
set_option linter.unusedSimpArgs false
set_option linter.unusedVariables false
namespace Go.Proofs.Ytdkiembkigadkaa.M
open Go.Shelf Go.RowKit Go.Lib Go.Sort Go.Proofs
open Go.Proofs.Ytdkiembkigadkaa.P (swR size_swR swR_get swR_perm rotV So shU shU_get shU_perm size_shU shD shD_get shD_perm size_shD one_up one_down Cut cut_of halves)
variable {α : Type} [Inhabited α]
set_option maxHeartbeats 16000000 in
set_option maxRecDepth 1000000 in
theorem sym_two (K : α → Int) (enc : α → Value) (cf : α → α → Int) (I : α → Nat) (hK : ∀ x y, I y < I x → (cf x y < 0 ↔ K x < K y)) (g : Nat) (cb : Array Value) (blk off cap a m b : Nat) (d0 d : Array α) (w0 w : World) (eg : ∀ args w, (callFunc g args).run Try.prog w = .ok (.enter g args) w) (hcmp : CmpLays1 Try.prog g cb enc cf blk off d0.size w0) (R : Row1 enc w0 blk off d0) (hs : d0.size = d.size) (S : SW enc w0 blk off d w) (ham : a < m) (hmb : m < b) (hb : b ≤ d.size) (hsz : d.size < 4611686018427387904) (hSa : So K a m d) (hSb : So K m b d) (hI : ∀ p q, a ≤ p → p < m → m ≤ q → q < b → I d[p]! < I d[q]!) (h0 : ¬ m - a = 1) (h1 : b - m = 1) :
    Calls Try.prog 62 #[.slice (some ⟨blk, off, none⟩) d.size cap, .int .i64 a, .int .i64 m, .int .i64 b, .func (.func g) #[] cb] w fun e w' => e = .returned (.tuple #[]) ∧ ∃ r, PermIn a b d r ∧ So K a b r ∧ SW enc w0 blk off r w' := by
  have mixed : Try.prog.follows Departure.mixedOrders = true := by kernel_rfl
  have hcl0 := R.hO.cells
  simp only [Value.cells] at hcl0
  have hst := R.hO.store Try.prog
  have HC : Aside _ := hcmp
  have S0 : Aside (SW enc w0 blk off d w) := S
  have HSa : Aside (So K a m d) := hSa
  have HSb : Aside (So K m b d) := hSb
  have HK : Aside (∀ x y, I y < I x → (cf x y < 0 ↔ K x < K y)) := hK
  have HX : Aside (∀ p q, a ≤ p → p < m → m ≤ q → q < b → I d[p]! < I d[q]!) := hI
  clear S hcmp hSa hSb hK hI
  have hm0 : ((m : Int) - (a : Int) == 1) = false := beq_eq_false_iff_ne.2 (by omega)
  have hm1 : (b : Int) - (m : Int) = 1 := by omega
  go_enter Try.func62, Try.ntmps62
  go_wp2
  go_loopg [14, 15] (b - a) (fun g1 vi vj wr => ∃ (i j : Nat), vi = .int .i64 i ∧ vj = .int .i64 j ∧ a ≤ i ∧ i ≤ j ∧ j ≤ m ∧ j - i ≤ g1 ∧ Hid ((∀ t, a ≤ t → t < i → K d[t]! ≤ K d[m]!) ∧ (∀ t, j ≤ t → t < m → K d[m]! < K d[t]!)) ∧ Aside (SW enc w0 blk off d wr))
  case atStart => exact ⟨a, m, by go_num, by go_num, by omega, by omega, Nat.le_refl _, by omega, ⟨fun t h1 h2 => by omega, fun t h1 h2 => by omega⟩, S0⟩
  case round =>
    clear S0
    obtain ⟨i, j, rfl, rfl, hmi, hij, hjb, hg1, HI, S1⟩ := hrel
    by_cases hlt : i < j
    · have hltz : (i : Int) < (j : Int) := by omega
      go_wp2
      obtain ⟨h, hh⟩ : ∃ q, q = (i + j) / 2 := ⟨_, rfl⟩
      have zh : ((i : Int) + (j : Int)) / 2 = (h : Int) := by omega
      have hih : i ≤ h := by omega
      have hhj : h < j := by omega
      rw [zh]
      clear zh hh
      have ph : (0 : Int) ≤ (h : Int) := by omega
      have bh : (h : Int) < (d.size : Int) := by omega
      have pa : (0 : Int) ≤ (m : Int) := by omega
      have ba : (m : Int) < (d.size : Int) := by omega
      by_cases hlv0 : K d[m]! < K d[h]!
      · have hlv : Hid (K d[m]! < K d[h]!) := hlv0
        clear hlv0
        obtain ⟨x, hx⟩ : ∃ x, x = d[m]! := ⟨_, rfl⟩
        obtain ⟨y, hy⟩ : ∃ x, x = d[h]! := ⟨_, rfl⟩
        have la := S1.out.cl R (by omega) m (by omega)
        have lb := S1.out.cl R (by omega) h (by omega)
        rw [← hx] at la
        rw [← hy] at lb
        have hc := S1.out.cmp HC.out (by omega) x y
        have hv : cf x y < 0 := (HK.out x y (by rw [hx, hy]; exact HX.out h m (by omega) (by omega) (by omega) (by omega))).2 (by rw [hx, hy]; exact hlv.out)
        have hd : decide (cf x y < 0) = true := decide_eq_true hv
        clear hx hy
        go_wp2_with fail
        go_quiet_grown (first | (go_at_fn g; refine Calls.grown_of (hc _ _)))
        have S2 : Aside (SW enc w0 blk off d (grow (wr.drewN nq) osq)) := S1.out.grown nq osq
        clear la lb hc S1
        generalize grow (wr.drewN nq) osq = w2 at S2 ⊢
        clear nq osq
        go_wp2
        go_roundg (h - i)
        case measure => omega
        case rel => exact ⟨i, h, rfl, by go_num, hmi, by omega, by omega, Nat.le_refl _, ⟨HI.out.1, fun t g1 g2 => Int.lt_of_lt_of_le hlv.out (HSa.out.le (by omega) g1 g2)⟩, S2⟩
      · have hlv : Hid (K d[h]! ≤ K d[m]!) := Int.not_lt.1 hlv0
        clear hlv0
        obtain ⟨x, hx⟩ : ∃ x, x = d[m]! := ⟨_, rfl⟩
        obtain ⟨y, hy⟩ : ∃ x, x = d[h]! := ⟨_, rfl⟩
        have la := S1.out.cl R (by omega) m (by omega)
        have lb := S1.out.cl R (by omega) h (by omega)
        rw [← hx] at la
        rw [← hy] at lb
        have hc := S1.out.cmp HC.out (by omega) x y
        have hv : ¬ cf x y < 0 := fun h9 => by have g0 := (HK.out x y (by rw [hx, hy]; exact HX.out h m (by omega) (by omega) (by omega) (by omega))).1 h9; have g1 := hlv.out; rw [← hx, ← hy] at g1; omega
        have hd : decide (cf x y < 0) = false := decide_eq_false hv
        clear hx hy
        go_wp2_with fail
        go_quiet_grown (first | (go_at_fn g; refine Calls.grown_of (hc _ _)))
        have S2 : Aside (SW enc w0 blk off d (grow (wr.drewN nq) osq)) := S1.out.grown nq osq
        clear la lb hc S1
        generalize grow (wr.drewN nq) osq = w2 at S2 ⊢
        clear nq osq
        go_wp2
        go_roundg (j - (h + 1))
        case measure => omega
        case rel => exact ⟨h + 1, j, by go_num, rfl, by omega, by omega, hjb, Nat.le_refl _, ⟨fun t g1 g2 => Int.le_trans (HSa.out.le g1 (by omega) (by omega)) hlv.out, HI.out.2⟩, S2⟩
    · have e : i = j := by omega
      subst e
      have hltz : ¬ (i : Int) < (i : Int) := by omega
      go_wp2
      go_loopg [17] (m - a) (fun g2 vk wr2 => ∃ (k : Nat), vk = .int .i64 k ∧ i ≤ k ∧ k ≤ m ∧ k - i ≤ g2 ∧ Aside (SW enc w0 blk off (shD d m (m - k)) wr2))
      case atStart => exact ⟨m, by go_num, by omega, Nat.le_refl _, by omega, by rw [Nat.sub_self]; exact S1⟩
      case round =>
        clear S1
        obtain ⟨k, rfl, hik, hn, hg2, S4⟩ := hrel
        have hsk := size_shD d m (m - k)
        obtain ⟨dk, hdk⟩ : ∃ q, q = shD d m (m - k) := ⟨_, rfl⟩
        rw [← hdk] at S4 hsk
        by_cases hlt2 : i < k
        · obtain ⟨kp, rfl⟩ : ∃ q, k = q + 1 := ⟨k - 1, by omega⟩
          have hkz : (i : Int) < (kp : Int) + 1 := by omega
          have p1 : (0 : Int) ≤ (kp : Int) := by omega
          have b1 : (kp : Int) < (d.size : Int) := by omega
          have p2 : (0 : Int) ≤ (kp : Int) + 1 := by omega
          have b2 : (kp : Int) + 1 < (d.size : Int) := by omega
          have r2 : IntKind.i64.wrap ((kp : Int) + 1) = (kp : Int) + 1 := by rw [IntKind.wrap_i64]; omega
          obtain ⟨x, hx⟩ : ∃ x, x = dk[kp + 1]! := ⟨_, rfl⟩
          obtain ⟨y, hy⟩ : ∃ x, x = dk[kp]! := ⟨_, rfl⟩
          have S3 : Aside (SW enc w0 blk off (swp dk (kp + 1) (kp)) ((wr.setCell ⟨blk, off + (kp + 1), none⟩ (enc y)).setCell ⟨blk, off + (kp), none⟩ (enc x)).drew) := by rw [hx, hy]; exact S4.out.swapped R (kp + 1) (kp) (by omega) (by omega)
          have c1a := S4.out.c1 R (by omega) (kp + 1) (by omega)
          have c1b := S4.out.c1 R (by omega) (kp) (by omega)
          have f1a := S4.out.f1 R (by omega) (kp + 1) (by omega)
          have f1b := S4.out.f1 R (by omega) (kp) (by omega)
          obtain ⟨u, c1c⟩ := S4.out.c2 R (by omega) (kp + 1) (kp) (by omega) (by omega) (enc y)
          rw [← hx] at c1a
          rw [← hy] at c1b
          clear S4 hx hy
          go_wp2_with fail
          go_big_region_o
          clear c1a c1b c1c f1a f1b
          generalize ((wr.setCell ⟨blk, off + (kp + 1), none⟩ (enc y)).setCell ⟨blk, off + (kp), none⟩ (enc x)).drew = w3 at S3 ⊢
          go_wp2
          go_roundg (kp - i)
          case measure => omega
          case rel => exact ⟨kp, by go_num, by omega, by omega, Nat.le_refl _, by rw [show m - kp = (m - (kp + 1)) + 1 by omega, shD, ← hdk, show m - (m - (kp + 1)) = kp + 1 by omega, show kp + 1 - 1 = kp by omega]; exact S3⟩
        · have hkz : ¬ (i : Int) < (k : Int) := by omega
          go_wp2
          (try simp only [Exit.inBlock, Exit.then]); refine bodyPost_ret (results_none rfl _ _ _) rfl ?_
          refine ⟨rfl, dk, ?_, ?_, S4.out⟩
          · rw [hdk]; exact shD_perm d m a b (m - k) (by omega) (by omega) hb
          · have h := one_down (a := a) (i := i) (m := m) (d := d) (e := dk) HSa.out (by omega) (by omega) HI.out.1 HI.out.2 fun t => by rw [hdk, shD_get d m (by omega) (m - k) (by omega) t, show m - (m - k) = i by omega]
            rw [show m + 1 = b by omega] at h
            exact h
end Go.Proofs.Ytdkiembkigadkaa.M

/- SymG -/
set_option linter.unusedSimpArgs false
set_option linter.unusedVariables false
namespace Go.Proofs.Ytdkiembkigadkaa.M
open Go.Shelf Go.RowKit Go.Lib Go.Sort Go.Proofs
open Go.Proofs.Ytdkiembkigadkaa.P (swR size_swR swR_get swR_perm rotV So shU shU_get shU_perm size_shU shD shD_get shD_perm size_shD one_up one_down Cut cut_of halves)
variable {α : Type} [Inhabited α]
set_option maxHeartbeats 16000000 in
set_option maxRecDepth 1000000 in
theorem sym_gt (K : α → Int) (enc : α → Value) (cf : α → α → Int) (I : α → Nat) (hK : ∀ x y, I y < I x → (cf x y < 0 ↔ K x < K y)) (g : Nat) (cb : Array Value) (blk off cap a m b : Nat) (d0 d : Array α) (w0 w : World) (eg : ∀ args w, (callFunc g args).run Try.prog w = .ok (.enter g args) w) (hcmp : CmpLays1 Try.prog g cb enc cf blk off d0.size w0) (R : Row1 enc w0 blk off d0) (hs : d0.size = d.size) (S : SW enc w0 blk off d w) (ham : a < m) (hmb : m < b) (hb : b ≤ d.size) (hsz : d.size < 4611686018427387904) (hSa : So K a m d) (hSb : So K m b d) (hI : ∀ p q, a ≤ p → p < m → m ≤ q → q < b → I d[p]! < I d[q]!)
    (ih : ∀ (d : Array α) (w : World) (a' m' b' : Nat), b' - a' < b - a → a' < m' → m' < b' → b' ≤ d.size → d0.size = d.size → SW enc w0 blk off d w → So K a' m' d → So K m' b' d → (∀ p q, a' ≤ p → p < m' → m' ≤ q → q < b' → I d[p]! < I d[q]!) → Calls Try.prog 62 #[.slice (some ⟨blk, off, none⟩) d.size cap, .int .i64 a', .int .i64 m', .int .i64 b', .func (.func g) #[] cb] w fun e w' => e = .returned (.tuple #[]) ∧ ∃ r, PermIn a' b' d r ∧ So K a' b' r ∧ SW enc w0 blk off r w')
    (h0 : ¬ m - a = 1) (h1 : ¬ b - m = 1) (hgm : (a + b) / 2 < m) :
    Calls Try.prog 62 #[.slice (some ⟨blk, off, none⟩) d.size cap, .int .i64 a, .int .i64 m, .int .i64 b, .func (.func g) #[] cb] w fun e w' => e = .returned (.tuple #[]) ∧ ∃ r, PermIn a b d r ∧ So K a b r ∧ SW enc w0 blk off r w' := by
  have mixed : Try.prog.follows Departure.mixedOrders = true := by kernel_rfl
  have hcl0 := R.hO.cells
  simp only [Value.cells] at hcl0
  have hst := R.hO.store Try.prog
  have HC : Aside _ := hcmp
  have S0 : Aside (SW enc w0 blk off d w) := S
  have HSa : Aside (So K a m d) := hSa
  have HSb : Aside (So K m b d) := hSb
  have HK : Aside (∀ x y, I y < I x → (cf x y < 0 ↔ K x < K y)) := hK
  have HX : Aside (∀ p q, a ≤ p → p < m → m ≤ q → q < b → I d[p]! < I d[q]!) := hI
  clear S hcmp hSa hSb hK hI
  have IH : Aside _ := ih
  clear ih
  have hm0 : ((m : Int) - (a : Int) == 1) = false := beq_eq_false_iff_ne.2 (by omega)
  have hm1 : ((b : Int) - (m : Int) == 1) = false := beq_eq_false_iff_ne.2 (by omega)
  obtain ⟨M, hM1, hM2⟩ : ∃ q, 2 * q ≤ a + b ∧ a + b ≤ 2 * q + 1 := ⟨(a + b) / 2, by omega, by omega⟩
  obtain ⟨n, hn⟩ : ∃ q, M + m = q := ⟨_, rfl⟩
  obtain ⟨p, hp⟩ : ∃ q, q + 1 = n := ⟨n - 1, by omega⟩
  have haM : a < M := by omega
  have hMb : M < b := by omega
  go_enter Try.func62, Try.ntmps62
  have hgt : M < m := by omega
  clear hgm
  · have hgtz : ((a : Int) + (b : Int)) / 2 < (m : Int) := by omega
    obtain ⟨lo, hlo⟩ : ∃ q, q + b = n := ⟨n - b, by omega⟩
    have hal : a ≤ lo := by omega
    have hlh : lo ≤ M := by omega
    go_wp2
    have zM : ((a : Int) + (b : Int)) / 2 = (M : Int) := by omega
    have zn : (M : Int) + (m : Int) = (n : Int) := by omega
    have zlo : (n : Int) - (b : Int) = (lo : Int) := by omega
    have zp : (n : Int) - 1 = (p : Int) := by omega
    rw [zM, zn, zlo, zp]
    clear zM zn zlo zp
    go_loopg [20, 21] (b - a) (fun g1 vi vj wr => ∃ (s r : Nat), vi = .int .i64 s ∧ vj = .int .i64 r ∧ lo ≤ s ∧ s ≤ r ∧ r ≤ M ∧ r - s ≤ g1 ∧ Hid ((lo < s → K d[s - 1]! ≤ K d[n - s]!) ∧ (r < M → K d[n - 1 - r]! < K d[r]!)) ∧ Aside (SW enc w0 blk off d wr))
    case atStart => exact ⟨lo, M, rfl, rfl, Nat.le_refl _, by omega, Nat.le_refl _, by omega, ⟨fun h => absurd h (Nat.lt_irrefl _), fun h => absurd h (Nat.lt_irrefl _)⟩, S0⟩
    case round =>
      clear S0
      obtain ⟨s, r, rfl, rfl, hls, hsr, hrh, hg1, HI, S1⟩ := hrel
      by_cases hlt : s < r
      · have hltz : (s : Int) < (r : Int) := by omega
        go_wp2
        obtain ⟨c, hc0⟩ : ∃ q, q = (s + r) / 2 := ⟨_, rfl⟩
        have zc : ((s : Int) + (r : Int)) / 2 = (c : Int) := by omega
        have hsc : s ≤ c := by omega
        have hcr : c < r := by omega
        have hcp : c ≤ p := by omega
        rw [zc]
        clear zc hc0
        have pq : (0 : Int) ≤ (p : Int) - (c : Int) := by omega
        have bq : (p : Int) - (c : Int) < (d.size : Int) := by omega
        have rq : IntKind.i64.wrap ((p : Int) - (c : Int)) = (p : Int) - (c : Int) := by rw [IntKind.wrap_i64]; omega
        have ph : (0 : Int) ≤ (c : Int) := by omega
        have bh : (c : Int) < (d.size : Int) := by omega
        by_cases hlv0 : K d[p - c]! < K d[c]!
        · have hlv : Hid (K d[p - c]! < K d[c]!) := hlv0
          clear hlv0
          obtain ⟨x, hx⟩ : ∃ x, x = d[p - c]! := ⟨_, rfl⟩
          obtain ⟨y, hy⟩ : ∃ x, x = d[c]! := ⟨_, rfl⟩
          have la := S1.out.cl R (by omega) (p - c) (by omega)
          have lb := S1.out.cl R (by omega) c (by omega)
          rw [← hx] at la
          rw [← hy] at lb
          have hc := S1.out.cmp HC.out (by omega) x y
          have hv : cf x y < 0 := (HK.out x y (by rw [hx, hy]; exact HX.out c (p - c) (by omega) (by omega) (by omega) (by omega))).2 (by rw [hx, hy]; exact hlv.out)
          have hd : decide (cf x y < 0) = true := decide_eq_true hv
          clear hx hy
          go_wp2_with fail
          go_quiet_grown (first | (go_at_fn g; refine Calls.grown_of (hc _ _)))
          have S2 : Aside (SW enc w0 blk off d (grow (wr.drewN nq) osq)) := S1.out.grown nq osq
          clear la lb hc S1
          generalize grow (wr.drewN nq) osq = w2 at S2 ⊢
          clear nq osq
          go_wp2
          go_roundg (c - s)
          case measure => omega
          case rel => exact ⟨s, c, rfl, by go_num, hls, by omega, by omega, Nat.le_refl _, ⟨HI.out.1, fun _ => by rw [show n - 1 - c = p - c by omega]; exact hlv.out⟩, S2⟩
        · have hlv : Hid (K d[c]! ≤ K d[p - c]!) := Int.not_lt.1 hlv0
          clear hlv0
          obtain ⟨x, hx⟩ : ∃ x, x = d[p - c]! := ⟨_, rfl⟩
          obtain ⟨y, hy⟩ : ∃ x, x = d[c]! := ⟨_, rfl⟩
          have la := S1.out.cl R (by omega) (p - c) (by omega)
          have lb := S1.out.cl R (by omega) c (by omega)
          rw [← hx] at la
          rw [← hy] at lb
          have hc := S1.out.cmp HC.out (by omega) x y
          have hv : ¬ cf x y < 0 := fun h9 => by have g0 := (HK.out x y (by rw [hx, hy]; exact HX.out c (p - c) (by omega) (by omega) (by omega) (by omega))).1 h9; have g1 := hlv.out; rw [← hx, ← hy] at g1; omega
          have hd : decide (cf x y < 0) = false := decide_eq_false hv
          clear hx hy
          go_wp2_with fail
          go_quiet_grown (first | (go_at_fn g; refine Calls.grown_of (hc _ _)))
          have S2 : Aside (SW enc w0 blk off d (grow (wr.drewN nq) osq)) := S1.out.grown nq osq
          clear la lb hc S1
          generalize grow (wr.drewN nq) osq = w2 at S2 ⊢
          clear nq osq
          go_wp2
          go_roundg (r - (c + 1))
          case measure => omega
          case rel => exact ⟨c + 1, r, by go_num, rfl, by omega, by omega, hrh, Nat.le_refl _, ⟨fun _ => by rw [show c + 1 - 1 = c by omega, show n - (c + 1) = p - c by omega]; exact hlv.out, HI.out.2⟩, S2⟩
      · have e0 : s = r := by omega
        subst e0
        have hltz : ¬ (s : Int) < (s : Int) := by omega
        obtain ⟨e, he⟩ : ∃ q, q + s = n := ⟨n - s, by omega⟩
        have ze : (n : Int) - (s : Int) = (e : Int) := by omega
        have hsM : s ≤ M := by omega
        have hsm : s ≤ m := by omega
        have hme : m ≤ e := by omega
        have heb : e ≤ b := by omega
        have hMe : M ≤ e := by omega
        have has : a ≤ s := by omega
        have CT : Aside (∀ r : Array α, (∀ t, r[t]! = rotV s m e d t) → Cut K a M b s e r) := fun r hr => cut_of (lo := lo) (hi := M) HSa.out HSb.out ham hmb hls hrh (by omega) (by omega) (by omega) (by omega) (by omega) hsM hme heb (by omega) (by omega) (fun h => by rw [show e = n - s by omega]; exact HI.out.1 h) (fun h => by rw [show e - 1 = n - 1 - s by omega]; exact HI.out.2 h) hr
        have XT : Aside (∀ r : Array α, (∀ t, r[t]! = rotV s m e d t) → (∀ p q, a ≤ p → p < s → s ≤ q → q < M → I r[p]! < I r[q]!) ∧ (∀ p q, M ≤ p → p < e → e ≤ q → q < b → I r[p]! < I r[q]!)) := fun r hr => ⟨fun p q g1 g2 g3 g4 => by
            rw [hr, hr]
            unfold rotV
            rw [if_neg (by omega), if_pos (by omega), if_pos (by omega)]
            exact HX.out _ _ (by omega) (by omega) (by omega) (by omega), fun p q g1 g2 g3 g4 => by
            rw [hr, hr]
            unfold rotV
            rw [if_pos (by omega), if_neg (by omega), if_neg (by omega)]
            exact HX.out _ _ (by omega) (by omega) (by omega) (by omega)⟩
        have NR : Aside (¬ (s < m ∧ m < e) → ∀ t, d[t]! = rotV s m e d t) := fun h t => by
          unfold rotV
          repeat' split
          all_goals first | rfl | (congr 1; omega)
        have hz0 : d0.size = d.size := hs
        rcases (show (s < m ∧ m < e) ∨ (s < m ∧ ¬ m < e) ∨ ¬ s < m by omega) with hR | hR | hR
        · rcases (show (a < s ∧ s < M) ∨ (a < s ∧ ¬ s < M) ∨ ¬ a < s by omega) with hP | hP | hP
          · rcases (show (M < e ∧ e < b) ∨ (M < e ∧ ¬ e < b) ∨ ¬ M < e by omega) with hQ | hQ | hQ
            · have x1 : (s : Int) < (m : Int) := by omega
              have x2 : (m : Int) < (e : Int) := by omega
              have y1 : (a : Int) < (s : Int) := by omega
              have y2 : (s : Int) < (M : Int) := by omega
              have v1 : (M : Int) < (e : Int) := by omega
              have v2 : (e : Int) < (b : Int) := by omega
              clear h0 h1 hls hrh hg1 hgt hgtz hM1 hM2 hn hp HI hm0 hm1 HSa HSb HX HK eg hlo hal hlh
              go_wp2_with fail
              refine (rotate_s enc blk off cap s m e _ d0 d w0 _ R hz0 S1.out (by omega) (by omega) (by omega) (by omega)).mono ?_
              rintro e' w' ⟨rfl, r, hp1, hr, hS0⟩
              have hS : Aside (SW enc w0 blk off r _) := hS0
              clear hS0
              have Hp1 : Aside (PermIn s e d r) := hp1
              have C : Aside (Cut K a M b s e r) := CT.out r hr
              have CI := Lib.hid (XT.out r hr)
              have hz1 : r.size = d.size := hp1.1
              clear hp1 hr CT XT NR S1
              go_wp2_with fail
              rw [← hz1]
              refine (IH.out r _ a s M (by omega) (by omega) (by omega) (by omega) (by omega) hS.out C.out.l1 C.out.l2 CI.out.1).mono ?_
              rintro e' w' ⟨rfl, r2, hp2, hs2, hS20⟩
              have hS2 : Aside (SW enc w0 blk off r2 _) := hS20
              clear hS20
              have Hp2 : Aside (PermIn a M r r2) := hp2
              have Hs2 : Aside (So K a M r2) := hs2
              have hz2 : r2.size = d.size := hp2.1.trans hz1
              clear hp2 hs2 hS
              go_wp2_with fail
              rw [← hz2]
              refine (IH.out r2 _ M e b (by omega) (by omega) (by omega) (by omega) (by omega) hS2.out (C.out.r1.congr fun t g1 g2 => Hp2.out.2.1 t (by omega)) (C.out.r2.congr fun t g1 g2 => Hp2.out.2.1 t (by omega)) (fun p q g1 g2 g3 g4 => by rw [Hp2.out.2.1 p (by omega), Hp2.out.2.1 q (by omega)]; exact CI.out.2 p q g1 g2 g3 g4)).mono ?_
              rintro e' w' ⟨rfl, r3, hp3, hs3, hS30⟩
              have hS3 : Aside (SW enc w0 blk off r3 _) := hS30
              clear hS30
              have Hp3 : Aside (PermIn M b r2 r3) := hp3
              have Hs3 : Aside (So K M b r3) := hs3
              clear hp3 hs3
              go_wp2
              go_end0
              exact ⟨rfl, r3, permIn_trans _ _ _ _ _ (permIn_mono _ _ _ _ _ _ (by omega) (by omega) (by omega) Hp1.out) (permIn_trans _ _ _ _ _ (permIn_mono _ _ _ _ _ _ (Nat.le_refl _) (by omega) (by omega) Hp2.out) (permIn_mono _ _ _ _ _ _ (by omega) (Nat.le_refl _) (by omega) Hp3.out)), halves (fun p q g1 g2 g3 g4 => C.out.lr p q g1 g2 g3 g4) (by omega) (by omega) (by omega) Hp2.out Hs2.out Hp3.out Hs3.out, hS3.out⟩
            · have x1 : (s : Int) < (m : Int) := by omega
              have x2 : (m : Int) < (e : Int) := by omega
              have y1 : (a : Int) < (s : Int) := by omega
              have y2 : (s : Int) < (M : Int) := by omega
              have v1 : (M : Int) < (e : Int) := by omega
              have v2 : ¬ (e : Int) < (b : Int) := by omega
              clear h0 h1 hls hrh hg1 hgt hgtz hM1 hM2 hn hp HI hm0 hm1 HSa HSb HX HK eg hlo hal hlh
              go_wp2_with fail
              refine (rotate_s enc blk off cap s m e _ d0 d w0 _ R hz0 S1.out (by omega) (by omega) (by omega) (by omega)).mono ?_
              rintro e' w' ⟨rfl, r, hp1, hr, hS0⟩
              have hS : Aside (SW enc w0 blk off r _) := hS0
              clear hS0
              have Hp1 : Aside (PermIn s e d r) := hp1
              have C : Aside (Cut K a M b s e r) := CT.out r hr
              have CI := Lib.hid (XT.out r hr)
              have hz1 : r.size = d.size := hp1.1
              clear hp1 hr CT XT NR S1
              go_wp2_with fail
              rw [← hz1]
              refine (IH.out r _ a s M (by omega) (by omega) (by omega) (by omega) (by omega) hS.out C.out.l1 C.out.l2 CI.out.1).mono ?_
              rintro e' w' ⟨rfl, r2, hp2, hs2, hS20⟩
              have hS2 : Aside (SW enc w0 blk off r2 _) := hS20
              clear hS20
              have Hp2 : Aside (PermIn a M r r2) := hp2
              have Hs2 : Aside (So K a M r2) := hs2
              have hz2 : r2.size = d.size := hp2.1.trans hz1
              clear hp2 hs2 hS
              obtain ⟨r3, Hp3, Hs3, hS3⟩ : ∃ r3, Aside (PermIn M b r2 r3) ∧ Aside (So K M b r3) ∧ Aside (SW enc w0 blk off r3 _) := ⟨r2, permIn_refl _ _ _, So.congr ((show e = b by omega) ▸ C.out.r1) fun t g1 g2 => Hp2.out.2.1 t (by omega), hS2⟩
              go_wp2
              go_end0
              exact ⟨rfl, r3, permIn_trans _ _ _ _ _ (permIn_mono _ _ _ _ _ _ (by omega) (by omega) (by omega) Hp1.out) (permIn_trans _ _ _ _ _ (permIn_mono _ _ _ _ _ _ (Nat.le_refl _) (by omega) (by omega) Hp2.out) (permIn_mono _ _ _ _ _ _ (by omega) (Nat.le_refl _) (by omega) Hp3.out)), halves (fun p q g1 g2 g3 g4 => C.out.lr p q g1 g2 g3 g4) (by omega) (by omega) (by omega) Hp2.out Hs2.out Hp3.out Hs3.out, hS3.out⟩
            · have x1 : (s : Int) < (m : Int) := by omega
              have x2 : (m : Int) < (e : Int) := by omega
              have y1 : (a : Int) < (s : Int) := by omega
              have y2 : (s : Int) < (M : Int) := by omega
              have v1 : ¬ (M : Int) < (e : Int) := by omega
              clear h0 h1 hls hrh hg1 hgt hgtz hM1 hM2 hn hp HI hm0 hm1 HSa HSb HX HK eg hlo hal hlh
              go_wp2_with fail
              refine (rotate_s enc blk off cap s m e _ d0 d w0 _ R hz0 S1.out (by omega) (by omega) (by omega) (by omega)).mono ?_
              rintro e' w' ⟨rfl, r, hp1, hr, hS0⟩
              have hS : Aside (SW enc w0 blk off r _) := hS0
              clear hS0
              have Hp1 : Aside (PermIn s e d r) := hp1
              have C : Aside (Cut K a M b s e r) := CT.out r hr
              have CI := Lib.hid (XT.out r hr)
              have hz1 : r.size = d.size := hp1.1
              clear hp1 hr CT XT NR S1
              go_wp2_with fail
              rw [← hz1]
              refine (IH.out r _ a s M (by omega) (by omega) (by omega) (by omega) (by omega) hS.out C.out.l1 C.out.l2 CI.out.1).mono ?_
              rintro e' w' ⟨rfl, r2, hp2, hs2, hS20⟩
              have hS2 : Aside (SW enc w0 blk off r2 _) := hS20
              clear hS20
              have Hp2 : Aside (PermIn a M r r2) := hp2
              have Hs2 : Aside (So K a M r2) := hs2
              have hz2 : r2.size = d.size := hp2.1.trans hz1
              clear hp2 hs2 hS
              obtain ⟨r3, Hp3, Hs3, hS3⟩ : ∃ r3, Aside (PermIn M b r2 r3) ∧ Aside (So K M b r3) ∧ Aside (SW enc w0 blk off r3 _) := ⟨r2, permIn_refl _ _ _, So.congr ((show e = M by omega) ▸ C.out.r2) fun t g1 g2 => Hp2.out.2.1 t (by omega), hS2⟩
              go_wp2
              go_end0
              exact ⟨rfl, r3, permIn_trans _ _ _ _ _ (permIn_mono _ _ _ _ _ _ (by omega) (by omega) (by omega) Hp1.out) (permIn_trans _ _ _ _ _ (permIn_mono _ _ _ _ _ _ (Nat.le_refl _) (by omega) (by omega) Hp2.out) (permIn_mono _ _ _ _ _ _ (by omega) (Nat.le_refl _) (by omega) Hp3.out)), halves (fun p q g1 g2 g3 g4 => C.out.lr p q g1 g2 g3 g4) (by omega) (by omega) (by omega) Hp2.out Hs2.out Hp3.out Hs3.out, hS3.out⟩
          · rcases (show (M < e ∧ e < b) ∨ (M < e ∧ ¬ e < b) ∨ ¬ M < e by omega) with hQ | hQ | hQ
            · have x1 : (s : Int) < (m : Int) := by omega
              have x2 : (m : Int) < (e : Int) := by omega
              have y1 : (a : Int) < (s : Int) := by omega
              have y2 : ¬ (s : Int) < (M : Int) := by omega
              have v1 : (M : Int) < (e : Int) := by omega
              have v2 : (e : Int) < (b : Int) := by omega
              clear h0 h1 hls hrh hg1 hgt hgtz hM1 hM2 hn hp HI hm0 hm1 HSa HSb HX HK eg hlo hal hlh
              go_wp2_with fail
              refine (rotate_s enc blk off cap s m e _ d0 d w0 _ R hz0 S1.out (by omega) (by omega) (by omega) (by omega)).mono ?_
              rintro e' w' ⟨rfl, r, hp1, hr, hS0⟩
              have hS : Aside (SW enc w0 blk off r _) := hS0
              clear hS0
              have Hp1 : Aside (PermIn s e d r) := hp1
              have C : Aside (Cut K a M b s e r) := CT.out r hr
              have CI := Lib.hid (XT.out r hr)
              have hz1 : r.size = d.size := hp1.1
              clear hp1 hr CT XT NR S1
              obtain ⟨r2, Hp2, Hs2, hz2, hS2⟩ : ∃ r2, Aside (PermIn a M r r2) ∧ Aside (So K a M r2) ∧ r2.size = d.size ∧ Aside (SW enc w0 blk off r2 _) := ⟨r, permIn_refl _ _ _, (show s = M by omega) ▸ C.out.l1, hz1, hS⟩
              clear hS
              go_wp2_with fail
              rw [← hz2]
              refine (IH.out r2 _ M e b (by omega) (by omega) (by omega) (by omega) (by omega) hS2.out (C.out.r1.congr fun t g1 g2 => Hp2.out.2.1 t (by omega)) (C.out.r2.congr fun t g1 g2 => Hp2.out.2.1 t (by omega)) (fun p q g1 g2 g3 g4 => by rw [Hp2.out.2.1 p (by omega), Hp2.out.2.1 q (by omega)]; exact CI.out.2 p q g1 g2 g3 g4)).mono ?_
              rintro e' w' ⟨rfl, r3, hp3, hs3, hS30⟩
              have hS3 : Aside (SW enc w0 blk off r3 _) := hS30
              clear hS30
              have Hp3 : Aside (PermIn M b r2 r3) := hp3
              have Hs3 : Aside (So K M b r3) := hs3
              clear hp3 hs3
              go_wp2
              go_end0
              exact ⟨rfl, r3, permIn_trans _ _ _ _ _ (permIn_mono _ _ _ _ _ _ (by omega) (by omega) (by omega) Hp1.out) (permIn_trans _ _ _ _ _ (permIn_mono _ _ _ _ _ _ (Nat.le_refl _) (by omega) (by omega) Hp2.out) (permIn_mono _ _ _ _ _ _ (by omega) (Nat.le_refl _) (by omega) Hp3.out)), halves (fun p q g1 g2 g3 g4 => C.out.lr p q g1 g2 g3 g4) (by omega) (by omega) (by omega) Hp2.out Hs2.out Hp3.out Hs3.out, hS3.out⟩
            · have x1 : (s : Int) < (m : Int) := by omega
              have x2 : (m : Int) < (e : Int) := by omega
              have y1 : (a : Int) < (s : Int) := by omega
              have y2 : ¬ (s : Int) < (M : Int) := by omega
              have v1 : (M : Int) < (e : Int) := by omega
              have v2 : ¬ (e : Int) < (b : Int) := by omega
              clear h0 h1 hls hrh hg1 hgt hgtz hM1 hM2 hn hp HI hm0 hm1 HSa HSb HX HK eg hlo hal hlh
              go_wp2_with fail
              refine (rotate_s enc blk off cap s m e _ d0 d w0 _ R hz0 S1.out (by omega) (by omega) (by omega) (by omega)).mono ?_
              rintro e' w' ⟨rfl, r, hp1, hr, hS0⟩
              have hS : Aside (SW enc w0 blk off r _) := hS0
              clear hS0
              have Hp1 : Aside (PermIn s e d r) := hp1
              have C : Aside (Cut K a M b s e r) := CT.out r hr
              have CI := Lib.hid (XT.out r hr)
              have hz1 : r.size = d.size := hp1.1
              clear hp1 hr CT XT NR S1
              obtain ⟨r2, Hp2, Hs2, hz2, hS2⟩ : ∃ r2, Aside (PermIn a M r r2) ∧ Aside (So K a M r2) ∧ r2.size = d.size ∧ Aside (SW enc w0 blk off r2 _) := ⟨r, permIn_refl _ _ _, (show s = M by omega) ▸ C.out.l1, hz1, hS⟩
              clear hS
              obtain ⟨r3, Hp3, Hs3, hS3⟩ : ∃ r3, Aside (PermIn M b r2 r3) ∧ Aside (So K M b r3) ∧ Aside (SW enc w0 blk off r3 _) := ⟨r2, permIn_refl _ _ _, So.congr ((show e = b by omega) ▸ C.out.r1) fun t g1 g2 => Hp2.out.2.1 t (by omega), hS2⟩
              go_wp2
              go_end0
              exact ⟨rfl, r3, permIn_trans _ _ _ _ _ (permIn_mono _ _ _ _ _ _ (by omega) (by omega) (by omega) Hp1.out) (permIn_trans _ _ _ _ _ (permIn_mono _ _ _ _ _ _ (Nat.le_refl _) (by omega) (by omega) Hp2.out) (permIn_mono _ _ _ _ _ _ (by omega) (Nat.le_refl _) (by omega) Hp3.out)), halves (fun p q g1 g2 g3 g4 => C.out.lr p q g1 g2 g3 g4) (by omega) (by omega) (by omega) Hp2.out Hs2.out Hp3.out Hs3.out, hS3.out⟩
            · have x1 : (s : Int) < (m : Int) := by omega
              have x2 : (m : Int) < (e : Int) := by omega
              have y1 : (a : Int) < (s : Int) := by omega
              have y2 : ¬ (s : Int) < (M : Int) := by omega
              have v1 : ¬ (M : Int) < (e : Int) := by omega
              clear h0 h1 hls hrh hg1 hgt hgtz hM1 hM2 hn hp HI hm0 hm1 HSa HSb HX HK eg hlo hal hlh
              go_wp2_with fail
              refine (rotate_s enc blk off cap s m e _ d0 d w0 _ R hz0 S1.out (by omega) (by omega) (by omega) (by omega)).mono ?_
              rintro e' w' ⟨rfl, r, hp1, hr, hS0⟩
              have hS : Aside (SW enc w0 blk off r _) := hS0
              clear hS0
              have Hp1 : Aside (PermIn s e d r) := hp1
              have C : Aside (Cut K a M b s e r) := CT.out r hr
              have CI := Lib.hid (XT.out r hr)
              have hz1 : r.size = d.size := hp1.1
              clear hp1 hr CT XT NR S1
              obtain ⟨r2, Hp2, Hs2, hz2, hS2⟩ : ∃ r2, Aside (PermIn a M r r2) ∧ Aside (So K a M r2) ∧ r2.size = d.size ∧ Aside (SW enc w0 blk off r2 _) := ⟨r, permIn_refl _ _ _, (show s = M by omega) ▸ C.out.l1, hz1, hS⟩
              clear hS
              obtain ⟨r3, Hp3, Hs3, hS3⟩ : ∃ r3, Aside (PermIn M b r2 r3) ∧ Aside (So K M b r3) ∧ Aside (SW enc w0 blk off r3 _) := ⟨r2, permIn_refl _ _ _, So.congr ((show e = M by omega) ▸ C.out.r2) fun t g1 g2 => Hp2.out.2.1 t (by omega), hS2⟩
              go_wp2
              go_end0
              exact ⟨rfl, r3, permIn_trans _ _ _ _ _ (permIn_mono _ _ _ _ _ _ (by omega) (by omega) (by omega) Hp1.out) (permIn_trans _ _ _ _ _ (permIn_mono _ _ _ _ _ _ (Nat.le_refl _) (by omega) (by omega) Hp2.out) (permIn_mono _ _ _ _ _ _ (by omega) (Nat.le_refl _) (by omega) Hp3.out)), halves (fun p q g1 g2 g3 g4 => C.out.lr p q g1 g2 g3 g4) (by omega) (by omega) (by omega) Hp2.out Hs2.out Hp3.out Hs3.out, hS3.out⟩
          · rcases (show (M < e ∧ e < b) ∨ (M < e ∧ ¬ e < b) ∨ ¬ M < e by omega) with hQ | hQ | hQ
            · have x1 : (s : Int) < (m : Int) := by omega
              have x2 : (m : Int) < (e : Int) := by omega
              have y1 : ¬ (a : Int) < (s : Int) := by omega
              have v1 : (M : Int) < (e : Int) := by omega
              have v2 : (e : Int) < (b : Int) := by omega
              clear h0 h1 hls hrh hg1 hgt hgtz hM1 hM2 hn hp HI hm0 hm1 HSa HSb HX HK eg hlo hal hlh
              go_wp2_with fail
              refine (rotate_s enc blk off cap s m e _ d0 d w0 _ R hz0 S1.out (by omega) (by omega) (by omega) (by omega)).mono ?_
              rintro e' w' ⟨rfl, r, hp1, hr, hS0⟩
              have hS : Aside (SW enc w0 blk off r _) := hS0
              clear hS0
              have Hp1 : Aside (PermIn s e d r) := hp1
              have C : Aside (Cut K a M b s e r) := CT.out r hr
              have CI := Lib.hid (XT.out r hr)
              have hz1 : r.size = d.size := hp1.1
              clear hp1 hr CT XT NR S1
              obtain ⟨r2, Hp2, Hs2, hz2, hS2⟩ : ∃ r2, Aside (PermIn a M r r2) ∧ Aside (So K a M r2) ∧ r2.size = d.size ∧ Aside (SW enc w0 blk off r2 _) := ⟨r, permIn_refl _ _ _, (show s = a by omega) ▸ C.out.l2, hz1, hS⟩
              clear hS
              go_wp2_with fail
              rw [← hz2]
              refine (IH.out r2 _ M e b (by omega) (by omega) (by omega) (by omega) (by omega) hS2.out (C.out.r1.congr fun t g1 g2 => Hp2.out.2.1 t (by omega)) (C.out.r2.congr fun t g1 g2 => Hp2.out.2.1 t (by omega)) (fun p q g1 g2 g3 g4 => by rw [Hp2.out.2.1 p (by omega), Hp2.out.2.1 q (by omega)]; exact CI.out.2 p q g1 g2 g3 g4)).mono ?_
              rintro e' w' ⟨rfl, r3, hp3, hs3, hS30⟩
              have hS3 : Aside (SW enc w0 blk off r3 _) := hS30
              clear hS30
              have Hp3 : Aside (PermIn M b r2 r3) := hp3
              have Hs3 : Aside (So K M b r3) := hs3
              clear hp3 hs3
              go_wp2
              go_end0
              exact ⟨rfl, r3, permIn_trans _ _ _ _ _ (permIn_mono _ _ _ _ _ _ (by omega) (by omega) (by omega) Hp1.out) (permIn_trans _ _ _ _ _ (permIn_mono _ _ _ _ _ _ (Nat.le_refl _) (by omega) (by omega) Hp2.out) (permIn_mono _ _ _ _ _ _ (by omega) (Nat.le_refl _) (by omega) Hp3.out)), halves (fun p q g1 g2 g3 g4 => C.out.lr p q g1 g2 g3 g4) (by omega) (by omega) (by omega) Hp2.out Hs2.out Hp3.out Hs3.out, hS3.out⟩
            · have x1 : (s : Int) < (m : Int) := by omega
              have x2 : (m : Int) < (e : Int) := by omega
              have y1 : ¬ (a : Int) < (s : Int) := by omega
              have v1 : (M : Int) < (e : Int) := by omega
              have v2 : ¬ (e : Int) < (b : Int) := by omega
              clear h0 h1 hls hrh hg1 hgt hgtz hM1 hM2 hn hp HI hm0 hm1 HSa HSb HX HK eg hlo hal hlh
              go_wp2_with fail
              refine (rotate_s enc blk off cap s m e _ d0 d w0 _ R hz0 S1.out (by omega) (by omega) (by omega) (by omega)).mono ?_
              rintro e' w' ⟨rfl, r, hp1, hr, hS0⟩
              have hS : Aside (SW enc w0 blk off r _) := hS0
              clear hS0
              have Hp1 : Aside (PermIn s e d r) := hp1
              have C : Aside (Cut K a M b s e r) := CT.out r hr
              have CI := Lib.hid (XT.out r hr)
              have hz1 : r.size = d.size := hp1.1
              clear hp1 hr CT XT NR S1
              obtain ⟨r2, Hp2, Hs2, hz2, hS2⟩ : ∃ r2, Aside (PermIn a M r r2) ∧ Aside (So K a M r2) ∧ r2.size = d.size ∧ Aside (SW enc w0 blk off r2 _) := ⟨r, permIn_refl _ _ _, (show s = a by omega) ▸ C.out.l2, hz1, hS⟩
              clear hS
              obtain ⟨r3, Hp3, Hs3, hS3⟩ : ∃ r3, Aside (PermIn M b r2 r3) ∧ Aside (So K M b r3) ∧ Aside (SW enc w0 blk off r3 _) := ⟨r2, permIn_refl _ _ _, So.congr ((show e = b by omega) ▸ C.out.r1) fun t g1 g2 => Hp2.out.2.1 t (by omega), hS2⟩
              go_wp2
              go_end0
              exact ⟨rfl, r3, permIn_trans _ _ _ _ _ (permIn_mono _ _ _ _ _ _ (by omega) (by omega) (by omega) Hp1.out) (permIn_trans _ _ _ _ _ (permIn_mono _ _ _ _ _ _ (Nat.le_refl _) (by omega) (by omega) Hp2.out) (permIn_mono _ _ _ _ _ _ (by omega) (Nat.le_refl _) (by omega) Hp3.out)), halves (fun p q g1 g2 g3 g4 => C.out.lr p q g1 g2 g3 g4) (by omega) (by omega) (by omega) Hp2.out Hs2.out Hp3.out Hs3.out, hS3.out⟩
            · have x1 : (s : Int) < (m : Int) := by omega
              have x2 : (m : Int) < (e : Int) := by omega
              have y1 : ¬ (a : Int) < (s : Int) := by omega
              have v1 : ¬ (M : Int) < (e : Int) := by omega
              clear h0 h1 hls hrh hg1 hgt hgtz hM1 hM2 hn hp HI hm0 hm1 HSa HSb HX HK eg hlo hal hlh
              go_wp2_with fail
              refine (rotate_s enc blk off cap s m e _ d0 d w0 _ R hz0 S1.out (by omega) (by omega) (by omega) (by omega)).mono ?_
              rintro e' w' ⟨rfl, r, hp1, hr, hS0⟩
              have hS : Aside (SW enc w0 blk off r _) := hS0
              clear hS0
              have Hp1 : Aside (PermIn s e d r) := hp1
              have C : Aside (Cut K a M b s e r) := CT.out r hr
              have CI := Lib.hid (XT.out r hr)
              have hz1 : r.size = d.size := hp1.1
              clear hp1 hr CT XT NR S1
              obtain ⟨r2, Hp2, Hs2, hz2, hS2⟩ : ∃ r2, Aside (PermIn a M r r2) ∧ Aside (So K a M r2) ∧ r2.size = d.size ∧ Aside (SW enc w0 blk off r2 _) := ⟨r, permIn_refl _ _ _, (show s = a by omega) ▸ C.out.l2, hz1, hS⟩
              clear hS
              obtain ⟨r3, Hp3, Hs3, hS3⟩ : ∃ r3, Aside (PermIn M b r2 r3) ∧ Aside (So K M b r3) ∧ Aside (SW enc w0 blk off r3 _) := ⟨r2, permIn_refl _ _ _, So.congr ((show e = M by omega) ▸ C.out.r2) fun t g1 g2 => Hp2.out.2.1 t (by omega), hS2⟩
              go_wp2
              go_end0
              exact ⟨rfl, r3, permIn_trans _ _ _ _ _ (permIn_mono _ _ _ _ _ _ (by omega) (by omega) (by omega) Hp1.out) (permIn_trans _ _ _ _ _ (permIn_mono _ _ _ _ _ _ (Nat.le_refl _) (by omega) (by omega) Hp2.out) (permIn_mono _ _ _ _ _ _ (by omega) (Nat.le_refl _) (by omega) Hp3.out)), halves (fun p q g1 g2 g3 g4 => C.out.lr p q g1 g2 g3 g4) (by omega) (by omega) (by omega) Hp2.out Hs2.out Hp3.out Hs3.out, hS3.out⟩
        · rcases (show (a < s ∧ s < M) ∨ (a < s ∧ ¬ s < M) ∨ ¬ a < s by omega) with hP | hP | hP
          · rcases (show (M < e ∧ e < b) ∨ (M < e ∧ ¬ e < b) ∨ ¬ M < e by omega) with hQ | hQ | hQ
            · have x1 : (s : Int) < (m : Int) := by omega
              have x2 : ¬ (m : Int) < (e : Int) := by omega
              have y1 : (a : Int) < (s : Int) := by omega
              have y2 : (s : Int) < (M : Int) := by omega
              have v1 : (M : Int) < (e : Int) := by omega
              have v2 : (e : Int) < (b : Int) := by omega
              clear h0 h1 hls hrh hg1 hgt hgtz hM1 hM2 hn hp HI hm0 hm1 HSa HSb HX HK eg hlo hal hlh
              obtain ⟨r, hp1, hr, hS⟩ : ∃ r, PermIn s e d r ∧ (∀ t, r[t]! = rotV s m e d t) ∧ Aside (SW enc w0 blk off r wr) := ⟨d, permIn_refl _ _ _, NR.out (by omega), S1⟩
              have Hp1 : Aside (PermIn s e d r) := hp1
              have C : Aside (Cut K a M b s e r) := CT.out r hr
              have CI := Lib.hid (XT.out r hr)
              have hz1 : r.size = d.size := hp1.1
              clear hp1 hr CT XT NR S1
              go_wp2_with fail
              rw [← hz1]
              refine (IH.out r _ a s M (by omega) (by omega) (by omega) (by omega) (by omega) hS.out C.out.l1 C.out.l2 CI.out.1).mono ?_
              rintro e' w' ⟨rfl, r2, hp2, hs2, hS20⟩
              have hS2 : Aside (SW enc w0 blk off r2 _) := hS20
              clear hS20
              have Hp2 : Aside (PermIn a M r r2) := hp2
              have Hs2 : Aside (So K a M r2) := hs2
              have hz2 : r2.size = d.size := hp2.1.trans hz1
              clear hp2 hs2 hS
              go_wp2_with fail
              rw [← hz2]
              refine (IH.out r2 _ M e b (by omega) (by omega) (by omega) (by omega) (by omega) hS2.out (C.out.r1.congr fun t g1 g2 => Hp2.out.2.1 t (by omega)) (C.out.r2.congr fun t g1 g2 => Hp2.out.2.1 t (by omega)) (fun p q g1 g2 g3 g4 => by rw [Hp2.out.2.1 p (by omega), Hp2.out.2.1 q (by omega)]; exact CI.out.2 p q g1 g2 g3 g4)).mono ?_
              rintro e' w' ⟨rfl, r3, hp3, hs3, hS30⟩
              have hS3 : Aside (SW enc w0 blk off r3 _) := hS30
              clear hS30
              have Hp3 : Aside (PermIn M b r2 r3) := hp3
              have Hs3 : Aside (So K M b r3) := hs3
              clear hp3 hs3
              go_wp2
              go_end0
              exact ⟨rfl, r3, permIn_trans _ _ _ _ _ (permIn_mono _ _ _ _ _ _ (by omega) (by omega) (by omega) Hp1.out) (permIn_trans _ _ _ _ _ (permIn_mono _ _ _ _ _ _ (Nat.le_refl _) (by omega) (by omega) Hp2.out) (permIn_mono _ _ _ _ _ _ (by omega) (Nat.le_refl _) (by omega) Hp3.out)), halves (fun p q g1 g2 g3 g4 => C.out.lr p q g1 g2 g3 g4) (by omega) (by omega) (by omega) Hp2.out Hs2.out Hp3.out Hs3.out, hS3.out⟩
            · have x1 : (s : Int) < (m : Int) := by omega
              have x2 : ¬ (m : Int) < (e : Int) := by omega
              have y1 : (a : Int) < (s : Int) := by omega
              have y2 : (s : Int) < (M : Int) := by omega
              have v1 : (M : Int) < (e : Int) := by omega
              have v2 : ¬ (e : Int) < (b : Int) := by omega
              clear h0 h1 hls hrh hg1 hgt hgtz hM1 hM2 hn hp HI hm0 hm1 HSa HSb HX HK eg hlo hal hlh
              obtain ⟨r, hp1, hr, hS⟩ : ∃ r, PermIn s e d r ∧ (∀ t, r[t]! = rotV s m e d t) ∧ Aside (SW enc w0 blk off r wr) := ⟨d, permIn_refl _ _ _, NR.out (by omega), S1⟩
              have Hp1 : Aside (PermIn s e d r) := hp1
              have C : Aside (Cut K a M b s e r) := CT.out r hr
              have CI := Lib.hid (XT.out r hr)
              have hz1 : r.size = d.size := hp1.1
              clear hp1 hr CT XT NR S1
              go_wp2_with fail
              rw [← hz1]
              refine (IH.out r _ a s M (by omega) (by omega) (by omega) (by omega) (by omega) hS.out C.out.l1 C.out.l2 CI.out.1).mono ?_
              rintro e' w' ⟨rfl, r2, hp2, hs2, hS20⟩
              have hS2 : Aside (SW enc w0 blk off r2 _) := hS20
              clear hS20
              have Hp2 : Aside (PermIn a M r r2) := hp2
              have Hs2 : Aside (So K a M r2) := hs2
              have hz2 : r2.size = d.size := hp2.1.trans hz1
              clear hp2 hs2 hS
              obtain ⟨r3, Hp3, Hs3, hS3⟩ : ∃ r3, Aside (PermIn M b r2 r3) ∧ Aside (So K M b r3) ∧ Aside (SW enc w0 blk off r3 _) := ⟨r2, permIn_refl _ _ _, So.congr ((show e = b by omega) ▸ C.out.r1) fun t g1 g2 => Hp2.out.2.1 t (by omega), hS2⟩
              go_wp2
              go_end0
              exact ⟨rfl, r3, permIn_trans _ _ _ _ _ (permIn_mono _ _ _ _ _ _ (by omega) (by omega) (by omega) Hp1.out) (permIn_trans _ _ _ _ _ (permIn_mono _ _ _ _ _ _ (Nat.le_refl _) (by omega) (by omega) Hp2.out) (permIn_mono _ _ _ _ _ _ (by omega) (Nat.le_refl _) (by omega) Hp3.out)), halves (fun p q g1 g2 g3 g4 => C.out.lr p q g1 g2 g3 g4) (by omega) (by omega) (by omega) Hp2.out Hs2.out Hp3.out Hs3.out, hS3.out⟩
            · have x1 : (s : Int) < (m : Int) := by omega
              have x2 : ¬ (m : Int) < (e : Int) := by omega
              have y1 : (a : Int) < (s : Int) := by omega
              have y2 : (s : Int) < (M : Int) := by omega
              have v1 : ¬ (M : Int) < (e : Int) := by omega
              clear h0 h1 hls hrh hg1 hgt hgtz hM1 hM2 hn hp HI hm0 hm1 HSa HSb HX HK eg hlo hal hlh
              obtain ⟨r, hp1, hr, hS⟩ : ∃ r, PermIn s e d r ∧ (∀ t, r[t]! = rotV s m e d t) ∧ Aside (SW enc w0 blk off r wr) := ⟨d, permIn_refl _ _ _, NR.out (by omega), S1⟩
              have Hp1 : Aside (PermIn s e d r) := hp1
              have C : Aside (Cut K a M b s e r) := CT.out r hr
              have CI := Lib.hid (XT.out r hr)
              have hz1 : r.size = d.size := hp1.1
              clear hp1 hr CT XT NR S1
              go_wp2_with fail
              rw [← hz1]
              refine (IH.out r _ a s M (by omega) (by omega) (by omega) (by omega) (by omega) hS.out C.out.l1 C.out.l2 CI.out.1).mono ?_
              rintro e' w' ⟨rfl, r2, hp2, hs2, hS20⟩
              have hS2 : Aside (SW enc w0 blk off r2 _) := hS20
              clear hS20
              have Hp2 : Aside (PermIn a M r r2) := hp2
              have Hs2 : Aside (So K a M r2) := hs2
              have hz2 : r2.size = d.size := hp2.1.trans hz1
              clear hp2 hs2 hS
              obtain ⟨r3, Hp3, Hs3, hS3⟩ : ∃ r3, Aside (PermIn M b r2 r3) ∧ Aside (So K M b r3) ∧ Aside (SW enc w0 blk off r3 _) := ⟨r2, permIn_refl _ _ _, So.congr ((show e = M by omega) ▸ C.out.r2) fun t g1 g2 => Hp2.out.2.1 t (by omega), hS2⟩
              go_wp2
              go_end0
              exact ⟨rfl, r3, permIn_trans _ _ _ _ _ (permIn_mono _ _ _ _ _ _ (by omega) (by omega) (by omega) Hp1.out) (permIn_trans _ _ _ _ _ (permIn_mono _ _ _ _ _ _ (Nat.le_refl _) (by omega) (by omega) Hp2.out) (permIn_mono _ _ _ _ _ _ (by omega) (Nat.le_refl _) (by omega) Hp3.out)), halves (fun p q g1 g2 g3 g4 => C.out.lr p q g1 g2 g3 g4) (by omega) (by omega) (by omega) Hp2.out Hs2.out Hp3.out Hs3.out, hS3.out⟩
          · rcases (show (M < e ∧ e < b) ∨ (M < e ∧ ¬ e < b) ∨ ¬ M < e by omega) with hQ | hQ | hQ
            · have x1 : (s : Int) < (m : Int) := by omega
              have x2 : ¬ (m : Int) < (e : Int) := by omega
              have y1 : (a : Int) < (s : Int) := by omega
              have y2 : ¬ (s : Int) < (M : Int) := by omega
              have v1 : (M : Int) < (e : Int) := by omega
              have v2 : (e : Int) < (b : Int) := by omega
              clear h0 h1 hls hrh hg1 hgt hgtz hM1 hM2 hn hp HI hm0 hm1 HSa HSb HX HK eg hlo hal hlh
              obtain ⟨r, hp1, hr, hS⟩ : ∃ r, PermIn s e d r ∧ (∀ t, r[t]! = rotV s m e d t) ∧ Aside (SW enc w0 blk off r wr) := ⟨d, permIn_refl _ _ _, NR.out (by omega), S1⟩
              have Hp1 : Aside (PermIn s e d r) := hp1
              have C : Aside (Cut K a M b s e r) := CT.out r hr
              have CI := Lib.hid (XT.out r hr)
              have hz1 : r.size = d.size := hp1.1
              clear hp1 hr CT XT NR S1
              obtain ⟨r2, Hp2, Hs2, hz2, hS2⟩ : ∃ r2, Aside (PermIn a M r r2) ∧ Aside (So K a M r2) ∧ r2.size = d.size ∧ Aside (SW enc w0 blk off r2 _) := ⟨r, permIn_refl _ _ _, (show s = M by omega) ▸ C.out.l1, hz1, hS⟩
              clear hS
              go_wp2_with fail
              rw [← hz2]
              refine (IH.out r2 _ M e b (by omega) (by omega) (by omega) (by omega) (by omega) hS2.out (C.out.r1.congr fun t g1 g2 => Hp2.out.2.1 t (by omega)) (C.out.r2.congr fun t g1 g2 => Hp2.out.2.1 t (by omega)) (fun p q g1 g2 g3 g4 => by rw [Hp2.out.2.1 p (by omega), Hp2.out.2.1 q (by omega)]; exact CI.out.2 p q g1 g2 g3 g4)).mono ?_
              rintro e' w' ⟨rfl, r3, hp3, hs3, hS30⟩
              have hS3 : Aside (SW enc w0 blk off r3 _) := hS30
              clear hS30
              have Hp3 : Aside (PermIn M b r2 r3) := hp3
              have Hs3 : Aside (So K M b r3) := hs3
              clear hp3 hs3
              go_wp2
              go_end0
              exact ⟨rfl, r3, permIn_trans _ _ _ _ _ (permIn_mono _ _ _ _ _ _ (by omega) (by omega) (by omega) Hp1.out) (permIn_trans _ _ _ _ _ (permIn_mono _ _ _ _ _ _ (Nat.le_refl _) (by omega) (by omega) Hp2.out) (permIn_mono _ _ _ _ _ _ (by omega) (Nat.le_refl _) (by omega) Hp3.out)), halves (fun p q g1 g2 g3 g4 => C.out.lr p q g1 g2 g3 g4) (by omega) (by omega) (by omega) Hp2.out Hs2.out Hp3.out Hs3.out, hS3.out⟩
            · have x1 : (s : Int) < (m : Int) := by omega
              have x2 : ¬ (m : Int) < (e : Int) := by omega
              have y1 : (a : Int) < (s : Int) := by omega
              have y2 : ¬ (s : Int) < (M : Int) := by omega
              have v1 : (M : Int) < (e : Int) := by omega
              have v2 : ¬ (e : Int) < (b : Int) := by omega
              clear h0 h1 hls hrh hg1 hgt hgtz hM1 hM2 hn hp HI hm0 hm1 HSa HSb HX HK eg hlo hal hlh
              obtain ⟨r, hp1, hr, hS⟩ : ∃ r, PermIn s e d r ∧ (∀ t, r[t]! = rotV s m e d t) ∧ Aside (SW enc w0 blk off r wr) := ⟨d, permIn_refl _ _ _, NR.out (by omega), S1⟩
              have Hp1 : Aside (PermIn s e d r) := hp1
              have C : Aside (Cut K a M b s e r) := CT.out r hr
              have CI := Lib.hid (XT.out r hr)
              have hz1 : r.size = d.size := hp1.1
              clear hp1 hr CT XT NR S1
              obtain ⟨r2, Hp2, Hs2, hz2, hS2⟩ : ∃ r2, Aside (PermIn a M r r2) ∧ Aside (So K a M r2) ∧ r2.size = d.size ∧ Aside (SW enc w0 blk off r2 _) := ⟨r, permIn_refl _ _ _, (show s = M by omega) ▸ C.out.l1, hz1, hS⟩
              clear hS
              obtain ⟨r3, Hp3, Hs3, hS3⟩ : ∃ r3, Aside (PermIn M b r2 r3) ∧ Aside (So K M b r3) ∧ Aside (SW enc w0 blk off r3 _) := ⟨r2, permIn_refl _ _ _, So.congr ((show e = b by omega) ▸ C.out.r1) fun t g1 g2 => Hp2.out.2.1 t (by omega), hS2⟩
              go_wp2
              go_end0
              exact ⟨rfl, r3, permIn_trans _ _ _ _ _ (permIn_mono _ _ _ _ _ _ (by omega) (by omega) (by omega) Hp1.out) (permIn_trans _ _ _ _ _ (permIn_mono _ _ _ _ _ _ (Nat.le_refl _) (by omega) (by omega) Hp2.out) (permIn_mono _ _ _ _ _ _ (by omega) (Nat.le_refl _) (by omega) Hp3.out)), halves (fun p q g1 g2 g3 g4 => C.out.lr p q g1 g2 g3 g4) (by omega) (by omega) (by omega) Hp2.out Hs2.out Hp3.out Hs3.out, hS3.out⟩
            · have x1 : (s : Int) < (m : Int) := by omega
              have x2 : ¬ (m : Int) < (e : Int) := by omega
              have y1 : (a : Int) < (s : Int) := by omega
              have y2 : ¬ (s : Int) < (M : Int) := by omega
              have v1 : ¬ (M : Int) < (e : Int) := by omega
              clear h0 h1 hls hrh hg1 hgt hgtz hM1 hM2 hn hp HI hm0 hm1 HSa HSb HX HK eg hlo hal hlh
              obtain ⟨r, hp1, hr, hS⟩ : ∃ r, PermIn s e d r ∧ (∀ t, r[t]! = rotV s m e d t) ∧ Aside (SW enc w0 blk off r wr) := ⟨d, permIn_refl _ _ _, NR.out (by omega), S1⟩
              have Hp1 : Aside (PermIn s e d r) := hp1
              have C : Aside (Cut K a M b s e r) := CT.out r hr
              have CI := Lib.hid (XT.out r hr)
              have hz1 : r.size = d.size := hp1.1
              clear hp1 hr CT XT NR S1
              obtain ⟨r2, Hp2, Hs2, hz2, hS2⟩ : ∃ r2, Aside (PermIn a M r r2) ∧ Aside (So K a M r2) ∧ r2.size = d.size ∧ Aside (SW enc w0 blk off r2 _) := ⟨r, permIn_refl _ _ _, (show s = M by omega) ▸ C.out.l1, hz1, hS⟩
              clear hS
              obtain ⟨r3, Hp3, Hs3, hS3⟩ : ∃ r3, Aside (PermIn M b r2 r3) ∧ Aside (So K M b r3) ∧ Aside (SW enc w0 blk off r3 _) := ⟨r2, permIn_refl _ _ _, So.congr ((show e = M by omega) ▸ C.out.r2) fun t g1 g2 => Hp2.out.2.1 t (by omega), hS2⟩
              go_wp2
              go_end0
              exact ⟨rfl, r3, permIn_trans _ _ _ _ _ (permIn_mono _ _ _ _ _ _ (by omega) (by omega) (by omega) Hp1.out) (permIn_trans _ _ _ _ _ (permIn_mono _ _ _ _ _ _ (Nat.le_refl _) (by omega) (by omega) Hp2.out) (permIn_mono _ _ _ _ _ _ (by omega) (Nat.le_refl _) (by omega) Hp3.out)), halves (fun p q g1 g2 g3 g4 => C.out.lr p q g1 g2 g3 g4) (by omega) (by omega) (by omega) Hp2.out Hs2.out Hp3.out Hs3.out, hS3.out⟩
          · rcases (show (M < e ∧ e < b) ∨ (M < e ∧ ¬ e < b) ∨ ¬ M < e by omega) with hQ | hQ | hQ
            · have x1 : (s : Int) < (m : Int) := by omega
              have x2 : ¬ (m : Int) < (e : Int) := by omega
              have y1 : ¬ (a : Int) < (s : Int) := by omega
              have v1 : (M : Int) < (e : Int) := by omega
              have v2 : (e : Int) < (b : Int) := by omega
              clear h0 h1 hls hrh hg1 hgt hgtz hM1 hM2 hn hp HI hm0 hm1 HSa HSb HX HK eg hlo hal hlh
              obtain ⟨r, hp1, hr, hS⟩ : ∃ r, PermIn s e d r ∧ (∀ t, r[t]! = rotV s m e d t) ∧ Aside (SW enc w0 blk off r wr) := ⟨d, permIn_refl _ _ _, NR.out (by omega), S1⟩
              have Hp1 : Aside (PermIn s e d r) := hp1
              have C : Aside (Cut K a M b s e r) := CT.out r hr
              have CI := Lib.hid (XT.out r hr)
              have hz1 : r.size = d.size := hp1.1
              clear hp1 hr CT XT NR S1
              obtain ⟨r2, Hp2, Hs2, hz2, hS2⟩ : ∃ r2, Aside (PermIn a M r r2) ∧ Aside (So K a M r2) ∧ r2.size = d.size ∧ Aside (SW enc w0 blk off r2 _) := ⟨r, permIn_refl _ _ _, (show s = a by omega) ▸ C.out.l2, hz1, hS⟩
              clear hS
              go_wp2_with fail
              rw [← hz2]
              refine (IH.out r2 _ M e b (by omega) (by omega) (by omega) (by omega) (by omega) hS2.out (C.out.r1.congr fun t g1 g2 => Hp2.out.2.1 t (by omega)) (C.out.r2.congr fun t g1 g2 => Hp2.out.2.1 t (by omega)) (fun p q g1 g2 g3 g4 => by rw [Hp2.out.2.1 p (by omega), Hp2.out.2.1 q (by omega)]; exact CI.out.2 p q g1 g2 g3 g4)).mono ?_
              rintro e' w' ⟨rfl, r3, hp3, hs3, hS30⟩
              have hS3 : Aside (SW enc w0 blk off r3 _) := hS30
              clear hS30
              have Hp3 : Aside (PermIn M b r2 r3) := hp3
              have Hs3 : Aside (So K M b r3) := hs3
              clear hp3 hs3
              go_wp2
              go_end0
              exact ⟨rfl, r3, permIn_trans _ _ _ _ _ (permIn_mono _ _ _ _ _ _ (by omega) (by omega) (by omega) Hp1.out) (permIn_trans _ _ _ _ _ (permIn_mono _ _ _ _ _ _ (Nat.le_refl _) (by omega) (by omega) Hp2.out) (permIn_mono _ _ _ _ _ _ (by omega) (Nat.le_refl _) (by omega) Hp3.out)), halves (fun p q g1 g2 g3 g4 => C.out.lr p q g1 g2 g3 g4) (by omega) (by omega) (by omega) Hp2.out Hs2.out Hp3.out Hs3.out, hS3.out⟩
            · have x1 : (s : Int) < (m : Int) := by omega
              have x2 : ¬ (m : Int) < (e : Int) := by omega
              have y1 : ¬ (a : Int) < (s : Int) := by omega
              have v1 : (M : Int) < (e : Int) := by omega
              have v2 : ¬ (e : Int) < (b : Int) := by omega
              clear h0 h1 hls hrh hg1 hgt hgtz hM1 hM2 hn hp HI hm0 hm1 HSa HSb HX HK eg hlo hal hlh
              obtain ⟨r, hp1, hr, hS⟩ : ∃ r, PermIn s e d r ∧ (∀ t, r[t]! = rotV s m e d t) ∧ Aside (SW enc w0 blk off r wr) := ⟨d, permIn_refl _ _ _, NR.out (by omega), S1⟩
              have Hp1 : Aside (PermIn s e d r) := hp1
              have C : Aside (Cut K a M b s e r) := CT.out r hr
              have CI := Lib.hid (XT.out r hr)
              have hz1 : r.size = d.size := hp1.1
              clear hp1 hr CT XT NR S1
              obtain ⟨r2, Hp2, Hs2, hz2, hS2⟩ : ∃ r2, Aside (PermIn a M r r2) ∧ Aside (So K a M r2) ∧ r2.size = d.size ∧ Aside (SW enc w0 blk off r2 _) := ⟨r, permIn_refl _ _ _, (show s = a by omega) ▸ C.out.l2, hz1, hS⟩
              clear hS
              obtain ⟨r3, Hp3, Hs3, hS3⟩ : ∃ r3, Aside (PermIn M b r2 r3) ∧ Aside (So K M b r3) ∧ Aside (SW enc w0 blk off r3 _) := ⟨r2, permIn_refl _ _ _, So.congr ((show e = b by omega) ▸ C.out.r1) fun t g1 g2 => Hp2.out.2.1 t (by omega), hS2⟩
              go_wp2
              go_end0
              exact ⟨rfl, r3, permIn_trans _ _ _ _ _ (permIn_mono _ _ _ _ _ _ (by omega) (by omega) (by omega) Hp1.out) (permIn_trans _ _ _ _ _ (permIn_mono _ _ _ _ _ _ (Nat.le_refl _) (by omega) (by omega) Hp2.out) (permIn_mono _ _ _ _ _ _ (by omega) (Nat.le_refl _) (by omega) Hp3.out)), halves (fun p q g1 g2 g3 g4 => C.out.lr p q g1 g2 g3 g4) (by omega) (by omega) (by omega) Hp2.out Hs2.out Hp3.out Hs3.out, hS3.out⟩
            · have x1 : (s : Int) < (m : Int) := by omega
              have x2 : ¬ (m : Int) < (e : Int) := by omega
              have y1 : ¬ (a : Int) < (s : Int) := by omega
              have v1 : ¬ (M : Int) < (e : Int) := by omega
              clear h0 h1 hls hrh hg1 hgt hgtz hM1 hM2 hn hp HI hm0 hm1 HSa HSb HX HK eg hlo hal hlh
              obtain ⟨r, hp1, hr, hS⟩ : ∃ r, PermIn s e d r ∧ (∀ t, r[t]! = rotV s m e d t) ∧ Aside (SW enc w0 blk off r wr) := ⟨d, permIn_refl _ _ _, NR.out (by omega), S1⟩
              have Hp1 : Aside (PermIn s e d r) := hp1
              have C : Aside (Cut K a M b s e r) := CT.out r hr
              have CI := Lib.hid (XT.out r hr)
              have hz1 : r.size = d.size := hp1.1
              clear hp1 hr CT XT NR S1
              obtain ⟨r2, Hp2, Hs2, hz2, hS2⟩ : ∃ r2, Aside (PermIn a M r r2) ∧ Aside (So K a M r2) ∧ r2.size = d.size ∧ Aside (SW enc w0 blk off r2 _) := ⟨r, permIn_refl _ _ _, (show s = a by omega) ▸ C.out.l2, hz1, hS⟩
              clear hS
              obtain ⟨r3, Hp3, Hs3, hS3⟩ : ∃ r3, Aside (PermIn M b r2 r3) ∧ Aside (So K M b r3) ∧ Aside (SW enc w0 blk off r3 _) := ⟨r2, permIn_refl _ _ _, So.congr ((show e = M by omega) ▸ C.out.r2) fun t g1 g2 => Hp2.out.2.1 t (by omega), hS2⟩
              go_wp2
              go_end0
              exact ⟨rfl, r3, permIn_trans _ _ _ _ _ (permIn_mono _ _ _ _ _ _ (by omega) (by omega) (by omega) Hp1.out) (permIn_trans _ _ _ _ _ (permIn_mono _ _ _ _ _ _ (Nat.le_refl _) (by omega) (by omega) Hp2.out) (permIn_mono _ _ _ _ _ _ (by omega) (Nat.le_refl _) (by omega) Hp3.out)), halves (fun p q g1 g2 g3 g4 => C.out.lr p q g1 g2 g3 g4) (by omega) (by omega) (by omega) Hp2.out Hs2.out Hp3.out Hs3.out, hS3.out⟩
        · rcases (show (a < s ∧ s < M) ∨ (a < s ∧ ¬ s < M) ∨ ¬ a < s by omega) with hP | hP | hP
          · rcases (show (M < e ∧ e < b) ∨ (M < e ∧ ¬ e < b) ∨ ¬ M < e by omega) with hQ | hQ | hQ
            · have x1 : ¬ (s : Int) < (m : Int) := by omega
              have y1 : (a : Int) < (s : Int) := by omega
              have y2 : (s : Int) < (M : Int) := by omega
              have v1 : (M : Int) < (e : Int) := by omega
              have v2 : (e : Int) < (b : Int) := by omega
              clear h0 h1 hls hrh hg1 hgt hgtz hM1 hM2 hn hp HI hm0 hm1 HSa HSb HX HK eg hlo hal hlh
              obtain ⟨r, hp1, hr, hS⟩ : ∃ r, PermIn s e d r ∧ (∀ t, r[t]! = rotV s m e d t) ∧ Aside (SW enc w0 blk off r wr) := ⟨d, permIn_refl _ _ _, NR.out (by omega), S1⟩
              have Hp1 : Aside (PermIn s e d r) := hp1
              have C : Aside (Cut K a M b s e r) := CT.out r hr
              have CI := Lib.hid (XT.out r hr)
              have hz1 : r.size = d.size := hp1.1
              clear hp1 hr CT XT NR S1
              go_wp2_with fail
              rw [← hz1]
              refine (IH.out r _ a s M (by omega) (by omega) (by omega) (by omega) (by omega) hS.out C.out.l1 C.out.l2 CI.out.1).mono ?_
              rintro e' w' ⟨rfl, r2, hp2, hs2, hS20⟩
              have hS2 : Aside (SW enc w0 blk off r2 _) := hS20
              clear hS20
              have Hp2 : Aside (PermIn a M r r2) := hp2
              have Hs2 : Aside (So K a M r2) := hs2
              have hz2 : r2.size = d.size := hp2.1.trans hz1
              clear hp2 hs2 hS
              go_wp2_with fail
              rw [← hz2]
              refine (IH.out r2 _ M e b (by omega) (by omega) (by omega) (by omega) (by omega) hS2.out (C.out.r1.congr fun t g1 g2 => Hp2.out.2.1 t (by omega)) (C.out.r2.congr fun t g1 g2 => Hp2.out.2.1 t (by omega)) (fun p q g1 g2 g3 g4 => by rw [Hp2.out.2.1 p (by omega), Hp2.out.2.1 q (by omega)]; exact CI.out.2 p q g1 g2 g3 g4)).mono ?_
              rintro e' w' ⟨rfl, r3, hp3, hs3, hS30⟩
              have hS3 : Aside (SW enc w0 blk off r3 _) := hS30
              clear hS30
              have Hp3 : Aside (PermIn M b r2 r3) := hp3
              have Hs3 : Aside (So K M b r3) := hs3
              clear hp3 hs3
              go_wp2
              go_end0
              exact ⟨rfl, r3, permIn_trans _ _ _ _ _ (permIn_mono _ _ _ _ _ _ (by omega) (by omega) (by omega) Hp1.out) (permIn_trans _ _ _ _ _ (permIn_mono _ _ _ _ _ _ (Nat.le_refl _) (by omega) (by omega) Hp2.out) (permIn_mono _ _ _ _ _ _ (by omega) (Nat.le_refl _) (by omega) Hp3.out)), halves (fun p q g1 g2 g3 g4 => C.out.lr p q g1 g2 g3 g4) (by omega) (by omega) (by omega) Hp2.out Hs2.out Hp3.out Hs3.out, hS3.out⟩
            · have x1 : ¬ (s : Int) < (m : Int) := by omega
              have y1 : (a : Int) < (s : Int) := by omega
              have y2 : (s : Int) < (M : Int) := by omega
              have v1 : (M : Int) < (e : Int) := by omega
              have v2 : ¬ (e : Int) < (b : Int) := by omega
              clear h0 h1 hls hrh hg1 hgt hgtz hM1 hM2 hn hp HI hm0 hm1 HSa HSb HX HK eg hlo hal hlh
              obtain ⟨r, hp1, hr, hS⟩ : ∃ r, PermIn s e d r ∧ (∀ t, r[t]! = rotV s m e d t) ∧ Aside (SW enc w0 blk off r wr) := ⟨d, permIn_refl _ _ _, NR.out (by omega), S1⟩
              have Hp1 : Aside (PermIn s e d r) := hp1
              have C : Aside (Cut K a M b s e r) := CT.out r hr
              have CI := Lib.hid (XT.out r hr)
              have hz1 : r.size = d.size := hp1.1
              clear hp1 hr CT XT NR S1
              go_wp2_with fail
              rw [← hz1]
              refine (IH.out r _ a s M (by omega) (by omega) (by omega) (by omega) (by omega) hS.out C.out.l1 C.out.l2 CI.out.1).mono ?_
              rintro e' w' ⟨rfl, r2, hp2, hs2, hS20⟩
              have hS2 : Aside (SW enc w0 blk off r2 _) := hS20
              clear hS20
              have Hp2 : Aside (PermIn a M r r2) := hp2
              have Hs2 : Aside (So K a M r2) := hs2
              have hz2 : r2.size = d.size := hp2.1.trans hz1
              clear hp2 hs2 hS
              obtain ⟨r3, Hp3, Hs3, hS3⟩ : ∃ r3, Aside (PermIn M b r2 r3) ∧ Aside (So K M b r3) ∧ Aside (SW enc w0 blk off r3 _) := ⟨r2, permIn_refl _ _ _, So.congr ((show e = b by omega) ▸ C.out.r1) fun t g1 g2 => Hp2.out.2.1 t (by omega), hS2⟩
              go_wp2
              go_end0
              exact ⟨rfl, r3, permIn_trans _ _ _ _ _ (permIn_mono _ _ _ _ _ _ (by omega) (by omega) (by omega) Hp1.out) (permIn_trans _ _ _ _ _ (permIn_mono _ _ _ _ _ _ (Nat.le_refl _) (by omega) (by omega) Hp2.out) (permIn_mono _ _ _ _ _ _ (by omega) (Nat.le_refl _) (by omega) Hp3.out)), halves (fun p q g1 g2 g3 g4 => C.out.lr p q g1 g2 g3 g4) (by omega) (by omega) (by omega) Hp2.out Hs2.out Hp3.out Hs3.out, hS3.out⟩
            · have x1 : ¬ (s : Int) < (m : Int) := by omega
              have y1 : (a : Int) < (s : Int) := by omega
              have y2 : (s : Int) < (M : Int) := by omega
              have v1 : ¬ (M : Int) < (e : Int) := by omega
              clear h0 h1 hls hrh hg1 hgt hgtz hM1 hM2 hn hp HI hm0 hm1 HSa HSb HX HK eg hlo hal hlh
              obtain ⟨r, hp1, hr, hS⟩ : ∃ r, PermIn s e d r ∧ (∀ t, r[t]! = rotV s m e d t) ∧ Aside (SW enc w0 blk off r wr) := ⟨d, permIn_refl _ _ _, NR.out (by omega), S1⟩
              have Hp1 : Aside (PermIn s e d r) := hp1
              have C : Aside (Cut K a M b s e r) := CT.out r hr
              have CI := Lib.hid (XT.out r hr)
              have hz1 : r.size = d.size := hp1.1
              clear hp1 hr CT XT NR S1
              go_wp2_with fail
              rw [← hz1]
              refine (IH.out r _ a s M (by omega) (by omega) (by omega) (by omega) (by omega) hS.out C.out.l1 C.out.l2 CI.out.1).mono ?_
              rintro e' w' ⟨rfl, r2, hp2, hs2, hS20⟩
              have hS2 : Aside (SW enc w0 blk off r2 _) := hS20
              clear hS20
              have Hp2 : Aside (PermIn a M r r2) := hp2
              have Hs2 : Aside (So K a M r2) := hs2
              have hz2 : r2.size = d.size := hp2.1.trans hz1
              clear hp2 hs2 hS
              obtain ⟨r3, Hp3, Hs3, hS3⟩ : ∃ r3, Aside (PermIn M b r2 r3) ∧ Aside (So K M b r3) ∧ Aside (SW enc w0 blk off r3 _) := ⟨r2, permIn_refl _ _ _, So.congr ((show e = M by omega) ▸ C.out.r2) fun t g1 g2 => Hp2.out.2.1 t (by omega), hS2⟩
              go_wp2
              go_end0
              exact ⟨rfl, r3, permIn_trans _ _ _ _ _ (permIn_mono _ _ _ _ _ _ (by omega) (by omega) (by omega) Hp1.out) (permIn_trans _ _ _ _ _ (permIn_mono _ _ _ _ _ _ (Nat.le_refl _) (by omega) (by omega) Hp2.out) (permIn_mono _ _ _ _ _ _ (by omega) (Nat.le_refl _) (by omega) Hp3.out)), halves (fun p q g1 g2 g3 g4 => C.out.lr p q g1 g2 g3 g4) (by omega) (by omega) (by omega) Hp2.out Hs2.out Hp3.out Hs3.out, hS3.out⟩
          · rcases (show (M < e ∧ e < b) ∨ (M < e ∧ ¬ e < b) ∨ ¬ M < e by omega) with hQ | hQ | hQ
            · have x1 : ¬ (s : Int) < (m : Int) := by omega
              have y1 : (a : Int) < (s : Int) := by omega
              have y2 : ¬ (s : Int) < (M : Int) := by omega
              have v1 : (M : Int) < (e : Int) := by omega
              have v2 : (e : Int) < (b : Int) := by omega
              clear h0 h1 hls hrh hg1 hgt hgtz hM1 hM2 hn hp HI hm0 hm1 HSa HSb HX HK eg hlo hal hlh
              obtain ⟨r, hp1, hr, hS⟩ : ∃ r, PermIn s e d r ∧ (∀ t, r[t]! = rotV s m e d t) ∧ Aside (SW enc w0 blk off r wr) := ⟨d, permIn_refl _ _ _, NR.out (by omega), S1⟩
              have Hp1 : Aside (PermIn s e d r) := hp1
              have C : Aside (Cut K a M b s e r) := CT.out r hr
              have CI := Lib.hid (XT.out r hr)
              have hz1 : r.size = d.size := hp1.1
              clear hp1 hr CT XT NR S1
              obtain ⟨r2, Hp2, Hs2, hz2, hS2⟩ : ∃ r2, Aside (PermIn a M r r2) ∧ Aside (So K a M r2) ∧ r2.size = d.size ∧ Aside (SW enc w0 blk off r2 _) := ⟨r, permIn_refl _ _ _, (show s = M by omega) ▸ C.out.l1, hz1, hS⟩
              clear hS
              go_wp2_with fail
              rw [← hz2]
              refine (IH.out r2 _ M e b (by omega) (by omega) (by omega) (by omega) (by omega) hS2.out (C.out.r1.congr fun t g1 g2 => Hp2.out.2.1 t (by omega)) (C.out.r2.congr fun t g1 g2 => Hp2.out.2.1 t (by omega)) (fun p q g1 g2 g3 g4 => by rw [Hp2.out.2.1 p (by omega), Hp2.out.2.1 q (by omega)]; exact CI.out.2 p q g1 g2 g3 g4)).mono ?_
              rintro e' w' ⟨rfl, r3, hp3, hs3, hS30⟩
              have hS3 : Aside (SW enc w0 blk off r3 _) := hS30
              clear hS30
              have Hp3 : Aside (PermIn M b r2 r3) := hp3
              have Hs3 : Aside (So K M b r3) := hs3
              clear hp3 hs3
              go_wp2
              go_end0
              exact ⟨rfl, r3, permIn_trans _ _ _ _ _ (permIn_mono _ _ _ _ _ _ (by omega) (by omega) (by omega) Hp1.out) (permIn_trans _ _ _ _ _ (permIn_mono _ _ _ _ _ _ (Nat.le_refl _) (by omega) (by omega) Hp2.out) (permIn_mono _ _ _ _ _ _ (by omega) (Nat.le_refl _) (by omega) Hp3.out)), halves (fun p q g1 g2 g3 g4 => C.out.lr p q g1 g2 g3 g4) (by omega) (by omega) (by omega) Hp2.out Hs2.out Hp3.out Hs3.out, hS3.out⟩
            · have x1 : ¬ (s : Int) < (m : Int) := by omega
              have y1 : (a : Int) < (s : Int) := by omega
              have y2 : ¬ (s : Int) < (M : Int) := by omega
              have v1 : (M : Int) < (e : Int) := by omega
              have v2 : ¬ (e : Int) < (b : Int) := by omega
              clear h0 h1 hls hrh hg1 hgt hgtz hM1 hM2 hn hp HI hm0 hm1 HSa HSb HX HK eg hlo hal hlh
              obtain ⟨r, hp1, hr, hS⟩ : ∃ r, PermIn s e d r ∧ (∀ t, r[t]! = rotV s m e d t) ∧ Aside (SW enc w0 blk off r wr) := ⟨d, permIn_refl _ _ _, NR.out (by omega), S1⟩
              have Hp1 : Aside (PermIn s e d r) := hp1
              have C : Aside (Cut K a M b s e r) := CT.out r hr
              have CI := Lib.hid (XT.out r hr)
              have hz1 : r.size = d.size := hp1.1
              clear hp1 hr CT XT NR S1
              obtain ⟨r2, Hp2, Hs2, hz2, hS2⟩ : ∃ r2, Aside (PermIn a M r r2) ∧ Aside (So K a M r2) ∧ r2.size = d.size ∧ Aside (SW enc w0 blk off r2 _) := ⟨r, permIn_refl _ _ _, (show s = M by omega) ▸ C.out.l1, hz1, hS⟩
              clear hS
              obtain ⟨r3, Hp3, Hs3, hS3⟩ : ∃ r3, Aside (PermIn M b r2 r3) ∧ Aside (So K M b r3) ∧ Aside (SW enc w0 blk off r3 _) := ⟨r2, permIn_refl _ _ _, So.congr ((show e = b by omega) ▸ C.out.r1) fun t g1 g2 => Hp2.out.2.1 t (by omega), hS2⟩
              go_wp2
              go_end0
              exact ⟨rfl, r3, permIn_trans _ _ _ _ _ (permIn_mono _ _ _ _ _ _ (by omega) (by omega) (by omega) Hp1.out) (permIn_trans _ _ _ _ _ (permIn_mono _ _ _ _ _ _ (Nat.le_refl _) (by omega) (by omega) Hp2.out) (permIn_mono _ _ _ _ _ _ (by omega) (Nat.le_refl _) (by omega) Hp3.out)), halves (fun p q g1 g2 g3 g4 => C.out.lr p q g1 g2 g3 g4) (by omega) (by omega) (by omega) Hp2.out Hs2.out Hp3.out Hs3.out, hS3.out⟩
            · have x1 : ¬ (s : Int) < (m : Int) := by omega
              have y1 : (a : Int) < (s : Int) := by omega
              have y2 : ¬ (s : Int) < (M : Int) := by omega
              have v1 : ¬ (M : Int) < (e : Int) := by omega
              clear h0 h1 hls hrh hg1 hgt hgtz hM1 hM2 hn hp HI hm0 hm1 HSa HSb HX HK eg hlo hal hlh
              obtain ⟨r, hp1, hr, hS⟩ : ∃ r, PermIn s e d r ∧ (∀ t, r[t]! = rotV s m e d t) ∧ Aside (SW enc w0 blk off r wr) := ⟨d, permIn_refl _ _ _, NR.out (by omega), S1⟩
              have Hp1 : Aside (PermIn s e d r) := hp1
              have C : Aside (Cut K a M b s e r) := CT.out r hr
              have CI := Lib.hid (XT.out r hr)
              have hz1 : r.size = d.size := hp1.1
              clear hp1 hr CT XT NR S1
              obtain ⟨r2, Hp2, Hs2, hz2, hS2⟩ : ∃ r2, Aside (PermIn a M r r2) ∧ Aside (So K a M r2) ∧ r2.size = d.size ∧ Aside (SW enc w0 blk off r2 _) := ⟨r, permIn_refl _ _ _, (show s = M by omega) ▸ C.out.l1, hz1, hS⟩
              clear hS
              obtain ⟨r3, Hp3, Hs3, hS3⟩ : ∃ r3, Aside (PermIn M b r2 r3) ∧ Aside (So K M b r3) ∧ Aside (SW enc w0 blk off r3 _) := ⟨r2, permIn_refl _ _ _, So.congr ((show e = M by omega) ▸ C.out.r2) fun t g1 g2 => Hp2.out.2.1 t (by omega), hS2⟩
              go_wp2
              go_end0
              exact ⟨rfl, r3, permIn_trans _ _ _ _ _ (permIn_mono _ _ _ _ _ _ (by omega) (by omega) (by omega) Hp1.out) (permIn_trans _ _ _ _ _ (permIn_mono _ _ _ _ _ _ (Nat.le_refl _) (by omega) (by omega) Hp2.out) (permIn_mono _ _ _ _ _ _ (by omega) (Nat.le_refl _) (by omega) Hp3.out)), halves (fun p q g1 g2 g3 g4 => C.out.lr p q g1 g2 g3 g4) (by omega) (by omega) (by omega) Hp2.out Hs2.out Hp3.out Hs3.out, hS3.out⟩
          · rcases (show (M < e ∧ e < b) ∨ (M < e ∧ ¬ e < b) ∨ ¬ M < e by omega) with hQ | hQ | hQ
            · have x1 : ¬ (s : Int) < (m : Int) := by omega
              have y1 : ¬ (a : Int) < (s : Int) := by omega
              have v1 : (M : Int) < (e : Int) := by omega
              have v2 : (e : Int) < (b : Int) := by omega
              clear h0 h1 hls hrh hg1 hgt hgtz hM1 hM2 hn hp HI hm0 hm1 HSa HSb HX HK eg hlo hal hlh
              obtain ⟨r, hp1, hr, hS⟩ : ∃ r, PermIn s e d r ∧ (∀ t, r[t]! = rotV s m e d t) ∧ Aside (SW enc w0 blk off r wr) := ⟨d, permIn_refl _ _ _, NR.out (by omega), S1⟩
              have Hp1 : Aside (PermIn s e d r) := hp1
              have C : Aside (Cut K a M b s e r) := CT.out r hr
              have CI := Lib.hid (XT.out r hr)
              have hz1 : r.size = d.size := hp1.1
              clear hp1 hr CT XT NR S1
              obtain ⟨r2, Hp2, Hs2, hz2, hS2⟩ : ∃ r2, Aside (PermIn a M r r2) ∧ Aside (So K a M r2) ∧ r2.size = d.size ∧ Aside (SW enc w0 blk off r2 _) := ⟨r, permIn_refl _ _ _, (show s = a by omega) ▸ C.out.l2, hz1, hS⟩
              clear hS
              go_wp2_with fail
              rw [← hz2]
              refine (IH.out r2 _ M e b (by omega) (by omega) (by omega) (by omega) (by omega) hS2.out (C.out.r1.congr fun t g1 g2 => Hp2.out.2.1 t (by omega)) (C.out.r2.congr fun t g1 g2 => Hp2.out.2.1 t (by omega)) (fun p q g1 g2 g3 g4 => by rw [Hp2.out.2.1 p (by omega), Hp2.out.2.1 q (by omega)]; exact CI.out.2 p q g1 g2 g3 g4)).mono ?_
              rintro e' w' ⟨rfl, r3, hp3, hs3, hS30⟩
              have hS3 : Aside (SW enc w0 blk off r3 _) := hS30
              clear hS30
              have Hp3 : Aside (PermIn M b r2 r3) := hp3
              have Hs3 : Aside (So K M b r3) := hs3
              clear hp3 hs3
              go_wp2
              go_end0
              exact ⟨rfl, r3, permIn_trans _ _ _ _ _ (permIn_mono _ _ _ _ _ _ (by omega) (by omega) (by omega) Hp1.out) (permIn_trans _ _ _ _ _ (permIn_mono _ _ _ _ _ _ (Nat.le_refl _) (by omega) (by omega) Hp2.out) (permIn_mono _ _ _ _ _ _ (by omega) (Nat.le_refl _) (by omega) Hp3.out)), halves (fun p q g1 g2 g3 g4 => C.out.lr p q g1 g2 g3 g4) (by omega) (by omega) (by omega) Hp2.out Hs2.out Hp3.out Hs3.out, hS3.out⟩
            · have x1 : ¬ (s : Int) < (m : Int) := by omega
              have y1 : ¬ (a : Int) < (s : Int) := by omega
              have v1 : (M : Int) < (e : Int) := by omega
              have v2 : ¬ (e : Int) < (b : Int) := by omega
              clear h0 h1 hls hrh hg1 hgt hgtz hM1 hM2 hn hp HI hm0 hm1 HSa HSb HX HK eg hlo hal hlh
              obtain ⟨r, hp1, hr, hS⟩ : ∃ r, PermIn s e d r ∧ (∀ t, r[t]! = rotV s m e d t) ∧ Aside (SW enc w0 blk off r wr) := ⟨d, permIn_refl _ _ _, NR.out (by omega), S1⟩
              have Hp1 : Aside (PermIn s e d r) := hp1
              have C : Aside (Cut K a M b s e r) := CT.out r hr
              have CI := Lib.hid (XT.out r hr)
              have hz1 : r.size = d.size := hp1.1
              clear hp1 hr CT XT NR S1
              obtain ⟨r2, Hp2, Hs2, hz2, hS2⟩ : ∃ r2, Aside (PermIn a M r r2) ∧ Aside (So K a M r2) ∧ r2.size = d.size ∧ Aside (SW enc w0 blk off r2 _) := ⟨r, permIn_refl _ _ _, (show s = a by omega) ▸ C.out.l2, hz1, hS⟩
              clear hS
              obtain ⟨r3, Hp3, Hs3, hS3⟩ : ∃ r3, Aside (PermIn M b r2 r3) ∧ Aside (So K M b r3) ∧ Aside (SW enc w0 blk off r3 _) := ⟨r2, permIn_refl _ _ _, So.congr ((show e = b by omega) ▸ C.out.r1) fun t g1 g2 => Hp2.out.2.1 t (by omega), hS2⟩
              go_wp2
              go_end0
              exact ⟨rfl, r3, permIn_trans _ _ _ _ _ (permIn_mono _ _ _ _ _ _ (by omega) (by omega) (by omega) Hp1.out) (permIn_trans _ _ _ _ _ (permIn_mono _ _ _ _ _ _ (Nat.le_refl _) (by omega) (by omega) Hp2.out) (permIn_mono _ _ _ _ _ _ (by omega) (Nat.le_refl _) (by omega) Hp3.out)), halves (fun p q g1 g2 g3 g4 => C.out.lr p q g1 g2 g3 g4) (by omega) (by omega) (by omega) Hp2.out Hs2.out Hp3.out Hs3.out, hS3.out⟩
            · have x1 : ¬ (s : Int) < (m : Int) := by omega
              have y1 : ¬ (a : Int) < (s : Int) := by omega
              have v1 : ¬ (M : Int) < (e : Int) := by omega
              clear h0 h1 hls hrh hg1 hgt hgtz hM1 hM2 hn hp HI hm0 hm1 HSa HSb HX HK eg hlo hal hlh
              obtain ⟨r, hp1, hr, hS⟩ : ∃ r, PermIn s e d r ∧ (∀ t, r[t]! = rotV s m e d t) ∧ Aside (SW enc w0 blk off r wr) := ⟨d, permIn_refl _ _ _, NR.out (by omega), S1⟩
              have Hp1 : Aside (PermIn s e d r) := hp1
              have C : Aside (Cut K a M b s e r) := CT.out r hr
              have CI := Lib.hid (XT.out r hr)
              have hz1 : r.size = d.size := hp1.1
              clear hp1 hr CT XT NR S1
              obtain ⟨r2, Hp2, Hs2, hz2, hS2⟩ : ∃ r2, Aside (PermIn a M r r2) ∧ Aside (So K a M r2) ∧ r2.size = d.size ∧ Aside (SW enc w0 blk off r2 _) := ⟨r, permIn_refl _ _ _, (show s = a by omega) ▸ C.out.l2, hz1, hS⟩
              clear hS
              obtain ⟨r3, Hp3, Hs3, hS3⟩ : ∃ r3, Aside (PermIn M b r2 r3) ∧ Aside (So K M b r3) ∧ Aside (SW enc w0 blk off r3 _) := ⟨r2, permIn_refl _ _ _, So.congr ((show e = M by omega) ▸ C.out.r2) fun t g1 g2 => Hp2.out.2.1 t (by omega), hS2⟩
              go_wp2
              go_end0
              exact ⟨rfl, r3, permIn_trans _ _ _ _ _ (permIn_mono _ _ _ _ _ _ (by omega) (by omega) (by omega) Hp1.out) (permIn_trans _ _ _ _ _ (permIn_mono _ _ _ _ _ _ (Nat.le_refl _) (by omega) (by omega) Hp2.out) (permIn_mono _ _ _ _ _ _ (by omega) (Nat.le_refl _) (by omega) Hp3.out)), halves (fun p q g1 g2 g3 g4 => C.out.lr p q g1 g2 g3 g4) (by omega) (by omega) (by omega) Hp2.out Hs2.out Hp3.out Hs3.out, hS3.out⟩
end Go.Proofs.Ytdkiembkigadkaa.M

/- SymL -/
set_option linter.unusedSimpArgs false
set_option linter.unusedVariables false
namespace Go.Proofs.Ytdkiembkigadkaa.M
open Go.Shelf Go.RowKit Go.Lib Go.Sort Go.Proofs
open Go.Proofs.Ytdkiembkigadkaa.P (swR size_swR swR_get swR_perm rotV So shU shU_get shU_perm size_shU shD shD_get shD_perm size_shD one_up one_down Cut cut_of halves)
variable {α : Type} [Inhabited α]
set_option maxHeartbeats 16000000 in
set_option maxRecDepth 1000000 in
theorem sym_le (K : α → Int) (enc : α → Value) (cf : α → α → Int) (I : α → Nat) (hK : ∀ x y, I y < I x → (cf x y < 0 ↔ K x < K y)) (g : Nat) (cb : Array Value) (blk off cap a m b : Nat) (d0 d : Array α) (w0 w : World) (eg : ∀ args w, (callFunc g args).run Try.prog w = .ok (.enter g args) w) (hcmp : CmpLays1 Try.prog g cb enc cf blk off d0.size w0) (R : Row1 enc w0 blk off d0) (hs : d0.size = d.size) (S : SW enc w0 blk off d w) (ham : a < m) (hmb : m < b) (hb : b ≤ d.size) (hsz : d.size < 4611686018427387904) (hSa : So K a m d) (hSb : So K m b d) (hI : ∀ p q, a ≤ p → p < m → m ≤ q → q < b → I d[p]! < I d[q]!)
    (ih : ∀ (d : Array α) (w : World) (a' m' b' : Nat), b' - a' < b - a → a' < m' → m' < b' → b' ≤ d.size → d0.size = d.size → SW enc w0 blk off d w → So K a' m' d → So K m' b' d → (∀ p q, a' ≤ p → p < m' → m' ≤ q → q < b' → I d[p]! < I d[q]!) → Calls Try.prog 62 #[.slice (some ⟨blk, off, none⟩) d.size cap, .int .i64 a', .int .i64 m', .int .i64 b', .func (.func g) #[] cb] w fun e w' => e = .returned (.tuple #[]) ∧ ∃ r, PermIn a' b' d r ∧ So K a' b' r ∧ SW enc w0 blk off r w')
    (h0 : ¬ m - a = 1) (h1 : ¬ b - m = 1) (hgm : ¬ (a + b) / 2 < m) :
    Calls Try.prog 62 #[.slice (some ⟨blk, off, none⟩) d.size cap, .int .i64 a, .int .i64 m, .int .i64 b, .func (.func g) #[] cb] w fun e w' => e = .returned (.tuple #[]) ∧ ∃ r, PermIn a b d r ∧ So K a b r ∧ SW enc w0 blk off r w' := by
  have mixed : Try.prog.follows Departure.mixedOrders = true := by kernel_rfl
  have hcl0 := R.hO.cells
  simp only [Value.cells] at hcl0
  have hst := R.hO.store Try.prog
  have HC : Aside _ := hcmp
  have S0 : Aside (SW enc w0 blk off d w) := S
  have HSa : Aside (So K a m d) := hSa
  have HSb : Aside (So K m b d) := hSb
  have HK : Aside (∀ x y, I y < I x → (cf x y < 0 ↔ K x < K y)) := hK
  have HX : Aside (∀ p q, a ≤ p → p < m → m ≤ q → q < b → I d[p]! < I d[q]!) := hI
  clear S hcmp hSa hSb hK hI
  have IH : Aside _ := ih
  clear ih
  have hm0 : ((m : Int) - (a : Int) == 1) = false := beq_eq_false_iff_ne.2 (by omega)
  have hm1 : ((b : Int) - (m : Int) == 1) = false := beq_eq_false_iff_ne.2 (by omega)
  obtain ⟨M, hM1, hM2⟩ : ∃ q, 2 * q ≤ a + b ∧ a + b ≤ 2 * q + 1 := ⟨(a + b) / 2, by omega, by omega⟩
  obtain ⟨n, hn⟩ : ∃ q, M + m = q := ⟨_, rfl⟩
  obtain ⟨p, hp⟩ : ∃ q, q + 1 = n := ⟨n - 1, by omega⟩
  have haM : a < M := by omega
  have hMb : M < b := by omega
  go_enter Try.func62, Try.ntmps62
  have hgt : ¬ M < m := by omega
  clear hgm
  · have hgtz : ¬ ((a : Int) + (b : Int)) / 2 < (m : Int) := by omega
    go_wp2
    have zM : ((a : Int) + (b : Int)) / 2 = (M : Int) := by omega
    have zn : (M : Int) + (m : Int) = (n : Int) := by omega
    have zp : (n : Int) - 1 = (p : Int) := by omega
    rw [zM, zn, zp]
    clear zM zn zp
    go_loopg [20, 21] (b - a) (fun g1 vi vj wr => ∃ (s r : Nat), vi = .int .i64 s ∧ vj = .int .i64 r ∧ a ≤ s ∧ s ≤ r ∧ r ≤ m ∧ r - s ≤ g1 ∧ Hid ((a < s → K d[s - 1]! ≤ K d[n - s]!) ∧ (r < m → K d[n - 1 - r]! < K d[r]!)) ∧ Aside (SW enc w0 blk off d wr))
    case atStart => exact ⟨a, m, rfl, rfl, Nat.le_refl _, by omega, Nat.le_refl _, by omega, ⟨fun h => absurd h (Nat.lt_irrefl _), fun h => absurd h (Nat.lt_irrefl _)⟩, S0⟩
    case round =>
      clear S0
      obtain ⟨s, r, rfl, rfl, hls, hsr, hrh, hg1, HI, S1⟩ := hrel
      by_cases hlt : s < r
      · have hltz : (s : Int) < (r : Int) := by omega
        go_wp2
        obtain ⟨c, hc0⟩ : ∃ q, q = (s + r) / 2 := ⟨_, rfl⟩
        have zc : ((s : Int) + (r : Int)) / 2 = (c : Int) := by omega
        have hsc : s ≤ c := by omega
        have hcr : c < r := by omega
        have hcp : c ≤ p := by omega
        rw [zc]
        clear zc hc0
        have pq : (0 : Int) ≤ (p : Int) - (c : Int) := by omega
        have bq : (p : Int) - (c : Int) < (d.size : Int) := by omega
        have rq : IntKind.i64.wrap ((p : Int) - (c : Int)) = (p : Int) - (c : Int) := by rw [IntKind.wrap_i64]; omega
        have ph : (0 : Int) ≤ (c : Int) := by omega
        have bh : (c : Int) < (d.size : Int) := by omega
        by_cases hlv0 : K d[p - c]! < K d[c]!
        · have hlv : Hid (K d[p - c]! < K d[c]!) := hlv0
          clear hlv0
          obtain ⟨x, hx⟩ : ∃ x, x = d[p - c]! := ⟨_, rfl⟩
          obtain ⟨y, hy⟩ : ∃ x, x = d[c]! := ⟨_, rfl⟩
          have la := S1.out.cl R (by omega) (p - c) (by omega)
          have lb := S1.out.cl R (by omega) c (by omega)
          rw [← hx] at la
          rw [← hy] at lb
          have hc := S1.out.cmp HC.out (by omega) x y
          have hv : cf x y < 0 := (HK.out x y (by rw [hx, hy]; exact HX.out c (p - c) (by omega) (by omega) (by omega) (by omega))).2 (by rw [hx, hy]; exact hlv.out)
          have hd : decide (cf x y < 0) = true := decide_eq_true hv
          clear hx hy
          go_wp2_with fail
          go_quiet_grown (first | (go_at_fn g; refine Calls.grown_of (hc _ _)))
          have S2 : Aside (SW enc w0 blk off d (grow (wr.drewN nq) osq)) := S1.out.grown nq osq
          clear la lb hc S1
          generalize grow (wr.drewN nq) osq = w2 at S2 ⊢
          clear nq osq
          go_wp2
          go_roundg (c - s)
          case measure => omega
          case rel => exact ⟨s, c, rfl, by go_num, hls, by omega, by omega, Nat.le_refl _, ⟨HI.out.1, fun _ => by rw [show n - 1 - c = p - c by omega]; exact hlv.out⟩, S2⟩
        · have hlv : Hid (K d[c]! ≤ K d[p - c]!) := Int.not_lt.1 hlv0
          clear hlv0
          obtain ⟨x, hx⟩ : ∃ x, x = d[p - c]! := ⟨_, rfl⟩
          obtain ⟨y, hy⟩ : ∃ x, x = d[c]! := ⟨_, rfl⟩
          have la := S1.out.cl R (by omega) (p - c) (by omega)
          have lb := S1.out.cl R (by omega) c (by omega)
          rw [← hx] at la
          rw [← hy] at lb
          have hc := S1.out.cmp HC.out (by omega) x y
          have hv : ¬ cf x y < 0 := fun h9 => by have g0 := (HK.out x y (by rw [hx, hy]; exact HX.out c (p - c) (by omega) (by omega) (by omega) (by omega))).1 h9; have g1 := hlv.out; rw [← hx, ← hy] at g1; omega
          have hd : decide (cf x y < 0) = false := decide_eq_false hv
          clear hx hy
          go_wp2_with fail
          go_quiet_grown (first | (go_at_fn g; refine Calls.grown_of (hc _ _)))
          have S2 : Aside (SW enc w0 blk off d (grow (wr.drewN nq) osq)) := S1.out.grown nq osq
          clear la lb hc S1
          generalize grow (wr.drewN nq) osq = w2 at S2 ⊢
          clear nq osq
          go_wp2
          go_roundg (r - (c + 1))
          case measure => omega
          case rel => exact ⟨c + 1, r, by go_num, rfl, by omega, by omega, hrh, Nat.le_refl _, ⟨fun _ => by rw [show c + 1 - 1 = c by omega, show n - (c + 1) = p - c by omega]; exact hlv.out, HI.out.2⟩, S2⟩
      · have e0 : s = r := by omega
        subst e0
        have hltz : ¬ (s : Int) < (s : Int) := by omega
        obtain ⟨e, he⟩ : ∃ q, q + s = n := ⟨n - s, by omega⟩
        have ze : (n : Int) - (s : Int) = (e : Int) := by omega
        have hsM : s ≤ M := by omega
        have hsm : s ≤ m := by omega
        have hme : m ≤ e := by omega
        have heb : e ≤ b := by omega
        have hMe : M ≤ e := by omega
        have has : a ≤ s := by omega
        have CT : Aside (∀ r : Array α, (∀ t, r[t]! = rotV s m e d t) → Cut K a M b s e r) := fun r hr => cut_of (lo := a) (hi := m) HSa.out HSb.out ham hmb hls hrh (by omega) (by omega) (by omega) (by omega) (by omega) hsM hme heb (by omega) (by omega) (fun h => by rw [show e = n - s by omega]; exact HI.out.1 h) (fun h => by rw [show e - 1 = n - 1 - s by omega]; exact HI.out.2 h) hr
        have XT : Aside (∀ r : Array α, (∀ t, r[t]! = rotV s m e d t) → (∀ p q, a ≤ p → p < s → s ≤ q → q < M → I r[p]! < I r[q]!) ∧ (∀ p q, M ≤ p → p < e → e ≤ q → q < b → I r[p]! < I r[q]!)) := fun r hr => ⟨fun p q g1 g2 g3 g4 => by
            rw [hr, hr]
            unfold rotV
            rw [if_neg (by omega), if_pos (by omega), if_pos (by omega)]
            exact HX.out _ _ (by omega) (by omega) (by omega) (by omega), fun p q g1 g2 g3 g4 => by
            rw [hr, hr]
            unfold rotV
            rw [if_pos (by omega), if_neg (by omega), if_neg (by omega)]
            exact HX.out _ _ (by omega) (by omega) (by omega) (by omega)⟩
        have NR : Aside (¬ (s < m ∧ m < e) → ∀ t, d[t]! = rotV s m e d t) := fun h t => by
          unfold rotV
          repeat' split
          all_goals first | rfl | (congr 1; omega)
        have hz0 : d0.size = d.size := hs
        rcases (show (s < m ∧ m < e) ∨ (s < m ∧ ¬ m < e) ∨ ¬ s < m by omega) with hR | hR | hR
        · rcases (show (a < s ∧ s < M) ∨ (a < s ∧ ¬ s < M) ∨ ¬ a < s by omega) with hP | hP | hP
          · rcases (show (M < e ∧ e < b) ∨ (M < e ∧ ¬ e < b) ∨ ¬ M < e by omega) with hQ | hQ | hQ
            · have x1 : (s : Int) < (m : Int) := by omega
              have x2 : (m : Int) < (e : Int) := by omega
              have y1 : (a : Int) < (s : Int) := by omega
              have y2 : (s : Int) < (M : Int) := by omega
              have v1 : (M : Int) < (e : Int) := by omega
              have v2 : (e : Int) < (b : Int) := by omega
              clear h0 h1 hls hrh hg1 hgt hgtz hM1 hM2 hn hp HI hm0 hm1 HSa HSb HX HK eg
              go_wp2_with fail
              refine (rotate_s enc blk off cap s m e _ d0 d w0 _ R hz0 S1.out (by omega) (by omega) (by omega) (by omega)).mono ?_
              rintro e' w' ⟨rfl, r, hp1, hr, hS0⟩
              have hS : Aside (SW enc w0 blk off r _) := hS0
              clear hS0
              have Hp1 : Aside (PermIn s e d r) := hp1
              have C : Aside (Cut K a M b s e r) := CT.out r hr
              have CI := Lib.hid (XT.out r hr)
              have hz1 : r.size = d.size := hp1.1
              clear hp1 hr CT XT NR S1
              go_wp2_with fail
              rw [← hz1]
              refine (IH.out r _ a s M (by omega) (by omega) (by omega) (by omega) (by omega) hS.out C.out.l1 C.out.l2 CI.out.1).mono ?_
              rintro e' w' ⟨rfl, r2, hp2, hs2, hS20⟩
              have hS2 : Aside (SW enc w0 blk off r2 _) := hS20
              clear hS20
              have Hp2 : Aside (PermIn a M r r2) := hp2
              have Hs2 : Aside (So K a M r2) := hs2
              have hz2 : r2.size = d.size := hp2.1.trans hz1
              clear hp2 hs2 hS
              go_wp2_with fail
              rw [← hz2]
              refine (IH.out r2 _ M e b (by omega) (by omega) (by omega) (by omega) (by omega) hS2.out (C.out.r1.congr fun t g1 g2 => Hp2.out.2.1 t (by omega)) (C.out.r2.congr fun t g1 g2 => Hp2.out.2.1 t (by omega)) (fun p q g1 g2 g3 g4 => by rw [Hp2.out.2.1 p (by omega), Hp2.out.2.1 q (by omega)]; exact CI.out.2 p q g1 g2 g3 g4)).mono ?_
              rintro e' w' ⟨rfl, r3, hp3, hs3, hS30⟩
              have hS3 : Aside (SW enc w0 blk off r3 _) := hS30
              clear hS30
              have Hp3 : Aside (PermIn M b r2 r3) := hp3
              have Hs3 : Aside (So K M b r3) := hs3
              clear hp3 hs3
              go_wp2
              go_end0
              exact ⟨rfl, r3, permIn_trans _ _ _ _ _ (permIn_mono _ _ _ _ _ _ (by omega) (by omega) (by omega) Hp1.out) (permIn_trans _ _ _ _ _ (permIn_mono _ _ _ _ _ _ (Nat.le_refl _) (by omega) (by omega) Hp2.out) (permIn_mono _ _ _ _ _ _ (by omega) (Nat.le_refl _) (by omega) Hp3.out)), halves (fun p q g1 g2 g3 g4 => C.out.lr p q g1 g2 g3 g4) (by omega) (by omega) (by omega) Hp2.out Hs2.out Hp3.out Hs3.out, hS3.out⟩
            · have x1 : (s : Int) < (m : Int) := by omega
              have x2 : (m : Int) < (e : Int) := by omega
              have y1 : (a : Int) < (s : Int) := by omega
              have y2 : (s : Int) < (M : Int) := by omega
              have v1 : (M : Int) < (e : Int) := by omega
              have v2 : ¬ (e : Int) < (b : Int) := by omega
              clear h0 h1 hls hrh hg1 hgt hgtz hM1 hM2 hn hp HI hm0 hm1 HSa HSb HX HK eg
              go_wp2_with fail
              refine (rotate_s enc blk off cap s m e _ d0 d w0 _ R hz0 S1.out (by omega) (by omega) (by omega) (by omega)).mono ?_
              rintro e' w' ⟨rfl, r, hp1, hr, hS0⟩
              have hS : Aside (SW enc w0 blk off r _) := hS0
              clear hS0
              have Hp1 : Aside (PermIn s e d r) := hp1
              have C : Aside (Cut K a M b s e r) := CT.out r hr
              have CI := Lib.hid (XT.out r hr)
              have hz1 : r.size = d.size := hp1.1
              clear hp1 hr CT XT NR S1
              go_wp2_with fail
              rw [← hz1]
              refine (IH.out r _ a s M (by omega) (by omega) (by omega) (by omega) (by omega) hS.out C.out.l1 C.out.l2 CI.out.1).mono ?_
              rintro e' w' ⟨rfl, r2, hp2, hs2, hS20⟩
              have hS2 : Aside (SW enc w0 blk off r2 _) := hS20
              clear hS20
              have Hp2 : Aside (PermIn a M r r2) := hp2
              have Hs2 : Aside (So K a M r2) := hs2
              have hz2 : r2.size = d.size := hp2.1.trans hz1
              clear hp2 hs2 hS
              obtain ⟨r3, Hp3, Hs3, hS3⟩ : ∃ r3, Aside (PermIn M b r2 r3) ∧ Aside (So K M b r3) ∧ Aside (SW enc w0 blk off r3 _) := ⟨r2, permIn_refl _ _ _, So.congr ((show e = b by omega) ▸ C.out.r1) fun t g1 g2 => Hp2.out.2.1 t (by omega), hS2⟩
              go_wp2
              go_end0
              exact ⟨rfl, r3, permIn_trans _ _ _ _ _ (permIn_mono _ _ _ _ _ _ (by omega) (by omega) (by omega) Hp1.out) (permIn_trans _ _ _ _ _ (permIn_mono _ _ _ _ _ _ (Nat.le_refl _) (by omega) (by omega) Hp2.out) (permIn_mono _ _ _ _ _ _ (by omega) (Nat.le_refl _) (by omega) Hp3.out)), halves (fun p q g1 g2 g3 g4 => C.out.lr p q g1 g2 g3 g4) (by omega) (by omega) (by omega) Hp2.out Hs2.out Hp3.out Hs3.out, hS3.out⟩
            · have x1 : (s : Int) < (m : Int) := by omega
              have x2 : (m : Int) < (e : Int) := by omega
              have y1 : (a : Int) < (s : Int) := by omega
              have y2 : (s : Int) < (M : Int) := by omega
              have v1 : ¬ (M : Int) < (e : Int) := by omega
              clear h0 h1 hls hrh hg1 hgt hgtz hM1 hM2 hn hp HI hm0 hm1 HSa HSb HX HK eg
              go_wp2_with fail
              refine (rotate_s enc blk off cap s m e _ d0 d w0 _ R hz0 S1.out (by omega) (by omega) (by omega) (by omega)).mono ?_
              rintro e' w' ⟨rfl, r, hp1, hr, hS0⟩
              have hS : Aside (SW enc w0 blk off r _) := hS0
              clear hS0
              have Hp1 : Aside (PermIn s e d r) := hp1
              have C : Aside (Cut K a M b s e r) := CT.out r hr
              have CI := Lib.hid (XT.out r hr)
              have hz1 : r.size = d.size := hp1.1
              clear hp1 hr CT XT NR S1
              go_wp2_with fail
              rw [← hz1]
              refine (IH.out r _ a s M (by omega) (by omega) (by omega) (by omega) (by omega) hS.out C.out.l1 C.out.l2 CI.out.1).mono ?_
              rintro e' w' ⟨rfl, r2, hp2, hs2, hS20⟩
              have hS2 : Aside (SW enc w0 blk off r2 _) := hS20
              clear hS20
              have Hp2 : Aside (PermIn a M r r2) := hp2
              have Hs2 : Aside (So K a M r2) := hs2
              have hz2 : r2.size = d.size := hp2.1.trans hz1
              clear hp2 hs2 hS
              obtain ⟨r3, Hp3, Hs3, hS3⟩ : ∃ r3, Aside (PermIn M b r2 r3) ∧ Aside (So K M b r3) ∧ Aside (SW enc w0 blk off r3 _) := ⟨r2, permIn_refl _ _ _, So.congr ((show e = M by omega) ▸ C.out.r2) fun t g1 g2 => Hp2.out.2.1 t (by omega), hS2⟩
              go_wp2
              go_end0
              exact ⟨rfl, r3, permIn_trans _ _ _ _ _ (permIn_mono _ _ _ _ _ _ (by omega) (by omega) (by omega) Hp1.out) (permIn_trans _ _ _ _ _ (permIn_mono _ _ _ _ _ _ (Nat.le_refl _) (by omega) (by omega) Hp2.out) (permIn_mono _ _ _ _ _ _ (by omega) (Nat.le_refl _) (by omega) Hp3.out)), halves (fun p q g1 g2 g3 g4 => C.out.lr p q g1 g2 g3 g4) (by omega) (by omega) (by omega) Hp2.out Hs2.out Hp3.out Hs3.out, hS3.out⟩
          · rcases (show (M < e ∧ e < b) ∨ (M < e ∧ ¬ e < b) ∨ ¬ M < e by omega) with hQ | hQ | hQ
            · have x1 : (s : Int) < (m : Int) := by omega
              have x2 : (m : Int) < (e : Int) := by omega
              have y1 : (a : Int) < (s : Int) := by omega
              have y2 : ¬ (s : Int) < (M : Int) := by omega
              have v1 : (M : Int) < (e : Int) := by omega
              have v2 : (e : Int) < (b : Int) := by omega
              clear h0 h1 hls hrh hg1 hgt hgtz hM1 hM2 hn hp HI hm0 hm1 HSa HSb HX HK eg
              go_wp2_with fail
              refine (rotate_s enc blk off cap s m e _ d0 d w0 _ R hz0 S1.out (by omega) (by omega) (by omega) (by omega)).mono ?_
              rintro e' w' ⟨rfl, r, hp1, hr, hS0⟩
              have hS : Aside (SW enc w0 blk off r _) := hS0
              clear hS0
              have Hp1 : Aside (PermIn s e d r) := hp1
              have C : Aside (Cut K a M b s e r) := CT.out r hr
              have CI := Lib.hid (XT.out r hr)
              have hz1 : r.size = d.size := hp1.1
              clear hp1 hr CT XT NR S1
              obtain ⟨r2, Hp2, Hs2, hz2, hS2⟩ : ∃ r2, Aside (PermIn a M r r2) ∧ Aside (So K a M r2) ∧ r2.size = d.size ∧ Aside (SW enc w0 blk off r2 _) := ⟨r, permIn_refl _ _ _, (show s = M by omega) ▸ C.out.l1, hz1, hS⟩
              clear hS
              go_wp2_with fail
              rw [← hz2]
              refine (IH.out r2 _ M e b (by omega) (by omega) (by omega) (by omega) (by omega) hS2.out (C.out.r1.congr fun t g1 g2 => Hp2.out.2.1 t (by omega)) (C.out.r2.congr fun t g1 g2 => Hp2.out.2.1 t (by omega)) (fun p q g1 g2 g3 g4 => by rw [Hp2.out.2.1 p (by omega), Hp2.out.2.1 q (by omega)]; exact CI.out.2 p q g1 g2 g3 g4)).mono ?_
              rintro e' w' ⟨rfl, r3, hp3, hs3, hS30⟩
              have hS3 : Aside (SW enc w0 blk off r3 _) := hS30
              clear hS30
              have Hp3 : Aside (PermIn M b r2 r3) := hp3
              have Hs3 : Aside (So K M b r3) := hs3
              clear hp3 hs3
              go_wp2
              go_end0
              exact ⟨rfl, r3, permIn_trans _ _ _ _ _ (permIn_mono _ _ _ _ _ _ (by omega) (by omega) (by omega) Hp1.out) (permIn_trans _ _ _ _ _ (permIn_mono _ _ _ _ _ _ (Nat.le_refl _) (by omega) (by omega) Hp2.out) (permIn_mono _ _ _ _ _ _ (by omega) (Nat.le_refl _) (by omega) Hp3.out)), halves (fun p q g1 g2 g3 g4 => C.out.lr p q g1 g2 g3 g4) (by omega) (by omega) (by omega) Hp2.out Hs2.out Hp3.out Hs3.out, hS3.out⟩
            · have x1 : (s : Int) < (m : Int) := by omega
              have x2 : (m : Int) < (e : Int) := by omega
              have y1 : (a : Int) < (s : Int) := by omega
              have y2 : ¬ (s : Int) < (M : Int) := by omega
              have v1 : (M : Int) < (e : Int) := by omega
              have v2 : ¬ (e : Int) < (b : Int) := by omega
              clear h0 h1 hls hrh hg1 hgt hgtz hM1 hM2 hn hp HI hm0 hm1 HSa HSb HX HK eg
              go_wp2_with fail
              refine (rotate_s enc blk off cap s m e _ d0 d w0 _ R hz0 S1.out (by omega) (by omega) (by omega) (by omega)).mono ?_
              rintro e' w' ⟨rfl, r, hp1, hr, hS0⟩
              have hS : Aside (SW enc w0 blk off r _) := hS0
              clear hS0
              have Hp1 : Aside (PermIn s e d r) := hp1
              have C : Aside (Cut K a M b s e r) := CT.out r hr
              have CI := Lib.hid (XT.out r hr)
              have hz1 : r.size = d.size := hp1.1
              clear hp1 hr CT XT NR S1
              obtain ⟨r2, Hp2, Hs2, hz2, hS2⟩ : ∃ r2, Aside (PermIn a M r r2) ∧ Aside (So K a M r2) ∧ r2.size = d.size ∧ Aside (SW enc w0 blk off r2 _) := ⟨r, permIn_refl _ _ _, (show s = M by omega) ▸ C.out.l1, hz1, hS⟩
              clear hS
              obtain ⟨r3, Hp3, Hs3, hS3⟩ : ∃ r3, Aside (PermIn M b r2 r3) ∧ Aside (So K M b r3) ∧ Aside (SW enc w0 blk off r3 _) := ⟨r2, permIn_refl _ _ _, So.congr ((show e = b by omega) ▸ C.out.r1) fun t g1 g2 => Hp2.out.2.1 t (by omega), hS2⟩
              go_wp2
              go_end0
              exact ⟨rfl, r3, permIn_trans _ _ _ _ _ (permIn_mono _ _ _ _ _ _ (by omega) (by omega) (by omega) Hp1.out) (permIn_trans _ _ _ _ _ (permIn_mono _ _ _ _ _ _ (Nat.le_refl _) (by omega) (by omega) Hp2.out) (permIn_mono _ _ _ _ _ _ (by omega) (Nat.le_refl _) (by omega) Hp3.out)), halves (fun p q g1 g2 g3 g4 => C.out.lr p q g1 g2 g3 g4) (by omega) (by omega) (by omega) Hp2.out Hs2.out Hp3.out Hs3.out, hS3.out⟩
            · have x1 : (s : Int) < (m : Int) := by omega
              have x2 : (m : Int) < (e : Int) := by omega
              have y1 : (a : Int) < (s : Int) := by omega
              have y2 : ¬ (s : Int) < (M : Int) := by omega
              have v1 : ¬ (M : Int) < (e : Int) := by omega
              clear h0 h1 hls hrh hg1 hgt hgtz hM1 hM2 hn hp HI hm0 hm1 HSa HSb HX HK eg
              go_wp2_with fail
              refine (rotate_s enc blk off cap s m e _ d0 d w0 _ R hz0 S1.out (by omega) (by omega) (by omega) (by omega)).mono ?_
              rintro e' w' ⟨rfl, r, hp1, hr, hS0⟩
              have hS : Aside (SW enc w0 blk off r _) := hS0
              clear hS0
              have Hp1 : Aside (PermIn s e d r) := hp1
              have C : Aside (Cut K a M b s e r) := CT.out r hr
              have CI := Lib.hid (XT.out r hr)
              have hz1 : r.size = d.size := hp1.1
              clear hp1 hr CT XT NR S1
              obtain ⟨r2, Hp2, Hs2, hz2, hS2⟩ : ∃ r2, Aside (PermIn a M r r2) ∧ Aside (So K a M r2) ∧ r2.size = d.size ∧ Aside (SW enc w0 blk off r2 _) := ⟨r, permIn_refl _ _ _, (show s = M by omega) ▸ C.out.l1, hz1, hS⟩
              clear hS
              obtain ⟨r3, Hp3, Hs3, hS3⟩ : ∃ r3, Aside (PermIn M b r2 r3) ∧ Aside (So K M b r3) ∧ Aside (SW enc w0 blk off r3 _) := ⟨r2, permIn_refl _ _ _, So.congr ((show e = M by omega) ▸ C.out.r2) fun t g1 g2 => Hp2.out.2.1 t (by omega), hS2⟩
              go_wp2
              go_end0
              exact ⟨rfl, r3, permIn_trans _ _ _ _ _ (permIn_mono _ _ _ _ _ _ (by omega) (by omega) (by omega) Hp1.out) (permIn_trans _ _ _ _ _ (permIn_mono _ _ _ _ _ _ (Nat.le_refl _) (by omega) (by omega) Hp2.out) (permIn_mono _ _ _ _ _ _ (by omega) (Nat.le_refl _) (by omega) Hp3.out)), halves (fun p q g1 g2 g3 g4 => C.out.lr p q g1 g2 g3 g4) (by omega) (by omega) (by omega) Hp2.out Hs2.out Hp3.out Hs3.out, hS3.out⟩
          · rcases (show (M < e ∧ e < b) ∨ (M < e ∧ ¬ e < b) ∨ ¬ M < e by omega) with hQ | hQ | hQ
            · have x1 : (s : Int) < (m : Int) := by omega
              have x2 : (m : Int) < (e : Int) := by omega
              have y1 : ¬ (a : Int) < (s : Int) := by omega
              have v1 : (M : Int) < (e : Int) := by omega
              have v2 : (e : Int) < (b : Int) := by omega
              clear h0 h1 hls hrh hg1 hgt hgtz hM1 hM2 hn hp HI hm0 hm1 HSa HSb HX HK eg
              go_wp2_with fail
              refine (rotate_s enc blk off cap s m e _ d0 d w0 _ R hz0 S1.out (by omega) (by omega) (by omega) (by omega)).mono ?_
              rintro e' w' ⟨rfl, r, hp1, hr, hS0⟩
              have hS : Aside (SW enc w0 blk off r _) := hS0
              clear hS0
              have Hp1 : Aside (PermIn s e d r) := hp1
              have C : Aside (Cut K a M b s e r) := CT.out r hr
              have CI := Lib.hid (XT.out r hr)
              have hz1 : r.size = d.size := hp1.1
              clear hp1 hr CT XT NR S1
              obtain ⟨r2, Hp2, Hs2, hz2, hS2⟩ : ∃ r2, Aside (PermIn a M r r2) ∧ Aside (So K a M r2) ∧ r2.size = d.size ∧ Aside (SW enc w0 blk off r2 _) := ⟨r, permIn_refl _ _ _, (show s = a by omega) ▸ C.out.l2, hz1, hS⟩
              clear hS
              go_wp2_with fail
              rw [← hz2]
              refine (IH.out r2 _ M e b (by omega) (by omega) (by omega) (by omega) (by omega) hS2.out (C.out.r1.congr fun t g1 g2 => Hp2.out.2.1 t (by omega)) (C.out.r2.congr fun t g1 g2 => Hp2.out.2.1 t (by omega)) (fun p q g1 g2 g3 g4 => by rw [Hp2.out.2.1 p (by omega), Hp2.out.2.1 q (by omega)]; exact CI.out.2 p q g1 g2 g3 g4)).mono ?_
              rintro e' w' ⟨rfl, r3, hp3, hs3, hS30⟩
              have hS3 : Aside (SW enc w0 blk off r3 _) := hS30
              clear hS30
              have Hp3 : Aside (PermIn M b r2 r3) := hp3
              have Hs3 : Aside (So K M b r3) := hs3
              clear hp3 hs3
              go_wp2
              go_end0
              exact ⟨rfl, r3, permIn_trans _ _ _ _ _ (permIn_mono _ _ _ _ _ _ (by omega) (by omega) (by omega) Hp1.out) (permIn_trans _ _ _ _ _ (permIn_mono _ _ _ _ _ _ (Nat.le_refl _) (by omega) (by omega) Hp2.out) (permIn_mono _ _ _ _ _ _ (by omega) (Nat.le_refl _) (by omega) Hp3.out)), halves (fun p q g1 g2 g3 g4 => C.out.lr p q g1 g2 g3 g4) (by omega) (by omega) (by omega) Hp2.out Hs2.out Hp3.out Hs3.out, hS3.out⟩
            · have x1 : (s : Int) < (m : Int) := by omega
              have x2 : (m : Int) < (e : Int) := by omega
              have y1 : ¬ (a : Int) < (s : Int) := by omega
              have v1 : (M : Int) < (e : Int) := by omega
              have v2 : ¬ (e : Int) < (b : Int) := by omega
              clear h0 h1 hls hrh hg1 hgt hgtz hM1 hM2 hn hp HI hm0 hm1 HSa HSb HX HK eg
              go_wp2_with fail
              refine (rotate_s enc blk off cap s m e _ d0 d w0 _ R hz0 S1.out (by omega) (by omega) (by omega) (by omega)).mono ?_
              rintro e' w' ⟨rfl, r, hp1, hr, hS0⟩
              have hS : Aside (SW enc w0 blk off r _) := hS0
              clear hS0
              have Hp1 : Aside (PermIn s e d r) := hp1
              have C : Aside (Cut K a M b s e r) := CT.out r hr
              have CI := Lib.hid (XT.out r hr)
              have hz1 : r.size = d.size := hp1.1
              clear hp1 hr CT XT NR S1
              obtain ⟨r2, Hp2, Hs2, hz2, hS2⟩ : ∃ r2, Aside (PermIn a M r r2) ∧ Aside (So K a M r2) ∧ r2.size = d.size ∧ Aside (SW enc w0 blk off r2 _) := ⟨r, permIn_refl _ _ _, (show s = a by omega) ▸ C.out.l2, hz1, hS⟩
              clear hS
              obtain ⟨r3, Hp3, Hs3, hS3⟩ : ∃ r3, Aside (PermIn M b r2 r3) ∧ Aside (So K M b r3) ∧ Aside (SW enc w0 blk off r3 _) := ⟨r2, permIn_refl _ _ _, So.congr ((show e = b by omega) ▸ C.out.r1) fun t g1 g2 => Hp2.out.2.1 t (by omega), hS2⟩
              go_wp2
              go_end0
              exact ⟨rfl, r3, permIn_trans _ _ _ _ _ (permIn_mono _ _ _ _ _ _ (by omega) (by omega) (by omega) Hp1.out) (permIn_trans _ _ _ _ _ (permIn_mono _ _ _ _ _ _ (Nat.le_refl _) (by omega) (by omega) Hp2.out) (permIn_mono _ _ _ _ _ _ (by omega) (Nat.le_refl _) (by omega) Hp3.out)), halves (fun p q g1 g2 g3 g4 => C.out.lr p q g1 g2 g3 g4) (by omega) (by omega) (by omega) Hp2.out Hs2.out Hp3.out Hs3.out, hS3.out⟩
            · have x1 : (s : Int) < (m : Int) := by omega
              have x2 : (m : Int) < (e : Int) := by omega
              have y1 : ¬ (a : Int) < (s : Int) := by omega
              have v1 : ¬ (M : Int) < (e : Int) := by omega
              clear h0 h1 hls hrh hg1 hgt hgtz hM1 hM2 hn hp HI hm0 hm1 HSa HSb HX HK eg
              go_wp2_with fail
              refine (rotate_s enc blk off cap s m e _ d0 d w0 _ R hz0 S1.out (by omega) (by omega) (by omega) (by omega)).mono ?_
              rintro e' w' ⟨rfl, r, hp1, hr, hS0⟩
              have hS : Aside (SW enc w0 blk off r _) := hS0
              clear hS0
              have Hp1 : Aside (PermIn s e d r) := hp1
              have C : Aside (Cut K a M b s e r) := CT.out r hr
              have CI := Lib.hid (XT.out r hr)
              have hz1 : r.size = d.size := hp1.1
              clear hp1 hr CT XT NR S1
              obtain ⟨r2, Hp2, Hs2, hz2, hS2⟩ : ∃ r2, Aside (PermIn a M r r2) ∧ Aside (So K a M r2) ∧ r2.size = d.size ∧ Aside (SW enc w0 blk off r2 _) := ⟨r, permIn_refl _ _ _, (show s = a by omega) ▸ C.out.l2, hz1, hS⟩
              clear hS
              obtain ⟨r3, Hp3, Hs3, hS3⟩ : ∃ r3, Aside (PermIn M b r2 r3) ∧ Aside (So K M b r3) ∧ Aside (SW enc w0 blk off r3 _) := ⟨r2, permIn_refl _ _ _, So.congr ((show e = M by omega) ▸ C.out.r2) fun t g1 g2 => Hp2.out.2.1 t (by omega), hS2⟩
              go_wp2
              go_end0
              exact ⟨rfl, r3, permIn_trans _ _ _ _ _ (permIn_mono _ _ _ _ _ _ (by omega) (by omega) (by omega) Hp1.out) (permIn_trans _ _ _ _ _ (permIn_mono _ _ _ _ _ _ (Nat.le_refl _) (by omega) (by omega) Hp2.out) (permIn_mono _ _ _ _ _ _ (by omega) (Nat.le_refl _) (by omega) Hp3.out)), halves (fun p q g1 g2 g3 g4 => C.out.lr p q g1 g2 g3 g4) (by omega) (by omega) (by omega) Hp2.out Hs2.out Hp3.out Hs3.out, hS3.out⟩
        · rcases (show (a < s ∧ s < M) ∨ (a < s ∧ ¬ s < M) ∨ ¬ a < s by omega) with hP | hP | hP
          · rcases (show (M < e ∧ e < b) ∨ (M < e ∧ ¬ e < b) ∨ ¬ M < e by omega) with hQ | hQ | hQ
            · have x1 : (s : Int) < (m : Int) := by omega
              have x2 : ¬ (m : Int) < (e : Int) := by omega
              have y1 : (a : Int) < (s : Int) := by omega
              have y2 : (s : Int) < (M : Int) := by omega
              have v1 : (M : Int) < (e : Int) := by omega
              have v2 : (e : Int) < (b : Int) := by omega
              clear h0 h1 hls hrh hg1 hgt hgtz hM1 hM2 hn hp HI hm0 hm1 HSa HSb HX HK eg
              obtain ⟨r, hp1, hr, hS⟩ : ∃ r, PermIn s e d r ∧ (∀ t, r[t]! = rotV s m e d t) ∧ Aside (SW enc w0 blk off r wr) := ⟨d, permIn_refl _ _ _, NR.out (by omega), S1⟩
              have Hp1 : Aside (PermIn s e d r) := hp1
              have C : Aside (Cut K a M b s e r) := CT.out r hr
              have CI := Lib.hid (XT.out r hr)
              have hz1 : r.size = d.size := hp1.1
              clear hp1 hr CT XT NR S1
              go_wp2_with fail
              rw [← hz1]
              refine (IH.out r _ a s M (by omega) (by omega) (by omega) (by omega) (by omega) hS.out C.out.l1 C.out.l2 CI.out.1).mono ?_
              rintro e' w' ⟨rfl, r2, hp2, hs2, hS20⟩
              have hS2 : Aside (SW enc w0 blk off r2 _) := hS20
              clear hS20
              have Hp2 : Aside (PermIn a M r r2) := hp2
              have Hs2 : Aside (So K a M r2) := hs2
              have hz2 : r2.size = d.size := hp2.1.trans hz1
              clear hp2 hs2 hS
              go_wp2_with fail
              rw [← hz2]
              refine (IH.out r2 _ M e b (by omega) (by omega) (by omega) (by omega) (by omega) hS2.out (C.out.r1.congr fun t g1 g2 => Hp2.out.2.1 t (by omega)) (C.out.r2.congr fun t g1 g2 => Hp2.out.2.1 t (by omega)) (fun p q g1 g2 g3 g4 => by rw [Hp2.out.2.1 p (by omega), Hp2.out.2.1 q (by omega)]; exact CI.out.2 p q g1 g2 g3 g4)).mono ?_
              rintro e' w' ⟨rfl, r3, hp3, hs3, hS30⟩
              have hS3 : Aside (SW enc w0 blk off r3 _) := hS30
              clear hS30
              have Hp3 : Aside (PermIn M b r2 r3) := hp3
              have Hs3 : Aside (So K M b r3) := hs3
              clear hp3 hs3
              go_wp2
              go_end0
              exact ⟨rfl, r3, permIn_trans _ _ _ _ _ (permIn_mono _ _ _ _ _ _ (by omega) (by omega) (by omega) Hp1.out) (permIn_trans _ _ _ _ _ (permIn_mono _ _ _ _ _ _ (Nat.le_refl _) (by omega) (by omega) Hp2.out) (permIn_mono _ _ _ _ _ _ (by omega) (Nat.le_refl _) (by omega) Hp3.out)), halves (fun p q g1 g2 g3 g4 => C.out.lr p q g1 g2 g3 g4) (by omega) (by omega) (by omega) Hp2.out Hs2.out Hp3.out Hs3.out, hS3.out⟩
            · have x1 : (s : Int) < (m : Int) := by omega
              have x2 : ¬ (m : Int) < (e : Int) := by omega
              have y1 : (a : Int) < (s : Int) := by omega
              have y2 : (s : Int) < (M : Int) := by omega
              have v1 : (M : Int) < (e : Int) := by omega
              have v2 : ¬ (e : Int) < (b : Int) := by omega
              clear h0 h1 hls hrh hg1 hgt hgtz hM1 hM2 hn hp HI hm0 hm1 HSa HSb HX HK eg
              obtain ⟨r, hp1, hr, hS⟩ : ∃ r, PermIn s e d r ∧ (∀ t, r[t]! = rotV s m e d t) ∧ Aside (SW enc w0 blk off r wr) := ⟨d, permIn_refl _ _ _, NR.out (by omega), S1⟩
              have Hp1 : Aside (PermIn s e d r) := hp1
              have C : Aside (Cut K a M b s e r) := CT.out r hr
              have CI := Lib.hid (XT.out r hr)
              have hz1 : r.size = d.size := hp1.1
              clear hp1 hr CT XT NR S1
              go_wp2_with fail
              rw [← hz1]
              refine (IH.out r _ a s M (by omega) (by omega) (by omega) (by omega) (by omega) hS.out C.out.l1 C.out.l2 CI.out.1).mono ?_
              rintro e' w' ⟨rfl, r2, hp2, hs2, hS20⟩
              have hS2 : Aside (SW enc w0 blk off r2 _) := hS20
              clear hS20
              have Hp2 : Aside (PermIn a M r r2) := hp2
              have Hs2 : Aside (So K a M r2) := hs2
              have hz2 : r2.size = d.size := hp2.1.trans hz1
              clear hp2 hs2 hS
              obtain ⟨r3, Hp3, Hs3, hS3⟩ : ∃ r3, Aside (PermIn M b r2 r3) ∧ Aside (So K M b r3) ∧ Aside (SW enc w0 blk off r3 _) := ⟨r2, permIn_refl _ _ _, So.congr ((show e = b by omega) ▸ C.out.r1) fun t g1 g2 => Hp2.out.2.1 t (by omega), hS2⟩
              go_wp2
              go_end0
              exact ⟨rfl, r3, permIn_trans _ _ _ _ _ (permIn_mono _ _ _ _ _ _ (by omega) (by omega) (by omega) Hp1.out) (permIn_trans _ _ _ _ _ (permIn_mono _ _ _ _ _ _ (Nat.le_refl _) (by omega) (by omega) Hp2.out) (permIn_mono _ _ _ _ _ _ (by omega) (Nat.le_refl _) (by omega) Hp3.out)), halves (fun p q g1 g2 g3 g4 => C.out.lr p q g1 g2 g3 g4) (by omega) (by omega) (by omega) Hp2.out Hs2.out Hp3.out Hs3.out, hS3.out⟩
            · have x1 : (s : Int) < (m : Int) := by omega
              have x2 : ¬ (m : Int) < (e : Int) := by omega
              have y1 : (a : Int) < (s : Int) := by omega
              have y2 : (s : Int) < (M : Int) := by omega
              have v1 : ¬ (M : Int) < (e : Int) := by omega
              clear h0 h1 hls hrh hg1 hgt hgtz hM1 hM2 hn hp HI hm0 hm1 HSa HSb HX HK eg
              obtain ⟨r, hp1, hr, hS⟩ : ∃ r, PermIn s e d r ∧ (∀ t, r[t]! = rotV s m e d t) ∧ Aside (SW enc w0 blk off r wr) := ⟨d, permIn_refl _ _ _, NR.out (by omega), S1⟩
              have Hp1 : Aside (PermIn s e d r) := hp1
              have C : Aside (Cut K a M b s e r) := CT.out r hr
              have CI := Lib.hid (XT.out r hr)
              have hz1 : r.size = d.size := hp1.1
              clear hp1 hr CT XT NR S1
              go_wp2_with fail
              rw [← hz1]
              refine (IH.out r _ a s M (by omega) (by omega) (by omega) (by omega) (by omega) hS.out C.out.l1 C.out.l2 CI.out.1).mono ?_
              rintro e' w' ⟨rfl, r2, hp2, hs2, hS20⟩
              have hS2 : Aside (SW enc w0 blk off r2 _) := hS20
              clear hS20
              have Hp2 : Aside (PermIn a M r r2) := hp2
              have Hs2 : Aside (So K a M r2) := hs2
              have hz2 : r2.size = d.size := hp2.1.trans hz1
              clear hp2 hs2 hS
              obtain ⟨r3, Hp3, Hs3, hS3⟩ : ∃ r3, Aside (PermIn M b r2 r3) ∧ Aside (So K M b r3) ∧ Aside (SW enc w0 blk off r3 _) := ⟨r2, permIn_refl _ _ _, So.congr ((show e = M by omega) ▸ C.out.r2) fun t g1 g2 => Hp2.out.2.1 t (by omega), hS2⟩
              go_wp2
              go_end0
              exact ⟨rfl, r3, permIn_trans _ _ _ _ _ (permIn_mono _ _ _ _ _ _ (by omega) (by omega) (by omega) Hp1.out) (permIn_trans _ _ _ _ _ (permIn_mono _ _ _ _ _ _ (Nat.le_refl _) (by omega) (by omega) Hp2.out) (permIn_mono _ _ _ _ _ _ (by omega) (Nat.le_refl _) (by omega) Hp3.out)), halves (fun p q g1 g2 g3 g4 => C.out.lr p q g1 g2 g3 g4) (by omega) (by omega) (by omega) Hp2.out Hs2.out Hp3.out Hs3.out, hS3.out⟩
          · rcases (show (M < e ∧ e < b) ∨ (M < e ∧ ¬ e < b) ∨ ¬ M < e by omega) with hQ | hQ | hQ
            · have x1 : (s : Int) < (m : Int) := by omega
              have x2 : ¬ (m : Int) < (e : Int) := by omega
              have y1 : (a : Int) < (s : Int) := by omega
              have y2 : ¬ (s : Int) < (M : Int) := by omega
              have v1 : (M : Int) < (e : Int) := by omega
              have v2 : (e : Int) < (b : Int) := by omega
              clear h0 h1 hls hrh hg1 hgt hgtz hM1 hM2 hn hp HI hm0 hm1 HSa HSb HX HK eg
              obtain ⟨r, hp1, hr, hS⟩ : ∃ r, PermIn s e d r ∧ (∀ t, r[t]! = rotV s m e d t) ∧ Aside (SW enc w0 blk off r wr) := ⟨d, permIn_refl _ _ _, NR.out (by omega), S1⟩
              have Hp1 : Aside (PermIn s e d r) := hp1
              have C : Aside (Cut K a M b s e r) := CT.out r hr
              have CI := Lib.hid (XT.out r hr)
              have hz1 : r.size = d.size := hp1.1
              clear hp1 hr CT XT NR S1
              obtain ⟨r2, Hp2, Hs2, hz2, hS2⟩ : ∃ r2, Aside (PermIn a M r r2) ∧ Aside (So K a M r2) ∧ r2.size = d.size ∧ Aside (SW enc w0 blk off r2 _) := ⟨r, permIn_refl _ _ _, (show s = M by omega) ▸ C.out.l1, hz1, hS⟩
              clear hS
              go_wp2_with fail
              rw [← hz2]
              refine (IH.out r2 _ M e b (by omega) (by omega) (by omega) (by omega) (by omega) hS2.out (C.out.r1.congr fun t g1 g2 => Hp2.out.2.1 t (by omega)) (C.out.r2.congr fun t g1 g2 => Hp2.out.2.1 t (by omega)) (fun p q g1 g2 g3 g4 => by rw [Hp2.out.2.1 p (by omega), Hp2.out.2.1 q (by omega)]; exact CI.out.2 p q g1 g2 g3 g4)).mono ?_
              rintro e' w' ⟨rfl, r3, hp3, hs3, hS30⟩
              have hS3 : Aside (SW enc w0 blk off r3 _) := hS30
              clear hS30
              have Hp3 : Aside (PermIn M b r2 r3) := hp3
              have Hs3 : Aside (So K M b r3) := hs3
              clear hp3 hs3
              go_wp2
              go_end0
              exact ⟨rfl, r3, permIn_trans _ _ _ _ _ (permIn_mono _ _ _ _ _ _ (by omega) (by omega) (by omega) Hp1.out) (permIn_trans _ _ _ _ _ (permIn_mono _ _ _ _ _ _ (Nat.le_refl _) (by omega) (by omega) Hp2.out) (permIn_mono _ _ _ _ _ _ (by omega) (Nat.le_refl _) (by omega) Hp3.out)), halves (fun p q g1 g2 g3 g4 => C.out.lr p q g1 g2 g3 g4) (by omega) (by omega) (by omega) Hp2.out Hs2.out Hp3.out Hs3.out, hS3.out⟩
            · have x1 : (s : Int) < (m : Int) := by omega
              have x2 : ¬ (m : Int) < (e : Int) := by omega
              have y1 : (a : Int) < (s : Int) := by omega
              have y2 : ¬ (s : Int) < (M : Int) := by omega
              have v1 : (M : Int) < (e : Int) := by omega
              have v2 : ¬ (e : Int) < (b : Int) := by omega
              clear h0 h1 hls hrh hg1 hgt hgtz hM1 hM2 hn hp HI hm0 hm1 HSa HSb HX HK eg
              obtain ⟨r, hp1, hr, hS⟩ : ∃ r, PermIn s e d r ∧ (∀ t, r[t]! = rotV s m e d t) ∧ Aside (SW enc w0 blk off r wr) := ⟨d, permIn_refl _ _ _, NR.out (by omega), S1⟩
              have Hp1 : Aside (PermIn s e d r) := hp1
              have C : Aside (Cut K a M b s e r) := CT.out r hr
              have CI := Lib.hid (XT.out r hr)
              have hz1 : r.size = d.size := hp1.1
              clear hp1 hr CT XT NR S1
              obtain ⟨r2, Hp2, Hs2, hz2, hS2⟩ : ∃ r2, Aside (PermIn a M r r2) ∧ Aside (So K a M r2) ∧ r2.size = d.size ∧ Aside (SW enc w0 blk off r2 _) := ⟨r, permIn_refl _ _ _, (show s = M by omega) ▸ C.out.l1, hz1, hS⟩
              clear hS
              obtain ⟨r3, Hp3, Hs3, hS3⟩ : ∃ r3, Aside (PermIn M b r2 r3) ∧ Aside (So K M b r3) ∧ Aside (SW enc w0 blk off r3 _) := ⟨r2, permIn_refl _ _ _, So.congr ((show e = b by omega) ▸ C.out.r1) fun t g1 g2 => Hp2.out.2.1 t (by omega), hS2⟩
              go_wp2
              go_end0
              exact ⟨rfl, r3, permIn_trans _ _ _ _ _ (permIn_mono _ _ _ _ _ _ (by omega) (by omega) (by omega) Hp1.out) (permIn_trans _ _ _ _ _ (permIn_mono _ _ _ _ _ _ (Nat.le_refl _) (by omega) (by omega) Hp2.out) (permIn_mono _ _ _ _ _ _ (by omega) (Nat.le_refl _) (by omega) Hp3.out)), halves (fun p q g1 g2 g3 g4 => C.out.lr p q g1 g2 g3 g4) (by omega) (by omega) (by omega) Hp2.out Hs2.out Hp3.out Hs3.out, hS3.out⟩
            · have x1 : (s : Int) < (m : Int) := by omega
              have x2 : ¬ (m : Int) < (e : Int) := by omega
              have y1 : (a : Int) < (s : Int) := by omega
              have y2 : ¬ (s : Int) < (M : Int) := by omega
              have v1 : ¬ (M : Int) < (e : Int) := by omega
              clear h0 h1 hls hrh hg1 hgt hgtz hM1 hM2 hn hp HI hm0 hm1 HSa HSb HX HK eg
              obtain ⟨r, hp1, hr, hS⟩ : ∃ r, PermIn s e d r ∧ (∀ t, r[t]! = rotV s m e d t) ∧ Aside (SW enc w0 blk off r wr) := ⟨d, permIn_refl _ _ _, NR.out (by omega), S1⟩
              have Hp1 : Aside (PermIn s e d r) := hp1
              have C : Aside (Cut K a M b s e r) := CT.out r hr
              have CI := Lib.hid (XT.out r hr)
              have hz1 : r.size = d.size := hp1.1
              clear hp1 hr CT XT NR S1
              obtain ⟨r2, Hp2, Hs2, hz2, hS2⟩ : ∃ r2, Aside (PermIn a M r r2) ∧ Aside (So K a M r2) ∧ r2.size = d.size ∧ Aside (SW enc w0 blk off r2 _) := ⟨r, permIn_refl _ _ _, (show s = M by omega) ▸ C.out.l1, hz1, hS⟩
              clear hS
              obtain ⟨r3, Hp3, Hs3, hS3⟩ : ∃ r3, Aside (PermIn M b r2 r3) ∧ Aside (So K M b r3) ∧ Aside (SW enc w0 blk off r3 _) := ⟨r2, permIn_refl _ _ _, So.congr ((show e = M by omega) ▸ C.out.r2) fun t g1 g2 => Hp2.out.2.1 t (by omega), hS2⟩
              go_wp2
              go_end0
              exact ⟨rfl, r3, permIn_trans _ _ _ _ _ (permIn_mono _ _ _ _ _ _ (by omega) (by omega) (by omega) Hp1.out) (permIn_trans _ _ _ _ _ (permIn_mono _ _ _ _ _ _ (Nat.le_refl _) (by omega) (by omega) Hp2.out) (permIn_mono _ _ _ _ _ _ (by omega) (Nat.le_refl _) (by omega) Hp3.out)), halves (fun p q g1 g2 g3 g4 => C.out.lr p q g1 g2 g3 g4) (by omega) (by omega) (by omega) Hp2.out Hs2.out Hp3.out Hs3.out, hS3.out⟩
          · rcases (show (M < e ∧ e < b) ∨ (M < e ∧ ¬ e < b) ∨ ¬ M < e by omega) with hQ | hQ | hQ
            · have x1 : (s : Int) < (m : Int) := by omega
              have x2 : ¬ (m : Int) < (e : Int) := by omega
              have y1 : ¬ (a : Int) < (s : Int) := by omega
              have v1 : (M : Int) < (e : Int) := by omega
              have v2 : (e : Int) < (b : Int) := by omega
              clear h0 h1 hls hrh hg1 hgt hgtz hM1 hM2 hn hp HI hm0 hm1 HSa HSb HX HK eg
              obtain ⟨r, hp1, hr, hS⟩ : ∃ r, PermIn s e d r ∧ (∀ t, r[t]! = rotV s m e d t) ∧ Aside (SW enc w0 blk off r wr) := ⟨d, permIn_refl _ _ _, NR.out (by omega), S1⟩
              have Hp1 : Aside (PermIn s e d r) := hp1
              have C : Aside (Cut K a M b s e r) := CT.out r hr
              have CI := Lib.hid (XT.out r hr)
              have hz1 : r.size = d.size := hp1.1
              clear hp1 hr CT XT NR S1
              obtain ⟨r2, Hp2, Hs2, hz2, hS2⟩ : ∃ r2, Aside (PermIn a M r r2) ∧ Aside (So K a M r2) ∧ r2.size = d.size ∧ Aside (SW enc w0 blk off r2 _) := ⟨r, permIn_refl _ _ _, (show s = a by omega) ▸ C.out.l2, hz1, hS⟩
              clear hS
              go_wp2_with fail
              rw [← hz2]
              refine (IH.out r2 _ M e b (by omega) (by omega) (by omega) (by omega) (by omega) hS2.out (C.out.r1.congr fun t g1 g2 => Hp2.out.2.1 t (by omega)) (C.out.r2.congr fun t g1 g2 => Hp2.out.2.1 t (by omega)) (fun p q g1 g2 g3 g4 => by rw [Hp2.out.2.1 p (by omega), Hp2.out.2.1 q (by omega)]; exact CI.out.2 p q g1 g2 g3 g4)).mono ?_
              rintro e' w' ⟨rfl, r3, hp3, hs3, hS30⟩
              have hS3 : Aside (SW enc w0 blk off r3 _) := hS30
              clear hS30
              have Hp3 : Aside (PermIn M b r2 r3) := hp3
              have Hs3 : Aside (So K M b r3) := hs3
              clear hp3 hs3
              go_wp2
              go_end0
              exact ⟨rfl, r3, permIn_trans _ _ _ _ _ (permIn_mono _ _ _ _ _ _ (by omega) (by omega) (by omega) Hp1.out) (permIn_trans _ _ _ _ _ (permIn_mono _ _ _ _ _ _ (Nat.le_refl _) (by omega) (by omega) Hp2.out) (permIn_mono _ _ _ _ _ _ (by omega) (Nat.le_refl _) (by omega) Hp3.out)), halves (fun p q g1 g2 g3 g4 => C.out.lr p q g1 g2 g3 g4) (by omega) (by omega) (by omega) Hp2.out Hs2.out Hp3.out Hs3.out, hS3.out⟩
            · have x1 : (s : Int) < (m : Int) := by omega
              have x2 : ¬ (m : Int) < (e : Int) := by omega
              have y1 : ¬ (a : Int) < (s : Int) := by omega
              have v1 : (M : Int) < (e : Int) := by omega
              have v2 : ¬ (e : Int) < (b : Int) := by omega
              clear h0 h1 hls hrh hg1 hgt hgtz hM1 hM2 hn hp HI hm0 hm1 HSa HSb HX HK eg
              obtain ⟨r, hp1, hr, hS⟩ : ∃ r, PermIn s e d r ∧ (∀ t, r[t]! = rotV s m e d t) ∧ Aside (SW enc w0 blk off r wr) := ⟨d, permIn_refl _ _ _, NR.out (by omega), S1⟩
              have Hp1 : Aside (PermIn s e d r) := hp1
              have C : Aside (Cut K a M b s e r) := CT.out r hr
              have CI := Lib.hid (XT.out r hr)
              have hz1 : r.size = d.size := hp1.1
              clear hp1 hr CT XT NR S1
              obtain ⟨r2, Hp2, Hs2, hz2, hS2⟩ : ∃ r2, Aside (PermIn a M r r2) ∧ Aside (So K a M r2) ∧ r2.size = d.size ∧ Aside (SW enc w0 blk off r2 _) := ⟨r, permIn_refl _ _ _, (show s = a by omega) ▸ C.out.l2, hz1, hS⟩
              clear hS
              obtain ⟨r3, Hp3, Hs3, hS3⟩ : ∃ r3, Aside (PermIn M b r2 r3) ∧ Aside (So K M b r3) ∧ Aside (SW enc w0 blk off r3 _) := ⟨r2, permIn_refl _ _ _, So.congr ((show e = b by omega) ▸ C.out.r1) fun t g1 g2 => Hp2.out.2.1 t (by omega), hS2⟩
              go_wp2
              go_end0
              exact ⟨rfl, r3, permIn_trans _ _ _ _ _ (permIn_mono _ _ _ _ _ _ (by omega) (by omega) (by omega) Hp1.out) (permIn_trans _ _ _ _ _ (permIn_mono _ _ _ _ _ _ (Nat.le_refl _) (by omega) (by omega) Hp2.out) (permIn_mono _ _ _ _ _ _ (by omega) (Nat.le_refl _) (by omega) Hp3.out)), halves (fun p q g1 g2 g3 g4 => C.out.lr p q g1 g2 g3 g4) (by omega) (by omega) (by omega) Hp2.out Hs2.out Hp3.out Hs3.out, hS3.out⟩
            · have x1 : (s : Int) < (m : Int) := by omega
              have x2 : ¬ (m : Int) < (e : Int) := by omega
              have y1 : ¬ (a : Int) < (s : Int) := by omega
              have v1 : ¬ (M : Int) < (e : Int) := by omega
              clear h0 h1 hls hrh hg1 hgt hgtz hM1 hM2 hn hp HI hm0 hm1 HSa HSb HX HK eg
              obtain ⟨r, hp1, hr, hS⟩ : ∃ r, PermIn s e d r ∧ (∀ t, r[t]! = rotV s m e d t) ∧ Aside (SW enc w0 blk off r wr) := ⟨d, permIn_refl _ _ _, NR.out (by omega), S1⟩
              have Hp1 : Aside (PermIn s e d r) := hp1
              have C : Aside (Cut K a M b s e r) := CT.out r hr
              have CI := Lib.hid (XT.out r hr)
              have hz1 : r.size = d.size := hp1.1
              clear hp1 hr CT XT NR S1
              obtain ⟨r2, Hp2, Hs2, hz2, hS2⟩ : ∃ r2, Aside (PermIn a M r r2) ∧ Aside (So K a M r2) ∧ r2.size = d.size ∧ Aside (SW enc w0 blk off r2 _) := ⟨r, permIn_refl _ _ _, (show s = a by omega) ▸ C.out.l2, hz1, hS⟩
              clear hS
              obtain ⟨r3, Hp3, Hs3, hS3⟩ : ∃ r3, Aside (PermIn M b r2 r3) ∧ Aside (So K M b r3) ∧ Aside (SW enc w0 blk off r3 _) := ⟨r2, permIn_refl _ _ _, So.congr ((show e = M by omega) ▸ C.out.r2) fun t g1 g2 => Hp2.out.2.1 t (by omega), hS2⟩
              go_wp2
              go_end0
              exact ⟨rfl, r3, permIn_trans _ _ _ _ _ (permIn_mono _ _ _ _ _ _ (by omega) (by omega) (by omega) Hp1.out) (permIn_trans _ _ _ _ _ (permIn_mono _ _ _ _ _ _ (Nat.le_refl _) (by omega) (by omega) Hp2.out) (permIn_mono _ _ _ _ _ _ (by omega) (Nat.le_refl _) (by omega) Hp3.out)), halves (fun p q g1 g2 g3 g4 => C.out.lr p q g1 g2 g3 g4) (by omega) (by omega) (by omega) Hp2.out Hs2.out Hp3.out Hs3.out, hS3.out⟩
        · rcases (show (a < s ∧ s < M) ∨ (a < s ∧ ¬ s < M) ∨ ¬ a < s by omega) with hP | hP | hP
          · rcases (show (M < e ∧ e < b) ∨ (M < e ∧ ¬ e < b) ∨ ¬ M < e by omega) with hQ | hQ | hQ
            · have x1 : ¬ (s : Int) < (m : Int) := by omega
              have y1 : (a : Int) < (s : Int) := by omega
              have y2 : (s : Int) < (M : Int) := by omega
              have v1 : (M : Int) < (e : Int) := by omega
              have v2 : (e : Int) < (b : Int) := by omega
              clear h0 h1 hls hrh hg1 hgt hgtz hM1 hM2 hn hp HI hm0 hm1 HSa HSb HX HK eg
              obtain ⟨r, hp1, hr, hS⟩ : ∃ r, PermIn s e d r ∧ (∀ t, r[t]! = rotV s m e d t) ∧ Aside (SW enc w0 blk off r wr) := ⟨d, permIn_refl _ _ _, NR.out (by omega), S1⟩
              have Hp1 : Aside (PermIn s e d r) := hp1
              have C : Aside (Cut K a M b s e r) := CT.out r hr
              have CI := Lib.hid (XT.out r hr)
              have hz1 : r.size = d.size := hp1.1
              clear hp1 hr CT XT NR S1
              go_wp2_with fail
              rw [← hz1]
              refine (IH.out r _ a s M (by omega) (by omega) (by omega) (by omega) (by omega) hS.out C.out.l1 C.out.l2 CI.out.1).mono ?_
              rintro e' w' ⟨rfl, r2, hp2, hs2, hS20⟩
              have hS2 : Aside (SW enc w0 blk off r2 _) := hS20
              clear hS20
              have Hp2 : Aside (PermIn a M r r2) := hp2
              have Hs2 : Aside (So K a M r2) := hs2
              have hz2 : r2.size = d.size := hp2.1.trans hz1
              clear hp2 hs2 hS
              go_wp2_with fail
              rw [← hz2]
              refine (IH.out r2 _ M e b (by omega) (by omega) (by omega) (by omega) (by omega) hS2.out (C.out.r1.congr fun t g1 g2 => Hp2.out.2.1 t (by omega)) (C.out.r2.congr fun t g1 g2 => Hp2.out.2.1 t (by omega)) (fun p q g1 g2 g3 g4 => by rw [Hp2.out.2.1 p (by omega), Hp2.out.2.1 q (by omega)]; exact CI.out.2 p q g1 g2 g3 g4)).mono ?_
              rintro e' w' ⟨rfl, r3, hp3, hs3, hS30⟩
              have hS3 : Aside (SW enc w0 blk off r3 _) := hS30
              clear hS30
              have Hp3 : Aside (PermIn M b r2 r3) := hp3
              have Hs3 : Aside (So K M b r3) := hs3
              clear hp3 hs3
              go_wp2
              go_end0
              exact ⟨rfl, r3, permIn_trans _ _ _ _ _ (permIn_mono _ _ _ _ _ _ (by omega) (by omega) (by omega) Hp1.out) (permIn_trans _ _ _ _ _ (permIn_mono _ _ _ _ _ _ (Nat.le_refl _) (by omega) (by omega) Hp2.out) (permIn_mono _ _ _ _ _ _ (by omega) (Nat.le_refl _) (by omega) Hp3.out)), halves (fun p q g1 g2 g3 g4 => C.out.lr p q g1 g2 g3 g4) (by omega) (by omega) (by omega) Hp2.out Hs2.out Hp3.out Hs3.out, hS3.out⟩
            · have x1 : ¬ (s : Int) < (m : Int) := by omega
              have y1 : (a : Int) < (s : Int) := by omega
              have y2 : (s : Int) < (M : Int) := by omega
              have v1 : (M : Int) < (e : Int) := by omega
              have v2 : ¬ (e : Int) < (b : Int) := by omega
              clear h0 h1 hls hrh hg1 hgt hgtz hM1 hM2 hn hp HI hm0 hm1 HSa HSb HX HK eg
              obtain ⟨r, hp1, hr, hS⟩ : ∃ r, PermIn s e d r ∧ (∀ t, r[t]! = rotV s m e d t) ∧ Aside (SW enc w0 blk off r wr) := ⟨d, permIn_refl _ _ _, NR.out (by omega), S1⟩
              have Hp1 : Aside (PermIn s e d r) := hp1
              have C : Aside (Cut K a M b s e r) := CT.out r hr
              have CI := Lib.hid (XT.out r hr)
              have hz1 : r.size = d.size := hp1.1
              clear hp1 hr CT XT NR S1
              go_wp2_with fail
              rw [← hz1]
              refine (IH.out r _ a s M (by omega) (by omega) (by omega) (by omega) (by omega) hS.out C.out.l1 C.out.l2 CI.out.1).mono ?_
              rintro e' w' ⟨rfl, r2, hp2, hs2, hS20⟩
              have hS2 : Aside (SW enc w0 blk off r2 _) := hS20
              clear hS20
              have Hp2 : Aside (PermIn a M r r2) := hp2
              have Hs2 : Aside (So K a M r2) := hs2
              have hz2 : r2.size = d.size := hp2.1.trans hz1
              clear hp2 hs2 hS
              obtain ⟨r3, Hp3, Hs3, hS3⟩ : ∃ r3, Aside (PermIn M b r2 r3) ∧ Aside (So K M b r3) ∧ Aside (SW enc w0 blk off r3 _) := ⟨r2, permIn_refl _ _ _, So.congr ((show e = b by omega) ▸ C.out.r1) fun t g1 g2 => Hp2.out.2.1 t (by omega), hS2⟩
              go_wp2
              go_end0
              exact ⟨rfl, r3, permIn_trans _ _ _ _ _ (permIn_mono _ _ _ _ _ _ (by omega) (by omega) (by omega) Hp1.out) (permIn_trans _ _ _ _ _ (permIn_mono _ _ _ _ _ _ (Nat.le_refl _) (by omega) (by omega) Hp2.out) (permIn_mono _ _ _ _ _ _ (by omega) (Nat.le_refl _) (by omega) Hp3.out)), halves (fun p q g1 g2 g3 g4 => C.out.lr p q g1 g2 g3 g4) (by omega) (by omega) (by omega) Hp2.out Hs2.out Hp3.out Hs3.out, hS3.out⟩
            · have x1 : ¬ (s : Int) < (m : Int) := by omega
              have y1 : (a : Int) < (s : Int) := by omega
              have y2 : (s : Int) < (M : Int) := by omega
              have v1 : ¬ (M : Int) < (e : Int) := by omega
              clear h0 h1 hls hrh hg1 hgt hgtz hM1 hM2 hn hp HI hm0 hm1 HSa HSb HX HK eg
              obtain ⟨r, hp1, hr, hS⟩ : ∃ r, PermIn s e d r ∧ (∀ t, r[t]! = rotV s m e d t) ∧ Aside (SW enc w0 blk off r wr) := ⟨d, permIn_refl _ _ _, NR.out (by omega), S1⟩
              have Hp1 : Aside (PermIn s e d r) := hp1
              have C : Aside (Cut K a M b s e r) := CT.out r hr
              have CI := Lib.hid (XT.out r hr)
              have hz1 : r.size = d.size := hp1.1
              clear hp1 hr CT XT NR S1
              go_wp2_with fail
              rw [← hz1]
              refine (IH.out r _ a s M (by omega) (by omega) (by omega) (by omega) (by omega) hS.out C.out.l1 C.out.l2 CI.out.1).mono ?_
              rintro e' w' ⟨rfl, r2, hp2, hs2, hS20⟩
              have hS2 : Aside (SW enc w0 blk off r2 _) := hS20
              clear hS20
              have Hp2 : Aside (PermIn a M r r2) := hp2
              have Hs2 : Aside (So K a M r2) := hs2
              have hz2 : r2.size = d.size := hp2.1.trans hz1
              clear hp2 hs2 hS
              obtain ⟨r3, Hp3, Hs3, hS3⟩ : ∃ r3, Aside (PermIn M b r2 r3) ∧ Aside (So K M b r3) ∧ Aside (SW enc w0 blk off r3 _) := ⟨r2, permIn_refl _ _ _, So.congr ((show e = M by omega) ▸ C.out.r2) fun t g1 g2 => Hp2.out.2.1 t (by omega), hS2⟩
              go_wp2
              go_end0
              exact ⟨rfl, r3, permIn_trans _ _ _ _ _ (permIn_mono _ _ _ _ _ _ (by omega) (by omega) (by omega) Hp1.out) (permIn_trans _ _ _ _ _ (permIn_mono _ _ _ _ _ _ (Nat.le_refl _) (by omega) (by omega) Hp2.out) (permIn_mono _ _ _ _ _ _ (by omega) (Nat.le_refl _) (by omega) Hp3.out)), halves (fun p q g1 g2 g3 g4 => C.out.lr p q g1 g2 g3 g4) (by omega) (by omega) (by omega) Hp2.out Hs2.out Hp3.out Hs3.out, hS3.out⟩
          · rcases (show (M < e ∧ e < b) ∨ (M < e ∧ ¬ e < b) ∨ ¬ M < e by omega) with hQ | hQ | hQ
            · have x1 : ¬ (s : Int) < (m : Int) := by omega
              have y1 : (a : Int) < (s : Int) := by omega
              have y2 : ¬ (s : Int) < (M : Int) := by omega
              have v1 : (M : Int) < (e : Int) := by omega
              have v2 : (e : Int) < (b : Int) := by omega
              clear h0 h1 hls hrh hg1 hgt hgtz hM1 hM2 hn hp HI hm0 hm1 HSa HSb HX HK eg
              obtain ⟨r, hp1, hr, hS⟩ : ∃ r, PermIn s e d r ∧ (∀ t, r[t]! = rotV s m e d t) ∧ Aside (SW enc w0 blk off r wr) := ⟨d, permIn_refl _ _ _, NR.out (by omega), S1⟩
              have Hp1 : Aside (PermIn s e d r) := hp1
              have C : Aside (Cut K a M b s e r) := CT.out r hr
              have CI := Lib.hid (XT.out r hr)
              have hz1 : r.size = d.size := hp1.1
              clear hp1 hr CT XT NR S1
              obtain ⟨r2, Hp2, Hs2, hz2, hS2⟩ : ∃ r2, Aside (PermIn a M r r2) ∧ Aside (So K a M r2) ∧ r2.size = d.size ∧ Aside (SW enc w0 blk off r2 _) := ⟨r, permIn_refl _ _ _, (show s = M by omega) ▸ C.out.l1, hz1, hS⟩
              clear hS
              go_wp2_with fail
              rw [← hz2]
              refine (IH.out r2 _ M e b (by omega) (by omega) (by omega) (by omega) (by omega) hS2.out (C.out.r1.congr fun t g1 g2 => Hp2.out.2.1 t (by omega)) (C.out.r2.congr fun t g1 g2 => Hp2.out.2.1 t (by omega)) (fun p q g1 g2 g3 g4 => by rw [Hp2.out.2.1 p (by omega), Hp2.out.2.1 q (by omega)]; exact CI.out.2 p q g1 g2 g3 g4)).mono ?_
              rintro e' w' ⟨rfl, r3, hp3, hs3, hS30⟩
              have hS3 : Aside (SW enc w0 blk off r3 _) := hS30
              clear hS30
              have Hp3 : Aside (PermIn M b r2 r3) := hp3
              have Hs3 : Aside (So K M b r3) := hs3
              clear hp3 hs3
              go_wp2
              go_end0
              exact ⟨rfl, r3, permIn_trans _ _ _ _ _ (permIn_mono _ _ _ _ _ _ (by omega) (by omega) (by omega) Hp1.out) (permIn_trans _ _ _ _ _ (permIn_mono _ _ _ _ _ _ (Nat.le_refl _) (by omega) (by omega) Hp2.out) (permIn_mono _ _ _ _ _ _ (by omega) (Nat.le_refl _) (by omega) Hp3.out)), halves (fun p q g1 g2 g3 g4 => C.out.lr p q g1 g2 g3 g4) (by omega) (by omega) (by omega) Hp2.out Hs2.out Hp3.out Hs3.out, hS3.out⟩
            · have x1 : ¬ (s : Int) < (m : Int) := by omega
              have y1 : (a : Int) < (s : Int) := by omega
              have y2 : ¬ (s : Int) < (M : Int) := by omega
              have v1 : (M : Int) < (e : Int) := by omega
              have v2 : ¬ (e : Int) < (b : Int) := by omega
              clear h0 h1 hls hrh hg1 hgt hgtz hM1 hM2 hn hp HI hm0 hm1 HSa HSb HX HK eg
              obtain ⟨r, hp1, hr, hS⟩ : ∃ r, PermIn s e d r ∧ (∀ t, r[t]! = rotV s m e d t) ∧ Aside (SW enc w0 blk off r wr) := ⟨d, permIn_refl _ _ _, NR.out (by omega), S1⟩
              have Hp1 : Aside (PermIn s e d r) := hp1
              have C : Aside (Cut K a M b s e r) := CT.out r hr
              have CI := Lib.hid (XT.out r hr)
              have hz1 : r.size = d.size := hp1.1
              clear hp1 hr CT XT NR S1
              obtain ⟨r2, Hp2, Hs2, hz2, hS2⟩ : ∃ r2, Aside (PermIn a M r r2) ∧ Aside (So K a M r2) ∧ r2.size = d.size ∧ Aside (SW enc w0 blk off r2 _) := ⟨r, permIn_refl _ _ _, (show s = M by omega) ▸ C.out.l1, hz1, hS⟩
              clear hS
              obtain ⟨r3, Hp3, Hs3, hS3⟩ : ∃ r3, Aside (PermIn M b r2 r3) ∧ Aside (So K M b r3) ∧ Aside (SW enc w0 blk off r3 _) := ⟨r2, permIn_refl _ _ _, So.congr ((show e = b by omega) ▸ C.out.r1) fun t g1 g2 => Hp2.out.2.1 t (by omega), hS2⟩
              go_wp2
              go_end0
              exact ⟨rfl, r3, permIn_trans _ _ _ _ _ (permIn_mono _ _ _ _ _ _ (by omega) (by omega) (by omega) Hp1.out) (permIn_trans _ _ _ _ _ (permIn_mono _ _ _ _ _ _ (Nat.le_refl _) (by omega) (by omega) Hp2.out) (permIn_mono _ _ _ _ _ _ (by omega) (Nat.le_refl _) (by omega) Hp3.out)), halves (fun p q g1 g2 g3 g4 => C.out.lr p q g1 g2 g3 g4) (by omega) (by omega) (by omega) Hp2.out Hs2.out Hp3.out Hs3.out, hS3.out⟩
            · have x1 : ¬ (s : Int) < (m : Int) := by omega
              have y1 : (a : Int) < (s : Int) := by omega
              have y2 : ¬ (s : Int) < (M : Int) := by omega
              have v1 : ¬ (M : Int) < (e : Int) := by omega
              clear h0 h1 hls hrh hg1 hgt hgtz hM1 hM2 hn hp HI hm0 hm1 HSa HSb HX HK eg
              obtain ⟨r, hp1, hr, hS⟩ : ∃ r, PermIn s e d r ∧ (∀ t, r[t]! = rotV s m e d t) ∧ Aside (SW enc w0 blk off r wr) := ⟨d, permIn_refl _ _ _, NR.out (by omega), S1⟩
              have Hp1 : Aside (PermIn s e d r) := hp1
              have C : Aside (Cut K a M b s e r) := CT.out r hr
              have CI := Lib.hid (XT.out r hr)
              have hz1 : r.size = d.size := hp1.1
              clear hp1 hr CT XT NR S1
              obtain ⟨r2, Hp2, Hs2, hz2, hS2⟩ : ∃ r2, Aside (PermIn a M r r2) ∧ Aside (So K a M r2) ∧ r2.size = d.size ∧ Aside (SW enc w0 blk off r2 _) := ⟨r, permIn_refl _ _ _, (show s = M by omega) ▸ C.out.l1, hz1, hS⟩
              clear hS
              obtain ⟨r3, Hp3, Hs3, hS3⟩ : ∃ r3, Aside (PermIn M b r2 r3) ∧ Aside (So K M b r3) ∧ Aside (SW enc w0 blk off r3 _) := ⟨r2, permIn_refl _ _ _, So.congr ((show e = M by omega) ▸ C.out.r2) fun t g1 g2 => Hp2.out.2.1 t (by omega), hS2⟩
              go_wp2
              go_end0
              exact ⟨rfl, r3, permIn_trans _ _ _ _ _ (permIn_mono _ _ _ _ _ _ (by omega) (by omega) (by omega) Hp1.out) (permIn_trans _ _ _ _ _ (permIn_mono _ _ _ _ _ _ (Nat.le_refl _) (by omega) (by omega) Hp2.out) (permIn_mono _ _ _ _ _ _ (by omega) (Nat.le_refl _) (by omega) Hp3.out)), halves (fun p q g1 g2 g3 g4 => C.out.lr p q g1 g2 g3 g4) (by omega) (by omega) (by omega) Hp2.out Hs2.out Hp3.out Hs3.out, hS3.out⟩
          · rcases (show (M < e ∧ e < b) ∨ (M < e ∧ ¬ e < b) ∨ ¬ M < e by omega) with hQ | hQ | hQ
            · have x1 : ¬ (s : Int) < (m : Int) := by omega
              have y1 : ¬ (a : Int) < (s : Int) := by omega
              have v1 : (M : Int) < (e : Int) := by omega
              have v2 : (e : Int) < (b : Int) := by omega
              clear h0 h1 hls hrh hg1 hgt hgtz hM1 hM2 hn hp HI hm0 hm1 HSa HSb HX HK eg
              obtain ⟨r, hp1, hr, hS⟩ : ∃ r, PermIn s e d r ∧ (∀ t, r[t]! = rotV s m e d t) ∧ Aside (SW enc w0 blk off r wr) := ⟨d, permIn_refl _ _ _, NR.out (by omega), S1⟩
              have Hp1 : Aside (PermIn s e d r) := hp1
              have C : Aside (Cut K a M b s e r) := CT.out r hr
              have CI := Lib.hid (XT.out r hr)
              have hz1 : r.size = d.size := hp1.1
              clear hp1 hr CT XT NR S1
              obtain ⟨r2, Hp2, Hs2, hz2, hS2⟩ : ∃ r2, Aside (PermIn a M r r2) ∧ Aside (So K a M r2) ∧ r2.size = d.size ∧ Aside (SW enc w0 blk off r2 _) := ⟨r, permIn_refl _ _ _, (show s = a by omega) ▸ C.out.l2, hz1, hS⟩
              clear hS
              go_wp2_with fail
              rw [← hz2]
              refine (IH.out r2 _ M e b (by omega) (by omega) (by omega) (by omega) (by omega) hS2.out (C.out.r1.congr fun t g1 g2 => Hp2.out.2.1 t (by omega)) (C.out.r2.congr fun t g1 g2 => Hp2.out.2.1 t (by omega)) (fun p q g1 g2 g3 g4 => by rw [Hp2.out.2.1 p (by omega), Hp2.out.2.1 q (by omega)]; exact CI.out.2 p q g1 g2 g3 g4)).mono ?_
              rintro e' w' ⟨rfl, r3, hp3, hs3, hS30⟩
              have hS3 : Aside (SW enc w0 blk off r3 _) := hS30
              clear hS30
              have Hp3 : Aside (PermIn M b r2 r3) := hp3
              have Hs3 : Aside (So K M b r3) := hs3
              clear hp3 hs3
              go_wp2
              go_end0
              exact ⟨rfl, r3, permIn_trans _ _ _ _ _ (permIn_mono _ _ _ _ _ _ (by omega) (by omega) (by omega) Hp1.out) (permIn_trans _ _ _ _ _ (permIn_mono _ _ _ _ _ _ (Nat.le_refl _) (by omega) (by omega) Hp2.out) (permIn_mono _ _ _ _ _ _ (by omega) (Nat.le_refl _) (by omega) Hp3.out)), halves (fun p q g1 g2 g3 g4 => C.out.lr p q g1 g2 g3 g4) (by omega) (by omega) (by omega) Hp2.out Hs2.out Hp3.out Hs3.out, hS3.out⟩
            · have x1 : ¬ (s : Int) < (m : Int) := by omega
              have y1 : ¬ (a : Int) < (s : Int) := by omega
              have v1 : (M : Int) < (e : Int) := by omega
              have v2 : ¬ (e : Int) < (b : Int) := by omega
              clear h0 h1 hls hrh hg1 hgt hgtz hM1 hM2 hn hp HI hm0 hm1 HSa HSb HX HK eg
              obtain ⟨r, hp1, hr, hS⟩ : ∃ r, PermIn s e d r ∧ (∀ t, r[t]! = rotV s m e d t) ∧ Aside (SW enc w0 blk off r wr) := ⟨d, permIn_refl _ _ _, NR.out (by omega), S1⟩
              have Hp1 : Aside (PermIn s e d r) := hp1
              have C : Aside (Cut K a M b s e r) := CT.out r hr
              have CI := Lib.hid (XT.out r hr)
              have hz1 : r.size = d.size := hp1.1
              clear hp1 hr CT XT NR S1
              obtain ⟨r2, Hp2, Hs2, hz2, hS2⟩ : ∃ r2, Aside (PermIn a M r r2) ∧ Aside (So K a M r2) ∧ r2.size = d.size ∧ Aside (SW enc w0 blk off r2 _) := ⟨r, permIn_refl _ _ _, (show s = a by omega) ▸ C.out.l2, hz1, hS⟩
              clear hS
              obtain ⟨r3, Hp3, Hs3, hS3⟩ : ∃ r3, Aside (PermIn M b r2 r3) ∧ Aside (So K M b r3) ∧ Aside (SW enc w0 blk off r3 _) := ⟨r2, permIn_refl _ _ _, So.congr ((show e = b by omega) ▸ C.out.r1) fun t g1 g2 => Hp2.out.2.1 t (by omega), hS2⟩
              go_wp2
              go_end0
              exact ⟨rfl, r3, permIn_trans _ _ _ _ _ (permIn_mono _ _ _ _ _ _ (by omega) (by omega) (by omega) Hp1.out) (permIn_trans _ _ _ _ _ (permIn_mono _ _ _ _ _ _ (Nat.le_refl _) (by omega) (by omega) Hp2.out) (permIn_mono _ _ _ _ _ _ (by omega) (Nat.le_refl _) (by omega) Hp3.out)), halves (fun p q g1 g2 g3 g4 => C.out.lr p q g1 g2 g3 g4) (by omega) (by omega) (by omega) Hp2.out Hs2.out Hp3.out Hs3.out, hS3.out⟩
            · have x1 : ¬ (s : Int) < (m : Int) := by omega
              have y1 : ¬ (a : Int) < (s : Int) := by omega
              have v1 : ¬ (M : Int) < (e : Int) := by omega
              clear h0 h1 hls hrh hg1 hgt hgtz hM1 hM2 hn hp HI hm0 hm1 HSa HSb HX HK eg
              obtain ⟨r, hp1, hr, hS⟩ : ∃ r, PermIn s e d r ∧ (∀ t, r[t]! = rotV s m e d t) ∧ Aside (SW enc w0 blk off r wr) := ⟨d, permIn_refl _ _ _, NR.out (by omega), S1⟩
              have Hp1 : Aside (PermIn s e d r) := hp1
              have C : Aside (Cut K a M b s e r) := CT.out r hr
              have CI := Lib.hid (XT.out r hr)
              have hz1 : r.size = d.size := hp1.1
              clear hp1 hr CT XT NR S1
              obtain ⟨r2, Hp2, Hs2, hz2, hS2⟩ : ∃ r2, Aside (PermIn a M r r2) ∧ Aside (So K a M r2) ∧ r2.size = d.size ∧ Aside (SW enc w0 blk off r2 _) := ⟨r, permIn_refl _ _ _, (show s = a by omega) ▸ C.out.l2, hz1, hS⟩
              clear hS
              obtain ⟨r3, Hp3, Hs3, hS3⟩ : ∃ r3, Aside (PermIn M b r2 r3) ∧ Aside (So K M b r3) ∧ Aside (SW enc w0 blk off r3 _) := ⟨r2, permIn_refl _ _ _, So.congr ((show e = M by omega) ▸ C.out.r2) fun t g1 g2 => Hp2.out.2.1 t (by omega), hS2⟩
              go_wp2
              go_end0
              exact ⟨rfl, r3, permIn_trans _ _ _ _ _ (permIn_mono _ _ _ _ _ _ (by omega) (by omega) (by omega) Hp1.out) (permIn_trans _ _ _ _ _ (permIn_mono _ _ _ _ _ _ (Nat.le_refl _) (by omega) (by omega) Hp2.out) (permIn_mono _ _ _ _ _ _ (by omega) (Nat.le_refl _) (by omega) Hp3.out)), halves (fun p q g1 g2 g3 g4 => C.out.lr p q g1 g2 g3 g4) (by omega) (by omega) (by omega) Hp2.out Hs2.out Hp3.out Hs3.out, hS3.out⟩
end Go.Proofs.Ytdkiembkigadkaa.M

/- Sym -/
set_option linter.unusedSimpArgs false
set_option linter.unusedVariables false
namespace Go.Proofs.Ytdkiembkigadkaa.M
open Go.Shelf Go.RowKit Go.Lib Go.Sort Go.Proofs
open Go.Proofs.Ytdkiembkigadkaa.P (swR size_swR swR_get swR_perm rotV So shU shU_get shU_perm size_shU shD shD_get shD_perm size_shD one_up one_down Cut cut_of halves)
variable {α : Type} [Inhabited α]
theorem sym_all (K : α → Int) (enc : α → Value) (cf : α → α → Int) (I : α → Nat) (hK : ∀ x y, I y < I x → (cf x y < 0 ↔ K x < K y)) (g : Nat) (cb : Array Value) (blk off cap : Nat) (d0 : Array α) (w0 : World) (eg : ∀ args w, (callFunc g args).run Try.prog w = .ok (.enter g args) w) (hcmp : CmpLays1 Try.prog g cb enc cf blk off d0.size w0) (R : Row1 enc w0 blk off d0) (hsz : d0.size < 4611686018427387904) :
    ∀ (N : Nat) (d : Array α) (w : World) (a m b : Nat), b - a < N → a < m → m < b → b ≤ d.size → d0.size = d.size → SW enc w0 blk off d w → So K a m d → So K m b d → (∀ p q, a ≤ p → p < m → m ≤ q → q < b → I d[p]! < I d[q]!) → Calls Try.prog 62 #[.slice (some ⟨blk, off, none⟩) d.size cap, .int .i64 a, .int .i64 m, .int .i64 b, .func (.func g) #[] cb] w fun e w' => e = .returned (.tuple #[]) ∧ ∃ r, PermIn a b d r ∧ So K a b r ∧ SW enc w0 blk off r w' := by
  intro N
  induction N with
  | zero => intro d w a m b h; omega
  | succ N ih =>
    intro d w a m b h ham hmb hb hs S s1 s2 hI
    by_cases h1 : m - a = 1
    · exact sym_one K enc cf I hK g cb blk off cap a m b d0 d w0 w eg hcmp R hs S ham hmb hb (by omega) s1 s2 hI h1
    · by_cases h2 : b - m = 1
      · exact sym_two K enc cf I hK g cb blk off cap a m b d0 d w0 w eg hcmp R hs S ham hmb hb (by omega) s1 s2 hI h1 h2
      · by_cases h3 : (a + b) / 2 < m
        · exact sym_gt K enc cf I hK g cb blk off cap a m b d0 d w0 w eg hcmp R hs S ham hmb hb (by omega) s1 s2 hI (fun d w a' m' b' h => ih d w a' m' b' (by omega)) h1 h2 h3
        · exact sym_le K enc cf I hK g cb blk off cap a m b d0 d w0 w eg hcmp R hs S ham hmb hb (by omega) s1 s2 hI (fun d w a' m' b' h => ih d w a' m' b' (by omega)) h1 h2 h3
end Go.Proofs.Ytdkiembkigadkaa.M

/- Stb -/
set_option linter.unusedSimpArgs false
set_option linter.unusedVariables false
namespace Go.Proofs.Ytdkiembkigadkaa.M
open Go.Shelf Go.RowKit Go.Lib Go.Sort Go.Proofs
open Go.Proofs.Ytdkiembkigadkaa.P (So halves Sep insertion_eq)
variable {α : Type} [Inhabited α]
theorem dvd_gap {S x a : Nat} (h1 : S ∣ x) (h2 : S ∣ a) (h : x < a) : x + S ≤ a := by
  have h3 : S ∣ a - x := Nat.dvd_sub h2 h1
  have := Nat.le_of_dvd (by omega) h3
  omega
def ltK (K : α → Int) (x y : α) : Bool := decide (K x < K y)
omit [Inhabited α] in
theorem key_swo (K : α → Int) : SWO (ltK K) where
  irrefl x := by unfold ltK; rw [decide_eq_false_iff_not]; omega
  trans x y z h1 h2 := by unfold ltK at *; rw [decide_eq_true_eq] at *; omega
  ntrans x y z h1 h2 := by unfold ltK at *; rw [decide_eq_false_iff_not] at *; omega
theorem ins_s (K : α → Int) (enc : α → Value) (cf : α → α → Int) (I : α → Nat) (hK : ∀ x y, I y < I x → (cf x y < 0 ↔ K x < K y)) (g : Nat) (cb : Array Value) (blk off cap a b : Nat) (d0 d : Array α) (w0 w : World) (eg : ∀ args w, (callFunc g args).run Try.prog w = .ok (.enter g args) w) (hcmp : CmpLays1 Try.prog g cb enc cf blk off d0.size w0) (R : Row1 enc w0 blk off d0) (hs : d0.size = d.size) (S : SW enc w0 blk off d w) (hab : a ≤ b) (hb : b ≤ d.size) (hsz : d.size < 4611686018427387904) (hI : ∀ p q, a ≤ p → p < q → q < b → I d[p]! < I d[q]!) :
    Calls Try.prog 61 #[.slice (some ⟨blk, off, none⟩) d.size cap, .int .i64 a, .int .i64 b, .func (.func g) #[] cb] w fun e w' => e = .returned (.tuple #[]) ∧ ∃ r, PermIn a b d r ∧ So K a b r ∧ SW enc w0 blk off r w' := by
  refine (Any.insertionSortCmpFunc_s (P := Try.prog) (ρ := laysSF_ren) { laysSF with } enc cf g cb blk off cap a b d0 d w0 w eg hcmp R hs S hab hb hsz).mono ?_
  rintro e w' ⟨rfl, h⟩
  rw [insertion_eq (l1 := ltOf cf) (l2 := ltK K) (I := I) (fun x y hxy => by unfold ltOf ltK; rw [decide_eq_decide]; exact hK x y hxy) a b d hb hI] at h
  have hh := insertionSort_holds (key_swo K) d a b hab hb
  refine ⟨rfl, _, hh.1, fun i j h1 h2 h3 => ?_, h⟩
  have := hh.2 i j h1 h2 h3
  unfold ltK at this
  rw [decide_eq_false_iff_not] at this
  exact Int.not_lt.1 this
set_option maxHeartbeats 16000000 in
set_option maxRecDepth 1000000 in
theorem stable_s (K : α → Int) (enc : α → Value) (cf : α → α → Int) (I : α → Nat) (hK : ∀ x y, I y < I x → (cf x y < 0 ↔ K x < K y)) (g : Nat) (cb : Array Value) (blk off cap : Nat) (d : Array α) (w0 : World) (eg : ∀ args w, (callFunc g args).run Try.prog w = .ok (.enter g args) w) (hcmp : CmpLays1 Try.prog g cb enc cf blk off d.size w0) (R : Row1 enc w0 blk off d) (S : SW enc w0 blk off d w0) (hsz : d.size ≤ 1000000000) (hI : ∀ p q, p < q → q < d.size → I d[p]! < I d[q]!) :
    Calls Try.prog 49 #[.slice (some ⟨blk, off, none⟩) d.size cap, .int .i64 d.size, .func (.func g) #[] cb] w0 fun e w' => e = .returned (.tuple #[]) ∧ ∃ r, PermIn 0 d.size d r ∧ So K 0 d.size r ∧ SW enc w0 blk off r w' := by
  have INS : Aside (∀ (d' : Array α) (w : World) (a b : Nat), d.size = d'.size → SW enc w0 blk off d' w → a ≤ b → b ≤ d'.size → (∀ p q, a ≤ p → p < q → q < b → I d'[p]! < I d'[q]!) → Calls Try.prog 61 #[.slice (some ⟨blk, off, none⟩) d.size cap, .int .i64 a, .int .i64 b, .func (.func g) #[] cb] w fun e w' => e = .returned (.tuple #[]) ∧ ∃ r, PermIn a b d' r ∧ So K a b r ∧ SW enc w0 blk off r w') :=
    fun d' w a b h1 h2 h3 h4 h5 => by rw [h1]; exact ins_s K enc cf I hK g cb blk off cap a b d d' w0 w eg hcmp R h1 h2 h3 h4 (by omega) h5
  have SYM : Aside (∀ (d' : Array α) (w : World) (a m b : Nat), a < m → m < b → b ≤ d'.size → d.size = d'.size → SW enc w0 blk off d' w → So K a m d' → So K m b d' → (∀ p q, a ≤ p → p < m → m ≤ q → q < b → I d'[p]! < I d'[q]!) → Calls Try.prog 62 #[.slice (some ⟨blk, off, none⟩) d.size cap, .int .i64 a, .int .i64 m, .int .i64 b, .func (.func g) #[] cb] w fun e w' => e = .returned (.tuple #[]) ∧ ∃ r, PermIn a b d' r ∧ So K a b r ∧ SW enc w0 blk off r w') :=
    fun d' w a m b h1 h2 h3 h4 h5 h6 h7 h8 => by rw [h4]; exact sym_all K enc cf I hK g cb blk off cap d w0 eg hcmp R (by omega) (b - a + 1) d' w a m b (by omega) h1 h2 h3 h4 h5 h6 h7 h8
  have S0 : Aside (SW enc w0 blk off d w0) := S
  have HX : Aside (∀ p q, p < q → q < d.size → I d[p]! < I d[q]!) := hI
  clear S hcmp R hK eg hI
  obtain ⟨n, hn⟩ : ∃ q, d.size = q := ⟨_, rfl⟩
  rw [hn] at INS SYM hsz HX ⊢
  go_enter Try.func49, Try.ntmps49
  go_wp2
  go_loopg [7, 8] (n + 1) (fun g1 va vb wr => ∃ (a : Nat) (dk : Array α), va = .int .i64 a ∧ vb = .int .i64 (a + 20 : Nat) ∧ a ≤ n ∧ n - a ≤ g1 ∧ Hid (20 ∣ a ∧ PermIn 0 n d dk ∧ (∀ x, x < a → 20 ∣ x → So K x (x + 20) dk) ∧ (∀ t, a ≤ t → dk[t]! = d[t]!) ∧ ∀ x, 20 ∣ x → Sep I n x dk) ∧ Aside (SW enc w0 blk off dk wr))
  case atStart => exact ⟨0, d, by go_num, by go_num, by omega, by omega, ⟨Nat.dvd_zero _, permIn_refl _ _ _, fun x h => absurd h (Nat.not_lt_zero _), fun _ _ => rfl, fun x _ p q h1 h2 h3 => HX.out p q (by omega) h3⟩, S0⟩
  case round =>
    clear S0
    obtain ⟨a, dk, rfl, rfl, han, hg1, HI, S1⟩ := hrel
    have hzk : dk.size = n := HI.out.2.1.1.trans hn
    by_cases hbn : a + 20 ≤ n
    · have hbz : (a : Int) + 20 ≤ (n : Int) := by omega
      go_wp2_with fail
      refine (INS.out dk _ a (a + 20) hzk.symm S1.out (by omega) (by omega) (fun p q g1 g2 g3 => by rw [HI.out.2.2.2.1 p g1, HI.out.2.2.2.1 q (by omega)]; exact HX.out p q g2 (by omega))).mono ?_
      rintro e w' ⟨rfl, r, hp0, hso0, hS0⟩
      have hp : Aside (PermIn a (a + 20) dk r) := hp0
      have hso : Aside (So K a (a + 20) r) := hso0
      have hS : Aside (SW enc w0 blk off r w') := hS0
      clear hp0 hso0 hS0
      go_wp2
      go_roundg (n - (a + 20))
      case measure => omega
      case rel =>
        refine ⟨a + 20, r, by go_num, by go_num, hbn, Nat.le_refl _, ⟨Nat.dvd_add HI.out.1 (Nat.dvd_refl _), permIn_trans _ _ _ _ _ HI.out.2.1 (permIn_mono _ _ _ _ _ _ (Nat.zero_le _) hbn (by omega) hp.out), fun x hx hd => ?_, fun t ht => by rw [hp.out.2.1 t (by omega)]; exact HI.out.2.2.2.1 t (by omega), fun x hd => ?_⟩, hS⟩
        rotate_left
        · by_cases hxa : a < x
          · have := dvd_gap HI.out.1 hd hxa
            exact (HI.out.2.2.2.2 x hd).perm hp.out (by omega) (by omega) hbn
          · exact (HI.out.2.2.2.2 x hd).perm hp.out (by omega) (by omega) hbn
        by_cases hxa : x < a
        · have := dvd_gap hd HI.out.1 hxa
          exact (HI.out.2.2.1 x hxa hd).congr fun t g1 g2 => hp.out.2.1 t (by omega)
        · have : ¬ a < x := fun h => by have := dvd_gap HI.out.1 hd h; omega
          rw [show x = a by omega]
          exact hso.out
    · have hbz : ¬ (a : Int) + 20 ≤ (n : Int) := by omega
      go_wp2_with fail
      refine (INS.out dk _ a n hzk.symm S1.out han (by omega) (fun p q g1 g2 g3 => by rw [HI.out.2.2.2.1 p g1, HI.out.2.2.2.1 q (by omega)]; exact HX.out p q g2 (by omega))).mono ?_
      rintro e w' ⟨rfl, r, hp0, hso0, hS0⟩
      have hp : Aside (PermIn a n dk r) := hp0
      have hso : Aside (So K a n r) := hso0
      have hS : Aside (SW enc w0 blk off r w') := hS0
      clear hp0 hso0 hS0
      have HB : Hid (PermIn 0 n d r ∧ (∀ x, 20 ∣ x → So K x (min (x + 20) n) r) ∧ ∀ x, 20 ∣ x → Sep I n x r) := ⟨permIn_trans _ _ _ _ _ HI.out.2.1 (permIn_mono _ _ _ _ _ _ (Nat.zero_le _) (Nat.le_refl _) (by omega) hp.out), fun x hd => by
        by_cases hxa : x < a
        · have := dvd_gap hd HI.out.1 hxa
          rw [show min (x + 20) n = x + 20 by omega]
          exact (HI.out.2.2.1 x hxa hd).congr fun t g1 g2 => hp.out.2.1 t (by omega)
        · intro i j h1 h2 h3
          by_cases hxb : a < x
          · have := dvd_gap HI.out.1 hd hxb
            omega
          · exact hso.out i j (by omega) h2 (by omega), fun x hd => by
        by_cases hxa : a < x
        · have := dvd_gap HI.out.1 hd hxa
          exact (HI.out.2.2.2.2 x hd).perm hp.out (by omega) (by omega) (Nat.le_refl _)
        · exact (HI.out.2.2.2.2 x hd).perm hp.out (by omega) (by omega) (Nat.le_refl _)⟩
      have S2 := hS
      clear hS hp hso HI S1 hzk
      go_wp2
      go_loopg [6] (n + 1) (fun g2 vs wr2 => ∃ (s : Nat) (dk : Array α), vs = .int .i64 s ∧ 20 ≤ s ∧ s ≤ 2 * n + 20 ∧ n + 1 - s ≤ g2 ∧ Hid (PermIn 0 n d dk ∧ (∀ x, s ∣ x → So K x (min (x + s) n) dk) ∧ ∀ x, s ∣ x → Sep I n x dk) ∧ Aside (SW enc w0 blk off dk wr2))
      case atStart => exact ⟨20, r, by go_num, Nat.le_refl _, by omega, by omega, HB, S2⟩
      case round =>
        clear S2 HB
        obtain ⟨s, dk, rfl, hs20, hsn, hg2, HB, S2⟩ := hrel
        by_cases hlt : s < n
        · have hltz : (s : Int) < (n : Int) := by omega
          go_wp2
          go_loopg [7, 8] (n + 1) (fun g3 va vb wr3 => ∃ (a : Nat) (dk : Array α), va = .int .i64 a ∧ vb = .int .i64 (a + 2 * s : Nat) ∧ a ≤ n ∧ n - a ≤ g3 ∧ Hid (2 * s ∣ a ∧ PermIn 0 n d dk ∧ (∀ x, x < a → 2 * s ∣ x → So K x (x + 2 * s) dk) ∧ (∀ x, a ≤ x → s ∣ x → So K x (min (x + s) n) dk) ∧ (∀ x, 2 * s ∣ x → Sep I n x dk) ∧ ∀ x, a ≤ x → s ∣ x → Sep I n x dk) ∧ Aside (SW enc w0 blk off dk wr3))
          case atStart => exact ⟨0, dk, by go_num, by go_num, by omega, by omega, ⟨Nat.dvd_zero _, HB.out.1, fun x h => absurd h (Nat.not_lt_zero _), fun x _ hd => HB.out.2.1 x hd, fun x hd => HB.out.2.2 x (Nat.dvd_trans ⟨2, by omega⟩ hd), fun x _ hd => HB.out.2.2 x hd⟩, S2⟩
          case round =>
            clear S2 HB
            obtain ⟨a, dk, rfl, rfl, han, hg3, HI, S1⟩ := hrel
            have hzk : dk.size = n := HI.out.2.1.1.trans hn
            by_cases hbn : a + 2 * s ≤ n
            · have hbz : (a : Int) + 2 * (s : Int) ≤ (n : Int) := by omega
              have h1 : So K a (a + s) dk := by
                have := HI.out.2.2.2.1 a (Nat.le_refl _) (Nat.dvd_trans ⟨2, by omega⟩ HI.out.1)
                rwa [show min (a + s) n = a + s by omega] at this
              have h2 : So K (a + s) (a + 2 * s) dk := by
                have := HI.out.2.2.2.1 (a + s) (by omega) (Nat.dvd_add (Nat.dvd_trans ⟨2, by omega⟩ HI.out.1) (Nat.dvd_refl _))
                rwa [show min (a + s + s) n = a + 2 * s by omega] at this
              have CA := SYM.out dk wr a (a + s) (a + 2 * s) (by omega) (by omega) (by omega) hzk.symm S1.out h1 h2 (fun p q g1 g2 g3 g4 => HI.out.2.2.2.2.2 (a + s) (by omega) (Nat.dvd_add (Nat.dvd_trans ⟨2, by omega⟩ HI.out.1) (Nat.dvd_refl _)) p q g2 g3 (by omega))
              clear h1 h2
              have z1 : (((a + s : Nat)) : Int) = (a : Int) + (s : Int) := by omega
              have z2 : (((a + 2 * s : Nat)) : Int) = (a : Int) + 2 * (s : Int) := by omega
              rw [z1, z2] at CA
              replace CA := Lib.hid CA
              clear z1 z2
              go_wp2_with fail
              refine CA.out.mono ?_
              rintro e w' ⟨rfl, r, hp0, hso0, hS0⟩
              have hp : Aside (PermIn a (a + 2 * s) dk r) := hp0
              have hso : Aside (So K a (a + 2 * s) r) := hso0
              have hS : Aside (SW enc w0 blk off r w') := hS0
              clear hp0 hso0 hS0
              go_wp2
              go_roundg (n - (a + 2 * s))
              case measure => omega
              case rel =>
                refine ⟨a + 2 * s, r, by go_num, by go_num, hbn, Nat.le_refl _, ⟨Nat.dvd_add HI.out.1 (Nat.dvd_refl _), permIn_trans _ _ _ _ _ HI.out.2.1 (permIn_mono _ _ _ _ _ _ (Nat.zero_le _) hbn (by omega) hp.out), fun x hx hd => ?_, fun x hx hd => ?_, fun x hd => ?_, fun x hx hd => ?_⟩, hS⟩
                · by_cases hxa : x < a
                  · have := dvd_gap hd HI.out.1 hxa
                    exact (HI.out.2.2.1 x hxa hd).congr fun t g1 g2 => hp.out.2.1 t (by omega)
                  · have : ¬ a < x := fun h => by have := dvd_gap HI.out.1 hd h; omega
                    rw [show x = a by omega]
                    exact hso.out
                · exact (HI.out.2.2.2.1 x (by omega) hd).congr fun t g1 g2 => hp.out.2.1 t (by omega)
                · by_cases hxa : a < x
                  · have := dvd_gap HI.out.1 hd hxa
                    exact (HI.out.2.2.2.2.1 x hd).perm hp.out (by omega) (by omega) hbn
                  · exact (HI.out.2.2.2.2.1 x hd).perm hp.out (by omega) (by omega) hbn
                · exact (HI.out.2.2.2.2.2 x (by omega) hd).perm hp.out (by omega) (by omega) hbn
            · have hbz : ¬ (a : Int) + 2 * (s : Int) ≤ (n : Int) := by omega
              have fin : Aside (∀ r : Array α, PermIn a n dk r → So K a n r → PermIn 0 n d r ∧ (∀ x, s * 2 ∣ x → So K x (min (x + s * 2) n) r) ∧ ∀ x, s * 2 ∣ x → Sep I n x r) := fun r hp hso => ⟨permIn_trans _ _ _ _ _ HI.out.2.1 (permIn_mono _ _ _ _ _ _ (Nat.zero_le _) (Nat.le_refl _) (by omega) hp), fun x hd => by
                rw [Nat.mul_comm] at hd ⊢
                by_cases hxa : x < a
                · have := dvd_gap hd HI.out.1 hxa
                  rw [show min (x + 2 * s) n = x + 2 * s by omega]
                  exact (HI.out.2.2.1 x hxa hd).congr fun t g1 g2 => hp.2.1 t (by omega)
                · intro i j h1 h2 h3
                  by_cases hxb : a < x
                  · have := dvd_gap HI.out.1 hd hxb
                    omega
                  · exact hso i j (by omega) h2 (by omega), fun x hd => by
                rw [Nat.mul_comm] at hd
                by_cases hxa : a < x
                · have := dvd_gap HI.out.1 hd hxa
                  exact (HI.out.2.2.2.2.1 x hd).perm hp (by omega) (by omega) (Nat.le_refl _)
                · exact (HI.out.2.2.2.2.1 x hd).perm hp (by omega) (by omega) (Nat.le_refl _)⟩
              by_cases hm : a + s < n
              · have hmz : (a : Int) + (s : Int) < (n : Int) := by omega
                have h1 : So K a (a + s) dk := by
                  have := HI.out.2.2.2.1 a (Nat.le_refl _) (Nat.dvd_trans ⟨2, by omega⟩ HI.out.1)
                  rwa [show min (a + s) n = a + s by omega] at this
                have h2 : So K (a + s) n dk := by
                  have := HI.out.2.2.2.1 (a + s) (by omega) (Nat.dvd_add (Nat.dvd_trans ⟨2, by omega⟩ HI.out.1) (Nat.dvd_refl _))
                  rwa [show min (a + s + s) n = n by omega] at this
                have CA := SYM.out dk wr a (a + s) n (by omega) hm (by omega) hzk.symm S1.out h1 h2 (fun p q g1 g2 g3 g4 => HI.out.2.2.2.2.2 (a + s) (by omega) (Nat.dvd_add (Nat.dvd_trans ⟨2, by omega⟩ HI.out.1) (Nat.dvd_refl _)) p q g2 g3 (by omega))
                clear h1 h2
                have z1 : (((a + s : Nat)) : Int) = (a : Int) + (s : Int) := by omega
                rw [z1] at CA
                replace CA := Lib.hid CA
                clear z1
                go_wp2_with fail
                refine CA.out.mono ?_
                rintro e w' ⟨rfl, r, hp0, hso0, hS0⟩
                have hp : Aside (PermIn a n dk r) := hp0
                have hso : Aside (So K a n r) := hso0
                have hS : Aside (SW enc w0 blk off r w') := hS0
                clear hp0 hso0 hS0
                go_wp2
                go_roundg (n + 1 - s * 2)
                case measure => omega
                case rel => exact ⟨s * 2, r, by go_num, by omega, by omega, Nat.le_refl _, fin.out r hp.out hso.out, hS⟩
              · have hmz : ¬ (a : Int) + (s : Int) < (n : Int) := by omega
                go_wp2
                go_roundg (n + 1 - s * 2)
                case measure => omega
                case rel =>
                  refine ⟨s * 2, dk, by go_num, by omega, by omega, Nat.le_refl _, fin.out dk (permIn_refl _ _ _) ?_, S1⟩
                  have := HI.out.2.2.2.1 a (Nat.le_refl _) (Nat.dvd_trans ⟨2, by omega⟩ HI.out.1)
                  rwa [show min (a + s) n = n by omega] at this
        · have hltz : ¬ (s : Int) < (n : Int) := by omega
          go_wp2
          go_end0
          refine ⟨rfl, dk, HB.out.1, ?_, S2.out⟩
          have := HB.out.2.1 0 (Nat.dvd_zero _)
          rwa [show min (0 + s) n = n by omega] at this
end Go.Proofs.Ytdkiembkigadkaa.M
