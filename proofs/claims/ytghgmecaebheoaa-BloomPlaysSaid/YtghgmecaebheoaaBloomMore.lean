/- The filter's methods over each: the closures, Add, Has, Bytes; New and From. -/
import Derived.Test.YtghgmecaebheoaaClone
import Derived.Test.YtghgmecaebheoaaBloomWalk
namespace Go.Proofs.Ytghgmecaebheoaa
open Go.RowKit
set_option linter.unusedVariables false

def nbytes (k e : Int) : Nat := ((max (k * e) 64 + 7) / 8).toNat
theorem nbytes_le (k e : Int) (h : 0 ≤ k ∧ k ≤ 65536 ∧ 1 ≤ e ∧ e ≤ 32) : (0 ≤ k * e ∧ k * e ≤ 2097152) ∧ 8 ≤ nbytes k e ∧ nbytes k e ≤ 262144 := by
  obtain ⟨h1, h2, h3, h4⟩ := h
  have a1 : 0 ≤ k * e := Int.mul_nonneg h1 (by omega)
  have a2 : k * e ≤ 65536 * 32 := Int.mul_le_mul h2 h4 (by omega) (by omega)
  have a3 : k * e ≤ 2097152 := by omega
  refine ⟨⟨a1, a3⟩, ?_⟩
  unfold nbytes
  omega
theorem size_yes (k e : Int) (w : World) (h : 0 ≤ k ∧ k ≤ 65536 ∧ 1 ≤ e ∧ e ≤ 32) :
    Calls Try.prog 8 #[.int .i64 k, .int .i64 e] w fun x w' => x = .returned (.tuple #[.int .i64 (8 * (nbytes k e : Int)), .int .i64 0]) ∧ w = w' := by
  obtain ⟨hm, h8, _⟩ := nbytes_le k e h
  refine (size_ok k e w h hm).mono fun x w' hx => ?_
  obtain ⟨rfl, rfl⟩ := hx
  have : (max (k * e) 64 + 7) / 8 * 8 = 8 * (nbytes k e : Int) := by unfold nbytes; omega
  exact ⟨by rw [this], rfl⟩

theorem run_make_u8 (n : Nat) (hn : n ≤ 262145) (W : World) : (Instr.makeSlice 34 (.int .i64 (n : Int)) (.int .i64 (n : Int))).run Try.prog W =
    .ok (.slice (some ⟨W.heap.size, 0, none⟩) n n) (W.alloc (.cells (madeCells #[.int .u8 0] n) 5)) := by
  obtain ⟨i0, hi, hz0, hz1, hz2⟩ := info_parts info_u8
  have hr := run_make (P := Try.prog) W 34 5 i0 _ Try.underlying34 hi hz0 .i64 .i64 n n (by omega) (Int.le_refl _) (by rw [hz2]; omega) (by omega)
  have hc : (Value.int .u8 0).cells = #[.int .u8 0] := rfl
  simpa [hz1, hc] using hr

/-- New, of sizes that it takes. -/
def Fresh (n : Nat) (w : World) (x : Ending) (w' : World) : Prop :=
  ∃ g h, x = .returned (.tuple #[.pointer (some ⟨g, 0, none⟩), .int .i64 0]) ∧ Filt w' g h n n (List.replicate n 0) ∧ w.heap.size ≤ g ∧ w.heap.size ≤ h ∧ Chg No w w'
theorem new_yes (k e : Int) (w : World) (h : 0 ≤ k ∧ k ≤ 65536 ∧ 1 ≤ e ∧ e ≤ 32) :
    Calls Try.prog 12 #[.int .i64 k, .int .i64 e] w (Fresh (nbytes k e) w) := by
  have HS := Lib.hid (fun w => size_yes k e w h)
  obtain ⟨_, h8, h9⟩ := nbytes_le k e h
  clear h
  generalize nbytes k e = n at HS h8 h9
  have hmk := fun W => run_make_u8 n (by omega) W
  have hq : 8 * (n : Int) / 8 = (n : Int) := by omega
  go_enter Try.func12, Try.ntmps12
  go_wp2_with (go_at_call 8; refine (HS.out _).mono ?_; rintro e w' ⟨rfl, rfl⟩)
  go_ret2
  refine ⟨w.heap.size + 1, w.heap.size, rfl, ⟨by simpa using At.new (w.alloc _) _ _, _, (At.new w _ _).alloc _, by simp, by simp [madeCells], fun j hj => ?_⟩, by omega, by omega, (((Chg.refl No w).alloc _).alloc _)⟩
  simp at hj
  simp [madeCells, hj, bv, Nat.mod_one]
theorem new_no (k e : Int) (w : World) (h : ¬ (0 ≤ k ∧ k ≤ 65536 ∧ 1 ≤ e ∧ e ≤ 32)) :
    Calls Try.prog 12 #[.int .i64 k, .int .i64 e] w fun x w' => x = .returned (.tuple #[.pointer none, .int .i64 60]) ∧ w = w' := by
  have HS := Lib.hid (fun w => size_no k e w h)
  clear h
  go_enter Try.func12, Try.ntmps12
  go_wp2_with (go_at_call 8; refine (HS.out _).mono ?_; rintro e w' ⟨rfl, rfl⟩)
  go_ret2
  exact ⟨rfl, rfl⟩

/-! the closures -/
theorem add1_any (bx g h n c p : Nat) (B : List UInt8) (w : World) (a b : Int) (hF : Filt w g h n c B) (hbx : w.cell? ⟨bx, 0, none⟩ = some (.pointer (some ⟨g, 0, none⟩)))
    (hp : p / 8 < B.length) (hmax : B.length ≤ 262144) (ha : a = ((p / 8 : Nat) : Int)) (hb : b = ((mask p).toNat : Int)) :
    Calls Try.prog 29 #[.int .i64 a, .int .u8 b, .pointer (some ⟨bx, 0, none⟩)] w fun e w' => e = .returned (.bool true) ∧ (Filt w' g h n c (setBit B p) ∧ Chg (One h) w w') := by
  subst ha
  subst hb
  have h2 := hF.head
  have h3 := hF.bit hp
  have h4 := hF.free (p / 8)
  have hset := hF.set (p / 8) hp (B[p / 8] ||| mask p)
  have hlen := hF.len
  have hpn : p / 8 < n := by omega
  have hn : n ≤ 262144 := by omega
  have hval : bv (B[p / 8] ||| mask p) = .int .u8 (bits .or .u8 (B[p / 8].toNat : Int) ((mask p).toNat : Int)) := by
    rw [u8_or_nat _ _ (by have := B[p / 8].toNat_lt; omega) (by have := (mask p).toNat_lt; omega)]
    simp [bv]
  have hsb : setBit B p = B.set (p / 8) (B[p / 8] ||| mask p) := by simp [setBit, List.getD_eq_getElem?_getD, hp]
  rw [hval, ← hsb] at hset
  have HF := Lib.hid hset
  clear hset hval hsb hF hlen
  generalize B[p / 8] = x at *
  generalize p / 8 = j at *
  generalize mask p = m at *
  go_enter Try.func29, Try.ntmps29
  go_wp2
  go_ret
  exact ⟨rfl, HF.out, (Chg.refl (One h) w).setCell (p := ⟨h, j, none⟩) (fun _ => rfl) _⟩
theorem has1_any (bx g h n c p : Nat) (B : List UInt8) (w : World) (a b : Int) (hF : Filt w g h n c B) (hbx : w.cell? ⟨bx, 0, none⟩ = some (.pointer (some ⟨g, 0, none⟩)))
    (hp : p / 8 < B.length) (hmax : B.length ≤ 262144) (ha : a = ((p / 8 : Nat) : Int)) (hb : b = ((mask p).toNat : Int)) :
    Calls Try.prog 31 #[.int .i64 a, .int .u8 b, .pointer (some ⟨bx, 0, none⟩)] w fun e w' => e = .returned (.bool (hasBit B p)) ∧ w = w' := by
  subst ha
  subst hb
  have h2 := hF.head
  have h3 := hF.bit hp
  have hlen := hF.len
  have hpn : p / 8 < n := by omega
  have hn : n ≤ 262144 := by omega
  have hval : hasBit B p = (bits .and .u8 (B[p / 8].toNat : Int) ((mask p).toNat : Int) != 0) := by
    rw [u8_and_nat _ _ (by have := B[p / 8].toNat_lt; omega) (by have := (mask p).toNat_lt; omega)]
    have e : B.getD (p / 8) 0 = B[p / 8] := by simp [List.getD_eq_getElem?_getD, hp]
    unfold hasBit
    rw [e, ← UInt8.toNat_and]
    generalize B[p / 8] &&& mask p = y
    rw [Bool.eq_iff_iff, bne_iff_ne, bne_iff_ne]
    constructor
    · intro h h0; exact h (UInt8.toNat.inj (by simpa using h0))
    · rintro h rfl; exact h rfl
  have HV := Lib.hid hval
  clear hval hF hlen
  generalize B[p / 8] = x at *
  generalize p / 8 = j at *
  generalize mask p = m at *
  go_enter Try.func31, Try.ntmps31
  go_wp2
  go_ret
  exact ⟨by rw [HV.out]; rfl, rfl⟩

theorem each_add (bx g h n c kc : Nat) (B key : List UInt8) (A : Option Addr) (w : World) (hF : Filt w g h n c B) (hbx : w.cell? ⟨bx, 0, none⟩ = some (.pointer (some ⟨g, 0, none⟩))) (hne : bx ≠ h)
    (hn : 8 ≤ n ∧ n ≤ 262144) (hk : Rd w A key) (hl : key.length ≤ 140737488355328) :
    Calls Try.prog 28 #[.pointer (some ⟨g, 0, none⟩), .slice A key.length kc, .func (.func 29) #[] #[.pointer (some ⟨bx, 0, none⟩)]] w
      fun e w' => e = .returned (.bool true) ∧ (Filt w' g h n c (addKey B key) ∧ Chg (One h) w w') := by
  have hlen := hF.len
  refine (each_any g h n c 29 (.pointer (some ⟨bx, 0, none⟩)) (fun k W => Filt W g h n c (addUp B key k) ∧ W.cell? ⟨bx, 0, none⟩ = some (.pointer (some ⟨g, 0, none⟩)) ∧ Chg (One h) w W) (fun _ => true) A kc key w hn (by omega)
    Try.call29 (fun k W hs => hs.1.head) hk ?_ ⟨hF, hbx, Chg.refl _ _⟩).mono ?_
  · rintro k W a b hk4 ⟨h1, h2, h3⟩ ha hb
    have hp := place_byte key k n (by omega)
    refine (add1_any bx g h n c _ _ W a b h1 h2 (by rw [length_addUp]; omega) (by rw [length_addUp]; omega) ha hb).mono ?_
    rintro e W' ⟨rfl, h4, h5⟩
    refine ⟨rfl, ?_, h5.cell h2 (fun e => hne e), h3.tr h5⟩
    rw [addUp, ← hlen]
    exact h4
  · rintro e w' ⟨rfl, k, ⟨h1, _, h3⟩, hk4⟩
    have := hk4 rfl
    subst this
    exact ⟨rfl, h1, h3⟩
theorem each_has (bx g h n c kc : Nat) (B key : List UInt8) (A : Option Addr) (w : World) (hF : Filt w g h n c B) (hbx : w.cell? ⟨bx, 0, none⟩ = some (.pointer (some ⟨g, 0, none⟩)))
    (hn : 8 ≤ n ∧ n ≤ 262144) (hk : Rd w A key) (hl : key.length ≤ 140737488355328) :
    Calls Try.prog 28 #[.pointer (some ⟨g, 0, none⟩), .slice A key.length kc, .func (.func 31) #[] #[.pointer (some ⟨bx, 0, none⟩)]] w
      fun e w' => e = .returned (.bool (hasKey B key)) ∧ w = w' := by
  have hlen := hF.len
  refine (each_any g h n c 31 (.pointer (some ⟨bx, 0, none⟩)) (fun k W => w = W) (goBit B key) A kc key w hn (by omega)
    Try.call31 (fun k W hs => hs ▸ hF.head) hk ?_ rfl).mono ?_
  · rintro k W a b hk4 rfl ha hb
    have hp := place_byte key k n (by omega)
    refine (has1_any bx g h n c _ _ w a b hF hbx (by omega) (by omega) ha hb).mono ?_
    rintro e W' ⟨rfl, rfl⟩
    refine ⟨?_, rfl⟩
    rw [hlen]
    rfl
  · rintro e w' ⟨rfl, k, h1, _⟩
    exact ⟨rfl, h1⟩

/-- Add. -/
def Added (g h n c : Nat) (B : List UInt8) (w : World) (e : Ending) (w' : World) : Prop := e = .returned (.tuple #[]) ∧ Filt w' g h n c B ∧ Chg (One h) w w'
theorem add_any (g h n c kc : Nat) (B : List UInt8) (A : Option Addr) (ks : Rows_) (w : World) (hF : Filt w g h n c B) (hn : 8 ≤ n ∧ n ≤ 262144) (hk : Stay (One h) w (RdL · A ks))
    (hl : ∀ k ∈ ks, k.2.2.length ≤ 140737488355328) (hks : ks.length ≤ 140737488355328) :
    Calls Try.prog 14 #[.pointer (some ⟨g, 0, none⟩), .slice A ks.length kc] w (Added g h n c (addAll B (txt ks)) w) := by
  have HF := Lib.hid hF
  have HK := Lib.hid hk
  have HL := Lib.hid hl
  have HN := Lib.hid hn
  have HH := Lib.hid hF.lt
  clear hF hk hl hn
  go_enter Try.func14, Try.ntmps14
  go_wp2
  go_loopw [5, 8] (fun _ i wr => ∃ k : Nat, k ≤ ks.length ∧ i = .int .i64 k ∧ Hid (Filt wr g h n c (addAll B (txt (ks.take k))) ∧ wr.cell? ⟨w.heap.size, 0, none⟩ = some (.pointer (some ⟨g, 0, none⟩)) ∧ Chg (One h) w wr)) (fun _ i _ => ks.length - (intOf i).toNat)
  case atStart => exact ⟨0, by omega, rfl, HF.out.new ((Chg.refl No w).alloc _), by simp [At.new w _ _ |>.cell], (Chg.refl _ w).alloc _⟩
  case round =>
    obtain ⟨k, hk, rfl, HR⟩ := hrel
    by_cases hlt : k < ks.length
    · obtain ⟨⟨b, o, hA, hc⟩, hrd⟩ := (HK.out wr HR.out.2.2).get hlt
      subst hA
      have hbx := HR.out.2.1
      have HD := Lib.hid hrd
      have HT : Hid (addAll B (txt (ks.take (k + 1))) = addKey (addAll B (txt (ks.take k))) ks[k].2.2) := by
        rw [List.take_succ_eq_append_getElem hlt, txt, List.map_append]
        exact addAll_append _ _ _
      have HX := Lib.hid (HL.out ks[k] (List.getElem_mem hlt))
      clear hrd
      generalize ks[k] = x at *
      go_wp2_with fail
      refine (each_add w.heap.size g h n c _ _ _ _ wr HR.out.1 hbx (by have := HH.out.2; omega) HN.out HD.out HX.out).mono ?_
      rintro e W' ⟨rfl, h1, h2⟩
      have H1 := Lib.hid h1
      have H2 := Lib.hid h2
      clear h1 h2
      go_wp2
      go_roundw
      case rel => exact ⟨k + 1, by omega, by go_num, by rw [HT.out]; exact H1.out, H2.out.cell hbx (by have := HH.out.2; unfold One; simp; omega), HR.out.2.2.tr H2.out⟩
      case measure => simp [intOf]; omega
    · have ht : ks.take k = ks := List.take_of_length_le (by omega)
      rw [ht] at HR
      clear ht
      go_wp2
      go_end0
      exact ⟨rfl, HR.out.1, HR.out.2.2⟩

/-- Has: asked of what is there, whether it changes nothing. -/
def Asked (b : Bool) (w : World) (e : Ending) (w' : World) : Prop := e = .returned (.bool b) ∧ Chg No w w'
theorem has_any (g h n c kc : Nat) (B key : List UInt8) (A : Option Addr) (w : World) (hF : Filt w g h n c B) (hn : 8 ≤ n ∧ n ≤ 262144) (hk : Rd w A key) (hl : key.length ≤ 140737488355328) :
    Calls Try.prog 16 #[.pointer (some ⟨g, 0, none⟩), .slice A key.length kc] w (Asked (hasKey B key) w) := by
  have HF := Lib.hid hF
  have HK := Lib.hid hk
  have HN := Lib.hid hn
  clear hF hk hn
  go_enter Try.func16, Try.ntmps16
  go_wp2_with fail
  refine (each_has w.heap.size g h n c _ B key A _ (HF.out.new ((Chg.refl No w).alloc _)) (by simp [At.new w _ _ |>.cell]) HN.out (HK.out.alloc _) hl).mono ?_
  rintro e W' ⟨rfl, rfl⟩
  go_wp2
  go_ret
  exact ⟨rfl, (Chg.refl No w).alloc _⟩

/-- Bytes: the bits, in a row of their own. -/
def Told (B : List UInt8) (w : World) (e : Ending) (w' : World) : Prop :=
  ∃ x cap cur, e = .returned (.slice (some ⟨x, 0, none⟩) B.length cap) ∧ w.heap.size ≤ x ∧ At w' x 5 cur ∧ cur.size = cap ∧ B.length ≤ cap ∧ cap ≤ maxLen ∧ (∀ j (hj : j < B.length), cur[j]? = some (bv B[j])) ∧ Chg No w w'
theorem told_of_cloned {A : Option Addr} {l : List UInt8} {w w' : World} {e : Ending} (h : Cloned l A w e w') (hA : A ≠ none) : Told l w e w' := by
  obtain ⟨v, rfl, h1, h2, h3⟩ := h
  obtain ⟨g, cap, cur, rfl, k1, k2, k3, k4, k5, k6⟩ := own_form h1 (fun e => hA (h2.1 e))
  exact ⟨g, cap, cur, rfl, k1, k2, k5, k3, k4, fun j hj => by rw [k6 j (by simpa using hj)]; simp, h3⟩
theorem told_rd {B : List UInt8} {w w' : World} {e : Ending} (h : Told B w e w') : ∃ A c, e = .returned (.slice A B.length c) ∧ Rd w' A B ∧ Chg No w w' := by
  obtain ⟨x, cap, cur, rfl, h1, h2, h3, h4, h5, h6, h7⟩ := h
  exact ⟨_, _, rfl, RdV.of_at h2 fun j hj => by rw [h6 j (by simpa using hj)]; simp, h7⟩
theorem bytes_any (g h n c : Nat) (B : List UInt8) (w : World) (hF : Filt w g h n c B) (hn : 8 ≤ n ∧ n ≤ 262144) :
    Calls Try.prog 18 #[.pointer (some ⟨g, 0, none⟩)] w (Told B w) := by
  have hc := hF.head
  have hlen := hF.len
  subst hlen
  obtain ⟨hn1, hn2⟩ := hn
  have HR := Lib.hid hF.rd
  clear hF
  go_enter Try.func18, Try.ntmps18
  go_wp2_with fail
  refine (clone_any _ c B w HR.out (by omega)).mono ?_
  intro e w' hh
  obtain ⟨x, cap, cur, rfl, hx⟩ := told_of_cloned hh (by simp)
  have HX := Lib.hid hx
  clear hx hh
  go_wp2
  go_ret
  exact ⟨x, cap, cur, rfl, HX.out⟩

/-- From: a filter of these bytes. -/
def FromOk (B : List UInt8) (w : World) (x : Ending) (w' : World) : Prop :=
  ∃ g h c, x = .returned (.tuple #[.pointer (some ⟨g, 0, none⟩), .int .i64 0]) ∧ Filt w' g h B.length c B ∧ w.heap.size ≤ g ∧ w.heap.size ≤ h ∧ Chg No w w'
theorem from_yes (A : Option Addr) (c : Nat) (B : List UInt8) (w : World) (hk : Rd w A B) (h8 : 8 ≤ B.length) (h9 : B.length ≤ 262144) :
    Calls Try.prog 23 #[.slice A B.length c] w (FromOk B w) := by
  have hA : A ≠ none := by
    obtain ⟨b, o, e, _⟩ := hk.get (j := 0) (by omega)
    rw [e]; simp
  have HK := Lib.hid hk
  clear hk
  go_enter Try.func23, Try.ntmps23
  go_wp2_with fail
  refine (clone_any A c B w HK.out (by omega)).mono ?_
  intro e w' hh
  obtain ⟨x, cap, cur, rfl, h1, h2, h3, h4, h5, h6, h7⟩ := told_of_cloned hh hA
  have H2 := Lib.hid h2
  have H6 := Lib.hid h6
  have H7 := Lib.hid h7
  have hs := h7.size
  clear hh h2 h6 h7
  subst h3
  go_wp2
  go_ret2
  exact ⟨_, x, _, rfl, ⟨At.new _ _ _, cur, H2.out.alloc _, rfl, h4, H6.out⟩, by omega, h1, H7.out.alloc _⟩
theorem from_no (A : Option Addr) (c : Nat) (B : List UInt8) (w : World) (h : B.length < 8 ∨ 262144 < B.length) (hmax : B.length ≤ 9223372036854775807) :
    Calls Try.prog 23 #[.slice A B.length c] w fun x w' => x = .returned (.tuple #[.pointer none, .int .i64 61]) ∧ w = w' := by
  by_cases h1 : B.length < 8
  · clear h
    go_enter Try.func23, Try.ntmps23
    go_wp2
    go_ret2
    exact ⟨rfl, rfl⟩
  · have h2 : 262144 < B.length := by omega
    clear h
    go_enter Try.func23, Try.ntmps23
    go_wp2
    go_ret2
    exact ⟨rfl, rfl⟩
/-- Add of keys that lie in a row of the caller's own making. -/
theorem add_at (g h n c r m kc : Nat) (B : List UInt8) (ks : Rows_) (W : World) (hF : Filt W g h n c B) (hn : 8 ≤ n ∧ n ≤ 262144) (hW : At W r 34 (ks.map slOf).toArray) (hm : ks.length = m)
    (hk : ∀ k ∈ ks, Stay (One h) W (Rd · k.1 k.2.2)) (hl : ∀ k ∈ ks, k.2.2.length ≤ 140737488355328) (hks : m ≤ 140737488355328) :
    Calls Try.prog 14 #[.pointer (some ⟨g, 0, none⟩), .slice (some ⟨r, 0, none⟩) m kc] W (Added g h n c (addAll B (txt ks)) W) := by
  subst hm
  have hrh : r ≠ h := by
    obtain ⟨_, cur, h2, _⟩ := hF
    exact hW.ne h2 (by decide)
  refine add_any g h n c kc B _ ks W hF hn (fun W' k' => ⟨RdV.of_at (hW.chg k' hrh) fun j hj => ?_, fun k hk' => hk k hk' W' k'⟩) hl hks
  simp at hj
  simp [hj]
theorem has_yes (g h n c kc : Nat) (B key : List UInt8) (A : Option Addr) (w : World) (hF : Filt w g h n c B) (hn : 8 ≤ n ∧ n ≤ 262144) (hk : Rd w A key) (hl : key.length ≤ 140737488355328) (hy : hasKey B key = true) :
    Calls Try.prog 16 #[.pointer (some ⟨g, 0, none⟩), .slice A key.length kc] w (Asked true w) := by
  have := has_any g h n c kc B key A w hF hn hk hl
  rwa [hy] at this
theorem num_any (n : Int) (w : World) : Calls Try.prog 10 #[.int .i64 n] w fun e w' => e = .returned (.int .i64 n) ∧ w = w' := by
  go_enter Try.func10, Try.ntmps10
  go_wp2
  go_ret
  exact ⟨rfl, rfl⟩
end Go.Proofs.Ytghgmecaebheoaa
