/- Joined, as they were built one by one: OGet ExtP Blk6 ExtD ExtB. -/
import Derived.Deep.CutBlock
import Derived.Test.YtjmapbhgjhlefaaQ03
namespace Go.Proofs.Ytjmapbhgjhlefaa
open Go.RowKit
set_option linter.unusedVariables false
set_option maxRecDepth 100000

/-- The number that bytes say. -/
def getN (l : List UInt8) : Nat := l.foldl (fun x b => x * 256 + b.toNat) 0
theorem getN_snoc (l : List UInt8) (b : UInt8) : getN (l ++ [b]) = getN l * 256 + b.toNat := by
  unfold getN
  rw [List.foldl_append]
  rfl
theorem getN_take {l : List UInt8} {i : Nat} (h : i < l.length) : getN (l.take (i + 1)) = getN (l.take i) * 256 + l[i].toNat := by
  rw [List.take_succ_eq_append_getElem h, getN_snoc]
theorem getF_lt : ∀ (l : List UInt8) (c : Nat), l.foldl (fun x b => x * 256 + b.toNat) c < (c + 1) * 256 ^ l.length
  | [], c => by simp
  | b :: l, c => by
    have h1 := getF_lt l (c * 256 + b.toNat)
    have h2 := b.toNat_lt
    rw [List.foldl_cons, List.length_cons, Nat.pow_succ]
    refine Nat.lt_of_lt_of_le h1 ?_
    rw [Nat.mul_comm (256 ^ l.length) 256, ← Nat.mul_assoc]
    exact Nat.mul_le_mul_right _ (by omega)
theorem getN_lt (l : List UInt8) : getN l < 256 ^ l.length := by simpa [getN] using getF_lt l 0
theorem getN_lt64 (l : List UInt8) (h : l.length ≤ 8) : getN l < 18446744073709551616 :=
  Nat.lt_of_lt_of_le (getN_lt l) (Nat.le_trans (Nat.pow_le_pow_right (by decide) h) (by decide))
theorem getN_lt56 (l : List UInt8) (h : l.length ≤ 7) : getN l < 72057594037927936 :=
  Nat.lt_of_lt_of_le (getN_lt l) (Nat.le_trans (Nat.pow_le_pow_right (by decide) h) (by decide))
theorem or64 (x b : Nat) (hx : x < 72057594037927936) (hb : b < 256) : bits .or .u64 ((x : Int) * 256) (b : Int) = ((x * 256 + b : Nat) : Int) := by
  have h1 := u64_or_nat (x * 256) b (by omega) (by omega)
  have h2 : x * 256 ||| b = x * 256 + b := by
    have := Nat.shiftLeft_add_eq_or_of_lt (b := b) (i := 8) (by simpa using hb) x
    rw [Nat.shiftLeft_eq] at this
    exact this.symm
  rw [h2] at h1
  rw [← h1]
  push_cast
  rfl
theorem oget_any (A : Option Addr) (c : Nat) (l : List UInt8) (w : World) (h : Rd w A l) (hl : l.length ≤ 8) :
    Calls Try.prog 85 #[.slice A l.length c] w fun e w' => e = .returned (.int .u64 (getN l : Nat)) ∧ w' = w := by
  have HR := Lib.hid h
  clear h
  go_enter Try.func85, Try.ntmps85
  go_wp2
  go_loopw [3, 8] (fun cv iv wr => ∃ i : Nat, i ≤ l.length ∧ cv = .int .u64 (getN (l.take i) : Nat) ∧ iv = .int .i64 i ∧ Hid (wr = w)) (fun _ iv _ => l.length - (intOf iv).toNat)
  case atStart => exact ⟨0, by omega, rfl, rfl, rfl⟩
  case round =>
    obtain ⟨i, hi, rfl, rfl, HW⟩ := hrel
    obtain rfl := HW.out
    by_cases hlt : i < l.length
    · obtain ⟨b, o, rfl, hc⟩ := HR.out.get hlt
      have HX := Lib.hid (getN_take hlt)
      have hb := getN_lt56 (l.take i) (by rw [List.length_take]; omega)
      have hb1 := l[i].toNat_lt
      have ho := or64 (getN (l.take i)) l[i].toNat hb hb1
      have hw : IntKind.u64.wrap ((getN (l.take i) : Int) * 256) = (getN (l.take i) : Int) * 256 := by rw [IntKind.wrap_u64]; omega
      generalize getN (l.take i) = x0 at *
      go_wp2_with fail
      go_roundw
      · exact ⟨i + 1, by omega, by rw [HX.out]; push_cast; rfl, by push_cast; rfl, by first | trivial | exact rfl⟩
      · simp [intOf]; omega
    · have hall : l.take i = l := List.take_of_length_le (by omega)
      rw [hall]
      clear hall
      go_wp2_with fail
      go_ret
      exact ⟨rfl, rfl⟩
/-- What Put lays Get reads. -/
theorem getN_app (a b : List UInt8) : getN (a ++ b) = getN a * 256 ^ b.length + getN b := by
  unfold getN
  rw [List.foldl_append]
  generalize a.foldl (fun x b => x * 256 + b.toNat) 0 = c
  induction b generalizing c with
  | nil => simp
  | cons y b ih =>
    rw [List.foldl_cons, List.foldl_cons, ih, ih (0 * 256 + y.toNat), List.length_cons, Nat.pow_succ, Nat.add_mul, Nat.mul_assoc, Nat.mul_comm 256 (256 ^ b.length), Nat.zero_mul, Nat.zero_add, Nat.add_assoc]
theorem putB_succ (x n : Nat) : putB x (n + 1) = putB (x / 256) n ++ [UInt8.ofNat (x % 256)] := by
  unfold putB
  rw [List.range_succ, List.map_append]
  congr 1
  · refine List.map_congr_left fun i hi => ?_
    have hi := List.mem_range.1 hi
    unfold byteAt
    rw [Nat.div_div_eq_div_mul, show n + 1 - 1 - i = (n - 1 - i) + 1 by omega, Nat.pow_succ, Nat.mul_comm 256]
  · simp [byteAt]
theorem get_put : ∀ (n x : Nat), getN (putB x n) = x % 256 ^ n
  | 0, x => by simp [putB, getN, Nat.mod_one]
  | n + 1, x => by
    rw [putB_succ, getN_snoc, get_put n (x / 256), Nat.pow_succ, UInt8.toNat_ofNat', Nat.mod_mod, Nat.mul_comm (256 ^ n) 256, Nat.mod_mul]
    omega
end Go.Proofs.Ytjmapbhgjhlefaa
namespace Go.Proofs.Ytjmapbhgjhlefaa
open Go.RowKit
set_option linter.unusedVariables false
set_option maxRecDepth 100000

/-- A file: where it lies, in which turn it was added, the life that appends to it now, its frames. -/
structure Fl where
  num : Nat
  first : Nat
  blocks : Nat
  birth : Nat
  life : Nat
  frames : List (List UInt8)
structure Spc where
  slot : Nat
  turn : Nat
  files : List Fl
/-- What a head tells of a file. -/
structure Hd where
  num : Nat
  first : Nat
  blocks : Nat
  birth : Nat
def Fl.hd (f : Fl) : Hd := ⟨f.num, f.first, f.blocks, f.birth⟩
def Hd.fl (h : Hd) : Fl := ⟨h.num, h.first, h.blocks, h.birth, 0, []⟩
def markX : List UInt8 := [84, 68, 88, 49]
def hdB (h : Hd) : List UInt8 := putB h.num 4 ++ (putB h.first 4 ++ (putB h.blocks 4 ++ putB h.birth 8))
def headB (turn : Nat) (hs : List Hd) : List UInt8 := markX ++ (putB turn 8 ++ (putB hs.length 1 ++ (hs.map hdB).flatten))
def padB (l : List UInt8) : List UInt8 := l ++ List.replicate (512 - l.length) 0
def sealB (turn : Nat) (hs : List Hd) : List UInt8 := padB (headB turn hs)
def hdOf (r : List UInt8) : Hd := ⟨getN (r.take 4), getN ((r.drop 4).take 4), getN ((r.drop 8).take 4), getN ((r.drop 12).take 8)⟩
def rowsH : Nat → List UInt8 → List Hd
  | 0, _ => []
  | n + 1, r => hdOf r :: rowsH n (r.drop 20)
/-- What a head's block says. -/
def unsealB (b : List UInt8) : Option (Nat × List Hd) :=
  if b.take 4 = markX ∧ (b.getD 12 0).toNat ≤ 24 then some (getN ((b.drop 4).take 8), rowsH (b.getD 12 0).toNat (b.drop 13)) else none
def liesH (n : Nat) (hs : List Hd) : Bool := hs.all fun h => decide (2 ≤ h.first ∧ 1 ≤ h.blocks ∧ (h.blocks : Int) ≤ (n : Int) - h.first)
def newerH (s : Option Spc) (turn : Nat) : Bool := match s with | none => true | some x => decide (x.turn < turn)
/-- The head that counts. -/
def bestH (D : Dk) (s : Option Spc) (i : Nat) : Option Spc :=
  if (D.read i).2 ≠ 0 then s else
  match unsealB (D.read i).1 with
  | none => s
  | some (turn, hs) => if liesH D.cells.length hs = true ∧ newerH s turn = true then some ⟨i, turn, hs.map Hd.fl⟩ else s
def readX (D : Dk) : Option Spc × Int := if D.off then (none, 21) else (bestH D (bestH D none 0) 1, 0)
/-- A frame's block. -/
def frameB (birth life : Nat) (p : List UInt8) : List UInt8 := padB (putB birth 8 ++ (putB life 8 ++ (putB p.length 2 ++ p)))
/-- What load keeps: whether it is over, the last life, the greatest one, the frames. -/
structure LdS where
  over : Bool
  last : Nat
  most : Nat
  frames : List (List UInt8)
def goodB (birth : Nat) (b : List UInt8) : Bool := decide (getN (b.take 8) = birth ∧ getN ((b.drop 16).take 2) ≤ 480)
def lifeB (b : List UInt8) : Nat := getN ((b.drop 8).take 8)
def bodyX (b : List UInt8) : List UInt8 := (b.drop 18).take (getN ((b.drop 16).take 2))
def ldStep (birth : Nat) (r : List UInt8 × Int) (s : LdS) : LdS :=
  if r.2 ≠ 0 then { s with over := true } else
  if goodB birth r.1 = false then { s with over := true } else
  if s.over = true ∨ lifeB r.1 < s.last then ⟨true, s.last, max s.most (lifeB r.1), s.frames⟩ else
  ⟨false, lifeB r.1, max s.most (lifeB r.1), s.frames ++ [bodyX r.1]⟩
def ldRun (D : Dk) (birth first : Nat) : Nat → LdS
  | 0 => ⟨false, 0, 0, []⟩
  | k + 1 => ldStep birth (D.read ((first + k : Nat) : Int)) (ldRun D birth first k)
def Fl.load (D : Dk) (f : Fl) : Fl := { f with life := ((ldRun D f.birth f.first f.blocks).most + 1) % 18446744073709551616, frames := f.frames ++ (ldRun D f.birth f.first f.blocks).frames }
def openX (D : Dk) : Option Spc × Int :=
  if (readX D).2 = 21 then (none, 21) else
  match (readX D).1 with
  | none => (none, 30)
  | some s => (some { s with files := s.files.map (Fl.load D) }, 0)
def Spc.find (S : Spc) (num : Int) : Option Fl := S.files.find? fun f => ((f.num : Nat) : Int) == num
/-- Making files those of the space. -/
def Spc.put (S : Spc) (fs : List Fl) (D : Dk) : Spc × Dk × Int :=
  let r := D.write (((S.slot + 1) % 2 : Nat) : Int) (sealB ((S.turn + 1) % 18446744073709551616) (fs.map Fl.hd))
  if r.2 ≠ 0 then (S, r.1, r.2) else
  let q := r.1.flush
  if q.2 ≠ 0 then (S, q.1, q.2) else (⟨(S.slot + 1) % 2, (S.turn + 1) % 18446744073709551616, fs⟩, q.1, 0)
def formatX (D : Dk) : Dk × Int :=
  if (readX D).2 = 21 then (D, 21) else (((((readX D).1).getD ⟨0, 0, []⟩).put [] D).2.1, ((((readX D).1).getD ⟨0, 0, []⟩).put [] D).2.2)
/-- Appending a frame. -/
def Spc.append (S : Spc) (num : Int) (p : List UInt8) (D : Dk) : Spc × Dk × Int :=
  match S.find num with
  | none => (S, D, 34)
  | some f =>
    if 480 < p.length then (S, D, 35) else
    if f.frames.length = f.blocks then (S, D, 36) else
    let r := D.write ((f.first + f.frames.length : Nat) : Int) (frameB f.birth f.life p)
    if r.2 ≠ 0 then (S, r.1, r.2) else ({ S with files := S.files.map fun g => if g.num = f.num then { g with frames := g.frames ++ [p] } else g }, r.1, 0)
def Spc.free (S : Spc) (n : Nat) : Int := S.files.foldl (fun x f => x - f.blocks) ((n : Int) - 2)
/-- A file to be added: its number, how many blocks. -/
structure Fi where
  num : Int
  first : Int
  blocks : Int
def Spc.mayDrop (S : Spc) : List Int → List Int → Bool
  | _, [] => true
  | ahead, n :: l => (S.find n).isSome && !ahead.contains n && S.mayDrop (ahead ++ [n]) l
def Spc.mayAdd (S : Spc) (drop : List Int) : List Int → List Fi → Bool
  | _, [] => true
  | seen, f :: l => decide (1 ≤ f.num ∧ f.num ≤ 2147483647 ∧ 1 ≤ f.blocks) && !seen.contains f.num && (!(S.find f.num).isSome || drop.contains f.num) && S.mayAdd drop (seen ++ [f.num]) l
def Spc.may (S : Spc) (add : List Fi) (drop : List Int) : Bool := S.mayDrop [] drop && S.mayAdd drop [] add
/-- The first row of free blocks that is long enough, beside what lies there, in order. -/
def placeX (n : Nat) (blocks : Int) : Nat → List (Nat × Nat) → Nat × Bool
  | first, [] => (first, decide (blocks ≤ (n : Int) - first))
  | first, p :: l => if blocks ≤ (p.1 : Int) - first then (first, true) else placeX n blocks (p.1 + p.2) l
def insF (p : Nat × Nat) : List (Nat × Nat) → List (Nat × Nat)
  | [] => [p]
  | q :: l => if p.1 ≤ q.1 then p :: q :: l else q :: insF p l
def sortF (l : List (Nat × Nat)) : List (Nat × Nat) := l.foldr insF []
def insN (f : Fl) : List Fl → List Fl
  | [] => [f]
  | g :: l => if f.num ≤ g.num then f :: g :: l else g :: insN f l
def sortN (l : List Fl) : List Fl := l.foldr insN []
/-- Laying what is added, one behind the other; none: one has no place. -/
def addX (n turn : Nat) : List Fi → List (Nat × Nat) → List Fl → Option (List Fl)
  | [], _, fs => some fs
  | x :: l, lie, fs =>
    match placeX n x.blocks 2 (sortF lie) with
    | (_, false) => none
    | (at_, true) => addX n turn l (lie ++ [(at_, x.blocks.toNat)]) (fs ++ [⟨x.num.toNat, at_, x.blocks.toNat, turn, 1, []⟩])
def Spc.lie (S : Spc) : List (Nat × Nat) := S.files.map fun f => (f.first, f.blocks)
def Spc.switch (S : Spc) (add : List Fi) (drop : List Int) (D : Dk) : Spc × Dk × Int :=
  if S.may add drop = false then (S, D, 31) else
  if (24 : Int) < (S.files.length : Int) + add.length - drop.length then (S, D, 32) else
  match addX D.cells.length ((S.turn + 1) % 18446744073709551616) add S.lie (S.files.filter fun f => !drop.contains (f.num : Int)) with
  | none => (S, D, 33)
  | some fs => S.put (sortN fs) D
end Go.Proofs.Ytjmapbhgjhlefaa
namespace Go.Proofs.Ytjmapbhgjhlefaa
open Go.RowKit
set_option linter.unusedVariables false
set_option maxRecDepth 100000

/-- Is the write torn? -/
def tornB (torn bytes : Int) (i : Nat) : Bool := decide ((i : Int) = torn ∧ 1 ≤ bytes ∧ bytes < 512)
def keepB (keep : List Bool) (i : Nat) : Bool := keep[i]?.getD false
def onStep (keep : List Bool) (torn bytes : Int) (cells : List (List UInt8 × Bool)) (x : (Nat × List UInt8) × Nat) : List (List UInt8 × Bool) :=
  if tornB torn bytes x.2 then cells.set x.1.1 ([], true) else if keepB keep x.2 then lay cells x.1 else cells
def onAll (keep : List Bool) (torn bytes : Int) (cells : List (List UInt8 × Bool)) (ps : List (Nat × List UInt8)) : List (List UInt8 × Bool) := ps.zipIdx.foldl (onStep keep torn bytes) cells
def Dk.on (D : Dk) (keep : List Bool) (torn bytes : Int) : Dk := if D.off then ⟨onAll keep torn bytes D.cells D.pend, [], 0, D.writes, false⟩ else D
def onC (keep : List Bool) (torn bytes : Int) (cs : List (Slc × Bool)) (x : (Nat × Slc) × Nat) : List (Slc × Bool) :=
  if tornB torn bytes x.2 then cs.set x.1.1 ((none, 0, []), true) else if keepB keep x.2 then layC cs x.1 else cs
theorem on_onC (keep : List Bool) (torn bytes : Int) : ∀ (xs : List ((Nat × Slc) × Nat)) (cs : List (Slc × Bool)), (xs.foldl (onC keep torn bytes) cs).map (fun x => (x.1.2.2, x.2)) =
    (xs.map fun x => ((x.1.1, x.1.2.2.2), x.2)).foldl (onStep keep torn bytes) (cs.map fun x => (x.1.2.2, x.2))
  | [], cs => rfl
  | x :: xs, cs => by
    rw [List.foldl_cons, on_onC keep torn bytes xs, List.map_cons, List.foldl_cons]
    congr 1
    unfold onC onStep
    dsimp only
    split
    · rw [List.map_set]
    · split
      · exact lay_layC cs x.1
      · rfl
theorem zip_map (ps : List (Nat × Slc)) : (ps.zipIdx).map (fun x => ((x.1.1, x.1.2.2.2), x.2)) = (ps.map fun x => (x.1, x.2.2.2)).zipIdx := by
  rw [List.zipIdx_map]
  rfl
theorem zip_take {α : Type} (ps : List α) (k : Nat) (h : k < ps.length) : ps.zipIdx.take (k + 1) = ps.zipIdx.take k ++ [(ps[k], k)] := by
  rw [List.take_succ_eq_append_getElem (by simpa using h)]
  simp
set_option maxHeartbeats 2000000 in
theorem on_any (d : Nat) (D : Dk) (Kp : Option Addr) (kc : Nat) (keep : List Bool) (torn bytes : Int) (w0 w : World) (F : SP) (h : Sat w0 (Disk d D * (Ro Kp (keep.map Value.bool) * F)) w) (hw2 : D.pend.length ≤ 1000000000) (hkc : keep.length ≤ 9223372036854775807) :
    Calls Try.prog 22 #[.pointer (some ⟨d, 0, none⟩), .slice Kp keep.length kc, .int .i64 torn, .int .i64 bytes] w fun e w' => e = .returned (.tuple #[]) ∧ Sat w0 (Disk d (D.on keep torn bytes) * (Ro Kp (keep.map Value.bool) * F)) w' := by
  have HH := Lib.hid h
  by_cases ho : D.off = true
  · have HP : Hid (D.on keep torn bytes = ⟨onAll keep torn bytes D.cells D.pend, [], 0, D.writes, false⟩) := by unfold Hid Dk.on; rw [if_pos ho]
    obtain ⟨C, cc, M, nm, vp, cs, ps, hr, hn, hs⟩ := h.disk
    have hc5 := hs.head.c5
    have hc1 := hs.head.c1
    rw [ho] at hc5
    have hpl : D.pend.length = ps.length := by rw [hr.pend]; simp
    rw [hpl] at hw2
    obtain ⟨A1, c1, rfl, hle, hmx⟩ := (hs.of disk_d).up3.row_sl
    have HS := Lib.hid hs
    have HR := Lib.hid hr
    have HN := Lib.hid hn
    unfold maxLen at hmx
    clear ho hr hn hs h hpl
    go_enter Try.func22, Try.ntmps22
    go_wp2_with fail
    go_loopw [8, 20] (fun _ i wr => ∃ k : Nat, k ≤ ps.length ∧ i = .int .i64 k ∧ Hid (Cok cs ((ps.zipIdx.take k).foldl (onC keep torn bytes) cs) ps ∧ Sat w0 (DiskC d C cc M nm (.slice A1 ps.length c1) ((ps.zipIdx.take k).foldl (onC keep torn bytes) cs) ps D.armed D.writes D.off * (Ro Kp (keep.map Value.bool) * F)) wr)) (fun _ i _ => ps.length - (intOf i).toNat)
    case atStart => exact ⟨0, by omega, rfl, ⟨rfl, HR.out.fitc⟩, HS.out⟩
    case round =>
      obtain ⟨k, hk, rfl, HD⟩ := hrel
      by_cases hlt : k < ps.length
      · obtain ⟨g, rfl, hg⟩ := (HD.out.2.of disk_d).up3.row_at (by omega)
        have q0 := hg (k * 2) (by rw [flat2_len (fun _ => rfl)]; omega)
        have q1 := hg (k * 2 + 1) (by rw [flat2_len (fun _ => rfl)]; omega)
        have e0 : (ps.flatMap pendV)[k * 2]'(by rw [flat2_len (fun _ => rfl)]; omega) = .int .i64 ps[k].1 := by
          have := flat2 (f := pendV) (fun _ => rfl) ps k 0 hlt (by omega)
          exact Option.some.inj ((List.getElem?_eq_getElem _).symm.trans this)
        have e1 : (ps.flatMap pendV)[k * 2 + 1]'(by rw [flat2_len (fun _ => rfl)]; omega) = slv ps[k].2 := by
          have := flat2 (f := pendV) (fun _ => rfl) ps k 1 hlt (by omega)
          exact Option.some.inj ((List.getElem?_eq_getElem _).symm.trans this)
        rw [e0] at q0
        rw [e1] at q1
        have hfp := HR.out.fitp ps[k] (List.getElem_mem hlt)
        have HT : Hid ((ps.zipIdx.take (k + 1)).foldl (onC keep torn bytes) cs = onC keep torn bytes ((ps.zipIdx.take k).foldl (onC keep torn bytes) cs) (ps[k], k)) := by
          rw [zip_take ps k hlt, List.foldl_append]; rfl
        have HM := Lib.hid (List.getElem_mem hlt)
        have hat : ps[k].1 < cs.length := hfp.2.2
        have HF := Lib.hid hfp
        clear hg e0 e1 hfp
        generalize ps[k] = p at *
        obtain ⟨a, As, cz, ls⟩ := p
        simp only [slv] at q0 q1 hat
        generalize (ps.zipIdx.take k).foldl (onC keep torn bytes) cs = cs1 at *
        have h2 := HD.out.2.allocPt 117 #[.int .i64 a, .slice As ls.length cz]
        have hlc : cs1.length = cs.length := HD.out.1.len
        have HS2 := Lib.hid h2
        clear h2
        rw [← hlc] at hat
        clear hlc
        have hki : (k : Int) ≤ 1000000000 := by omega
        go_upto_region 4 with fail
        obtain ⟨w2, hw2'⟩ : ∃ w2, w2 = wr.alloc (.cells #[.int .i64 a, .slice As ls.length cz] 117) := ⟨_, rfl⟩
        obtain ⟨b, hb⟩ : ∃ b, b = wr.heap.size := ⟨_, rfl⟩
        rw [← hw2', ← hb] at HS2
        rw [← hw2', ← hb]
        clear hw2' hb q0 q1
        go_cut [25] (fun s wx => s = .bool (tornB torn bytes k) ∧ Hid (wx = w2))
        case first =>
          by_cases g1 : (k : Int) = torn
          · have g1' : ((k : Int) == torn) = true := by rw [beq_iff_eq]; exact g1
            by_cases g2 : 1 ≤ bytes
            · by_cases g3 : bytes < 512
              · have e : tornB torn bytes k = true := by unfold tornB; exact decide_eq_true ⟨g1, g2, g3⟩
                have E := Lib.hid e
                clear e g1
                go_wp2_with fail
                go_meet
                exact ⟨by rw [E.out], rfl⟩
              · have e : tornB torn bytes k = false := by unfold tornB; exact decide_eq_false fun h => g3 h.2.2
                have E := Lib.hid e
                clear e g1
                go_wp2_with fail
                go_meet
                exact ⟨by rw [E.out], rfl⟩
            · have e : tornB torn bytes k = false := by unfold tornB; exact decide_eq_false fun h => g2 h.2.1
              have E := Lib.hid e
              clear e g1
              go_wp2_with fail
              go_meet
              exact ⟨by rw [E.out], rfl⟩
          · have g1' : ((k : Int) == torn) = false := by rw [beq_eq_false_iff_ne]; exact g1
            have e : tornB torn bytes k = false := by unfold tornB; exact decide_eq_false fun h => g1 h.1
            have E := Lib.hid e
            clear e g1
            go_wp2_with fail
            go_meet
            exact ⟨by rw [E.out], rfl⟩
        case rest =>
          obtain ⟨rfl, HW⟩ := hcut
          have hw := HW.out
          subst hw
          have q2 := HS2.out.cell 0
          have q3 := HS2.out.cell 1
          have q4 := HS2.out.right.head.c0
          have q5 := HS2.out.right.cellsFree (a * 2)
          have q6 := HS2.out.right.cellsFree (a * 2 + 1)
          obtain ⟨q7, q8⟩ := HS2.out.right.cellsAt hat
          cases ht : tornB torn bytes k with
          | true =>
            have HTT := Lib.hid ht
            clear ht
            go_wp2_with fail
            go_region
            go_wp2_with fail
            go_roundw
            case rel =>
              refine ⟨k + 1, by omega, by go_num, ?_⟩
              rw [HT.out, onC]
              dsimp only
              rw [if_pos HTT.out]
              exact ⟨HD.out.1.put ⟨⟨fun _ => ⟨rfl, rfl⟩, fun _ => rfl, Nat.le_refl _, by show (0:Nat) ≤ _; omega⟩, .inl rfl⟩, (HS2.out.right.setCellD a ((none, 0, []), true) hat (.inr rfl)).drew⟩
            case measure => simp [intOf]; omega
          | false =>
            have HTT := Lib.hid ht
            clear ht
            have HK : Hid (∀ hk : k < keep.length, ∃ b o, Kp = some ⟨b, o, none⟩ ∧ wc.cell? ⟨b, o + k, none⟩ = some (.bool keep[k])) := fun hk => by
              have h1 := HS2.out.right.up2.rdv.get (j := k) (by simpa using hk)
              obtain ⟨b, o, e, hc⟩ := h1
              exact ⟨b, o, e, by rw [hc]; simp⟩
            by_cases g1 : k < keep.length
            · obtain ⟨bk, ok, rfl, hck⟩ := HK.out g1
              have HB : Hid (keepB keep k = keep[k]) := by unfold Hid keepB; rw [List.getElem?_eq_getElem g1]; rfl
              have g1' : (k : Int) < keep.length := by omega
              cases hkk : keep[k] with
              | true =>
                rw [hkk] at hck HB
                clear hkk
                go_wp2_with fail
                go_region
                go_wp2_with fail
                go_roundw
                case rel =>
                  refine ⟨k + 1, by omega, by go_num, ?_⟩
                  rw [HT.out, onC]
                  dsimp only
                  rw [if_neg (by rw [HTT.out]; decide), if_pos HB.out]
                  exact ⟨HD.out.1.put ⟨HF.out.1, .inr HF.out.2.1⟩, (HS2.out.right.setCellD a ((As, cz, ls), false) hat (.inl (List.mem_map_of_mem (f := Prod.snd) HM.out))).drew⟩
                case measure => simp [intOf]; omega
              | false =>
                rw [hkk] at hck HB
                clear hkk
                go_wp2_with fail
                go_roundw
                case rel =>
                  refine ⟨k + 1, by omega, by go_num, ?_⟩
                  rw [HT.out, onC]
                  dsimp only
                  rw [if_neg (by rw [HTT.out]; decide), if_neg (by rw [HB.out]; decide)]
                  exact ⟨HD.out.1, HS2.out.right⟩
                case measure => simp [intOf]; omega
            · have HB : Hid (keepB keep k = false) := by unfold Hid keepB; rw [List.getElem?_eq_none (by omega)]; rfl
              have g1' : ¬ (k : Int) < keep.length := by omega
              go_wp2_with fail
              go_roundw
              case rel =>
                refine ⟨k + 1, by omega, by go_num, ?_⟩
                rw [HT.out, onC]
                dsimp only
                rw [if_neg (by rw [HTT.out]; decide), if_neg (by rw [HB.out]; decide)]
                exact ⟨HD.out.1, HS2.out.right⟩
              case measure => simp [intOf]; omega
      · have ht : ps.zipIdx.take k = ps.zipIdx := List.take_of_length_le (by simp; omega)
        rw [ht] at HD
        clear ht
        have HE : Hid (Sat w0 (Disk d ⟨onAll keep torn bytes D.cells D.pend, D.pend, D.armed, D.writes, D.off⟩ * (Ro Kp (keep.map Value.bool) * F)) wr) := by
          refine Sat.diskI (D := ⟨onAll keep torn bytes D.cells D.pend, D.pend, D.armed, D.writes, D.off⟩) HD.out.2 ⟨?_, HR.out.pend, HD.out.1.fitc, ?_, ?_, ?_⟩ HN.out
          · show onAll keep torn bytes D.cells D.pend = _
            rw [HR.out.cells, HR.out.pend, on_onC, zip_map]; rfl
          · rw [HD.out.1.len]; exact HR.out.fitp
          · rw [HD.out.1.len]; exact HR.out.two
          · rw [HD.out.1.len]; exact HR.out.most
        go_wp2_with fail
        refine (settled_any d _ w0 wr _ HE.out).mono ?_
        rintro e w' ⟨rfl, hs⟩
        obtain ⟨C', cc', M', nm', vp', cs', ps', hr', hn', hs'⟩ := hs.disk
        have q1 := hs'.head.c3
        have q2 := hs'.head.c5
        have f1 := hs'.headF 3
        have f2 := hs'.headF 5
        have HS' := Lib.hid hs'
        have HR' := Lib.hid hr'
        have HN' := Lib.hid hn'
        clear hs hs' hr' hn'
        go_wp2_with fail
        go_end0
        refine ⟨rfl, ?_⟩
        rw [HP.out]
        exact Sat.diskI (D := ⟨onAll keep torn bytes D.cells D.pend, [], 0, D.writes, false⟩) ((HS'.out.setArmed 0 rfl).setOff false) ⟨HR'.out.cells, HR'.out.pend, HR'.out.fitc, HR'.out.fitp, HR'.out.two, HR'.out.most⟩ HN'.out
  · have ho' : D.off = false := by simpa using ho
    have HP : Hid (D.on keep torn bytes = D) := by unfold Hid Dk.on; rw [if_neg ho]
    obtain ⟨C, cc, M, nm, vp, cs, ps, hr, hn, hs⟩ := h.disk
    have hc5 := hs.head.c5
    rw [ho'] at hc5
    clear ho ho' hr hn hs h
    go_enter Try.func22, Try.ntmps22
    go_wp2_with fail
    refine bodyPost_ret (results_none rfl _ _ _) rfl ?_
    refine ⟨rfl, ?_⟩
    rw [HP.out]
    exact HH.out
end Go.Proofs.Ytjmapbhgjhlefaa
namespace Go.Proofs.Ytjmapbhgjhlefaa
open Go.RowKit
set_option linter.unusedVariables false
set_option maxRecDepth 100000

/-- What a block reads as that holds this. -/
def valC (x : List UInt8 × Bool) : List UInt8 × Int := if x.2 then ([], 24) else if x.1 = [] then (List.replicate 512 0, 0) else (x.1, 0)
structure WfD (D : Dk) : Prop where
  pend : ∀ x ∈ D.pend, x.1 < D.cells.length ∧ x.2.length = 512
/-- What a block may read as, now or behind a crash. -/
def May (D : Dk) (i : Nat) (r : List UInt8 × Int) : Prop := (∃ x, D.cells[i]? = some x ∧ r = valC x) ∨ ∃ b, (i, b) ∈ D.pend ∧ (r = (b, 0) ∨ r = ([], 24))
theorem dk_ask (D : Dk) (i : Nat) (h : D.off = false) (hi : i < D.cells.length) : D.ask i = 0 := by
  unfold Dk.ask
  rw [h, if_neg (by simp), if_pos (by omega)]
theorem read_last (D : Dk) (i : Nat) (h : D.off = false) (hi : i < D.cells.length) {b : List UInt8} (hb : D.last i = some b) : D.read i = (b, 0) := by
  unfold Dk.read
  rw [if_pos (dk_ask D i h hi), hb]
theorem read_cell (D : Dk) (i : Nat) (h : D.off = false) (hi : i < D.cells.length) (hb : D.last i = none) : D.read i = valC D.cells[i] := by
  unfold Dk.read
  rw [if_pos (dk_ask D i h hi), hb, Int.toNat_natCast, List.getElem?_eq_getElem hi]
  rfl
theorem last_mem (D : Dk) (i : Nat) {b : List UInt8} (hb : D.last i = some b) : (i, b) ∈ D.pend := by
  unfold Dk.last at hb
  obtain ⟨x, h1, h2⟩ := Option.map_eq_some_iff.1 hb
  have h3 := List.mem_reverse.1 (List.mem_of_find?_eq_some h1)
  have h4 := List.find?_some h1
  have h5 : x.1 = i := by
    have : ((x.1 : Nat) : Int) = (i : Int) := by simpa using h4
    omega
  obtain ⟨a, c⟩ := x
  simp only at h2 h5
  subst h2; subst h5
  exact h3
theorem may_read (D : Dk) (i : Nat) (h : D.off = false) (hi : i < D.cells.length) : May D i (D.read i) := by
  cases hb : D.last i with
  | none => rw [read_cell D i h hi hb]; exact .inl ⟨_, List.getElem?_eq_getElem hi, rfl⟩
  | some b => rw [read_last D i h hi hb]; exact .inr ⟨b, last_mem D i hb, .inl rfl⟩
theorem last_nil (D : Dk) (h : D.pend = []) (i : Int) : D.last i = none := by unfold Dk.last; rw [h]; rfl
/-- With nothing pending a block may be what it reads as, and no more. -/
theorem may_nil (D : Dk) (i : Nat) (hp : D.pend = []) (h : D.off = false) (hi : i < D.cells.length) {r : List UInt8 × Int} (hr : May D i r) : r = D.read i := by
  rcases hr with ⟨x, h1, h2⟩ | ⟨b, h1, _⟩
  · rw [read_cell D i h hi (last_nil D hp i), h2]
    rw [List.getElem?_eq_getElem hi] at h1
    injection h1 with h1
    rw [h1]
  · rw [hp] at h1; cases h1
theorem read_off (D : Dk) (i : Int) (h : D.off = true) : D.read i = ([], 21) := by
  have : D.ask i = 21 := by unfold Dk.ask; rw [h]; rfl
  unfold Dk.read
  rw [this]
  rfl
/-- A write that is taken. -/
theorem write_took (D : Dk) (i : Nat) (b : List UInt8) (h : D.off = false) (hi : i < D.cells.length) (hb : b.length = 512) : D.write i b = (D.took i b, if D.armed = 1 then 21 else 0) := by
  unfold Dk.write
  rw [if_pos (dk_ask D i h hi), if_pos hb, Int.toNat_natCast]
theorem took_last (D : Dk) (i j : Nat) (b : List UInt8) : (D.took i b).last j = if j = i then some b else D.last j := by
  unfold Dk.last Dk.took
  simp only [List.reverse_append, List.reverse_cons, List.reverse_nil, List.nil_append, List.singleton_append, List.find?_cons]
  by_cases h : j = i
  · subst h; simp
  · have h2 : (((i : Nat) : Int) == (j : Int)) = false := by simp; omega
    rw [h2, if_neg h]
theorem took_may (D : Dk) (i j : Nat) (b : List UInt8) {r : List UInt8 × Int} (hr : May (D.took i b) j r) : May D j r ∨ (j = i ∧ (r = (b, 0) ∨ r = ([], 24))) := by
  rcases hr with ⟨x, h1, h2⟩ | ⟨c, h1, h2⟩
  · exact .inl (.inl ⟨x, h1, h2⟩)
  · rcases List.mem_append.1 h1 with h3 | h3
    · exact .inl (.inr ⟨c, h3, h2⟩)
    · rw [List.mem_singleton] at h3
      injection h3 with h4 h5
      subst h5
      exact .inr ⟨h4, h2⟩
theorem took_read (D : Dk) (i j : Nat) (b : List UInt8) (h : (D.took i b).off = false) (h0 : D.off = false) (hj : j < D.cells.length) : (D.took i b).read j = if j = i then (b, 0) else D.read j := by
  have hj' : j < (D.took i b).cells.length := hj
  by_cases e : j = i
  · rw [if_pos e]
    exact read_last _ j h hj' (by rw [took_last, if_pos e])
  · rw [if_neg e]
    cases hl : D.last j with
    | none =>
      rw [read_cell D j h0 hj hl]
      exact read_cell _ j h hj' (by rw [took_last, if_neg e]; exact hl)
    | some c =>
      rw [read_last D j h0 hj hl]
      exact read_last _ j h hj' (by rw [took_last, if_neg e]; exact hl)
theorem took_wf {D : Dk} (hw : WfD D) {i : Nat} {b : List UInt8} (hi : i < D.cells.length) (hb : b.length = 512) : WfD (D.took i b) :=
  ⟨fun x hx => by
    rcases List.mem_append.1 hx with h | h
    · exact hw.pend x h
    · rw [List.mem_singleton] at h; subst h; exact ⟨hi, hb⟩⟩
/-! Flush. -/
theorem lay_len (ps : List (Nat × List UInt8)) : ∀ cells : List (List UInt8 × Bool), (ps.foldl lay cells).length = cells.length := by
  induction ps with
  | nil => intro _; rfl
  | cons p ps ih => intro cells; rw [List.foldl_cons, ih]; unfold lay; rw [List.length_set]
theorem lay_get : ∀ (ps : List (Nat × List UInt8)) (cells : List (List UInt8 × Bool)) (i : Nat) (hi : i < cells.length),
    (ps.foldl lay cells)[i]? = match (ps.reverse.find? fun x => ((x.1 : Nat) : Int) == (i : Int)) with | some x => some (x.2, false) | none => cells[i]?
  | [], cells, i, hi => rfl
  | p :: ps, cells, i, hi => by
    rw [List.foldl_cons, lay_get ps (lay cells p) i (by unfold lay; rw [List.length_set]; exact hi), List.reverse_cons, List.find?_append]
    cases hf : (ps.reverse.find? fun x => ((x.1 : Nat) : Int) == (i : Int)) with
    | some x => rfl
    | none =>
      simp only [Option.none_or, List.find?_cons, List.find?_nil]
      unfold lay
      by_cases e : p.1 = i
      · subst e
        simp [hi]
      · have h2 : (((p.1 : Nat) : Int) == (i : Int)) = false := by simp; omega
        rw [h2, List.getElem?_set_ne e]
theorem flush_on (D : Dk) (h : D.off = false) : D.flush = ({ D with cells := D.pend.foldl lay D.cells, pend := [] }, 0) := by unfold Dk.flush; rw [h]; rfl
theorem flush_read (D : Dk) (hw : WfD D) (h : D.off = false) (i : Nat) (hi : i < D.cells.length) : (D.flush.1).read i = D.read i := by
  rw [flush_on D h]
  have hl := lay_len D.pend D.cells
  have h2 := read_cell ({ D with cells := D.pend.foldl lay D.cells, pend := [] } : Dk) i h (by simp only [hl]; exact hi) (last_nil _ rfl i)
  rw [h2]
  have h3 := lay_get D.pend D.cells i hi
  have h4 : (D.pend.foldl lay D.cells)[i]? = some ((D.pend.foldl lay D.cells)[i]'(by rw [hl]; exact hi)) := List.getElem?_eq_getElem _
  rw [h4] at h3
  cases hb : D.last i with
  | none =>
    rw [read_cell D i h hi hb]
    unfold Dk.last at hb
    rw [Option.map_eq_none_iff] at hb
    rw [hb] at h3
    simp only [List.getElem?_eq_getElem hi] at h3
    injection h3 with h3
    rw [← h3]
  | some b =>
    rw [read_last D i h hi hb]
    have hm := (hw.pend _ (last_mem D i hb)).2
    unfold Dk.last at hb
    obtain ⟨x, h5, h6⟩ := Option.map_eq_some_iff.1 hb
    rw [h5] at h3
    simp only at h3
    injection h3 with h3
    show valC ((D.pend.foldl lay D.cells)[i]'_) = _
    rw [h3, h6]
    unfold valC
    simp only [Bool.false_eq_true, if_false]
    rw [if_neg (by intro e; simp only at hm; rw [e] at hm; simp at hm)]
/-! A crash. -/
theorem onStep_len (keep : List Bool) (torn bytes : Int) (cells : List (List UInt8 × Bool)) (x : (Nat × List UInt8) × Nat) : (onStep keep torn bytes cells x).length = cells.length := by
  unfold onStep lay
  split
  · rw [List.length_set]
  · split
    · rw [List.length_set]
    · rfl
theorem onAll_get (keep : List Bool) (torn bytes : Int) : ∀ (xs : List ((Nat × List UInt8) × Nat)) (cells : List (List UInt8 × Bool)) (i : Nat) (x : List UInt8 × Bool), (xs.foldl (onStep keep torn bytes) cells)[i]? = some x →
    cells[i]? = some x ∨ ∃ b k, ((i, b), k) ∈ xs ∧ (x = (b, false) ∨ x = ([], true))
  | [], cells, i, x, h => .inl h
  | p :: ps, cells, i, x, h => by
    rw [List.foldl_cons] at h
    rcases onAll_get keep torn bytes ps _ i x h with h1 | ⟨b, k, h1, h2⟩
    · unfold onStep lay at h1
      split at h1
      · by_cases e : p.1.1 = i
        · subst e
          rw [List.getElem?_set] at h1
          split at h1
          · split at h1
            · injection h1 with h1
              exact .inr ⟨p.1.2, p.2, by simp, .inr h1.symm⟩
            · cases h1
          · exact .inl h1
        · rw [List.getElem?_set_ne e] at h1; exact .inl h1
      · split at h1
        · by_cases e : p.1.1 = i
          · subst e
            rw [List.getElem?_set] at h1
            split at h1
            · split at h1
              · injection h1 with h1
                exact .inr ⟨p.1.2, p.2, by simp, .inl h1.symm⟩
              · cases h1
            · exact .inl h1
          · rw [List.getElem?_set_ne e] at h1; exact .inl h1
        · exact .inl h1
    · exact .inr ⟨b, k, List.mem_cons_of_mem _ h1, h2⟩
theorem onAll_len (keep : List Bool) (torn bytes : Int) : ∀ (xs : List ((Nat × List UInt8) × Nat)) (cells : List (List UInt8 × Bool)), (xs.foldl (onStep keep torn bytes) cells).length = cells.length
  | [], cells => rfl
  | p :: ps, cells => by rw [List.foldl_cons, onAll_len keep torn bytes ps, onStep_len]
/-- Power goes off and comes on. -/
def Dk.crash (D : Dk) (keep : List Bool) (torn bytes : Int) : Dk := ({ D with off := true } : Dk).on keep torn bytes
section
variable {D : Dk} {keep : List Bool} {torn bytes : Int}
theorem crash_eq : D.crash keep torn bytes = ⟨onAll keep torn bytes D.cells D.pend, [], 0, D.writes, false⟩ := rfl
theorem crash_len : (D.crash keep torn bytes).cells.length = D.cells.length := by rw [crash_eq]; exact onAll_len keep torn bytes _ _
theorem crash_pend : (D.crash keep torn bytes).pend = [] := rfl
theorem crash_off : (D.crash keep torn bytes).off = false := rfl
theorem crash_wf : WfD (D.crash keep torn bytes) := ⟨fun x hx => by rw [crash_pend] at hx; cases hx⟩
theorem crash_may (hw : WfD D) (i : Nat) (hi : i < D.cells.length) : May D i ((D.crash keep torn bytes).read i) := by
  have hl : i < (D.crash keep torn bytes).cells.length := by rw [crash_len]; exact hi
  rw [read_cell _ i crash_off hl (last_nil _ crash_pend i)]
  have h1 : (D.crash keep torn bytes).cells[i]? = some ((D.crash keep torn bytes).cells[i]'hl) := List.getElem?_eq_getElem hl
  obtain ⟨x, hx⟩ : ∃ x, x = (D.crash keep torn bytes).cells[i]'hl := ⟨_, rfl⟩
  rw [← hx] at h1 ⊢
  rcases onAll_get keep torn bytes D.pend.zipIdx D.cells i x h1 with h2 | ⟨b, k, h2, h3⟩
  · exact .inl ⟨x, h2, rfl⟩
  · have hm : (i, b) ∈ D.pend := List.mem_of_getElem? (List.mem_zipIdx_iff_getElem?.1 h2)
    refine .inr ⟨b, hm, ?_⟩
    rcases h3 with rfl | rfl
    · left
      have := (hw.pend _ hm).2
      unfold valC
      simp only [Bool.false_eq_true, if_false]
      rw [if_neg (by intro e; simp only at this; rw [e] at this; simp at this)]
    · right; rfl
end
end Go.Proofs.Ytjmapbhgjhlefaa
namespace Go.Proofs.Ytjmapbhgjhlefaa
open Go.RowKit
set_option linter.unusedVariables false
set_option maxRecDepth 100000

theorem padB_len {l : List UInt8} (h : l.length ≤ 512) : (padB l).length = 512 := by unfold padB; rw [List.length_append, List.length_replicate]; omega
theorem hdB_len (h : Hd) : (hdB h).length = 20 := by unfold hdB; simp only [List.length_append, putB_len]
theorem heads_len : ∀ hs : List Hd, (hs.map hdB).flatten.length = 20 * hs.length
  | [] => rfl
  | h :: hs => by rw [List.map_cons, List.flatten_cons, List.length_append, hdB_len, heads_len hs, List.length_cons]; omega
theorem headB_len (turn : Nat) (hs : List Hd) : (headB turn hs).length = 13 + 20 * hs.length := by
  unfold headB
  simp only [List.length_append, putB_len, heads_len]
  show 4 + _ = _
  omega
theorem sealB_len {turn : Nat} {hs : List Hd} (h : hs.length ≤ 24) : (sealB turn hs).length = 512 := padB_len (by rw [headB_len]; omega)
theorem frame_len {birth life : Nat} {p : List UInt8} (h : p.length ≤ 480) : (frameB birth life p).length = 512 := padB_len (by simp only [List.length_append, putB_len]; omega)
def HdOk (h : Hd) : Prop := h.num < 4294967296 ∧ h.first < 4294967296 ∧ h.blocks < 4294967296 ∧ h.birth < 18446744073709551616
theorem get4 {x : Nat} (h : x < 4294967296) : getN (putB x 4) = x := by rw [get_put]; exact Nat.mod_eq_of_lt h
theorem get8 {x : Nat} (h : x < 18446744073709551616) : getN (putB x 8) = x := by rw [get_put]; exact Nat.mod_eq_of_lt h
theorem get2 {x : Nat} (h : x < 65536) : getN (putB x 2) = x := by rw [get_put]; exact Nat.mod_eq_of_lt h
theorem hdOf_hdB {h : Hd} (ho : HdOk h) (r : List UInt8) : hdOf (hdB h ++ r) = h := by
  obtain ⟨n, f, b, i⟩ := h
  obtain ⟨h1, h2, h3, h4⟩ := ho
  unfold hdOf hdB
  have l1 := putB_len n 4; have l2 := putB_len f 4; have l3 := putB_len b 4; have l4 := putB_len i 8
  simp only [List.append_assoc]
  have e4 : (putB n 4 ++ (putB f 4 ++ (putB b 4 ++ (putB i 8 ++ r)))).drop 4 = putB f 4 ++ (putB b 4 ++ (putB i 8 ++ r)) := List.drop_left' l1
  have e8 : (putB n 4 ++ (putB f 4 ++ (putB b 4 ++ (putB i 8 ++ r)))).drop 8 = putB b 4 ++ (putB i 8 ++ r) := by
    rw [show (8 : Nat) = 4 + 4 from rfl, ← List.drop_drop, e4]; exact List.drop_left' l2
  have e12 : (putB n 4 ++ (putB f 4 ++ (putB b 4 ++ (putB i 8 ++ r)))).drop 12 = putB i 8 ++ r := by
    rw [show (12 : Nat) = 8 + 4 from rfl, ← List.drop_drop, e8]; exact List.drop_left' l3
  rw [e4, e8, e12, List.take_left' l1, List.take_left' l2, List.take_left' l3, List.take_left' l4, get4 h1, get4 h2, get4 h3, get8 h4]
theorem rowsH_seal : ∀ (hs : List Hd) (r : List UInt8), (∀ h ∈ hs, HdOk h) → rowsH hs.length ((hs.map hdB).flatten ++ r) = hs
  | [], r, _ => rfl
  | h :: hs, r, ho => by
    rw [List.map_cons, List.flatten_cons, List.append_assoc, List.length_cons]
    unfold rowsH
    rw [hdOf_hdB (ho h (by simp)), List.drop_left' (hdB_len h), rowsH_seal hs r (fun x hx => ho x (List.mem_cons_of_mem _ hx))]
theorem put1 {n : Nat} (h : n < 256) : putB n 1 = [UInt8.ofNat n] := by
  show [byteAt n 1 0] = _
  unfold byteAt
  simp only [Nat.sub_self, Nat.pow_zero, Nat.div_one, Nat.mod_eq_of_lt h]
theorem unseal_seal {turn : Nat} {hs : List Hd} (ht : turn < 18446744073709551616) (hn : hs.length ≤ 24) (ho : ∀ h ∈ hs, HdOk h) : unsealB (sealB turn hs) = some (turn, hs) := by
  obtain ⟨z, hz⟩ : ∃ z, z = List.replicate (512 - (headB turn hs).length) (0 : UInt8) := ⟨_, rfl⟩
  obtain ⟨R, hR⟩ : ∃ R, R = (hs.map hdB).flatten := ⟨_, rfl⟩
  have e : sealB turn hs = markX ++ (putB turn 8 ++ (UInt8.ofNat hs.length :: (R ++ z))) := by
    unfold sealB padB
    rw [← hz]
    unfold headB
    rw [put1 (by omega), ← hR]
    simp only [List.append_assoc, List.cons_append, List.nil_append]
  have l8 := putB_len turn 8
  have d4 : (sealB turn hs).drop 4 = putB turn 8 ++ (UInt8.ofNat hs.length :: (R ++ z)) := by rw [e]; rfl
  have d12 : (sealB turn hs).drop 12 = UInt8.ofNat hs.length :: (R ++ z) := by
    rw [show (12 : Nat) = 4 + 8 from rfl, ← List.drop_drop, d4]; exact List.drop_left' l8
  have d13 : (sealB turn hs).drop 13 = R ++ z := by rw [show (13 : Nat) = 12 + 1 from rfl, ← List.drop_drop, d12]; rfl
  have g12 : (sealB turn hs).getD 12 0 = UInt8.ofNat hs.length := by
    have h9 : (sealB turn hs)[12]? = ((sealB turn hs).drop 12)[0]? := by rw [List.getElem?_drop]
    rw [List.getD_eq_getElem?_getD, h9, d12]
    rfl
  have gn : ((sealB turn hs).getD 12 0).toNat = hs.length := by rw [g12, UInt8.toNat_ofNat', Nat.mod_eq_of_lt (by omega)]
  unfold unsealB
  rw [gn, d4, d13, List.take_left' l8, get8 ht, hR, rowsH_seal hs z ho, if_pos ⟨by rw [e]; rfl, hn⟩]
theorem frame_parts {birth life : Nat} {p : List UInt8} (hb : birth < 18446744073709551616) (hl : life < 18446744073709551616) (hp : p.length ≤ 480) :
    (frameB birth life p).take 8 = putB birth 8 ∧ ((frameB birth life p).drop 8).take 8 = putB life 8 ∧ ((frameB birth life p).drop 16).take 2 = putB p.length 2 ∧ ((frameB birth life p).drop 18).take p.length = p := by
  obtain ⟨z, hz⟩ : ∃ z, z = List.replicate (512 - (putB birth 8 ++ (putB life 8 ++ (putB p.length 2 ++ p))).length) (0 : UInt8) := ⟨_, rfl⟩
  have e : frameB birth life p = putB birth 8 ++ (putB life 8 ++ (putB p.length 2 ++ (p ++ z))) := by
    unfold frameB padB
    rw [← hz]
    simp only [List.append_assoc]
  have l1 := putB_len birth 8; have l2 := putB_len life 8; have l3 := putB_len p.length 2
  have d8 : (frameB birth life p).drop 8 = putB life 8 ++ (putB p.length 2 ++ (p ++ z)) := by rw [e]; exact List.drop_left' l1
  have d16 : (frameB birth life p).drop 16 = putB p.length 2 ++ (p ++ z) := by rw [show (16 : Nat) = 8 + 8 from rfl, ← List.drop_drop, d8]; exact List.drop_left' l2
  have d18 : (frameB birth life p).drop 18 = p ++ z := by rw [show (18 : Nat) = 16 + 2 from rfl, ← List.drop_drop, d16]; exact List.drop_left' l3
  exact ⟨by rw [e]; exact List.take_left' l1, by rw [d8]; exact List.take_left' l2, by rw [d16]; exact List.take_left' l3, by rw [d18]; exact List.take_left' rfl⟩
section
variable {birth life : Nat} {p : List UInt8} (hb : birth < 18446744073709551616) (hl : life < 18446744073709551616) (hp : p.length ≤ 480)
include hb hl hp
theorem frame_birth : getN ((frameB birth life p).take 8) = birth := by rw [(frame_parts hb hl hp).1, get8 hb]
theorem frame_good : goodB birth (frameB birth life p) = true := by
  unfold goodB
  rw [frame_birth hb hl hp, (frame_parts hb hl hp).2.2.1, get2 (by omega)]
  exact decide_eq_true ⟨rfl, hp⟩
theorem frame_life : lifeB (frameB birth life p) = life := by unfold lifeB; rw [(frame_parts hb hl hp).2.1, get8 hl]
theorem frame_body : bodyX (frameB birth life p) = p := by unfold bodyX; rw [(frame_parts hb hl hp).2.2.1, get2 (by omega)]; exact (frame_parts hb hl hp).2.2.2
end
theorem zero_birth : getN ((List.replicate 512 (0 : UInt8)).take 8) = 0 := by decide
end Go.Proofs.Ytjmapbhgjhlefaa
