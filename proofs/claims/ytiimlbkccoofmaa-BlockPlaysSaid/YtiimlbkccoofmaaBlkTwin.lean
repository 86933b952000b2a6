/- The disk: Twin. -/
import Derived.Test.YtiimlbkccoofmaaBlk6
import Derived.Maps.RangeWalk
namespace Go.Proofs.Ytiimlbkccoofmaa
open Go.RowKit
set_option linter.unusedVariables false

theorem Sat.row_rdvT {w0 w : World} {F : SP} {e : TypeId} {size n : Nat} {A : Option Addr} {c : Nat} {xs : List Value} (h : Sat w0 (Row e size (.slice A n c) n xs * F) w) : RdV w A xs := fun hx => by
  have hl := h.row_cases.1
  have hn : 0 < n := by
    rcases Nat.eq_zero_or_pos n with h0 | h0
    · subst h0; rw [Nat.zero_mul] at hl; exact absurd (List.eq_nil_of_length_eq_zero hl) hx
    · exact h0
  obtain ⟨g, e1, hg⟩ := h.row_at hn
  exact ⟨g, 0, e1, fun j hj => by rw [Nat.zero_add]; exact hg j hj⟩
theorem Sat.litRow {w0 w : World} {F : SP} (h : Sat w0 F w) (e : TypeId) (size : Nat) : Sat w0 (Row e size (.slice (some ⟨w.heap.size, 0, none⟩) 0 0) 0 [] * F) (w.alloc (.cells #[] e)) := by
  have h1 := (h.allocPt e #[]).row_pt (n := 0) (cap := 0) (size := size) (Nat.le_refl _) (Nat.zero_le _) (by simp)
  have e : (#[] : Array Value).toList.take (0 * size) = [] := by simp
  rwa [e] at h1
def CopyD (e : TypeId) (n : Nat) (xs : List Value) (w0 : World) (F : SP) (x : Ending) (w' : World) : Prop := ∃ A c, x = .returned (.slice A n c) ∧ Sat w0 (Row e 2 (.slice A n c) n xs * F) w' ∧ (A = none → n = 0)
theorem cloneCells_any (A : Option Addr) (n c : Nat) (xs : List Value) (w0 w : World) (F : SP) (h : Sat w0 F w) (hr : RdV w A xs) (hl : xs.length = n * 2) (h1 : ∀ u ∈ xs, u.oneCell' = true) (hn : n ≤ 1000000000) (hA : A = none → n = 0) :
    Calls Try.prog 33 #[.slice A n c] w (CopyD 74 n xs w0 F) := by
  obtain ⟨i0, hi0, hz0, hz1, hz2⟩ := info_parts info_cell
  have hnil := fun (W : World) (A : Option Addr) (n c : Nat) => Lib.run_eql_slice_nil (P := Try.prog) W 64 74 A n c 0 0 Try.underlying64
  have HS := Lib.hid h
  have HR := Lib.hid hr
  rcases A with _ | ad
  · obtain rfl := hA rfl
    obtain rfl : xs = [] := List.eq_nil_of_length_eq_zero (by simpa using hl)
    clear h hr hl h1 hA
    go_enter Try.func33, Try.ntmps33
    go_wp2
    go_ret
    exact ⟨none, 0, rfl, HS.out.row_nil _ 2, fun _ => rfl⟩
  · have H1 := Lib.hid h1
    have HL := Lib.hid hl
    have HE := Lib.hid (HS.out.litRow 74 2)
    clear h hr hl h1 hA
    go_enter Try.func33, Try.ntmps33
    go_wp2_with (at_builtin; refine wpList_appS rfl (.tmp 5) (.tmp 6) 64 rfl 74 i0 _ 2 32 Try.underlying64 hi0 hz0 hz1 hz2 rfl (by decide) (.slice (some ⟨w.heap.size, 0, none⟩) 0 0) 0 [] rfl w0 _ (by exact HE.out) (some ad) n c xs rfl (by exact HR.out.alloc _) HL.out H1.out (by unfold maxLen; omega) (by omega) ?_; intro A2 c2 w2 hs2; rw [Nat.zero_add, List.nil_append] at hs2; rw [Nat.zero_add]; have HS2 := Lib.hid hs2; clear hs2)
    go_ret
    exact ⟨A2, c2, rfl, HS2.out, fun e => by
      subst e
      obtain ⟨_, ⟨_, e2, _⟩ | ⟨g, cap, cur, e1, _⟩⟩ := HS2.out.row_cases
      · exact e2
      · cases e1⟩
theorem cloneWrites_any (A : Option Addr) (n c : Nat) (xs : List Value) (w0 w : World) (F : SP) (h : Sat w0 F w) (hr : RdV w A xs) (hl : xs.length = n * 2) (h1 : ∀ u ∈ xs, u.oneCell' = true) (hn : n ≤ 1000000000) (hA : A = none → n = 0) :
    Calls Try.prog 34 #[.slice A n c] w (CopyD 72 n xs w0 F) := by
  obtain ⟨i0, hi0, hz0, hz1, hz2⟩ := info_parts info_write
  have hnil := fun (W : World) (A : Option Addr) (n c : Nat) => Lib.run_eql_slice_nil (P := Try.prog) W 66 72 A n c 0 0 Try.underlying66
  have HS := Lib.hid h
  have HR := Lib.hid hr
  rcases A with _ | ad
  · obtain rfl := hA rfl
    obtain rfl : xs = [] := List.eq_nil_of_length_eq_zero (by simpa using hl)
    clear h hr hl h1 hA
    go_enter Try.func34, Try.ntmps34
    go_wp2
    go_ret
    exact ⟨none, 0, rfl, HS.out.row_nil _ 2, fun _ => rfl⟩
  · have H1 := Lib.hid h1
    have HL := Lib.hid hl
    have HE := Lib.hid (HS.out.litRow 72 2)
    clear h hr hl h1 hA
    go_enter Try.func34, Try.ntmps34
    go_wp2_with (at_builtin; refine wpList_appS rfl (.tmp 5) (.tmp 6) 66 rfl 72 i0 _ 2 32 Try.underlying66 hi0 hz0 hz1 hz2 rfl (by decide) (.slice (some ⟨w.heap.size, 0, none⟩) 0 0) 0 [] rfl w0 _ (by exact HE.out) (some ad) n c xs rfl (by exact HR.out.alloc _) HL.out H1.out (by unfold maxLen; omega) (by omega) ?_; intro A2 c2 w2 hs2; rw [Nat.zero_add, List.nil_append] at hs2; rw [Nat.zero_add]; have HS2 := Lib.hid hs2; clear hs2)
    go_ret
    exact ⟨A2, c2, rfl, HS2.out, fun e => by
      subst e
      obtain ⟨_, ⟨_, e2, _⟩ | ⟨g, cap, cur, e1, _⟩⟩ := HS2.out.row_cases
      · exact e2
      · cases e1⟩
theorem cell_ones (cs : List (Slc × Bool)) : ∀ u ∈ cs.flatMap cellV, u.oneCell' = true := by
  intro u hu; obtain ⟨x, _, hx⟩ := List.mem_flatMap.1 hu; simp [cellV] at hx; rcases hx with rfl | rfl <;> rfl
theorem pendV_ones (ps : List (Nat × Slc)) : ∀ u ∈ ps.flatMap pendV, u.oneCell' = true := by
  intro u hu; obtain ⟨x, _, hx⟩ := List.mem_flatMap.1 hu; simp [pendV] at hx; rcases hx with rfl | rfl <;> rfl
/-- What is copied so far of a map: what is not left. -/
def upto (f : Int → Option Value) (left : Lit → Bool) : Int → Option Value := fun i => match left (.int .i64 i) with | true => none | false => f i
theorem says_has {D : DataW Value} {f : Int → Option Value} (hs : Says D f) {i : Int} (h : Maps.has D (.int .i64 i) = false) : f i = none := by
  cases hf : f i with
  | none => rfl
  | some v =>
    have h2 := hs i .nil
    rw [Maps.atKey_of_not_has h, hf] at h2
    cases h2
theorem upto_start {D : DataW Value} {f : Int → Option Value} (hs : Says D f) : upto f (Maps.has D) = fun _ => none := by
  funext i
  unfold upto
  cases h : Maps.has D (.int .i64 i) with
  | true => rfl
  | false => exact says_has hs h
theorem upto_step (f : Int → Option Value) (left : Lit → Bool) (x : Int) (c : Value) (hx : f x = some c) : upto f (fun z => left z && !z.sameKey (.int .i64 x)) = upd (upto f left) x c := by
  funext i
  unfold upto upd
  by_cases e : i = x
  · subst e
    have : (left (.int .i64 i) && !(Lit.int .i64 i).sameKey (.int .i64 i)) = false := by rw [WideAt.sameKey_self (by simp [WideAt.IsKeyLit])]; simp
    rw [if_pos rfl]
    show (match (left (.int .i64 i) && !(Lit.int .i64 i).sameKey (.int .i64 i)) with | true => none | false => f i) = _
    rw [this]
    exact hx
  · rw [if_neg e]
    have : (left (.int .i64 i) && !(Lit.int .i64 i).sameKey (.int .i64 x)) = left (.int .i64 i) := by rw [Maps.sameKey_ne (fun q => e (by injection q))]; simp
    show (match (left (.int .i64 i) && !(Lit.int .i64 i).sameKey (.int .i64 x)) with | true => none | false => f i) = _
    rw [this]
theorem upto_end (f : Int → Option Value) (left : Lit → Bool) (h : ∀ kl, left kl = false) : upto f left = f := by
  funext i; unfold upto; rw [h]
theorem says_at {D : DataW Value} {f : Int → Option Value} (hs : Says D f) {x : Int} {c : Value} (h : ∀ zd, D.atKey (.int .i64 x) zd = .held c) : f x = some c := by
  have h1 := hs x .nil
  rw [h] at h1
  cases hf : f x with
  | none => rw [hf] at h1; cases h1
  | some v => rw [hf] at h1; injection h1 with h1; rw [h1]
theorem wf_i64' {i : Int} (h : (Lit.int .i64 i).wf = true) : -9223372036854775808 ≤ i ∧ i ≤ 9223372036854775807 := by
  simp only [Lit.wf, Bool.and_eq_true, decide_eq_true_iff] at h
  exact h
theorem grown_of {w w' : World} {b : Nat} (h : Chg (One b) w w') : w.grownBy w' (some b) := ⟨h.os, h.tape, h.output, h.size, fun k hk hne => h.block k hk fun e => hne (by rw [show k = b from e])⟩
theorem Sat.map_ne {P : Program} {k : TypeId} {b n b' n' : Nat} {f f' : Int → Option Value} {w0 w : World} {F : SP} (h : Sat w0 (MapP P k b n f * (MapP P k b' n' f' * F)) w) : b ≠ b' := by
  obtain ⟨es, cl, h1, _⟩ := h.map_cases
  obtain ⟨es', cl', h2, _⟩ := h1.up2.map_cases
  exact h2.up2.ne
theorem Sat.turnAny {w0 w w' : World} {F : SP} {b : Nat} {o : Obj} (h : Sat w0 (Ow b o * F) w) (k : Chg (One b) w w') : ∃ o', Sat w0 (Ow b o' * F) w' :=
  ⟨_, h.turn k (Array.getElem?_eq_getElem (by have := h.lt; have := k.size; omega))⟩
def TwinD (d : Nat) (D : Dk) (w0 : World) (F : SP) (e : Ending) (w' : World) : Prop := ∃ t, e = .returned (.pointer (some ⟨t, 0, none⟩)) ∧ Sat w0 (Disk t D * (Disk d D * F)) w'
set_option maxHeartbeats 4000000 in
theorem twinD_any (d : Nat) (D : Dk) (w0 w : World) (F : SP) (h : Sat w0 (Disk d D * F) w) (hw2 : D.pend.length ≤ 1000000000) :
    Calls Try.prog 24 #[.pointer (some ⟨d, 0, none⟩)] w (TwinD d D w0 F) := by
  obtain ⟨C, cc, M, nm, vp, cs, ps, hr, hn, hs⟩ := h.disk
  obtain ⟨A1, c1, rfl, hle, hmx⟩ := (hs.of disk_d).up3.row_sl
  have hpl : D.pend.length = ps.length := by rw [hr.pend]; simp
  rw [hpl] at hw2
  have HS := Lib.hid hs
  have HR := Lib.hid hr
  have HN := Lib.hid hn
  have hd := hs.head
  have c0 := hd.c0
  have c1' := hd.c1
  have c2 := hd.c2
  have c3 := hd.c3
  have c4 := hd.c4
  have c5 := hd.c5
  have hmap : ∀ (n : Nat) (W : World), (Instr.makeMap 65 (some (.int .i64 (n : Int)))).run Try.prog W = .ok (.map (some W.heap.size)) (W.alloc (.map #[] 0)) := fun n W => by
    have hu := Try.underlying65
    simp [Instr.makeMap, run_underlying hu, asInt, asIntOf]
  clear h hs hr hn hpl hd
  go_enter Try.func24, Try.ntmps24
  go_upto_region 2 with fail
  have h1 := HS.out.allocPt 68 #[.slice (some ⟨C, 0, none⟩) cs.length cc, .slice A1 ps.length c1, .map (some M), .int .i64 D.armed, .int .i64 D.writes, .bool D.off]
  obtain ⟨T, hT⟩ : ∃ T, T = w.heap.size := ⟨_, rfl⟩
  obtain ⟨w1, hw1⟩ : ∃ W, W = w.alloc (.cells #[.slice (some ⟨C, 0, none⟩) cs.length cc, .slice A1 ps.length c1, .map (some M), .int .i64 D.armed, .int .i64 D.writes, .bool D.off] 68) := ⟨_, rfl⟩
  rw [← hT, ← hw1] at h1
  rw [← hT, ← hw1]
  clear hT hw1 c0 c1' c2 c3 c4 c5
  have HS1 := Lib.hid h1
  have q0 := h1.right.head.c0
  have hlen : cs.length ≤ 65536 := HR.out.most
  clear h1
  go_wp2_with fail
  refine (cloneCells_any (some ⟨C, 0, none⟩) cs.length cc (cs.flatMap cellV) w0 w1 _ HS1.out ((HS1.out.right.of disk_d).up2.row_rdvT) (flat2_len (fun _ => rfl) cs) (cell_ones cs) (by omega) (fun e => by cases e)).mono ?_
  rintro e w2 ⟨A2, c2, rfl, hs, hA2⟩
  have hn2 : ∃ g, A2 = some ⟨g, 0, none⟩ := by
    obtain ⟨g, e, _⟩ := hs.row_at (by have := HR.out.two; omega)
    exact ⟨g, e⟩
  obtain ⟨C2, rfl⟩ := hn2
  have q0 := hs.up2.cell 0
  have f0 := hs.up2.frozen 0
  have hs2 := hs.up2.set 0 (.slice (some ⟨C2, 0, none⟩) cs.length c2)
  have q1 := hs2.right.right.head.c1
  have HS2 := Lib.hid hs2
  clear hs hs2 hA2
  go_wp2_with fail
  refine (cloneWrites_any A1 ps.length c1 (ps.flatMap pendV) w0 _ _ HS2.out ((HS2.out.right.right.of disk_d).up3.row_rdvT) (flat2_len (fun _ => rfl) ps) (pendV_ones ps) (by omega) (fun e => ?_)).mono ?_
  · subst e
    obtain ⟨_, ⟨_, e2, _⟩ | ⟨g, cap, cur, e1, _⟩⟩ := ((HS2.out.right.right.of disk_d).up3).row_cases
    · exact e2
    · cases e1
  rintro e w3 ⟨A3, c3, rfl, hs, hA3⟩
  have q0 := hs.up2.cell 1
  have f0 := hs.up2.frozen 1
  have hs3 := hs.up2.set 1 (.slice A3 ps.length c3)
  have HS3 := Lib.hid hs3
  clear hs hs3 hA3
  go_upto_region 4 with fail
  have hs3 := HS3.out
  obtain ⟨w4, hw4⟩ : ∃ W, W = w3.setCell ⟨T, 1, none⟩ (.slice A3 ps.length c3) := ⟨_, rfl⟩
  rw [← hw4] at hs3
  rw [← hw4]
  clear hw4 HS3 q0 f0
  have q2 := hs3.right.right.right.head.c2
  have hm := (hs3.right.right.right.of disk_d).up4
  obtain ⟨Dm, hown, hsays⟩ := hm.map_own
  have hlenm := hown.len Try.underlying65 3
  have h4 := hs3.map_new (P := Try.prog) (k := 3)
  have q3 := h4.up2.cell 2
  have f3 := h4.up2.frozen 2
  have hs5 := h4.up2.set 2 (.map (some w4.heap.size))
  have HS5 := Lib.hid hs5
  clear hs3 hm hown hsays h4 hs5
  go_upto_region 5 with fail
  have hs5 := HS5.out
  obtain ⟨N4, hN4⟩ : ∃ N, N = w4.heap.size := ⟨_, rfl⟩
  obtain ⟨w5, hw5⟩ : ∃ W, W = (w4.alloc (.map #[] 0)).setCell ⟨T, 2, none⟩ (.map (some w4.heap.size)) := ⟨_, rfl⟩
  rw [← hw5, ← hN4] at hs5
  rw [← hw5, ← hN4]
  clear hw5 hN4 HS5 q0 q1 q2 q3 f0 f3 hlenm
  have q2 := hs5.right.right.right.right.head.c2
  obtain ⟨D5, hown, hsays⟩ := (hs5.right.right.right.right.of disk_d).up4.map_own
  have hMN : M ≠ N4 := (hs5.right.drop2.drop2.up2.of disk_d).up4.drop2.drop2.drop2.drop2.map_ne
  have HMN := Lib.hid hMN
  clear hMN
  have HS6 := Lib.hid hs5
  have HOwn := Lib.hid hown
  have HSays := Lib.hid hsays
  clear hs5 hown hsays
  go_wp2_with (at_range; refine wpList_range_own _ rfl _ 65 rfl 3 30 (Maps.int_keyed Try.underlying3) Try.underlying65 heldR M nm D5 rfl HOwn.out ?_; intro w6 hrg0 hg0 hs0)
  go_frame
  obtain ⟨R, hR⟩ : ∃ R, R = w5.heap.size := ⟨_, rfl⟩
  have HI : Hid (∃ o, Sat w0 (Ow R o * (MapP Try.prog 3 N4 0 (fun _ => none) * (Pt T 68 #[.slice (some ⟨C2, 0, none⟩) cs.length c2, .slice A3 ps.length c3, .map (some N4), .int .i64 D.armed, .int .i64 D.writes, .bool D.off] * (Row 72 2 (.slice A3 ps.length c3) ps.length (ps.flatMap pendV) * (Row 74 2 (.slice (some ⟨C2, 0, none⟩) cs.length c2) cs.length (cs.flatMap cellV) * (DiskC d C cc M nm (.slice A1 ps.length c1) cs ps D.armed D.writes D.off * F)))))) w6) := by
    have hrg1 := hrg0
    obtain ⟨_, _, _, _, _, _, _, _, _, hit, _⟩ := hrg1
    rw [← hR] at hit
    exact ⟨_, HS6.out.up2.take (Chg.of_below ⟨hg0.os, hg0.tape, hg0.output, hg0.size, fun k hk => hg0.block k hk (by simp)⟩ |>.mono (fun i hi hb => by unfold From at hb; omega)) (by omega) hit⟩
  have HRg : Hid (w6.ranges Try.prog 3 heldR M R nm D5 (Maps.has D5) (Maps.size D5)) := by rw [hR]; exact hrg0
  have HSz : Hid (Maps.size D5 ≤ ps.length) := Nat.le_trans HOwn.out.size_le HN.out
  rw [← hR]
  clear hR hrg0 hg0 hs0 q2
  go_loopw [4, 5] (fun _ _ wr => Hid (∃ left cnt nmm o, wr.ranges Try.prog 3 heldR M R nm D5 left cnt ∧ nmm + cnt ≤ ps.length ∧ Sat w0 (Ow R o * (MapP Try.prog 3 N4 nmm (upto (lastOf ps) left) * (Pt T 68 #[.slice (some ⟨C2, 0, none⟩) cs.length c2, .slice A3 ps.length c3, .map (some N4), .int .i64 D.armed, .int .i64 D.writes, .bool D.off] * (Row 72 2 (.slice A3 ps.length c3) ps.length (ps.flatMap pendV) * (Row 74 2 (.slice (some ⟨C2, 0, none⟩) cs.length c2) cs.length (cs.flatMap cellV) * (DiskC d C cc M nm (.slice A1 ps.length c1) cs ps D.armed D.writes D.off * F)))))) wr)) (fun _ _ wr => wr.rangeLeft M R)
  case atStart =>
    obtain ⟨o, ho⟩ := HI.out
    exact ⟨_, _, 0, o, HRg.out, by rw [Nat.zero_add]; exact HSz.out, by rw [upto_start HSays.out]; exact ho⟩
  case round =>
    obtain ⟨left, cnt, nmm, o, hrg, hcn, hst⟩ := hrel.out
    have HG := Lib.hid hrg
    have HST := Lib.hid hst
    have HCn := Lib.hid hcn
    clear hrel hrg hst hcn
    go_wp2_with (at_next; refine wpList_next_ranges _ rfl _ rfl 3 (Maps.int_keyed Try.underlying3) heldR (Value.int .i64) id (fun key kl hkey => (by obtain ⟨x, rfl, _⟩ := Maps.keyOf_int_inv Try.underlying3 hkey; exact ⟨x, rfl⟩)) (fun v y hv => ⟨v, rfl⟩) M R nm D5 left cnt rfl HG.out ?_ ?_)
    · intro hc0 hl0
      have HL0 := Lib.hid hl0
      clear hc0 hl0
      go_wp2_with fail
      go_ret
      refine ⟨T, rfl, ?_⟩
      have h1 := HST.out.right
      rw [upto_end _ _ HL0.out] at h1
      have h2 := h1.up5
      have h3 := (h2.of disk_d).up5.rol_split
      have h4 : Sat w0 (DiskC T C2 c2 N4 nmm (.slice A3 ps.length c3) cs ps D.armed D.writes D.off * (DiskC d C cc M nm (.slice A1 ps.length c1) cs ps D.armed D.writes D.off * F)) wr := h3.of (by unfold DiskC; ac_rfl)
      exact ((h4.diskI HR.out (by have := HCn.out; omega)).up2.diskI HR.out HN.out).up2
    · intro x c kl y1 y2 w7 cnt' hkey hlk hv hat hrg' hlt hg hsz hen
      obtain ⟨x', ex, rfl, hwf⟩ := Maps.keyOf_int_inv Try.underlying3 hkey
      injection ex with _ ex
      subst ex
      unfold heldR at hv
      injection hv with hv
      injection hv with hv1 hv2
      subst hv1
      have hfx : lastOf ps x = some c := says_at HSays.out (fun zd => hat zd)
      have hw := wf_i64' hwf
      obtain ⟨o', ho'⟩ := HST.out.turnAny ((Chg.of_grown hg).mono fun i _ hi => Option.some.inj hi)
      have hN := HCn.out
      obtain ⟨w8, hrun, hs8, hch8⟩ := ho'.up2.map_store (t := 65) Try.underlying3 Try.underlying65 x hw c (by unfold maxLen; omega)
      have q2 := ho'.up3.cell 2
      have hRN : R ≠ N4 := by
        obtain ⟨es, cl, h1, _⟩ := ho'.up2.map_cases
        exact h1.up2.ne
      have hrg8 := hrg'.kept (grown_of hch8) (fun e => HMN.out (Option.some.inj e)) (fun e => hRN (Option.some.inj e))
      have HR8 := Lib.hid hrg8
      have HS8 := Lib.hid hs8
      have HX := Lib.hid hfx
      have HLt : Hid (nmm + 1 + cnt' ≤ ps.length ∧ cnt' < cnt) := Lib.hid (by omega)
      clear hkey hlk hat hrg' hlt hg hsz hw hwf ho' hch8 hRN hrg8 hs8 hfx hN
      go_wp2_with fail
      go_roundw
      case rel =>
        refine ⟨_, cnt', nmm + 1, o', HR8.out, HLt.out.1, ?_⟩
        rw [upto_step _ _ _ _ HX.out]
        exact HS8.out.up2
      case measure => rw [HR8.out.left_eq, HG.out.left_eq]; exact HLt.out.2
end Go.Proofs.Ytiimlbkccoofmaa
