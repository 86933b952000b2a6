/- TableBuilds. -/
import Derived.Test.YtaoenbjfkahdjaaQRBuild
import Derived.Test.YtaoenbjfkahdjaaQTabPieces
import Derived.Test.YtaoenbjfkahdjaaQBookB
namespace Go.Proofs.Ytaoenbjfkahdjaa
open Go.RowKit
set_option linter.unusedVariables false
set_option maxRecDepth 100000

/-- What is known of an entry that is laid. -/
structure FitE (y : En) : Prop where
  k : y.key.2.2.length ≤ 140737488351232
  v : y.value.2.2.length ≤ 140737488351232
  cap : CapE y
  s : isI64 y.seq
theorem EnIn.fit {w : World} {y : En} (h : EnIn w y) : FitE y := ⟨h.k1, h.v1, ⟨⟨h.k2, h.k3⟩, h.v2, h.v3⟩, h.s⟩
/-- A row that is lent on. -/
structure RowFit (w : World) (ls : List En) (A : Option Addr) (c : Nat) (wx : World) : Prop where
  rd : RdV wx A (ls.flatMap enV)
  en : EnsR wx ls
  fit : ∀ y ∈ ls, FitE y
  len : ls.length ≤ c
  cap : c ≤ maxLen
  chg : Chg No w wx
theorem cut7_fit {e : Ent} (h : isI64 e.seq) : (cut7 e).key.length ≤ 128 ∧ (cut7 e).value.length ≤ 300 ∧ isI64 (cut7 e).seq := by
  unfold cut7 isI64 at *
  refine ⟨by simp; omega, by simp only; split <;> simp; omega, ?_⟩
  simp only
  split <;> omega
theorem RowFit.take {w wx : World} {ls : List En} {A : Option Addr} {c : Nat} (h : RowFit w ls A c wx) (k : Nat) : RowFit w (ls.take k) A c wx :=
  ⟨by rw [ents_tk]; exact h.rd.take _, fun e he => h.en e (List.mem_of_mem_take he), fun e he => h.fit e (List.mem_of_mem_take he), by have := h.len; rw [List.length_take]; omega, h.cap, h.chg⟩
/-- Build, with what is held. -/
theorem Built.held {L : List Ent} {w0 w w' : World} {F : SP} {x : Ending} (hF : Sat w0 F w) (h : Built L w x w') (bs : List UInt8) (z : Nat) (hz : buildE L = z) (hbs : bs = if z = 0 then buildB L else []) :
    ∃ (B : Option Addr) (d : Nat), x = .returned (.tuple #[.slice B bs.length d, .int .i64 (z : Int)]) ∧ Sat w0 (Row 5 1 (.slice B bs.length d) bs.length (bs.map bv) * F) w' := by
  rcases h with ⟨h1, rfl, h3⟩ | ⟨h1, B, d, rfl, h2, h3, h4⟩
  · rw [hz] at h1 ⊢
    rw [if_neg h1] at hbs
    subst hbs
    exact ⟨none, 0, rfl, (hF.new h3).row_nil _ _⟩
  · rw [hz] at h1
    subst h1
    rw [if_pos rfl] at hbs
    subst hbs
    exact ⟨B, d, rfl, (hF.join h4 (owned_star (owned_row _ _ _ _ _) owned_emp)).of (by rw [star_assoc, emp_star])⟩
theorem bld_S (A : Option Addr) (c : Nat) (es : List En) (L : List Ent) (hL : es.map En.ent = L) (bs : List UInt8) (z : Nat) (hz : buildE L = z) (hbs : bs = if z = 0 then buildB L else []) (w0 w : World) (F : SP) (hF : Sat w0 F w) (h : RdV w A (es.flatMap enV)) (hr : EnsR w es) (hc : es.length ≤ c) (hm : c ≤ maxLen) (hfit : ∀ y ∈ es, FitE y) :
    Calls Try.prog 14 #[.slice A es.length c] w fun x w' => ∃ (B : Option Addr) (d : Nat), x = .returned (.tuple #[.slice B bs.length d, .int .i64 (z : Int)]) ∧ Sat w0 (Row 5 1 (.slice B bs.length d) bs.length (bs.map bv) * F) w' := by
  subst hL
  exact (build_any A c es w h hr hc hm (fun e he => ⟨by have := (hfit e he).k; omega, by have := (hfit e he).v; omega, (hfit e he).cap.1.1, (hfit e he).cap.1.2⟩) (fun e he => by have := (hfit e he).s; unfold isI64 at this; omega)).mono fun x w' hx => hx.held hF bs z hz hbs
theorem rbld_S (A : Option Addr) (c : Nat) (es : List En) (L : List Ent) (hL : es.map En.ent = L) (bs : List UInt8) (z : Nat) (hz : buildE L = z) (hbs : bs = if z = 0 then buildB L else []) (w0 w : World) (F : SP) (hF : Sat w0 F w) (h : RdV w A (es.flatMap enV)) (hr : EnsR w es) (hc : es.length ≤ c) (hm : c ≤ maxLen) (hfit : ∀ y ∈ es, FitE y) :
    Calls Try.prog 25 #[.slice A es.length c] w fun x w' => ∃ (B : Option Addr) (d : Nat), x = .returned (.tuple #[.slice B bs.length d, .int .i64 (z : Int)]) ∧ Sat w0 (Row 5 1 (.slice B bs.length d) bs.length (bs.map bv) * F) w' := by
  subst hL
  exact (rbuild_any A c es w h hr hc hm (fun e he => ⟨by have := (hfit e he).k; omega, by have := (hfit e he).v; omega, (hfit e he).cap.1.1, (hfit e he).cap.1.2⟩) (fun e he => by have := (hfit e he).s; unfold isI64 at this; omega)).mono fun x w' hx => hx.held hF bs z hz hbs
theorem book_new7 {k : Nat} {w0 w : World} {F : SP} (h : Sat w0 (Pt k 57 #[.slice none 0 0, .slice none 0 0, .slice none 0 0, .slice none 0 0, .slice none 0 0, .slice none 0 0] * F) w) : Sat w0 (BookP k [] * F) w := by
  have h1 := ((h.row_nil 32 1).row_nil 32 1)
  refine Sat.bookI (vb := .slice none 0 0) (vs := .slice none 0 0) (ss := []) rfl (h1.of ?_)
  rw [book_d]
  show Row _ _ _ _ _ * (Row _ _ _ _ _ * (Pt _ _ _ * F)) = Pt _ _ _ * (Row _ _ _ _ _ * (Row _ _ _ _ _ * (Emp * (Emp * F))))
  rw [emp_star, emp_star]
  ac_rfl
theorem buildB_len60' {L : List Ent} (h : buildE L = 0) : (buildB L).length ≤ 140737488300000 := by
  have hf := buildE_few h
  have hk : ∀ e ∈ L, e.key.length ≤ 128 ∧ e.value.length ≤ 16384 := fun e he => by have := mayE_iff.1 (buildE_may h e he); exact ⟨this.1, this.2.1⟩
  have h1 := bodyB_len L hk L.length
  have h2 := idxB_len L hk L.length
  have h3 := bitsB_len L
  have h4 := unlike_len L L.length
  have h5 := (nbytes_le (unlike L L.length).length 10 ⟨by omega, by omega, by omega, by omega⟩).2.2
  unfold buildB allB
  simp only [List.length_append, putB_len]
  omega
theorem ownE_cap2 {w0 w : World} {F : SP} : ∀ {es : List En}, Sat w0 (OwnE es * F) w → ∀ e ∈ es, CapE e
  | [], _ => by simp
  | e :: es, h => by
    have h1 : Sat w0 (Row 5 1 (slv' e.key) e.key.2.2.length (e.key.2.2.map bv) * (Row 5 1 (slv' e.value) e.value.2.2.length (e.value.2.2.map bv) * (OwnE es * F))) w := h.of (by
      show Row _ _ _ _ _ * (Row _ _ _ _ _ * OwnE es) * F = _
      ac_rfl)
    intro x hx
    rcases List.mem_cons.1 hx with rfl | hx
    · exact cap_rows h1 x.seq x.dead
    · exact ownE_cap2 h1.right.right x hx
theorem same8 (A : Option Addr) (c : Nat) (B : Option Addr) (d : Nat) (l : List UInt8) (n : Nat) (hn : n = l.length) (w : World) (ha : Rd w A l) (hb : Rd w B l) :
    Calls Try.prog 27 #[.slice A n c, .slice B n d] w fun x w' => x = .returned (.bool true) ∧ w = w' := by
  subst hn
  have h := same_any A B c d l l w ha hb
  rw [beq_self_eq_true] at h
  exact h
theorem book_rd {k : Nat} {ks : Rows_} {w0 w : World} {F : SP} (h : Sat w0 (BookP k ks * F) w) (x : Option Addr × Nat × List UInt8) (hx : x ∈ ks) : Rd w x.1 x.2.2 := by
  obtain ⟨vb, vs, ss, ht, h1⟩ := h.bookP
  have h2 := ownR_ownL ((h1.of (book_d ..)).up4)
  exact RdV.of_own (h2.own _ hx)
theorem build3 (R2 R1 X O : SP) : R2 * (R1 * (X * (O * Emp))) = X * (O * (R2 * (R1 * Emp))) := by ac_rfl
theorem build4 (K R3 X O R2 R1 : SP) : K * (R3 * (X * (O * (R2 * (R1 * Emp))))) = R1 * (K * (R3 * (X * (O * (R2 * Emp))))) := by ac_rfl
/-- What holds in the rounds. -/
structure Lst (w : World) (ls : List En) (i : Nat) (fs : List En) (A : Option Addr) (c : Nat) (wr : World) : Prop where
  told : fs.map En.ent = (ls.take i).map En.ent
  len : fs.length = i
  sat : Sat w (Row 34 4 (.slice A fs.length c) fs.length (fs.flatMap enV) * (OwnE fs * Emp)) wr
set_option maxRecDepth 100000 in
set_option maxHeartbeats 8000000 in
theorem tableBuilds_walk (A : Option Addr) (cap : Nat) (l : List En) (sort : Bool) (w : World) (hl : EnsIn w A cap l) :
    Calls Try.prog 4 #[.slice A l.length cap, .bool sort] w (Asked true w) := by
  have HR := Lib.hid (row7_any A cap l w hl)
  have hi := hl.2.2.2.2
  have HF0 : Hid (RowFit w l A cap w) := ⟨hl.2.2.1, fun e he => (hi e he).r, fun e he => (hi e he).fit, hl.1, hl.2.1, Chg.refl _ _⟩
  have HFr : Hid (∀ y : En, y.ent ∈ rowL (l.map En.ent) → CapE y → FitE y) := fun y hy hc => by
    obtain ⟨e, he, h1⟩ := rowL_mem hy
    obtain ⟨x, hx, rfl⟩ := List.mem_map.1 he
    have h2 := cut7_fit (e := x.ent) (hi x hx).s
    rw [← h1] at h2
    have h3 : y.key.2.2.length ≤ 128 := h2.1
    have h4 : y.value.2.2.length ≤ 300 := h2.2.1
    exact ⟨by omega, by omega, hc, h2.2.2⟩
  clear hl hi
  go_enter Try.func4, Try.ntmps4
  go_upto_if 14 with fail
  go_cut [0] (fun s wx => ∃ (A1 : Option Addr) (c1 : Nat) (ls : List En), s = .slice A1 ls.length c1 ∧ Hid (RowFit w ls A1 c1 wx))
  case first =>
    cases sort
    · go_wp2_with fail
      go_meet
      exact ⟨A, cap, l, rfl, HF0.out⟩
    · go_wp2_with (go_at_call 10; (with_reducible refine HR.out.mono ?_); rintro x w1 ⟨es, A1, c1, rfl, q1, q2, q3, q4, q5, q6, q7⟩; have HX : Hid (RowFit w es A1 c1 w1) := ⟨q4, q5, fun y hy => HFr.out y (by rw [← q1]; exact List.mem_map_of_mem hy) (q6 y hy), q2, q3, q7⟩; clear q1 q2 q3 q4 q5 q6 q7)
      go_meet
      exact ⟨A1, c1, es, rfl, HX.out⟩
  case rest =>
    obtain ⟨A1, c1, ls, e1, hcut⟩ := hcut
    subst e1
    have HX := hcut
    clear hcut HR HF0 HFr
    have hlc := HX.out.len
    have hcm := HX.out.cap
    unfold maxLen at hcm
    go_upto_if 19 with fail
    go_cut [0] (fun s wx => ∃ (ls : List En), s = .slice A1 ls.length c1 ∧ ls.length ≤ 60 ∧ Hid (RowFit w ls A1 c1 wx))
    case first =>
      by_cases h60 : 60 < ls.length
      · have hz : (60 : Int) < ls.length := by omega
        have h1 : 60 ≤ c1 := by omega
        have h2 : (60 : Int) ≤ c1 := by omega
        have HT := Lib.hid (HX.out.take 60)
        have HTl : Hid ((ls.take 60).length = 60) := by unfold Hid; rw [List.length_take]; omega
        go_wp2_with fail
        go_meet
        exact ⟨ls.take 60, by rw [HTl.out], by rw [HTl.out]; omega, HT.out⟩
      · have hz : ¬ (60 : Int) < ls.length := by omega
        go_wp2_with fail
        go_meet
        exact ⟨ls, rfl, by omega, HX.out⟩
    case rest =>
      obtain ⟨ms, e1, hm60, hcut⟩ := hcut
      subst e1
      have HY := hcut
      clear hcut HX hlc
      generalize hms : ms = ls at *
      clear hms
      obtain ⟨i0, hi0, hz0, hz1, hz2⟩ := info_parts info_entryT
      have HW := Lib.hid (Sat.start wc)
      have hlc := HY.out.len
      go_wp2_with fail
      go_loopw [5, 6] (fun out iv wr => ∃ (i : Nat) (fs : List En) (A2 : Option Addr) (c2 : Nat), i ≤ ls.length ∧ iv = .int .i64 i ∧ out = .slice A2 fs.length c2 ∧ Hid (Lst wc ls i fs A2 c2 wr)) (fun _ iv _ => ls.length - (intOf iv).toNat)
      case atStart => exact ⟨0, [], none, 0, by omega, rfl, rfl, rfl, rfl, (HW.out.row_nil _ 4).of (by rw [show OwnE [] = Emp from rfl, emp_star]; rfl)⟩
      case round =>
        obtain ⟨i, fs, A2, c2, hil, rfl, rfl, HD⟩ := hrel
        by_cases hlt : i < ls.length
        · obtain ⟨lb, lo, rfl, hq⟩ := ents_at HY.out.rd (by omega)
          obtain ⟨y0, y1, y2, y3⟩ := hq i hlt
          unfold slv' at y0 y1
          have z0 := HD.out.sat.chg.cell y0 id; have z1 := HD.out.sat.chg.cell y1 id; have z2 := HD.out.sat.chg.cell y2 id; have z3 := HD.out.sat.chg.cell y3 id
          have HRi := Lib.hid (HY.out.en _ (List.getElem_mem hlt))
          have hfi := HY.out.fit _ (List.getElem_mem hlt)
          have hk2 : Hid (ls[i].key.2.2.length ≤ 140737488355328) := by have := hfi.k; unfold Hid; omega
          have hv2 : Hid (ls[i].value.2.2.length ≤ 140737488355328) := by have := hfi.v; unfold Hid; omega
          have hlen : fs.length ≤ 60 := by have h1 := HD.out.len; omega
          clear hq y0 y1 y2 y3 hfi
          go_wp2_with (first
            | (go_at_call 24; refine (etwin_any ls[i] wc _ _ HD.out.sat (HRi.out.new HD.out.sat.chg) hk2.out hv2.out).mono ?_; rintro x w6 ⟨⟨A3, c3, B3, d3, rfl, hs6⟩, k6⟩; have HS6 := Lib.hid hs6; clear hs6 k6; simp only [enA])
            | (at_builtin; refine wpList_appS rfl (.tmp 28) (.tmp 34) 22 rfl 34 i0 _ 4 64 Try.underlying22 hi0 hz0 hz1 hz2 rfl (by decide) (.slice A2 fs.length c2) fs.length (fs.flatMap enV) rfl wc _ (by exact (HS6.out.alloc' _).up3) (some ⟨w6.heap.size, 0, none⟩) 1 1 [.slice A3 ls[i].key.2.2.length c3, .slice B3 ls[i].value.2.2.length d3, .int .i64 ls[i].seq, .bool ls[i].dead] rfl (lit_rdv _ _ _) rfl (by intro u hu; simp at hu; rcases hu with rfl | rfl | rfl | rfl <;> rfl) (by unfold maxLen; omega) (by omega) ?_; intro A4 c4 w7 hs7; have HS7 := Lib.hid hs7; clear hs7))
          go_roundw
          · refine ⟨i + 1, fs ++ [⟨(A3, c3, ls[i].key.2.2), (B3, d3, ls[i].value.2.2), ls[i].seq, ls[i].dead⟩], A4, c4, by omega, by push_cast; rfl, by rw [List.length_append]; rfl, ?_, ?_, ?_⟩
            · rw [List.map_append, HD.out.told, List.take_succ_eq_append_getElem hlt, List.map_append]; rfl
            · rw [List.length_append, HD.out.len]; rfl
            · refine HS7.out.of ?_
              rw [ownE_snoc, List.flatMap_append, List.length_append]
              show Row _ _ _ _ _ * (Row _ _ _ _ _ * (Row _ _ _ _ _ * (OwnE fs * Emp))) = Row _ _ _ _ _ * ((Row _ _ _ _ _ * (Row _ _ _ _ _ * OwnE fs)) * Emp)
              ac_rfl
          · simp [intOf]; omega
        · have hie : i = ls.length := by omega
          subst hie
          obtain ⟨L, hL⟩ : ∃ L, L = ls.map En.ent := ⟨_, rfl⟩
          have hfl : fs.map En.ent = L := by rw [HD.out.told, List.take_length, hL]
          obtain ⟨z, hz⟩ : ∃ z, buildE L = z := ⟨_, rfl⟩
          obtain ⟨bs, hbs⟩ : ∃ bs, bs = if z = 0 then buildB L else [] := ⟨_, rfl⟩
          have hbl : bs.length ≤ 140737488355000 := by
            rw [hbs]
            split
            · rename_i h0
              have hb0 : buildE L = 0 := by rw [hz, h0]
              have := buildB_len60' hb0
              omega
            · simp
          have hs0 := HD.out.sat
          have hcs : fs.length ≤ c2 ∧ c2 ≤ maxLen := by
            obtain ⟨_, _, e1, h1, h2⟩ := hs0.row_sl
            injection e1 with e1 _ e2
            subst e2
            exact ⟨h1, h2⟩
          have hfit : ∀ y ∈ fs, FitE y := fun y hy => by
            have h1 := ownE_cap2 hs0.right y hy
            have h2 : y.ent ∈ ls.map En.ent := by rw [← hL, ← hfl]; exact List.mem_map_of_mem hy
            obtain ⟨x, hx, e⟩ := List.mem_map.1 h2
            have h3 := HY.out.fit x hx
            have e1 : y.key.2.2 = x.key.2.2 := (congrArg Ent.key e).symm
            have e2 : y.value.2.2 = x.value.2.2 := (congrArg Ent.value e).symm
            have e3 : y.seq = x.seq := (congrArg Ent.seq e).symm
            exact ⟨by rw [e1]; exact h3.k, by rw [e2]; exact h3.v, h1, by rw [e3]; exact h3.s⟩
          have HB1 := Lib.hid (bld_S A2 c2 fs L hfl bs z hz hbs wc _ _ hs0 hs0.row_rdK (ownE_r hs0.right) hcs.1 hcs.2 hfit)
          have HB2 := Lib.hid (fun (W : World) (F : SP) (h : Sat wc F W) => rbld_S A1 c1 ls L hL.symm bs z hz hbs wc W F h (HY.out.rd.new h.chg) (HY.out.en.new h.chg) HY.out.len HY.out.cap HY.out.fit)
          have HB3 := Lib.hid (fun (W : World) (F : SP) (h : Sat wc (Row 34 4 (.slice A2 fs.length c2) fs.length (fs.flatMap enV) * (OwnE fs * F)) W) => bld_S A2 c2 fs L hfl bs z hz hbs wc W _ h h.row_rdK (ownE_r h.right) hcs.1 hcs.2 hfit)
          have HAl := Lib.hid (fun (W : World) (F : SP) (h : Sat wc (Row 34 4 (.slice A2 fs.length c2) fs.length (fs.flatMap enV) * (OwnE fs * F)) W) => alike7 A2 A1 c2 c1 fs ls W (hfl.trans hL) h.row_rdK (ownE_r h.right) (HY.out.rd.new h.chg) (HY.out.en.new h.chg) hcs.1 hcs.2 HY.out.len HY.out.cap)
          have Hbl := Lib.hid hbl
          have hbl2 : Hid (bs.length ≤ 140737488355328) := by unfold Hid; omega
          clear hL hfl hz hbs hbl hs0 hcs hfit HD
          go_wp2_with (first
            | (go_at_call 14; (with_reducible refine HB1.out.mono ?_); rintro x w1 ⟨B1, d1, rfl, hs⟩; have HS1 := Lib.hid hs; clear hs HB1)
            | (go_at_call 25; (with_reducible refine (HB2.out _ _ HS1.out).mono ?_); rintro x w2 ⟨B2, d2, rfl, hs⟩; have HS2 := Lib.hid hs; have HS2' := Lib.hid (hs.of (build3 ..)); clear hs)
            | (go_at_call 14; (with_reducible refine (HB3.out _ _ HS2'.out).mono ?_); rintro x w3 ⟨B3, d3, rfl, hs⟩; have HS3 := Lib.hid (book_new7 (hs.allocPt 57 #[.slice none 0 0, .slice none 0 0, .slice none 0 0, .slice none 0 0, .slice none 0 0, .slice none 0 0])); have HS3' := Lib.hid (HS3.out.of (build4 ..)); clear hs HS3)
            | (go_at_call 26; refine (bookS_bytes w3.heap.size [] (B1, d1, bs) wc _ _ HS3'.out (by simp) hbl2.out).mono ?_; rintro x w4 ⟨rfl, hs⟩; have HS4 := Lib.hid hs.up2; clear hs HS3')
            | (go_at_call 26; refine (bookS_bytes w3.heap.size [(B1, d1, bs)] (B3, d3, bs) wc _ _ HS4.out (by simp) hbl2.out).mono ?_; rintro x w5 ⟨rfl, hs⟩; have HS5 := Lib.hid hs; clear hs HS4)
            | (go_at_call 27; refine (same8 B1 d1 B2 d2 bs bs.length rfl w5 (book_rd HS5.out (B1, d1, bs) (by simp)) HS5.out.up4.row_rdK).mono ?_; rintro x wx ⟨rfl, rfl⟩)
            | (go_at_call 28; (with_reducible refine (tnum_any _ _).mono ?_); rintro e wx ⟨rfl, rfl⟩)
            | (go_at_call 19; refine (HAl.out _ _ HS5.out.right).mono ?_; rintro x w6 ⟨rfl, q1⟩; have HS6 := Lib.hid (HS5.out.new q1); clear q1)
            | (go_at_call 29; refine (bookS_close w3.heap.size _ wc _ _ HS6.out (by simp) (by intro x hx; simp at hx; rcases hx with rfl | rfl <;> exact Hbl.out)).mono ?_; rintro x w7 ⟨rfl, hs⟩; have HC7 := Lib.hid (HY.out.chg.tr hs.chg); clear hs)
            | (go_at_call 30; (with_reducible refine (wakes7_any w7).mono ?_); rintro x w8 ⟨rfl, q1⟩; have HC8 := Lib.hid (HC7.out.tr q1); clear q1))
          go_ret
          exact ⟨rfl, HC8.out⟩
end Go.Proofs.Ytaoenbjfkahdjaa
