/- What the document reads of bytes, plainly: the same as what opens. -/
import Derived.Test.YtaoenbjfkahdjaaQ15
namespace Go.Proofs.Ytaoenbjfkahdjaa
open Go.RowKit
set_option linter.unusedVariables false
set_option maxRecDepth 100000

/-- The next entry behind these. -/
def stepQ (l : List Ent) (q : List UInt8) : Option (Ent × List UInt8) :=
  if q.length < 13 then none else
  if l.length % 8 ≠ 0 ∧ (aheadS l).length < (q.getD 0 0).toNat then none else
  if (q.drop 13).length < (q.getD 1 0).toNat + getN ((q.drop 11).take 2) then none else
  some (⟨(aheadS l).take (q.getD 0 0).toNat ++ (q.drop 13).take (q.getD 1 0).toNat, ((q.drop 13).drop (q.getD 1 0).toNat).take (getN ((q.drop 11).take 2)), IntKind.i64.wrap (getN ((q.drop 2).take 8) : Int), decide (q.getD 10 0 = 1)⟩, (q.drop 13).drop ((q.getD 1 0).toNat + getN ((q.drop 11).take 2)))
def runQ : Nat → List Ent → List UInt8 → Option (List Ent)
  | 0, l, _ => some l
  | k + 1, l, q => match stepQ l q with | none => none | some p => runQ k (l ++ [p.1]) p.2
def entsQ (b : List UInt8) : Option (List Ent) := if b.length < 8 then none else runQ (getN ((b.drop 4).take 4)) [] (b.drop 8)
theorem runQ_next {k : Nat} {l : List Ent} {q : List UInt8} {e : Ent} {q' : List UInt8} (h : stepQ l q = some (e, q')) : runQ (k + 1) l q = runQ k (l ++ [e]) q' := by
  conv => lhs; unfold runQ
  rw [h]
theorem runQ_none {k : Nat} {l : List Ent} {q : List UInt8} (h : stepQ l q = none) : runQ (k + 1) l q = none := by
  conv => lhs; unfold runQ
  rw [h]
theorem stepQ_seq {l : List Ent} {q q' : List UInt8} {e : Ent} (h : stepQ l q = some (e, q')) : e.seq < 9223372036854775808 := by
  unfold stepQ at h
  split at h
  · cases h
  · split at h
    · cases h
    · split at h
      · cases h
      · injection h with h
        injection h with h1 h2
        rw [← h1]
        simp only
        rw [IntKind.wrap_i64]
        omega
theorem runQ_seq : ∀ (k : Nat) {l m : List Ent} {q : List UInt8}, (∀ e ∈ l, e.seq < 9223372036854775808) → runQ k l q = some m → ∀ e ∈ m, e.seq < 9223372036854775808
  | 0, l, m, q, hl, h => by unfold runQ at h; injection h with h; rw [← h]; exact hl
  | k + 1, l, m, q, hl, h => by
    cases hs : stepQ l q with
    | none => rw [runQ_none hs] at h; cases h
    | some p =>
      obtain ⟨e, q'⟩ := p
      rw [runQ_next hs] at h
      exact runQ_seq k (fun x hx => (List.mem_append.1 hx).elim (hl x) (fun hx => by rw [List.mem_singleton] at hx; subst hx; exact stepQ_seq hs)) h
theorem stepQ_entB (l : List Ent) (e : Ent) (r : List UInt8) (hm : mayE e = true) (hs : e.seq < 9223372036854775808) (hal : (aheadS l).length ≤ 128) : stepQ l (entB (aheadS l) e ++ r) = some (e, r) := by
  obtain ⟨h1, h2, h3, h4⟩ := mayE_iff.1 hm
  have hc := commonN_le (aheadS l) e.key
  obtain ⟨n, hn⟩ : ∃ n, commonN (aheadS l) e.key = n := ⟨_, rfl⟩
  have ht := commonN_take (aheadS l) e.key
  have hz : l.length % 8 = 0 → n = 0 := fun h => by rw [← hn]; unfold aheadS; rw [if_pos h]; rfl
  unfold entB
  rw [hn] at hc ht ⊢
  obtain ⟨al, ha⟩ : ∃ al, aheadS l = al := ⟨_, rfl⟩
  rw [ha] at hc ht hal
  have b1 : (UInt8.ofNat n).toNat = n := by rw [UInt8.toNat_ofNat', Nat.mod_eq_of_lt (by omega)]
  have b2 : (UInt8.ofNat (e.key.length - n)).toNat = e.key.length - n := by rw [UInt8.toNat_ofNat', Nat.mod_eq_of_lt (by omega)]
  have b3 : IntKind.i64.wrap (getN (putB e.seq.toNat 8) : Int) = e.seq := by
    rw [get_put, Nat.mod_eq_of_lt (by omega), IntKind.wrap_i64]
    omega
  have b5 : getN (putB e.value.length 2) = e.value.length := by rw [get_put, Nat.mod_eq_of_lt (by omega)]
  obtain ⟨d, hd⟩ : ∃ d : UInt8, d = if e.dead then 1 else 0 := ⟨_, rfl⟩
  have b4 : decide (d = 1) = e.dead := by rw [hd]; cases e.dead <;> decide
  obtain ⟨P8, hP8⟩ : ∃ P8, putB e.seq.toNat 8 = P8 := ⟨_, rfl⟩
  obtain ⟨P2, hP2⟩ : ∃ P2, putB e.value.length 2 = P2 := ⟨_, rfl⟩
  have l8 : P8.length = 8 := by rw [← hP8, putB_len]
  have l2 : P2.length = 2 := by rw [← hP2, putB_len]
  rw [hP8] at b3
  rw [hP2] at b5
  rw [← hd, hP8, hP2]
  obtain ⟨q, hq⟩ : ∃ q, q = [UInt8.ofNat n, UInt8.ofNat (e.key.length - n)] ++ (P8 ++ ([d] ++ (P2 ++ (e.key.drop n ++ e.value)))) ++ r := ⟨_, rfl⟩
  have q0 : q.getD 0 0 = UInt8.ofNat n := by rw [hq]; simp
  have q1 : q.getD 1 0 = UInt8.ofNat (e.key.length - n) := by rw [hq]; simp
  have e2 : q.drop 2 = P8 ++ ([d] ++ (P2 ++ (e.key.drop n ++ (e.value ++ r)))) := by rw [hq]; simp
  have q2 : (q.drop 2).take 8 = P8 := by rw [e2, ← l8, List.take_left]
  have e10 : q.drop 10 = d :: (P2 ++ (e.key.drop n ++ (e.value ++ r))) := by
    rw [show q.drop 10 = (q.drop 2).drop 8 by rw [List.drop_drop], e2, ← l8, List.drop_left]
    rfl
  have q10 : q.getD 10 0 = d := by
    have h9 : q[10]? = (q.drop 10)[0]? := by rw [List.getElem?_drop]
    rw [List.getD_eq_getElem?_getD, h9, e10]
    rfl
  have e11 : q.drop 11 = P2 ++ (e.key.drop n ++ (e.value ++ r)) := by
    rw [show q.drop 11 = (q.drop 10).drop 1 by rw [List.drop_drop], e10]
    rfl
  have q11 : (q.drop 11).take 2 = P2 := by rw [e11, ← l2, List.take_left]
  have e13 : q.drop 13 = e.key.drop n ++ (e.value ++ r) := by
    rw [show q.drop 13 = (q.drop 11).drop 2 by rw [List.drop_drop], e11, ← l2, List.drop_left]
  have hkl : (e.key.drop n).length = e.key.length - n := List.length_drop
  have hql : 13 ≤ q.length := by
    have h9 := congrArg List.length e11
    have h8 := congrArg List.length e13
    have h7 := congrArg List.length hq
    simp only [List.length_append, List.length_cons, List.length_nil] at h7
    omega
  rw [← hq]
  unfold stepQ
  rw [ha, q0, q1, q2, q10, q11, e13, b1, b2, b3, b4, b5, if_neg (by omega), if_neg (by rintro ⟨h5, h6⟩; omega), if_neg (by simp only [List.length_append]; omega)]
  have t1 : (e.key.drop n ++ (e.value ++ r)).take (e.key.length - n) = e.key.drop n := by rw [← hkl, List.take_left]
  have t2 : (e.key.drop n ++ (e.value ++ r)).drop (e.key.length - n) = e.value ++ r := by rw [← hkl, List.drop_left]
  rw [t1, t2, List.take_left, ← List.drop_drop, t2, List.drop_left, ht, List.take_append_drop]
theorem runQ_rest (L : List Ent) (r : List UInt8) (hb : buildE L = 0) (hs : ∀ e ∈ L, e.seq < 9223372036854775808) : ∀ (k i : Nat), i + k = L.length → runQ k (L.take i) (restB L i k ++ r) = some L
  | 0, i, h => by
    have e : L.take i = L := List.take_of_length_le (by omega)
    unfold runQ
    rw [e]
  | k + 1, i, h => by
    have hi : i < L.length := by omega
    have ih := runQ_rest L r hb hs k (i + 1) (by omega)
    have e2 : restB L i (k + 1) = entB (aheadK L i) L[i] ++ restB L (i + 1) k := by
      unfold restB
      rw [List.range'_succ, List.map_cons, List.flatten_cons]
      congr 1
      unfold entAt
      rw [List.getElem?_eq_getElem hi]
    have h9 := stepQ_entB (L.take i) L[i] (restB L (i + 1) k ++ r) (buildE_may hb _ (List.getElem_mem hi)) (hs _ (List.getElem_mem hi)) (by rw [aheadS_take (by omega)]; exact ahead_short (buildE_key hb) i)
    rw [aheadS_take (by omega)] at h9
    rw [e2, List.append_assoc, runQ_next h9, ← List.take_succ_eq_append_getElem hi, ih]
theorem entsQ_build {L : List Ent} (hb : buildE L = 0) (hs : ∀ e ∈ L, e.seq < 9223372036854775808) : entsQ (buildB L) = some L := by
  obtain ⟨r, hr⟩ := buildB_eq L
  have hf := buildE_few hb
  have hl : (putB L.length 4).length = 4 := putB_len _ _
  unfold entsQ
  rw [hr]
  have e4 : (markB ++ (putB L.length 4 ++ (restB L 0 L.length ++ r))).drop 4 = putB L.length 4 ++ (restB L 0 L.length ++ r) := rfl
  have e8 : (markB ++ (putB L.length 4 ++ (restB L 0 L.length ++ r))).drop 8 = restB L 0 L.length ++ r := by
    rw [show (8 : Nat) = 4 + 4 from rfl, ← List.drop_drop, e4]
    exact List.drop_left' hl
  rw [if_neg (by simp only [List.length_append, hl]; show ¬ 4 + _ < 8; omega), e4, e8]
  have t4 : (putB L.length 4 ++ (restB L 0 L.length ++ r)).take 4 = putB L.length 4 := List.take_left' hl
  rw [t4, get_put, Nat.mod_eq_of_lt (by omega)]
  exact runQ_rest L r hb hs L.length 0 (by omega)
theorem runQ_seq0 {b : List UInt8} {l : List Ent} (h : entsQ b = some l) : ∀ e ∈ l, e.seq < 9223372036854775808 := by
  unfold entsQ at h
  split at h
  · cases h
  · exact runQ_seq _ (by simp) h
theorem readP_seq {b : List UInt8} : ∀ (k : Nat) (st : StP), (∀ e ∈ st.1, e.seq < 9223372036854775808) → ∀ e ∈ (runP k st).1, e.seq < 9223372036854775808
  | 0, st, h => h
  | k + 1, st, h => by
    unfold runP
    split
    · exact h
    · refine readP_seq (b := b) k _ fun e he => ?_
      unfold stepP at he
      rcases List.mem_append.1 he with he | he
      · exact h e he
      · rw [List.mem_singleton] at he
        subst he
        exact (entP_small _ _ _).2.2
/-- What the document says of bytes. -/
theorem ents_yes {b : List UInt8} {l : List Ent} (h : entsQ b = some l) (h1 : buildE l = 0) (h2 : buildB l = b) : openE b = 0 ∧ (readP b).1 = l := by
  have hs := runQ_seq0 h
  subst h2
  exact ⟨openE_build h1 hs, (readP_build h1 hs).1⟩
theorem ents_no {b : List UInt8} (hs : sumOk b = true) (h : ∀ l, entsQ b = some l → buildE l ≠ 0 ∨ buildB l ≠ b) : openE b = 73 := by
  refine openE_form hs fun h0 => ?_
  obtain ⟨h1, h2, _⟩ := openE_zero h0
  have hsq : ∀ e ∈ (readP b).1, e.seq < 9223372036854775808 := readP_seq (b := b) _ _ (by simp)
  have h3 := entsQ_build h1 hsq
  rw [← h2] at h3
  rcases h _ h3 with q | q
  · exact q h1
  · exact q h2.symm
end Go.Proofs.Ytaoenbjfkahdjaa
