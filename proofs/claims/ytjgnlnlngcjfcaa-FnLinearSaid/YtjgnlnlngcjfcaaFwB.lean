/- The region rule, finished: a region that draws its order is walked once, in the text's order. No condition. -/
import Derived.Test.YtjgnlnlngcjfcaaFwA
namespace Go.Proofs.Ytjgnlnlngcjfcaa
open Go Go.RowKit

section
variable {P : Program} {ops : Array Oper} {md : Region.Mode} {kd bs : Nat → Nat} {w0 : World} {Q : Act → World → Prop}

theorem wp_weak {o : Oper} {a : Act} {w : World} {K : Act → World → Prop} {Q' : Exit → Act → World → Prop} (h : o.wp P a w K (NQ fun _ _ => False)) : o.wp P a w K Q' := by
  unfold Oper.wp at *
  generalize (execOp a.eval o).run P w = r at *
  cases r with
  | ok n w' =>
    cases n <;> simp only [Oper.upon] at h ⊢ <;> try exact h
    case enter f args =>
      refine Calls.mono h (fun e w'' he => ?_)
      cases e with
      | returned u => exact he
      | panicked c => exact he.elim
      | outgrown => obtain ⟨_, _, hf⟩ := he; exact hf.elim
  | halt x w' => cases x <;> simp only [Oper.upon] at h ⊢; exact h.elim

theorem wp_of_YA {o : Oper} {a : Act} {w : World} {v : Value} {K : Act → World → Prop} {Q' : Exit → Act → World → Prop} (h : YA P o a w v) (hK : K (a.put o.dst v) w) : o.wp P a w K Q' := by
  unfold Oper.wp
  unfold YA at h
  rcases h with h | ⟨h, rfl⟩ | ⟨f, args, h, hc⟩ <;> rw [h]
  · exact hK
  · exact hK
  · exact Calls.mono hc fun e w' he => by
      obtain ⟨rfl, rfl⟩ := he
      exact hK

/-- All places that wait are listed before. -/
def Closed (bs : Nat → Nat) (listed : Array Bool) : Prop := ∀ i, listed.getD i false = true → ∀ j, (bs i).testBit j = true → listed.getD j false = true

theorem getD_false_of_true {l : Array Bool} {i : Nat} (h : l.getD i true = false) : l.getD i false = false := by
  by_cases hi : i < l.size
  · simpa [hi] using h
  · simp [hi] at h

/-- x stands before y in the list: y waits for x, or they are apart and their kinds let them; and x does not wait for y. -/
def PairOK (md : Region.Mode) (ops : Array Oper) (kd bs : Nat → Nat) (x y : Nat) : Prop :=
  (∀ ox oy, ops[x]? = some ox → ops[y]? = some oy → (bs y).testBit x = true ∨ (ox.apart ops oy = true ∧ okPair (kd x) (kd y) = true)) ∧
  (∀ ox, ops[x]? = some ox → ∀ e ∈ ox.after, Region.binds md e = true → e.on ≠ y)

section lists
variable {l1 l2 : List Nat} {i : Nat} {listed : Array Bool}
theorem head_ready (hz : listed.size = ops.size) {l : List Nat} (hm : ∀ x, x ∈ i :: l ↔ listed.getD x true = false) (hself : ∀ x ox, ops[x]? = some ox → ∀ e ∈ ox.after, Region.binds md e = true → e.on < x)
    (hs : ∀ y ∈ l, ∀ ox, ops[i]? = some ox → ∀ e ∈ ox.after, Region.binds md e = true → e.on ≠ y) : i ∈ Region.ready md ops listed := by
  have hil := (hm i).1 (List.mem_cons_self ..)
  have hlt : i < ops.size := by
    rw [← hz]
    rcases Nat.lt_or_ge i listed.size with h' | h'
    · exact h'
    · simp [Array.getElem?_eq_none h'] at hil
  refine mem_ready.2 ⟨hil, ops[i], by simp [hlt], fun e he hb => ?_⟩
  have hlt' := hself i ops[i] (by simp [hlt]) e he hb
  have hnot : e.on ∉ i :: l := by
    intro hmem
    rcases List.mem_cons.1 hmem with hh | hh
    · omega
    · exact hs _ hh ops[i] (by simp [hlt]) e he hb rfl
  have : listed.getD e.on true = true := by
    cases hb' : listed.getD e.on true with
    | true => rfl
    | false => exact absurd ((hm e.on).2 hb') hnot
  have hlt2 : e.on < listed.size := by omega
  simpa [hlt2] using this

theorem mem_erase (hm : ∀ x, x ∈ l1 ++ i :: l2 ↔ listed.getD x true = false) (hnd : i ∉ l1 ++ l2) (hsz : i < listed.size) : ∀ x, x ∈ l1 ++ l2 ↔ (listed.setIfInBounds i true).getD x true = false := by
  intro x
  by_cases hxi : x = i
  · subst hxi
    constructor
    · exact fun hh => absurd hh hnd
    · intro hh; simp [hsz] at hh
  · rw [getD_set_ne true (Ne.symm hxi), ← hm x]
    simp only [List.mem_append, List.mem_cons]
    constructor
    · exact fun hh => hh.elim .inl fun y => .inr (.inr y)
    · exact fun hh => hh.elim .inl fun y => y.elim (fun z => absurd z hxi) .inr

theorem closed_set (hc : Closed bs listed) (hbits : ∀ j, (bs i).testBit j = true → listed.getD j false = true) : Closed bs (listed.setIfInBounds i true) := by
  intro x hx j hj
  by_cases hxi : x = i
  · subst hxi; exact getD_set_true (hbits j hj)
  · rw [getD_set_ne false (Ne.symm hxi)] at hx; exact getD_set_true (hc x hx j hj)

theorem bits_of_ready (hS : Sound md ops bs) (hc : Closed bs listed) {oi : Oper} (hoi : ops[i]? = some oi) (hall : ∀ e ∈ oi.after, Region.binds md e = true → listed.getD e.on false = true) : ∀ j, (bs i).testBit j = true → listed.getD j false = true := by
  intro j hj
  obtain ⟨e, he, hb, hh⟩ := hS i oi hoi j hj
  have hl := hall e he hb
  rcases hh with rfl | hh
  · exact hl
  · exact hc e.on hl j hh

/-- What stands before a ready place in the list is free of it. -/
theorem prefix_free {oi : Oper} (hoi : ops[i]? = some oi) (hp : ∀ x ∈ l1, (∀ ox oy, ops[x]? = some ox → ops[i]? = some oy → (bs i).testBit x = true ∨ (ox.apart ops oy = true ∧ okPair (kd x) (kd i) = true)))
    (hm : ∀ x ∈ l1, listed.getD x true = false) (hbits : ∀ j, (bs i).testBit j = true → listed.getD j false = true) : ∀ x ∈ l1, ∀ ox, ops[x]? = some ox → ox.apart ops oi = true ∧ okPair (kd x) (kd i) = true := by
  intro x hx ox hox
  rcases hp x hx ox oi hox hoi with hb | hb
  · have h1 := hbits x hb
    have h2 := getD_false_of_true (hm x hx)
    rw [h1] at h2; cases h2
  · exact hb

theorem lt_of_unlisted (h : listed.getD i true = false) : i < listed.size := by
  rcases Nat.lt_or_ge i listed.size with h' | h'
  · exact h'
  · simp [Array.getElem?_eq_none h'] at h
end lists

theorem any_of_LI (hsel : ∀ (j : Nat) (o : Oper) cs b, ops[j]? = some o → o.op ≠ .select cs b) (hS : Sound md ops bs)
    (hlex : ∀ j oj, ops[j]? = some oj → ∀ e ∈ oj.after, Region.binds md e = true → e.on < j) :
    ∀ (n : Nat) (l : List Nat) (listed : Array Bool) (a : Act) (w : World), l.length = n → l.Pairwise (PairOK md ops kd bs) → l.Nodup → listed.size = ops.size →
      (∀ i, i ∈ l ↔ listed.getD i true = false) → Closed bs listed → No14 kd l → Inv1 kd w0 w l → LI P ops kd w0 Q l a w → wpAny P md ops (NQ Q) n listed a w
  | 0, l, listed, a, w, hn, _, _, _, hm, _, _, _, h => by
    have hl : l = [] := List.eq_nil_of_length_eq_zero hn
    subst hl
    refine ⟨?_, h⟩
    cases hr : Region.ready md ops listed with
    | nil => rfl
    | cons x xs =>
      have := (mem_ready.1 (by rw [hr]; exact List.mem_cons_self .. : x ∈ Region.ready md ops listed)).1
      exact absurd ((hm x).2 this) (by simp)
  | n + 1, l, listed, a, w, hn, hs, hd, hz, hm, hc, h14, hi1, h => by
    refine ⟨fun h0 => ?_, fun i hi => ?_⟩
    · exfalso
      match l, hn with
      | i :: l, hn =>
        have hready := head_ready (md := md) hz hm hlex (fun y hy ox hox => ((List.pairwise_cons.1 hs).1 y hy).2 ox hox)
        rw [h0] at hready
        cases hready
    · obtain ⟨hun, oi, hoi, hall⟩ := mem_ready.1 hi
      obtain ⟨l1, l2, rfl⟩ := List.append_of_mem ((hm i).2 hun)
      have hbits := bits_of_ready hS hc hoi hall
      have hpi : ∀ x ∈ l1, PairOK md ops kd bs x i := fun x hx => (List.pairwise_append.1 hs).2.2 x hx i (List.mem_cons_self ..)
      have hfree := prefix_free (kd := kd) (l1 := l1) hoi (fun x hx => (hpi x hx).1) (fun x hx => (hm x).1 (List.mem_append_left _ hx)) hbits
      have hsz := lt_of_unlisted hun
      have hsub0 : (l1 ++ l2).Sublist (l1 ++ i :: l2) := List.Sublist.append_left (List.sublist_cons_self _ _) _
      have hnd : i ∉ l1 ++ l2 := by
        have h1 := List.nodup_append.1 hd
        intro hmem
        rcases List.mem_append.1 hmem with hh | hh
        · exact h1.2.2 i hh i (List.mem_cons_self ..) rfl
        · exact (List.nodup_cons.1 h1.2.1).1 hh
      have hn' : (l1 ++ l2).length = n := by simp at hn ⊢; omega
      have rec_ : ∀ a' w', Inv1 kd w0 w' (l1 ++ l2) → LI P ops kd w0 Q (l1 ++ l2) a' w' → wpAny P md ops (NQ Q) n (listed.setIfInBounds i true) a' w' := fun a' w' hi' hL =>
        any_of_LI hsel hS hlex n (l1 ++ l2) _ a' w' hn' (hs.sublist hsub0) (hd.sublist hsub0) (by simpa using hz) (mem_erase hm hnd hsz) (closed_set hc hbits) (No14.erase h14) hi' hL
      have hsub : Inv1 kd w0 w (l1 ++ l2) := fun ⟨j, hj, hk⟩ => hi1 ⟨j, hsub0.subset hj, hk⟩
      by_cases hk : kd i ≤ 2
      · obtain ⟨v, hv, hL⟩ := takeQ hsel hoi hk l1 l2 a w hfree (fun h1 => hi1 ⟨i, by simp, h1⟩) h
        unfold wpOp
        rw [hoi]
        rcases hv with ⟨hw, hy⟩ | ⟨hw, rfl⟩
        · simp only [hw, if_true]
          exact .inl (wp_of_YA (hy w (Cl.self fun h1 => hi1 ⟨i, by simp, h1⟩)) (rec_ _ _ hsub hL))
        · simp only [hw, Bool.false_eq_true, if_false]
          exact rec_ _ _ hsub hL
      · obtain ⟨g1, g2⟩ := takeR hsel hoi (by omega) l1 l2 a w hfree h
        unfold wpOp
        rw [hoi]
        by_cases hw : Region.wanted oi (yielded ops a.tmps) = true
        · simp only [hw, if_true]
          refine .inl (Oper.wp_mono (fun a' w' hK => rec_ a' w' ?_ hK.2) (wp_weak (g1 hw)))
          rintro ⟨j, hj, hkj⟩
          by_cases h3 : kd i = 3
          · exact (hsub ⟨j, hj, hkj⟩).trans (hK.1 h3)
          · exfalso
            rcases List.mem_append.1 hj with hh | hh
            · obtain ⟨oj, hoj⟩ : ∃ oj, ops[j]? = some oj := by
                have := lt_of_unlisted ((hm j).1 (List.mem_append_left _ hh))
                exact ⟨ops[j]'(by omega), by simp [show j < ops.size by omega]⟩
              have := (okj (hfree j hh oj hoj).2 (by omega)).2 (by omega)
              omega
            · exact h14 l1 i l2 rfl (by omega) j hh hkj
        · simp only [hw, Bool.false_eq_true, if_false]
          exact rec_ _ _ hsub (g2 (by simpa using hw))

/-! ### Two places that make memory in either order: two walks -/

/-- The text's order, and the order with place i laid behind place j. -/
def Two (i j : Nat) (l1 l2 : List Nat) : Prop := ∃ A M C, l1 = A ++ i :: (M ++ j :: C) ∧ l2 = A ++ (M ++ j :: i :: C)

theorem Two.split {i j x : Nat} {l1 l2 : List Nat} (h : Two i j l1 l2) (hx : x ∈ l1) (hi : x ≠ i) (hj : x ≠ j) : ∃ P1 S1 P2 S2, l1 = P1 ++ x :: S1 ∧ l2 = P2 ++ x :: S2 ∧ Two i j (P1 ++ S1) (P2 ++ S2) := by
  obtain ⟨A, M, C, rfl, rfl⟩ := h
  simp only [List.mem_append, List.mem_cons] at hx
  rcases hx with hx | hx | hx | hx | hx
  · obtain ⟨A1, A2, rfl⟩ := List.append_of_mem hx
    exact ⟨A1, A2 ++ i :: (M ++ j :: C), A1, A2 ++ (M ++ j :: i :: C), by simp, by simp, A1 ++ A2, M, C, by simp, by simp⟩
  · exact absurd hx hi
  · obtain ⟨M1, M2, rfl⟩ := List.append_of_mem hx
    exact ⟨A ++ i :: M1, M2 ++ j :: C, A ++ M1, M2 ++ j :: i :: C, by simp, by simp, A, M1 ++ M2, C, by simp, by simp⟩
  · exact absurd hx hj
  · obtain ⟨C1, C2, rfl⟩ := List.append_of_mem hx
    exact ⟨A ++ i :: (M ++ j :: C1), C2, A ++ (M ++ j :: i :: C1), C2, by simp, by simp, A, M, C1 ++ C2, by simp, by simp⟩

theorem Two.mem {i j x : Nat} {l1 l2 : List Nat} (h : Two i j l1 l2) : x ∈ l2 ↔ x ∈ l1 := by
  obtain ⟨A, M, C, rfl, rfl⟩ := h
  simp only [List.mem_append, List.mem_cons]
  constructor
  · rintro (h | h | h | h | h)
    · exact .inl h
    · exact .inr (.inr (.inl h))
    · exact .inr (.inr (.inr (.inl h)))
    · exact .inr (.inl h)
    · exact .inr (.inr (.inr (.inr h)))
  · rintro (h | h | h | h | h)
    · exact .inl h
    · exact .inr (.inr (.inr (.inl h)))
    · exact .inr (.inl h)
    · exact .inr (.inr (.inl h))
    · exact .inr (.inr (.inr (.inr h)))
theorem Two.length {i j : Nat} {l1 l2 : List Nat} (h : Two i j l1 l2) : l2.length = l1.length := by
  obtain ⟨A, M, C, rfl, rfl⟩ := h
  simp; omega
theorem Two.nodup {i j : Nat} {l1 l2 : List Nat} (h : Two i j l1 l2) (hd : l1.Nodup) : l2.Nodup := by
  obtain ⟨A, M, C, rfl, rfl⟩ := h
  refine (List.Perm.nodup_iff (List.Perm.append_left A ?_)).1 hd
  have h1 : List.Perm (i :: (M ++ j :: C)) (M ++ i :: j :: C) := List.perm_middle.symm
  exact h1.trans (List.Perm.append_left M (List.Perm.swap ..))

theorem not_mem_rest {i : Nat} {l1 l2 : List Nat} (hd : (l1 ++ i :: l2).Nodup) : i ∉ l1 ++ l2 := by
  have h1 := List.nodup_append.1 hd
  intro hmem
  rcases List.mem_append.1 hmem with hh | hh
  · exact h1.2.2 i hh i (List.mem_cons_self ..) rfl
  · exact (List.nodup_cons.1 h1.2.1).1 hh

theorem any_of_two (hsel : ∀ (j : Nat) (o : Oper) cs b, ops[j]? = some o → o.op ≠ .select cs b) (hS : Sound md ops bs)
    (hlex : ∀ j oj, ops[j]? = some oj → ∀ e ∈ oj.after, Region.binds md e = true → e.on < j) {i j : Nat} (hij : i < j) (hki : kd i = 3) (hkj : kd j = 3) :
    ∀ (n : Nat) (l1 l2 : List Nat) (listed : Array Bool) (a : Act) (w : World), Two i j l1 l2 → l1.length = n → l1.Pairwise (fun x y => (x = i ∧ y = j) ∨ PairOK md ops kd bs x y) → l2.Pairwise (fun x y => (x = j ∧ y = i) ∨ PairOK md ops kd bs x y) → l1.Nodup → listed.size = ops.size →
      (∀ x, x ∈ l1 ↔ listed.getD x true = false) → Closed bs listed → (∀ x ∈ l1, 3 ≤ kd x → x = i ∨ x = j ∨ (bs x).testBit i = true) → No14 kd l1 → No14 kd l2 → Inv1 kd w0 w l1 → LI P ops kd w0 Q l1 a w → LI P ops kd w0 Q l2 a w → wpAny P md ops (NQ Q) n listed a w
  | 0, l1, l2, listed, a, w, hT, hn, _, _, _, _, _, _, _, _, _, _, _, _ => by
    obtain ⟨A, M, C, rfl, _⟩ := hT
    simp at hn
  | n + 1, l1, l2, listed, a, w, hT, hn, hs1, hs2, hd, hz, hm, hc, hwt, h14, h14', hi1, h1, h2 => by
    refine ⟨fun h0 => ?_, fun x hx => ?_⟩
    · exfalso
      match l1, hn with
      | y :: l, hn =>
        have hready := head_ready (md := md) hz hm hlex (fun z hz' ox hox e he hb => by
          rcases (List.pairwise_cons.1 hs1).1 z hz' with ⟨rfl, rfl⟩ | hh
          · have := hlex y ox hox e he hb; omega
          · exact hh.2 ox hox e he hb)
        rw [h0] at hready
        cases hready
    · obtain ⟨hun, ox, hox, hall⟩ := mem_ready.1 hx
      have hxm := (hm x).2 hun
      have hbits := bits_of_ready hS hc hox hall
      have hsz := lt_of_unlisted hun
      have hd2 := hT.nodup hd
      have hm2 : ∀ y, y ∈ l2 ↔ listed.getD y true = false := fun y => hT.mem.trans (hm y)
      unfold wpOp
      rw [hox]
      by_cases hxi : x = i
      · subst hxi
        obtain ⟨A, M, C, rfl, _⟩ := hT
        have hnd := not_mem_rest hd
        have hp : ∀ y ∈ A, PairOK md ops kd bs y x := fun y hy => by
          rcases (List.pairwise_append.1 hs1).2.2 y hy x (List.mem_cons_self ..) with ⟨rfl, _⟩ | hh
          · exact absurd (List.mem_append_left _ hy) hnd
          · exact hh
        have hfree := prefix_free (kd := kd) (l1 := A) hox (fun y hy => (hp y hy).1) (fun y hy => (hm y).1 (List.mem_append_left _ hy)) hbits
        have hsub0 : (A ++ (M ++ j :: C)).Sublist (A ++ x :: (M ++ j :: C)) := List.Sublist.append_left (List.sublist_cons_self _ _) _
        have hpw : (A ++ (M ++ j :: C)).Pairwise (PairOK md ops kd bs) := (hs1.sublist hsub0).imp_of_mem fun {y z} hy hz' hh => hh.elim (fun e => absurd (e.1 ▸ hy) hnd) id
        have rec_ : ∀ a' w', Inv1 kd w0 w' (A ++ (M ++ j :: C)) → LI P ops kd w0 Q (A ++ (M ++ j :: C)) a' w' → wpAny P md ops (NQ Q) n (listed.setIfInBounds x true) a' w' := fun a' w' hi' hL =>
          any_of_LI hsel hS hlex n _ _ a' w' (by simp at hn ⊢; omega) hpw (hd.sublist hsub0) (by simpa using hz) (mem_erase hm hnd hsz) (closed_set hc hbits) (No14.erase h14) hi' hL
        have hsub : Inv1 kd w0 w (A ++ (M ++ j :: C)) := fun ⟨y, hy, hk⟩ => hi1 ⟨y, hsub0.subset hy, hk⟩
        obtain ⟨g1, g2⟩ := takeR hsel hox (by omega) A (M ++ j :: C) a w hfree h1
        by_cases hw : Region.wanted ox (yielded ops a.tmps) = true
        · simp only [hw, if_true]
          exact .inl (Oper.wp_mono (fun a' w' hK => rec_ a' w' (fun hh => (hsub hh).trans (hK.1 hki)) hK.2) (wp_weak (g1 hw)))
        · simp only [hw, Bool.false_eq_true, if_false]
          exact rec_ _ _ hsub (g2 (by simpa using hw))
      · by_cases hxj : x = j
        · subst hxj
          obtain ⟨A, M, C, hl1, rfl⟩ := hT
          have el2 : A ++ (M ++ x :: i :: C) = (A ++ M) ++ x :: (i :: C) := by simp
          rw [el2] at hs2 hd2 hm2 h14' h2
          have hnd := not_mem_rest hd2
          have hp : ∀ y ∈ A ++ M, PairOK md ops kd bs y x := fun y hy => by
            rcases (List.pairwise_append.1 hs2).2.2 y hy x (List.mem_cons_self ..) with ⟨rfl, _⟩ | hh
            · exact absurd (List.mem_append_left _ hy) hnd
            · exact hh
          have hfree := prefix_free (kd := kd) (l1 := A ++ M) hox (fun y hy => (hp y hy).1) (fun y hy => (hm2 y).1 (List.mem_append_left _ hy)) hbits
          have hsub0 : ((A ++ M) ++ (i :: C)).Sublist ((A ++ M) ++ x :: (i :: C)) := List.Sublist.append_left (List.sublist_cons_self _ _) _
          have hpw : ((A ++ M) ++ (i :: C)).Pairwise (PairOK md ops kd bs) := (hs2.sublist hsub0).imp_of_mem fun {y z} hy hz' hh => hh.elim (fun e => absurd (e.1 ▸ hy) hnd) id
          have rec_ : ∀ a' w', Inv1 kd w0 w' ((A ++ M) ++ (i :: C)) → LI P ops kd w0 Q ((A ++ M) ++ (i :: C)) a' w' → wpAny P md ops (NQ Q) n (listed.setIfInBounds x true) a' w' := fun a' w' hi' hL =>
            any_of_LI hsel hS hlex n _ _ a' w' (by rw [hl1] at hn; simp at hn ⊢; omega) hpw (hd2.sublist hsub0) (by simpa using hz) (mem_erase hm2 hnd hsz) (closed_set hc hbits) (No14.erase h14') hi' hL
          have hsub : Inv1 kd w0 w ((A ++ M) ++ (i :: C)) := fun ⟨y, hy, hk⟩ => hi1 ⟨y, (hm y).2 ((hm2 y).1 (hsub0.subset hy)), hk⟩
          obtain ⟨g1, g2⟩ := takeR hsel hox (by omega) (A ++ M) (i :: C) a w hfree h2
          by_cases hw : Region.wanted ox (yielded ops a.tmps) = true
          · simp only [hw, if_true]
            exact .inl (Oper.wp_mono (fun a' w' hK => rec_ a' w' (fun hh => (hsub hh).trans (hK.1 hkj)) hK.2) (wp_weak (g1 hw)))
          · simp only [hw, Bool.false_eq_true, if_false]
            exact rec_ _ _ hsub (g2 (by simpa using hw))
        · have hk : kd x ≤ 2 := by
            rcases Nat.lt_or_ge (kd x) 3 with hh | hh
            · omega
            · exfalso
              rcases hwt x hxm hh with hh | hh | hh
              · exact hxi hh
              · exact hxj hh
              · have e1 := hbits i hh
                have e2 : i ∈ l1 := by obtain ⟨A, M, C, rfl, _⟩ := hT; simp
                have e3 := getD_false_of_true ((hm i).1 e2)
                rw [e1] at e3; cases e3
          obtain ⟨P1, S1, P2, S2, rfl, rfl, hT'⟩ := hT.split hxm hxi hxj
          have hnd1 := not_mem_rest hd
          have hnd2 := not_mem_rest hd2
          have hp1 : ∀ y ∈ P1, PairOK md ops kd bs y x := fun y hy => by
            rcases (List.pairwise_append.1 hs1).2.2 y hy x (List.mem_cons_self ..) with ⟨_, e⟩ | hh
            · exact absurd e hxj
            · exact hh
          have hp2 : ∀ y ∈ P2, PairOK md ops kd bs y x := fun y hy => by
            rcases (List.pairwise_append.1 hs2).2.2 y hy x (List.mem_cons_self ..) with ⟨_, e⟩ | hh
            · exact absurd e hxi
            · exact hh
          have hf1 := prefix_free (kd := kd) (l1 := P1) hox (fun y hy => (hp1 y hy).1) (fun y hy => (hm y).1 (List.mem_append_left _ hy)) hbits
          have hf2 := prefix_free (kd := kd) (l1 := P2) hox (fun y hy => (hp2 y hy).1) (fun y hy => (hm2 y).1 (List.mem_append_left _ hy)) hbits
          have hcl : kd x = 1 → Ext w0 w := fun h1 => hi1 ⟨x, by simp, h1⟩
          obtain ⟨v, hv, hL1⟩ := takeQ hsel hox hk P1 S1 a w hf1 hcl h1
          obtain ⟨v', hv', hL2⟩ := takeQ hsel hox hk P2 S2 a w hf2 hcl h2
          have hvv : v' = v := Yv.unique hcl hv' hv
          subst hvv
          have hsb1 : (P1 ++ S1).Sublist (P1 ++ x :: S1) := List.Sublist.append_left (List.sublist_cons_self _ _) _
          have hsb2 : (P2 ++ S2).Sublist (P2 ++ x :: S2) := List.Sublist.append_left (List.sublist_cons_self _ _) _
          have hfin := any_of_two hsel hS hlex hij hki hkj n (P1 ++ S1) (P2 ++ S2) (listed.setIfInBounds x true) (a.put ox.dst v') w hT' (by simp at hn ⊢; omega) (hs1.sublist hsb1) (hs2.sublist hsb2) (hd.sublist hsb1) (by simpa using hz)
            (mem_erase hm hnd1 hsz) (closed_set hc hbits) (fun y hy => hwt y (hsb1.subset hy)) (No14.erase h14) (No14.erase h14') (fun ⟨y, hy, hk⟩ => hi1 ⟨y, hsb1.subset hy, hk⟩) hL1 hL2
          rcases hv with ⟨hw, hy⟩ | ⟨hw, rfl⟩
          · simp only [hw, if_true]
            exact .inl (wp_of_YA (hy w (Cl.self hcl)) hfin)
          · simp only [hw, Bool.false_eq_true, if_false]
            exact hfin

/-! ### The same over the list of operations -/

theorem LI_of_LW (ks : List Nat) : ∀ (os : List Oper) (k : Nat) (a : Act) (w : World), (∀ j, os[j]? = ops[k + j]?) →
    LW P ops w0 Q os (ks.drop k) a w → LI P ops (fun i => ks.getD i 0) w0 Q (List.range' k os.length) a w
  | [], _, _, _, _, h => by simpa [LI, LW] using h
  | o :: os, k, a, w, ho, h => by
    have h0 : ops[k]? = some o := by simpa using (ho 0).symm
    have hr : ∀ a w, LW P ops w0 Q os (ks.drop (k + 1)) a w → LI P ops (fun i => ks.getD i 0) w0 Q (List.range' (k + 1) os.length) a w := fun a w hh =>
      LI_of_LW ks os (k + 1) a w (fun j => by have := ho (j + 1); simpa [Nat.add_assoc, Nat.add_comm 1 j] using this) hh
    have hlt : k < ks.length := by
      rcases Nat.lt_or_ge k ks.length with hh | hh
      · exact hh
      · rw [List.drop_of_length_le hh] at h; exact h.elim
    have hd : ks.drop k = ks[k] :: ks.drop (k + 1) := List.drop_eq_getElem_cons hlt
    rw [hd] at h
    simp only [List.length_cons, List.range'_succ, LI, h0, LW] at h ⊢
    have hg : ks.getD k 0 = ks[k] := by simp [hlt]
    split
    · rename_i hw
      rw [if_pos hw] at h
      rw [hg]
      exact h.mono hr
    · rename_i hw
      rw [if_neg hw] at h
      exact hr _ _ h

/-- The closed check of a region's edges and kinds. -/
def chk (ops : Array Oper) (ks : List Nat) : Bool :=
  let b := (Region.before ops).toList
  let os := ops.toList
  Region.noSelect ops &&
  (os.zipIdx.all fun (o, j) =>
    (o.after.all fun e => !Region.binds .any e || decide (e.on < j)) &&
    (let m := o.after.foldl (fun s e => if Region.binds .any e then s ||| 2 ^ e.on ||| b.getD e.on 0 else s) 0
     (b.getD j 0 == m)) &&
    (os.zipIdx.all fun (p, i) => !(decide (i < j)) || (b.getD j 0).testBit i || (p.apart ops o && okPair (ks.getD i 0) (ks.getD j 0)))) &&
  (os.zipIdx.all fun (_, i) => !(decide (4 ≤ ks.getD i 0)) || os.zipIdx.all fun (_, j) => !(decide (i < j)) || ks.getD j 0 != 1)

theorem foldl_bits (f : Edge → Nat) : ∀ (l : List Edge) (s : Nat) (i : Nat), (l.foldl (fun s e => if Region.binds .any e then s ||| 2 ^ e.on ||| f e else s) s).testBit i = true →
    s.testBit i = true ∨ ∃ e ∈ l, Region.binds .any e = true ∧ (i = e.on ∨ (f e).testBit i = true)
  | [], s, i, h => .inl h
  | e :: l, s, i, h => by
    rcases foldl_bits f l _ i h with h | ⟨x, hx, hb⟩
    · dsimp only at h
      split at h
      · rename_i hb
        simp only [Nat.testBit_or, Bool.or_eq_true] at h
        rcases h with (h | h) | h
        · exact .inl h
        · refine .inr ⟨e, List.mem_cons_self .., hb, .inl ?_⟩
          simp [Nat.testBit_two_pow] at h
          exact h.symm
        · exact .inr ⟨e, List.mem_cons_self .., hb, .inr h⟩
      · exact .inl h
    · exact .inr ⟨x, List.mem_cons_of_mem _ hx, hb⟩

theorem wpAny_weak {os : List Oper} {Q : Exit → Act → World → Prop} : ∀ (n : Nat) (listed : Array Bool) (a : Act) (w : World), wpAny P .any os.toArray (NQ fun a w => Q .normal a w) n listed a w → wpAny P .any os.toArray Q n listed a w := by
  intro n
  induction n with
  | zero => exact fun listed a w h => h
  | succ n ih =>
    intro listed a w h
    refine ⟨h.1, fun i hi => ?_⟩
    have := wpOp_mono (fun a w => ih _ a w) (h.2 i hi)
    unfold wpOp at this ⊢
    split
    · rename_i ho; rw [ho] at this; exact this
    · rename_i o ho
      rw [ho] at this
      split
      · rename_i hw
        simp only [hw, if_true] at this
        rcases this with this | ⟨_, _, _, hf⟩
        · left
          unfold Oper.wp at *
          generalize (execOp a.eval o).run P w = r at *
          cases r with
          | ok m w' =>
            cases m <;> simp only [Oper.upon] at this ⊢ <;> try exact this
            case enter f args =>
              refine Calls.mono this (fun e w'' he => ?_)
              cases e with
              | returned u => exact he
              | panicked c => exact he.elim
              | outgrown => obtain ⟨_, _, hf⟩ := he; exact hf.elim
          | halt x w' => cases x <;> simp only [Oper.upon] at this ⊢; exact this.elim
        · exact hf.elim
      · rename_i hw
        simp only [hw] at this
        exact this
theorem pairs_sorted {md : Region.Mode} (hF : Free ops kd bs) (hlex : ∀ j oj, ops[j]? = some oj → ∀ e ∈ oj.after, Region.binds md e = true → e.on < j) {l : List Nat} (h : l.Pairwise (· < ·)) : l.Pairwise (PairOK md ops kd bs) :=
  h.imp fun {x y} hxy => ⟨fun ox oy hox hoy => hF x y ox oy hxy hox hoy, fun ox hox e he hb => by have := hlex x ox hox e he hb; omega⟩

/-- A REGION THAT DRAWS ITS ORDER: walked once. -/
theorem wp_draw {id : Nat} {Q : Exit → Act → World → Prop} {a : Act} {w : World} (os : List Oper) (ks : List Nat) (hm : P.follows .mixedOrders = true) (hB : chk os.toArray ks = true)
    (h : LW P os.toArray w.drew (fun a w => Q .normal a w) os ks a w.drew) : (Code.region id os.toArray true).wp P Q a w := by
  refine wp_region_any hm ?_
  simp only [chk, Bool.and_eq_true] at hB
  obtain ⟨⟨hsel, hpl⟩, h14⟩ := hB
  have hz : ∀ {j : Nat} {o : Oper}, os.toArray[j]? = some o → (o, j) ∈ os.toArray.toList.zipIdx := by
    intro j o ho
    rw [List.mem_zipIdx_iff_getElem?]
    simpa using ho
  have hall : ∀ j oj, os.toArray[j]? = some oj → _ := fun j oj hj => List.all_eq_true.1 hpl _ (hz hj)
  have hF : Free os.toArray (fun i => ks.getD i 0) (fun j => (Region.before os.toArray).toList.getD j 0) := by
    intro i j oi oj hij hi hj
    have h3 := (Bool.and_eq_true _ _ ▸ hall j oj hj : _ ∧ _).2
    have h4 := List.all_eq_true.1 h3 _ (hz hi)
    simp only [Bool.or_eq_true, Bool.not_eq_true', decide_eq_false_iff_not, Bool.and_eq_true] at h4
    rcases h4 with (h4 | h4) | h4
    · exact absurd hij h4
    · exact .inl h4
    · exact .inr h4
  have hlex : ∀ j oj, os.toArray[j]? = some oj → ∀ e ∈ oj.after, Region.binds .any e = true → e.on < j := by
    intro j oj hj e he hb
    have h1 := (Bool.and_eq_true _ _ ▸ (Bool.and_eq_true _ _ ▸ hall j oj hj : _ ∧ _).1 : _ ∧ _).1
    have h2 := (Array.all_eq_true_iff_forall_mem.1 h1) e he
    simpa [hb] using h2
  have key := any_of_LI (P := P) (ops := os.toArray) (md := .any) (kd := fun i => ks.getD i 0) (bs := fun j => (Region.before os.toArray).toList.getD j 0) (w0 := w.drew) (Q := fun a w => Q .normal a w)
    (Region.noSelect_spec hsel) ?_ ?_ os.length (List.range' 0 os.length) (Array.replicate os.length false) a w.drew (by simp) ?_ List.nodup_range' (by simp) ?_ ?_ ?_ (fun _ => Ext.refl _) ?_
  · have := wpAny_weak _ _ _ _ key
    simpa using this
  · intro j oj hj i hb
    have h3 := (Bool.and_eq_true _ _ ▸ (Bool.and_eq_true _ _ ▸ hall j oj hj : _ ∧ _).1 : _ ∧ _).2
    have h5 : (Region.before os.toArray).toList.getD j 0 = oj.after.foldl (fun s e => if Region.binds .any e then s ||| 2 ^ e.on ||| (Region.before os.toArray).toList.getD e.on 0 else s) 0 := by simpa using h3
    dsimp only at hb
    rw [h5, ← Array.foldl_toList] at hb
    rcases foldl_bits _ _ _ _ hb with hb | ⟨e, he, hbb, hh⟩
    · simp at hb
    · exact ⟨e, Array.mem_toList_iff.1 he, hbb, hh⟩
  · exact hlex
  · exact pairs_sorted hF hlex List.pairwise_lt_range'
  · intro i
    simp only [List.mem_range', Nat.zero_add, Nat.one_mul]
    constructor
    · rintro ⟨x, hx, rfl⟩; simp [hx]
    · intro hh
      rcases Nat.lt_or_ge i os.length with h' | h'
      · exact ⟨i, h', rfl⟩
      · simp [Array.getElem?_eq_none (show (Array.replicate os.length false).size ≤ i by simpa using h')] at hh
  · intro i hi
    rcases Nat.lt_or_ge i os.length with h' | h'
    · simp [h'] at hi
    · simp [Array.getElem?_eq_none (show (Array.replicate os.length false).size ≤ i by simpa using h')] at hi
  · intro l1 i l2 hl hk j hj
    have hs : (l1 ++ i :: l2).Pairwise (· < ·) := hl ▸ List.pairwise_lt_range'
    have hij : i < j := List.rel_of_pairwise_cons (List.pairwise_append.1 hs).2.1 hj
    have mem : ∀ x ∈ l1 ++ i :: l2, x < os.length := by
      intro x hx
      rw [← hl] at hx
      simp only [List.mem_range', Nat.zero_add, Nat.one_mul] at hx
      obtain ⟨y, hy, rfl⟩ := hx
      exact hy
    have hi := mem i (by simp)
    have hj' := mem j (by simp [hj])
    have h1 := List.all_eq_true.1 h14 _ (hz (j := i) (o := os[i]) (by simp [hi]))
    simp only [Bool.or_eq_true, Bool.not_eq_true', decide_eq_false_iff_not] at h1
    rcases h1 with h1 | h1
    · exact absurd hk h1
    · have h2 := List.all_eq_true.1 h1 _ (hz (j := j) (o := os[j]) (by simp [hj']))
      simp only [Bool.or_eq_true, Bool.not_eq_true', decide_eq_false_iff_not] at h2
      rcases h2 with h2 | h2
      · exact absurd hij h2
      · simpa using h2
  · exact LI_of_LW ks os 0 a w.drew (by simp) (by simpa using h)

def Mt (ops : Array Oper) (kd : Nat → Nat) : List Nat → List Oper → List Nat → Prop
  | [], [], _ => True
  | x :: l, o :: os, k :: ks => ops[x]? = some o ∧ kd x = k ∧ Mt ops kd l os ks
  | _, _, _ => False

theorem LI_of_LW2 : ∀ (l : List Nat) (os : List Oper) (ks : List Nat) (a : Act) (w : World), Mt ops kd l os ks → LW P ops w0 Q os ks a w → LI P ops kd w0 Q l a w
  | [], [], _, _, _, _, h => by simpa [LI, LW] using h
  | x :: l, o :: os, k :: ks, a, w, ⟨h0, hk, hM⟩, h => by
    have hr : ∀ a w, LW P ops w0 Q os ks a w → LI P ops kd w0 Q l a w := fun a w hh => LI_of_LW2 l os ks a w hM hh
    simp only [LI, h0, LW] at h ⊢
    split
    · rename_i hw
      rw [if_pos hw] at h
      rw [hk]
      exact h.mono hr
    · rename_i hw
      rw [if_neg hw] at h
      exact hr _ _ h
  | [], _ :: _, _, _, _, h, _ => h.elim
  | _ :: _, [], _, _, _, h, _ => h.elim
  | _ :: _, _ :: _, [], _, _, h, _ => h.elim

def pairB (ops : Array Oper) (ks b : List Nat) (x y : Nat) : Bool :=
  match ops[x]?, ops[y]? with
  | some ox, some oy => ((b.getD y 0).testBit x || (ox.apart ops oy && okPair (ks.getD x 0) (ks.getD y 0))) && ox.after.all fun e => !Region.binds .any e || e.on != y
  | _, _ => false
def pwB (f : Nat → Nat → Bool) : List Nat → Bool
  | [] => true
  | x :: l => l.all (f x) && pwB f l
theorem pwB_spec {f : Nat → Nat → Bool} {R : Nat → Nat → Prop} (hR : ∀ x y, f x y = true → R x y) : ∀ {l : List Nat}, pwB f l = true → l.Pairwise R
  | [], _ => List.Pairwise.nil
  | x :: l, h => by
    simp only [pwB, Bool.and_eq_true, List.all_eq_true] at h
    exact List.pairwise_cons.2 ⟨fun y hy => hR x y (h.1 y hy), pwB_spec hR h.2⟩
theorem pairB_spec {ks b : List Nat} {x y : Nat} (h : pairB ops ks b x y = true) : PairOK .any ops (fun i => ks.getD i 0) (fun j => b.getD j 0) x y := by
  unfold pairB at h
  split at h
  · rename_i ox oy hx hy
    simp only [Bool.and_eq_true, Bool.or_eq_true] at h
    refine ⟨fun ox' oy' hx' hy' => ?_, fun ox' hx' e he hb => ?_⟩
    · rw [hx] at hx'; rw [hy] at hy'; cases hx'; cases hy'
      exact h.1
    · rw [hx] at hx'; cases hx'
      have := (Array.all_eq_true_iff_forall_mem.1 h.2) e he
      simpa [hb] using this
  · cases h
theorem no14_of {ks : List Nat} {l : List Nat} (h : pwB (fun x y => !(decide (4 ≤ ks.getD x 0)) || ks.getD y 0 != 1) l = true) : No14 (fun i => ks.getD i 0) l := by
  have hp := pwB_spec (R := fun x y => 4 ≤ ks.getD x 0 → ks.getD y 0 ≠ 1) (fun x y hxy h4 => by
    rcases Bool.or_eq_true_iff.1 hxy with hh | hh
    · simp only [Bool.not_eq_true', decide_eq_false_iff_not] at hh; exact absurd h4 hh
    · simpa using hh) h
  intro l1 i l2 hl hk j hj
  subst hl
  exact List.rel_of_pairwise_cons (List.pairwise_append.1 hp).2.1 hj hk
/-- The text's order with place i laid behind place j. -/
def twoL (i j n : Nat) : List Nat := List.range' 0 i ++ (List.range' (i + 1) (j - i - 1) ++ j :: i :: List.range' (j + 1) (n - j - 1))
theorem two_range {i j n : Nat} (hij : i < j) (hj : j < n) : Two i j (List.range' 0 n) (twoL i j n) := by
  refine ⟨List.range' 0 i, List.range' (i + 1) (j - i - 1), List.range' (j + 1) (n - j - 1), ?_, rfl⟩
  have e1 : List.range' 0 n = List.range' 0 i ++ List.range' i (n - i) := by
    have := List.range'_append_1 (s := 0) (m := i) (n := n - i)
    rw [Nat.zero_add] at this
    rw [this]; congr 1; omega
  have e2 : List.range' i (n - i) = i :: List.range' (i + 1) (n - i - 1) := by
    rw [show n - i = (n - i - 1) + 1 from by omega, List.range'_succ]; rfl
  have e3 : List.range' (i + 1) (n - i - 1) = List.range' (i + 1) (j - i - 1) ++ List.range' j (n - j) := by
    have := List.range'_append_1 (s := i + 1) (m := j - i - 1) (n := n - j)
    rw [show i + 1 + (j - i - 1) = j from by omega] at this
    rw [this]; congr 1; omega
  have e4 : List.range' j (n - j) = j :: List.range' (j + 1) (n - j - 1) := by
    rw [show n - j = (n - j - 1) + 1 from by omega, List.range'_succ]; rfl
  rw [e1, e2, e3, e4]

/-- The closed check for two walks. -/
def chk2 (os : List Oper) (ks : List Nat) (i j : Nat) : Bool :=
  let ops := os.toArray
  let b := (Region.before ops).toList
  let l1 := List.range' 0 os.length
  let l2 := twoL i j os.length
  Region.noSelect ops &&
  (os.zipIdx.all fun (o, j) =>
    (o.after.all fun e => !Region.binds .any e || decide (e.on < j)) &&
    (let m := o.after.foldl (fun s e => if Region.binds .any e then s ||| 2 ^ e.on ||| b.getD e.on 0 else s) 0
     (b.getD j 0 == m))) &&
  pwB (fun x y => (decide (x = i) && decide (y = j)) || pairB ops ks b x y) l1 &&
  pwB (fun x y => (decide (x = j) && decide (y = i)) || pairB ops ks b x y) l2 &&
  (l1.all fun x => !(decide (3 ≤ ks.getD x 0)) || (decide (x = i) || (decide (x = j) || (b.getD x 0).testBit i))) &&
  pwB (fun x y => !(decide (4 ≤ ks.getD x 0)) || ks.getD y 0 != 1) l1 &&
  pwB (fun x y => !(decide (4 ≤ ks.getD x 0)) || ks.getD y 0 != 1) l2 &&
  (decide (ks.getD i 0 = 3) && (decide (ks.getD j 0 = 3) && (decide (i < j) && decide (j < os.length))))

/-- A REGION THAT DRAWS ITS ORDER, in which two places make memory in either order: walked twice. -/
theorem wp_draw2 {id : Nat} {Q : Exit → Act → World → Prop} {a : Act} {w : World} (os : List Oper) (ks : List Nat) (i j : Nat) (l2 : List Nat) (os2 : List Oper) (ks2 : List Nat) (hm : P.follows .mixedOrders = true) (hB : chk2 os ks i j = true) (hl : twoL i j os.length = l2) (hM : Mt os.toArray (fun i => ks.getD i 0) l2 os2 ks2)
    (h : LW P os.toArray w.drew (fun a w => Q .normal a w) os ks a w.drew) (h2 : LW P os.toArray w.drew (fun a w => Q .normal a w) os2 ks2 a w.drew) : (Code.region id os.toArray true).wp P Q a w := by
  refine wp_region_any hm ?_
  subst hl
  simp only [chk2, Bool.and_eq_true, decide_eq_true_eq] at hB
  obtain ⟨⟨⟨⟨⟨⟨⟨hsel, hpl⟩, hp1⟩, hp2⟩, hwt⟩, h141⟩, h142⟩, hki, hkj, hij, hj⟩ := hB
  have hz : ∀ {j : Nat} {o : Oper}, os.toArray[j]? = some o → (o, j) ∈ os.zipIdx := by
    intro j o ho
    rw [List.mem_zipIdx_iff_getElem?]
    simpa using ho
  have hall : ∀ j oj, os.toArray[j]? = some oj → _ := fun j oj hj => List.all_eq_true.1 hpl _ (hz hj)
  have hlex : ∀ j oj, os.toArray[j]? = some oj → ∀ e ∈ oj.after, Region.binds .any e = true → e.on < j := by
    intro j oj hj e he hb
    have h1 := (Bool.and_eq_true _ _ ▸ hall j oj hj : _ ∧ _).1
    have h2 := (Array.all_eq_true_iff_forall_mem.1 h1) e he
    simpa [hb] using h2
  have hS : Sound .any os.toArray (fun j => (Region.before os.toArray).toList.getD j 0) := by
    intro j oj hj i hb
    have h3 := (Bool.and_eq_true _ _ ▸ hall j oj hj : _ ∧ _).2
    have h5 : (Region.before os.toArray).toList.getD j 0 = oj.after.foldl (fun s e => if Region.binds .any e then s ||| 2 ^ e.on ||| (Region.before os.toArray).toList.getD e.on 0 else s) 0 := by simpa using h3
    dsimp only at hb
    rw [h5, ← Array.foldl_toList] at hb
    rcases foldl_bits _ _ _ _ hb with hb | ⟨e, he, hbb, hh⟩
    · simp at hb
    · exact ⟨e, Array.mem_toList_iff.1 he, hbb, hh⟩
  have key := any_of_two (P := P) (ops := os.toArray) (md := .any) (kd := fun i => ks.getD i 0) (bs := fun j => (Region.before os.toArray).toList.getD j 0) (w0 := w.drew) (Q := fun a w => Q .normal a w)
    (Region.noSelect_spec hsel) hS hlex hij hki hkj os.length (List.range' 0 os.length) (twoL i j os.length) (Array.replicate os.length false) a w.drew (two_range hij hj) (by simp)
    (pwB_spec (fun x y hh => by
      rcases Bool.or_eq_true_iff.1 hh with hh | hh
      · simp only [Bool.and_eq_true, decide_eq_true_eq] at hh; exact .inl hh
      · exact .inr (pairB_spec hh)) hp1)
    (pwB_spec (fun x y hh => by
      rcases Bool.or_eq_true_iff.1 hh with hh | hh
      · simp only [Bool.and_eq_true, decide_eq_true_eq] at hh; exact .inl hh
      · exact .inr (pairB_spec hh)) hp2)
    List.nodup_range' (by simp) ?_ ?_ ?_ (no14_of h141) (no14_of h142) (fun _ => Ext.refl _) (LI_of_LW ks os 0 a w.drew (by simp) (by simpa using h)) (LI_of_LW2 _ _ _ _ _ hM h2)
  · have := wpAny_weak _ _ _ _ key
    simpa using this
  · intro i
    simp only [List.mem_range', Nat.zero_add, Nat.one_mul]
    constructor
    · rintro ⟨x, hx, rfl⟩; simp [hx]
    · intro hh
      rcases Nat.lt_or_ge i os.length with h' | h'
      · exact ⟨i, h', rfl⟩
      · simp [Array.getElem?_eq_none (show (Array.replicate os.length false).size ≤ i by simpa using h')] at hh
  · intro i hi
    rcases Nat.lt_or_ge i os.length with h' | h'
    · simp [h'] at hi
    · simp [Array.getElem?_eq_none (show (Array.replicate os.length false).size ≤ i by simpa using h')] at hi
  · intro x hx h3
    have := List.all_eq_true.1 hwt x hx
    simp only [Bool.or_eq_true, Bool.not_eq_true', decide_eq_false_iff_not, decide_eq_true_eq] at this
    rcases this with hh | hh | hh | hh
    · exact absurd h3 hh
    · exact .inl hh
    · exact .inr (.inl hh)
    · exact .inr (.inr hh)

/-- A REGION WITHOUT A DRAW: kinds 0, 2, 3, 4. -/
theorem wpl_of_LW : ∀ (rest : List Oper) (ks : List Nat) (a : Act) (w : World) (Q : Exit → Act → World → Prop), (∀ k ∈ ks, k ≠ 1) → LW P ops w0 (fun a w => Q .normal a w) rest ks a w → wpList P ops Q rest a w
  | [], _, _, _, _, _, h => h
  | _ :: _, [], _, _, _, _, h => h.elim
  | o :: os, k :: ks, a, w, Q, hk, h => by
    have hk' : ∀ x ∈ ks, x ≠ 1 := fun x hx => hk x (List.mem_cons_of_mem _ hx)
    have hk1 := hk k (List.mem_cons_self ..)
    refine wpList_step fun K hK => ?_
    simp only [LW] at h
    split
    · rename_i hw
      rw [if_pos hw] at h
      unfold OneOp at h
      split at h
      · obtain ⟨v, h1, h2⟩ := h
        exact wp_of_YA (h1 w (Cl.self fun hh => absurd hh hk1)) (hK _ _ (wpl_of_LW os ks _ _ Q hk' h2))
      · split at h
        · exact Oper.wp_mono (fun a w hh => hK _ _ (wpl_of_LW os ks _ _ Q hk' hh.2)) (wp_weak h)
        · exact Oper.wp_mono (fun a w hh => hK _ _ (wpl_of_LW os ks _ _ Q hk' hh)) (wp_weak h)
    · rename_i hw
      rw [if_neg hw] at h
      exact hK _ _ (wpl_of_LW os ks _ _ Q hk' h)

theorem wp_plain {id : Nat} {Q : Exit → Act → World → Prop} {a : Act} {w : World} (os : List Oper) (ks : List Nat) (hk : ks.all (· != 1) = true)
    (h : LW P os.toArray w (fun a w => Q .normal a w) os ks a w) : (Code.region id os.toArray false).wp P Q a w :=
  wp_region_lit (wpl_of_LW os ks a w Q (fun k hh => by simpa using List.all_eq_true.1 hk k hh) h)

end
end Go.Proofs.Ytjgnlnlngcjfcaa
