/- The region rule, finished: a region that draws its order is walked once, in the text's order. No condition. -/
import Derived.Test.YtjgnlnlngcjfcaaFwA
namespace Go.Proofs.Ytjgnlnlngcjfcaa
open Go Go.RowKit

section
variable {P : Program} {ops : Array Oper} {md : Region.Mode} {kd bs : Nat → Nat} {w0 : World} {Q : Act → World → Prop}

theorem wp_weak {o : Oper} {a : Act} {w : World} {K : Act → World → Prop} {Q' : Exit → Act → World → Prop} (h : o.wp P a w K (NQ fun _ _ => False)) : o.wp P a w K Q' := by
  unfold Oper.wp at *
  generalize (execOp a.eval o).run P w = r at *
  cases r with
  | ok n w' =>
    cases n <;> simp only [Oper.upon] at h ⊢ <;> try exact h
    case enter f args =>
      refine Calls.mono h (fun e w'' he => ?_)
      cases e with
      | returned u => exact he
      | panicked c => exact he.elim
      | outgrown => obtain ⟨_, _, hf⟩ := he; exact hf.elim
  | halt x w' => cases x <;> simp only [Oper.upon] at h ⊢; exact h.elim

theorem wp_of_YA {o : Oper} {a : Act} {w : World} {v : Value} {K : Act → World → Prop} {Q' : Exit → Act → World → Prop} (h : YA P o a w v) (hK : K (a.put o.dst v) w) : o.wp P a w K Q' := by
  unfold Oper.wp
  rcases h with h | ⟨h, rfl⟩ <;> rw [h] <;> exact hK

/-- All places that wait are listed before. -/
def Closed (bs : Nat → Nat) (listed : Array Bool) : Prop := ∀ i, listed.getD i false = true → ∀ j, (bs i).testBit j = true → listed.getD j false = true

theorem getD_false_of_true {l : Array Bool} {i : Nat} (h : l.getD i true = false) : l.getD i false = false := by
  by_cases hi : i < l.size
  · simpa [hi] using h
  · simp [hi] at h

theorem sorted_split {l1 l2 : List Nat} {i : Nat} (h : (l1 ++ i :: l2).Pairwise (· < ·)) : ∀ x ∈ l1, x < i := by
  intro x hx
  rw [List.pairwise_append] at h
  exact h.2.2 x hx i (List.mem_cons_self ..)

theorem any_of_LI (hsel : ∀ (j : Nat) (o : Oper) cs b, ops[j]? = some o → o.op ≠ .select cs b) (hF : Free ops kd bs) (hS : Sound md ops bs)
    (hlex : ∀ j oj, ops[j]? = some oj → ∀ e ∈ oj.after, Region.binds md e = true → e.on < j) :
    ∀ (n : Nat) (l : List Nat) (listed : Array Bool) (a : Act) (w : World), l.length = n → l.Pairwise (· < ·) → listed.size = ops.size →
      (∀ i, i ∈ l ↔ listed.getD i true = false) → Closed bs listed → No14 kd l → Inv1 kd w0 w l → LI P ops kd w0 Q l a w → wpAny P md ops (NQ Q) n listed a w
  | 0, l, listed, a, w, hn, _, _, hm, _, _, _, h => by
    have hl : l = [] := List.eq_nil_of_length_eq_zero hn
    subst hl
    refine ⟨?_, h⟩
    cases hr : Region.ready md ops listed with
    | nil => rfl
    | cons x xs =>
      have := (mem_ready.1 (by rw [hr]; exact List.mem_cons_self .. : x ∈ Region.ready md ops listed)).1
      exact absurd ((hm x).2 this) (by simp)
  | n + 1, l, listed, a, w, hn, hs, hz, hm, hc, h14, hi1, h => by
    refine ⟨fun h0 => ?_, fun i hi => ?_⟩
    · exfalso
      match l, hn with
      | i :: l, hn =>
        have hil := (hm i).1 (List.mem_cons_self ..)
        have hlt : i < ops.size := by
          rw [← hz]
          rcases Nat.lt_or_ge i listed.size with h' | h'
          · exact h'
          · simp [Array.getElem?_eq_none h'] at hil
        have hready : i ∈ Region.ready md ops listed := by
          refine mem_ready.2 ⟨hil, ops[i], by simp [hlt], fun e he hb => ?_⟩
          have hlt' := hlex i ops[i] (by simp [hlt]) e he hb
          have hnot : e.on ∉ i :: l := by
            intro hmem
            rcases List.mem_cons.1 hmem with hh | hh
            · omega
            · have := List.rel_of_pairwise_cons hs hh
              omega
          have : listed.getD e.on true = true := by
            cases hb' : listed.getD e.on true with
            | true => rfl
            | false => exact absurd ((hm e.on).2 hb') hnot
          have hlt2 : e.on < listed.size := by omega
          simpa [hlt2] using this
        rw [h0] at hready
        cases hready
    · obtain ⟨hun, oi, hoi, hall⟩ := mem_ready.1 hi
      obtain ⟨l1, l2, rfl⟩ := List.append_of_mem ((hm i).2 hun)
      have hlt := sorted_split hs
      have hbits : ∀ j, (bs i).testBit j = true → listed.getD j false = true := by
        intro j hj
        obtain ⟨e, he, hb, hh⟩ := hS i oi hoi j hj
        have hl := hall e he hb
        rcases hh with rfl | hh
        · exact hl
        · exact hc e.on hl j hh
      have hfree : ∀ x ∈ l1, x < i ∧ (bs i).testBit x = false := by
        intro x hx
        refine ⟨hlt x hx, ?_⟩
        cases hb : (bs i).testBit x with
        | false => rfl
        | true =>
          have h1 := hbits x hb
          have h2 := getD_false_of_true ((hm x).1 (List.mem_append_left _ hx))
          rw [h1] at h2; cases h2
      have hsz : i < listed.size := by
        rcases Nat.lt_or_ge i listed.size with h' | h'
        · exact h'
        · simp [Array.getElem?_eq_none h'] at hun
      have hm' : ∀ x, x ∈ l1 ++ l2 ↔ (listed.setIfInBounds i true).getD x true = false := by
        intro x
        by_cases hxi : x = i
        · subst hxi
          have hnd : x ∉ l1 ++ l2 := by
            intro hmem
            rcases List.mem_append.1 hmem with hh | hh
            · exact absurd (hlt x hh) (Nat.lt_irrefl _)
            · have := List.rel_of_pairwise_cons (List.pairwise_append.1 hs).2.1 hh
              exact absurd this (Nat.lt_irrefl _)
          constructor
          · exact fun hh => absurd hh hnd
          · intro hh; simp [hsz] at hh
        · rw [getD_set_ne true (Ne.symm hxi), ← hm x]
          simp only [List.mem_append, List.mem_cons]
          constructor
          · exact fun hh => hh.elim .inl fun y => .inr (.inr y)
          · exact fun hh => hh.elim .inl fun y => y.elim (fun z => absurd z hxi) .inr
      have hc' : Closed bs (listed.setIfInBounds i true) := by
        intro x hx j hj
        by_cases hxi : x = i
        · subst hxi; exact getD_set_true (hbits j hj)
        · rw [getD_set_ne false (Ne.symm hxi)] at hx; exact getD_set_true (hc x hx j hj)
      have hs' : (l1 ++ l2).Pairwise (· < ·) := by
        rw [List.pairwise_append] at hs ⊢
        exact ⟨hs.1, (List.pairwise_cons.1 hs.2.1).2, fun x hx y hy => hs.2.2 x hx y (List.mem_cons_of_mem _ hy)⟩
      have hn' : (l1 ++ l2).length = n := by simp at hn ⊢; omega
      have rec_ : ∀ a' w', Inv1 kd w0 w' (l1 ++ l2) → LI P ops kd w0 Q (l1 ++ l2) a' w' → wpAny P md ops (NQ Q) n (listed.setIfInBounds i true) a' w' := fun a' w' hi' hL =>
        any_of_LI hsel hF hS hlex n (l1 ++ l2) _ a' w' hn' hs' (by simpa using hz) hm' hc' (No14.erase h14) hi' hL
      have hsub : Inv1 kd w0 w (l1 ++ l2) := fun ⟨j, hj, hk⟩ => hi1 ⟨j, by
        simp only [List.mem_append, List.mem_cons] at hj ⊢
        exact hj.elim .inl fun y => .inr (.inr y), hk⟩
      by_cases hk : kd i ≤ 2
      · obtain ⟨v, hv, hL⟩ := takeQ hsel hF hoi hk l1 l2 a w hfree (fun h1 => hi1 ⟨i, by simp, h1⟩) h
        unfold wpOp
        rw [hoi]
        rcases hv with ⟨hw, hy⟩ | ⟨hw, rfl⟩
        · simp only [hw, if_true]
          exact .inl (wp_of_YA (hy w (Cl.self fun h1 => hi1 ⟨i, by simp, h1⟩)) (rec_ _ _ hsub hL))
        · simp only [hw, Bool.false_eq_true, if_false]
          exact rec_ _ _ hsub hL
      · obtain ⟨g1, g2⟩ := takeR hsel hF hoi (by omega) l1 l2 a w hfree h
        unfold wpOp
        rw [hoi]
        by_cases hw : Region.wanted oi (yielded ops a.tmps) = true
        · simp only [hw, if_true]
          refine .inl (Oper.wp_mono (fun a' w' hK => rec_ a' w' ?_ hK.2) (wp_weak (g1 hw)))
          rintro ⟨j, hj, hkj⟩
          by_cases h3 : kd i = 3
          · exact (hsub ⟨j, hj, hkj⟩).trans (hK.1 h3)
          · exfalso
            rcases List.mem_append.1 hj with hh | hh
            · obtain ⟨oj, hoj⟩ : ∃ oj, ops[j]? = some oj := by
                have hjl := (hm j).1 (List.mem_append_left _ hh)
                have : j < listed.size := by
                  rcases Nat.lt_or_ge j listed.size with h' | h'
                  · exact h'
                  · simp [Array.getElem?_eq_none h'] at hjl
                exact ⟨ops[j]'(by omega), by simp [show j < ops.size by omega]⟩
              rcases hF j i oj oi (hfree j hh).1 hoj hoi with hb | hb
              · rw [(hfree j hh).2] at hb; cases hb
              · have := (okj hb.2 (by omega)).2 (by omega)
                omega
            · exact h14 l1 i l2 rfl (by omega) j hh hkj
        · simp only [hw, Bool.false_eq_true, if_false]
          exact rec_ _ _ hsub (g2 (by simpa using hw))

/-! ### The same over the list of operations -/

theorem LI_of_LW (ks : List Nat) : ∀ (os : List Oper) (k : Nat) (a : Act) (w : World), (∀ j, os[j]? = ops[k + j]?) →
    LW P ops w0 Q os (ks.drop k) a w → LI P ops (fun i => ks.getD i 0) w0 Q (List.range' k os.length) a w
  | [], _, _, _, _, h => by simpa [LI, LW] using h
  | o :: os, k, a, w, ho, h => by
    have h0 : ops[k]? = some o := by simpa using (ho 0).symm
    have hr : ∀ a w, LW P ops w0 Q os (ks.drop (k + 1)) a w → LI P ops (fun i => ks.getD i 0) w0 Q (List.range' (k + 1) os.length) a w := fun a w hh =>
      LI_of_LW ks os (k + 1) a w (fun j => by have := ho (j + 1); simpa [Nat.add_assoc, Nat.add_comm 1 j] using this) hh
    have hlt : k < ks.length := by
      rcases Nat.lt_or_ge k ks.length with hh | hh
      · exact hh
      · rw [List.drop_of_length_le hh] at h; exact h.elim
    have hd : ks.drop k = ks[k] :: ks.drop (k + 1) := List.drop_eq_getElem_cons hlt
    rw [hd] at h
    simp only [List.length_cons, List.range'_succ, LI, h0, LW] at h ⊢
    have hg : ks.getD k 0 = ks[k] := by simp [hlt]
    split
    · rename_i hw
      rw [if_pos hw] at h
      rw [hg]
      exact h.mono hr
    · rename_i hw
      rw [if_neg hw] at h
      exact hr _ _ h

/-- The closed check of a region's edges and kinds. -/
def chk (ops : Array Oper) (ks : List Nat) : Bool :=
  let b := (Region.before ops).toList
  let os := ops.toList
  Region.noSelect ops &&
  (os.zipIdx.all fun (o, j) =>
    (o.after.all fun e => !Region.binds .any e || decide (e.on < j)) &&
    (let m := o.after.foldl (fun s e => if Region.binds .any e then s ||| 2 ^ e.on ||| b.getD e.on 0 else s) 0
     (b.getD j 0 == m)) &&
    (os.zipIdx.all fun (p, i) => !(decide (i < j)) || (b.getD j 0).testBit i || (p.apart ops o && okPair (ks.getD i 0) (ks.getD j 0)))) &&
  (os.zipIdx.all fun (_, i) => !(decide (4 ≤ ks.getD i 0)) || os.zipIdx.all fun (_, j) => !(decide (i < j)) || ks.getD j 0 != 1)

theorem foldl_bits (f : Edge → Nat) : ∀ (l : List Edge) (s : Nat) (i : Nat), (l.foldl (fun s e => if Region.binds .any e then s ||| 2 ^ e.on ||| f e else s) s).testBit i = true →
    s.testBit i = true ∨ ∃ e ∈ l, Region.binds .any e = true ∧ (i = e.on ∨ (f e).testBit i = true)
  | [], s, i, h => .inl h
  | e :: l, s, i, h => by
    rcases foldl_bits f l _ i h with h | ⟨x, hx, hb⟩
    · dsimp only at h
      split at h
      · rename_i hb
        simp only [Nat.testBit_or, Bool.or_eq_true] at h
        rcases h with (h | h) | h
        · exact .inl h
        · refine .inr ⟨e, List.mem_cons_self .., hb, .inl ?_⟩
          simp [Nat.testBit_two_pow] at h
          exact h.symm
        · exact .inr ⟨e, List.mem_cons_self .., hb, .inr h⟩
      · exact .inl h
    · exact .inr ⟨x, List.mem_cons_of_mem _ hx, hb⟩

/-- A REGION THAT DRAWS ITS ORDER: walked once. -/
theorem wp_draw {id : Nat} {Q : Exit → Act → World → Prop} {a : Act} {w : World} (os : List Oper) (ks : List Nat) (hm : P.follows .mixedOrders = true) (hB : chk os.toArray ks = true)
    (h : LW P os.toArray w.drew (fun a w => Q .normal a w) os ks a w.drew) : (Code.region id os.toArray true).wp P Q a w := by
  refine wp_region_any hm ?_
  simp only [chk, Bool.and_eq_true] at hB
  obtain ⟨⟨hsel, hpl⟩, h14⟩ := hB
  have hz : ∀ {j : Nat} {o : Oper}, os.toArray[j]? = some o → (o, j) ∈ os.toArray.toList.zipIdx := by
    intro j o ho
    rw [List.mem_zipIdx_iff_getElem?]
    simpa using ho
  have hall : ∀ j oj, os.toArray[j]? = some oj → _ := fun j oj hj => List.all_eq_true.1 hpl _ (hz hj)
  have key := any_of_LI (P := P) (ops := os.toArray) (md := .any) (kd := fun i => ks.getD i 0) (bs := fun j => (Region.before os.toArray).toList.getD j 0) (w0 := w.drew) (Q := fun a w => Q .normal a w)
    (Region.noSelect_spec hsel) ?_ ?_ ?_ os.length (List.range' 0 os.length) (Array.replicate os.length false) a w.drew (by simp) (List.pairwise_lt_range' ) (by simp) ?_ ?_ ?_ (fun _ => Ext.refl _) ?_
  · have hQ : ∀ (n : Nat) (listed : Array Bool) (a : Act) (w : World), wpAny P .any os.toArray (NQ fun a w => Q .normal a w) n listed a w → wpAny P .any os.toArray Q n listed a w := by
      intro n
      induction n with
      | zero => exact fun listed a w h => h
      | succ n ih =>
        intro listed a w h
        refine ⟨h.1, fun i hi => ?_⟩
        have := wpOp_mono (fun a w => ih _ a w) (h.2 i hi)
        unfold wpOp at this ⊢
        split
        · rename_i ho; rw [ho] at this; exact this
        · rename_i o ho
          rw [ho] at this
          split
          · rename_i hw
            simp only [hw, if_true] at this
            rcases this with this | ⟨_, _, _, hf⟩
            · left
              unfold Oper.wp at *
              generalize (execOp a.eval o).run P w = r at *
              cases r with
              | ok m w' =>
                cases m <;> simp only [Oper.upon] at this ⊢ <;> try exact this
                case enter f args =>
                  refine Calls.mono this (fun e w'' he => ?_)
                  cases e with
                  | returned u => exact he
                  | panicked c => exact he.elim
                  | outgrown => obtain ⟨_, _, hf⟩ := he; exact hf.elim
              | halt x w' => cases x <;> simp only [Oper.upon] at this ⊢; exact this.elim
            · exact hf.elim
          · rename_i hw
            simp only [hw] at this
            exact this
    have := hQ _ _ _ _ key
    simpa using this
  · intro i j oi oj hij hi hj
    have h3 := (Bool.and_eq_true _ _ ▸ hall j oj hj : _ ∧ _).2
    have h4 := List.all_eq_true.1 h3 _ (hz hi)
    simp only [Bool.or_eq_true, Bool.not_eq_true', decide_eq_false_iff_not, Bool.and_eq_true] at h4
    rcases h4 with (h4 | h4) | h4
    · exact absurd hij h4
    · exact .inl h4
    · exact .inr h4
  · intro j oj hj i hb
    have h3 := (Bool.and_eq_true _ _ ▸ (Bool.and_eq_true _ _ ▸ hall j oj hj : _ ∧ _).1 : _ ∧ _).2
    have h5 : (Region.before os.toArray).toList.getD j 0 = oj.after.foldl (fun s e => if Region.binds .any e then s ||| 2 ^ e.on ||| (Region.before os.toArray).toList.getD e.on 0 else s) 0 := by simpa using h3
    dsimp only at hb
    rw [h5, ← Array.foldl_toList] at hb
    rcases foldl_bits _ _ _ _ hb with hb | ⟨e, he, hbb, hh⟩
    · simp at hb
    · exact ⟨e, Array.mem_toList_iff.1 he, hbb, hh⟩
  · intro j oj hj e he hb
    have h1 := (Bool.and_eq_true _ _ ▸ (Bool.and_eq_true _ _ ▸ hall j oj hj : _ ∧ _).1 : _ ∧ _).1
    have h2 := (Array.all_eq_true_iff_forall_mem.1 h1) e he
    simpa [hb] using h2
  · intro i
    simp only [List.mem_range', Nat.zero_add, Nat.one_mul]
    constructor
    · rintro ⟨x, hx, rfl⟩; simp [hx]
    · intro hh
      rcases Nat.lt_or_ge i os.length with h' | h'
      · exact ⟨i, h', rfl⟩
      · simp [Array.getElem?_eq_none (show (Array.replicate os.length false).size ≤ i by simpa using h')] at hh
  · intro i hi
    rcases Nat.lt_or_ge i os.length with h' | h'
    · simp [h'] at hi
    · simp [Array.getElem?_eq_none (show (Array.replicate os.length false).size ≤ i by simpa using h')] at hi
  · intro l1 i l2 hl hk j hj
    have hs : (l1 ++ i :: l2).Pairwise (· < ·) := hl ▸ List.pairwise_lt_range'
    have hij : i < j := List.rel_of_pairwise_cons (List.pairwise_append.1 hs).2.1 hj
    have mem : ∀ x ∈ l1 ++ i :: l2, x < os.length := by
      intro x hx
      rw [← hl] at hx
      simp only [List.mem_range', Nat.zero_add, Nat.one_mul] at hx
      obtain ⟨y, hy, rfl⟩ := hx
      exact hy
    have hi := mem i (by simp)
    have hj' := mem j (by simp [hj])
    have h1 := List.all_eq_true.1 h14 _ (hz (j := i) (o := os[i]) (by simp [hi]))
    simp only [Bool.or_eq_true, Bool.not_eq_true', decide_eq_false_iff_not] at h1
    rcases h1 with h1 | h1
    · exact absurd hk h1
    · have h2 := List.all_eq_true.1 h1 _ (hz (j := j) (o := os[j]) (by simp [hj']))
      simp only [Bool.or_eq_true, Bool.not_eq_true', decide_eq_false_iff_not] at h2
      rcases h2 with h2 | h2
      · exact absurd hij h2
      · simpa using h2
  · exact LI_of_LW ks os 0 a w.drew (by simp) (by simpa using h)

/-- A REGION WITHOUT A DRAW: kinds 0, 2, 3, 4. -/
theorem wpl_of_LW : ∀ (rest : List Oper) (ks : List Nat) (a : Act) (w : World) (Q : Exit → Act → World → Prop), (∀ k ∈ ks, k ≠ 1) → LW P ops w0 (fun a w => Q .normal a w) rest ks a w → wpList P ops Q rest a w
  | [], _, _, _, _, _, h => h
  | _ :: _, [], _, _, _, _, h => h.elim
  | o :: os, k :: ks, a, w, Q, hk, h => by
    have hk' : ∀ x ∈ ks, x ≠ 1 := fun x hx => hk x (List.mem_cons_of_mem _ hx)
    have hk1 := hk k (List.mem_cons_self ..)
    refine wpList_step fun K hK => ?_
    simp only [LW] at h
    split
    · rename_i hw
      rw [if_pos hw] at h
      unfold OneOp at h
      split at h
      · obtain ⟨v, h1, h2⟩ := h
        exact wp_of_YA (h1 w (Cl.self fun hh => absurd hh hk1)) (hK _ _ (wpl_of_LW os ks _ _ Q hk' h2))
      · split at h
        · exact Oper.wp_mono (fun a w hh => hK _ _ (wpl_of_LW os ks _ _ Q hk' hh.2)) (wp_weak h)
        · exact Oper.wp_mono (fun a w hh => hK _ _ (wpl_of_LW os ks _ _ Q hk' hh)) (wp_weak h)
    · rename_i hw
      rw [if_neg hw] at h
      exact hK _ _ (wpl_of_LW os ks _ _ Q hk' h)

theorem wp_plain {id : Nat} {Q : Exit → Act → World → Prop} {a : Act} {w : World} (os : List Oper) (ks : List Nat) (hk : ks.all (· != 1) = true)
    (h : LW P os.toArray w (fun a w => Q .normal a w) os ks a w) : (Code.region id os.toArray false).wp P Q a w :=
  wp_region_lit (wpl_of_LW os ks a w Q (fun k hh => by simpa using List.all_eq_true.1 hk k hh) h)

end
end Go.Proofs.Ytjgnlnlngcjfcaa
