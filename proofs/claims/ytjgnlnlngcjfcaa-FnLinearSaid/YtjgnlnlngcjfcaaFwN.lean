/- Owned slices that are known by their blocks: several of them may grow in turn. No condition. -/
import Derived.Test.YtjgnlnlngcjfcaaFwM
namespace Go.Proofs.Ytjgnlnlngcjfcaa
open Go Go.RowKit
set_option linter.unusedVariables false
set_option linter.unusedSimpArgs false

/-- An owned thing, known by its blocks, which lie from B on and below T. -/
structure Ow {α : Type} (E : Stand α) (B T : Nat) (H : Array Obj) (v : Value) (x : α) (F : List Nat) : Prop where
  own : E H v x F
  nodup : F.Nodup
  low : ∀ b ∈ F, B ≤ b
  high : ∀ b ∈ F, b < T
section
variable {α : Type} {E : Stand α} {B T U : Nat} {w w' : World} {v : Value} {x : α} {F G : List Nat}
theorem Ow.of_fr (h : Fr E B U w.heap v x) (hT : U ≤ T) : ∃ F, Ow E B T w.heap v x F := by
  obtain ⟨F, h1, h2, h3⟩ := h
  exact ⟨F, h1, h2, fun b hb => (h3 b hb).1, fun b hb => by have := h3 b hb; omega⟩
theorem Ow.fr (h : Ow E B T w.heap v x F) : Fr E B T w.heap v x := ⟨F, h.own, h.nodup, fun b hb => ⟨h.low b hb, h.high b hb⟩⟩
theorem Ow.ext (hE : Good E) (h : Ow E B T w.heap v x F) (k : Ext w w') : Ow E B T w'.heap v x F := ⟨own_ext hE h.own k, h.nodup, h.low, h.high⟩
theorem Ow.keep (hE : Good E) (h : Ow E B T w.heap v x F) (c : Chg G w w') (hG : ∀ b ∈ G, b ∉ F) : Ow E B T w'.heap v x F := ⟨own_keepG hE h.own c hG, h.nodup, h.low, h.high⟩
theorem Ow.up {T' : Nat} (h : Ow E B T w.heap v x F) (hT : T ≤ T') : Ow E B T' w.heap v x F := ⟨h.own, h.nodup, h.low, fun b hb => Nat.lt_of_lt_of_le (h.high b hb) hT⟩
end

section ops
variable {P : Program} {ops : Array Oper} {w0 : World} {Q : Act → World → Prop} {os : List Oper} {ks : List Nat} {N : Nat} {ρ : Nat → Value} {w : World}
  {d : Nat} {ty : TypeId} {pos : String} {aft : Array Edge} {g : Option (Nat × Bool)} {t e : TypeId} {z : Value} {b : Nat}
/-- append of new owned elements to an owned slice that is known by its blocks. -/
theorem e_appO {α : Type} {E : Stand α} (hE : Good E) {x y : Operand} {v a : Value} {xs ys : List α} {B T B' U' : Nat} {F : List Nat} (ht : P.underlying t = some (.slice e)) (hi : TI P e 1 z b) (hz : z.cells = #[z]) (hx : evF N ρ x = v) (hy : evF N ρ y = a) (hv : Ow (owL E e) B T w.heap v xs F)
    (ha : Fr (owL E e) B' U' w.heap a ys) (hT : T ≤ B') (hBB : B ≤ B') (hBw : B' ≤ w.heap.size) (hbytes : (xs.length + ys.length) * b ≤ 140737488355328) (hmx : xs.length + ys.length ≤ maxLen) (hu : Up ops N ρ ⟨some d, .call ⟨.builtin .append, #[x, y], #[t, t]⟩, ty, pos, aft, g⟩)
    (h : ∀ v1 w1 F1, Chg (F.take 1) w w1 → Ow (owL E e) B w1.heap.size w1.heap v1 (xs ++ ys) F1 → (∀ c ∈ F1, c ∈ F ∨ B' ≤ c) → LW P ops w0 Q os ks (mk N (upd ρ d v1)) w1) :
    LW P ops w0 Q (⟨some d, .call ⟨.builtin .append, #[x, y], #[t, t]⟩, ty, pos, aft, g⟩ :: os) (4 :: ks) (mk N ρ) w := by
  obtain ⟨h1, h2, h3, h4⟩ := hv
  obtain ⟨G, g1, g2, g3⟩ := ha
  have gd : ∀ c ∈ G.drop 1, c ∈ G := fun c hc => List.mem_of_mem_drop hc
  obtain ⟨v', w', F', r1, r2, r3, r4, r5⟩ := run_app (P := P) (ty := ty) hE ht hi hz h1 h2 (g1.rd id) rfl hbytes hmx (fun c hc hF => by have := g3 c (gd c hc); have := h4 c hF; omega)
    ((List.drop_sublist 1 G).nodup g2)
  refine lw_e rfl hu v' w' (by simp only [execOp, resolve, invoke, builtin, List.map_toArray, List.map_cons, List.map_nil, Sem.run_bind, Sem.run_pure, Result.andThen_ok, hx, hy, r1]) (h v' w' F' r5 ⟨r2, r3, fun c hc => ?_, fun c hc => (good_owL hE).lt r2 c hc⟩ fun c hc => ?_)
  · rcases r4 c hc with hh | hh | hh
    · exact h3 c hh
    · have := g3 c (gd c hh); omega
    · omega
  · rcases r4 c hc with hh | hh | hh
    · exact .inl hh
    · exact .inr (g3 c (gd c hh)).1
    · exact .inr (by omega)
end ops
end Go.Proofs.Ytjgnlnlngcjfcaa
