/- append of one row of ints onto a row of rows. -/
import Derived.Test.YtjhllgldllbaaaaKit2
import Derived.Test.YtjhllgldllbaaaaOwnI
namespace Go.Proofs.Ytjhllgldllbaaaa
set_option linter.unusedVariables false
set_option linter.unusedSimpArgs false
open Go.RowKit

theorem below_grown {B : Nat} {w w' : World} {row : Option Nat} (hg : w.grownBy w' row) (hB : ∀ k, row = some k → B ≤ k) (hs : B ≤ w.heap.size) : Below B w w' :=
  ⟨hg.os, hg.tape, hg.output, hg.size, fun k hk => hg.block k (by omega) (fun e => by have := hB k e.symm; omega)⟩
theorem wpList_appS {w : World} {ops : Array Oper} {rest : List Oper} {o : Oper} {a : Act} {Q : Exit → Act → World → Prop} (hgd : o.guard = none) (s x : Operand)
    (ho : o.op = .call { callee := .builtin .append, args := #[s, x], argTypes := #[65, 65] })
    (base : Nat) (v : Value) (vs : List Value) (hs : a.eval s = v) (hown : w.ownsRow base 22 1 v vs.length vs) (A : Option Addr) (c : Nat) (u : Value) (hx : a.eval x = .slice A 1 c) (hA : ∃ b o, A = some ⟨b, o, none⟩ ∧ w.cell? ⟨b, o, none⟩ = some u) (h1 : u.oneCell' = true)
    (hn : vs.length + 1 ≤ 1048576) (hbase : base ≤ w.heap.size)
    (h : ∀ v' w', w'.ownsRow base 22 1 v' (vs ++ [u]).length (vs ++ [u]) → w.grownBy w' v.ownBlock → (v'.ownBlock = v.ownBlock ∨ v'.ownBlock = some w.heap.size) → wpList Try.prog ops Q rest (a.put o.dst v') w') : wpList Try.prog ops Q (o :: rest) a w := by
  obtain ⟨i0, hi, hz0, hz1, hz2⟩ := info_parts infoInts
  obtain ⟨b, off, rfl, hc⟩ := hA
  refine wpList_append_G w hgd s x _ ho base 22 i0 _ 1 24 Try.underlying65 hi hz0 hz1 hz2 rfl (by decide) v vs.length _ hs hown (some ⟨b, off, none⟩) 1 c [u] hx ⟨by simp, .inr ⟨b, off, rfl, fun j u' hu => ?_⟩⟩ (by simpa using h1) (by simp only [maxLen]; omega) (by omega) hbase fun v' w' h2 h3 h4 => ?_
  · match j, hu with
    | 0, hu =>
      simp at hu
      subst hu
      exact hc
  · exact h v' w' (by simpa using h2) h3 h4
theorem Fam.grownO {w w' : World} {lo hi base n : Nat} {L : List (Value × List Int)} {v : Value} {vs : List Value} (hF : Fam w lo hi L) (ho : w.ownsRow base 22 1 v n vs) (hg : w.grownBy w' v.ownBlock) : Fam w' lo hi L := by
  refine ⟨fun p hp => ⟨(hF.1 p hp).1.kept hg ?_, (hF.1 p hp).2⟩, hF.2⟩
  rcases ho.2 with ⟨rfl, _⟩ | ⟨g, cap, cur, rfl, _, hh, _⟩
  · rcases hA : p.1.ownBlock with _ | x
    · exact .inl rfl
    · right
      simp [Value.ownBlock]
  · right
    exact fun e => (hF.1 p hp).1.blkne (g := g) (t := 22) (cs := cur) hh (by decide) (by rw [e]; rfl)

theorem OutO.blkne {w : World} {lo hi g : Nat} {v : Value} {vs : List Value} {t : TypeId} {cs : Array Value} (h : OutO w lo hi v vs) (hb : Blk w g t cs) (ht : 22 ≠ t) : some g ≠ v.ownBlock := by
  rcases h.1.2 with ⟨rfl, _⟩ | ⟨g', cap, cur, rfl, _, hh, _⟩
  · simp [Value.ownBlock]
  · intro he
    have : g = g' := by simpa [Value.ownBlock] using he
    subst this
    unfold Blk at hb
    rw [hh] at hb
    injection hb with hb
    injection hb with _ hb
    exact ht hb
end Go.Proofs.Ytjhllgldllbaaaa
