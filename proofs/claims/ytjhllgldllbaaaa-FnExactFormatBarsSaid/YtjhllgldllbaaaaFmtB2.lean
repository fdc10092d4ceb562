/- FormatBars: the program's. -/
import Derived.Test.YtjhllgldllbaaaaFmtB
import Derived.Test.YtjhllgldllbaaaaAppS
import Derived.Ground.NamesProg
import Derived.Ground.Names2Prog
import Derived.Shelf.Lay
import Derived.Shelf.Strings.OnBuilder
namespace Go.Proofs
open Go.Shelf
def Try.laysJoin_ren : Go.Shelf.Ren := ⟨fun | 156 => 76 | 165 => 127 | 166 => 128 | 169 => 129 | 240 => 184 | 241 => 185 | 276 => 209 | 277 => 210 | n => n, fun | 31 => 83 | 9 => 9 | 3 => 3 | 4 => 4 | 0 => 0 | 20 => 20 | 72 => 112 | 76 => 116 | 70 => 110 | 37 => 109 | 75 => 115 | 127 => 153 | 164 => 168 | 5 => 5 | 80 => 118 | n => n, fun | n => n⟩
theorem Try.laysJoin : Go.Proofs.Lays.n156 Try.prog Try.laysJoin_ren := {
  mixed := by kernel_rfl
  f156 := Try.func76.trans (congrArg some (by kernel_rfl))
  f165 := Try.func127.trans (congrArg some (by kernel_rfl))
  f166 := Try.func128.trans (congrArg some (by kernel_rfl))
  f169 := Try.func129.trans (congrArg some (by kernel_rfl))
  f240 := Try.func184.trans (congrArg some (by kernel_rfl))
  f241 := Try.func185.trans (congrArg some (by kernel_rfl))
  f276 := Try.func209.trans (congrArg some (by kernel_rfl))
  f277 := Try.func210.trans (congrArg some (by kernel_rfl))
  t0 := Try.underlying0
  a0 := Try.isAgg0
  z0 := Try.sizeOf0
  v0 := Try.zeroValue0
  t3 := Try.underlying3
  a3 := Try.isAgg3
  z3 := Try.sizeOf3
  v3 := Try.zeroValue3
  t4 := Try.underlying4
  a4 := Try.isAgg4
  z4 := Try.sizeOf4
  v4 := Try.zeroValue4
  t9 := Try.underlying9
  a9 := Try.isAgg9
  z9 := Try.sizeOf9
  v9 := Try.zeroValue9
  t20 := Try.underlying20
  a20 := Try.isAgg20
  z20 := Try.sizeOf20
  v20 := Try.zeroValue20
  t31 := Try.underlying83
  a31 := Try.isAgg83
  z31 := Try.sizeOf83
  v31 := Try.zeroValue83
  t37 := Try.underlying109
  a37 := Try.isAgg109
  z37 := Try.sizeOf109
  v37 := Try.zeroValue109
  t70 := Try.underlying110
  a70 := Try.isAgg110
  z70 := Try.sizeOf110
  v70 := Try.zeroValue110
  t72 := Try.underlying112
  a72 := Try.isAgg112
  z72 := Try.sizeOf112
  v72 := Try.zeroValue112
  t75 := Try.underlying115
  a75 := Try.isAgg115
  z75 := Try.sizeOf115
  v75 := Try.zeroValue115
  t76 := Try.underlying116
  a76 := Try.isAgg116
  z76 := Try.sizeOf116
  v76 := Try.zeroValue116
  t127 := Try.underlying153
  a127 := Try.isAgg153
  z127 := Try.sizeOf153
  v127 := Try.zeroValue153
  t164 := Try.underlying168
  a164 := Try.isAgg168
  z164 := Try.sizeOf168
  v164 := Try.zeroValue168 }
theorem Try.extraJoin : Builder.Extra Try.prog Try.laysJoin_ren := {
  sizeBuilder := by kernel_rfl
  liesBuilder := by kernel_rfl
  t5 := Try.underlying5
  a5 := Try.isAgg5
  z5 := Try.sizeOf5
  v5 := Try.zeroValue5
  infoByte := by kernel_rfl
  cellsByte := by kernel_rfl
  sizeByte := by kernel_rfl
  neB5 := by decide }
end Go.Proofs
namespace Go.Proofs.Ytjhllgldllbaaaa
set_option linter.unusedVariables false
set_option linter.unusedSimpArgs false
open Go.RowKit

theorem infoStr : (Try.prog.info? 9).map (fun i => (i.zero, i.size, i.bytes)) = some (some (.string ⟨#[]⟩), 1, 16) := by kernel_rfl
theorem wpList_appStr {w : World} {ops : Array Oper} {rest : List Oper} {o : Oper} {a : Act} {Q : Exit → Act → World → Prop} (hgd : o.guard = none) (s x : Operand)
    (ho : o.op = .call { callee := .builtin .append, args := #[s, x], argTypes := #[83, 83] })
    (base : Nat) (v : Value) (vs : List Value) (hs : a.eval s = v) (hown : w.ownsRow base 9 1 v vs.length vs) (A : Option Addr) (c : Nat) (u : Value) (hx : a.eval x = .slice A 1 c) (hA : ∃ b o, A = some ⟨b, o, none⟩ ∧ w.cell? ⟨b, o, none⟩ = some u) (h1 : u.oneCell' = true)
    (hn : vs.length + 1 ≤ 1048576) (hbase : base ≤ w.heap.size)
    (h : ∀ v' w', w'.ownsRow base 9 1 v' (vs ++ [u]).length (vs ++ [u]) → w.grownBy w' v.ownBlock → (v'.ownBlock = v.ownBlock ∨ v'.ownBlock = some w.heap.size) → wpList Try.prog ops Q rest (a.put o.dst v') w') : wpList Try.prog ops Q (o :: rest) a w := by
  obtain ⟨i0, hi, hz0, hz1, hz2⟩ := info_parts infoStr
  obtain ⟨b, off, rfl, hc⟩ := hA
  refine wpList_append_G w hgd s x _ ho base 9 i0 _ 1 16 Try.underlying83 hi hz0 hz1 hz2 rfl (by decide) v vs.length _ hs hown (some ⟨b, off, none⟩) 1 c [u] hx ⟨by simp, .inr ⟨b, off, rfl, fun j u' hu => ?_⟩⟩ (by simpa using h1) (by simp only [maxLen]; omega) (by omega) hbase fun v' w' h2 h3 h4 => ?_
  · match j, hu with
    | 0, hu =>
      simp at hu
      subst hu
      exact hc
  · exact h v' w' (by simpa using h2) h3 h4

theorem sl_one {w : World} {g : Nat} {x : Int} (hk : Blk w g 3 #[.int .i64 x]) (hx : I64 x) : SlI w w.heap.size (.slice (some ⟨g, 0, none⟩) 1 1) [x] := by
  refine ⟨_, 1, rfl, by simp, by omega, by simp, fun _ => ⟨g, 0, rfl, hk.lt, fun j y hj => ?_⟩⟩
  match j, hj with
  | 0, hj =>
    simp at hj; subst hj
    exact ⟨by rw [hk.cell]; rfl, hx⟩
  | j + 1, hj => simp at hj
/-- the words -/
def fmtW (l : List Bar) (k : Nat) : List ByteArray := (l.take k).map barS
theorem fmtW_length {l : List Bar} {k : Nat} (h : k ≤ l.length) : (fmtW l k).length = k := by simp [fmtW]; omega
theorem fmtW_succ {l : List Bar} {k : Nat} {x : Bar} (h : l[k]? = some x) : fmtW l (k + 1) = fmtW l k ++ [barS x] := by
  simp [fmtW, take_snoc h]
theorem bytes_ext {a b : ByteArray} (h : a.data.toList = b.data.toList) : a = b := ByteArray.ext (Array.toList_inj.1 h)
theorem app_toList (a b : ByteArray) : (a ++ b).data.toList = a.data.toList ++ b.data.toList := by simp
/-- the words joined are the text -/
theorem fmtW_join (l : List Bar) : ∀ k, k < l.length → Lib.join ((fmtW l (k + 1)).map (·.data.toList)) [32] = (fmtTo l (k + 1)).data.toList
  | 0, h => by
    obtain ⟨x, hx⟩ : ∃ x, l[0]? = some x := ⟨_, List.getElem?_eq_getElem h⟩
    have e : fmtW l 1 = [barS x] := by rw [show (1 : Nat) = 0 + 1 from rfl, fmtW_succ hx]; rfl
    rw [e]
    simp only [List.map_cons, List.map_nil, Lib.join_one, fmtTo, if_true, app_toList, List.getD_eq_getElem?_getD, hx, Option.getD_some]
    rfl
  | k + 1, h => by
    obtain ⟨x, hx⟩ : ∃ x, l[k + 1]? = some x := ⟨_, List.getElem?_eq_getElem h⟩
    have ih := fmtW_join l k (by omega)
    rw [fmtW_succ hx, fmtTo, if_neg (by omega), app_toList, app_toList, ← ih, List.getD_eq_getElem?_getD, hx, Option.getD_some]
    have hl : (fmtW l (k + 1)).length = k + 1 := fmtW_length (by omega)
    rcases hw : fmtW l (k + 1) with _ | ⟨y, ys⟩
    · rw [hw] at hl; simp at hl
    · simp only [List.cons_append, List.map_cons, List.map_append, List.map_nil, Lib.join_cons, Lib.joinTail, List.flatten_append, List.flatten_cons, List.flatten_nil, List.append_nil, List.append_assoc]
      rfl
end Go.Proofs.Ytjhllgldllbaaaa
