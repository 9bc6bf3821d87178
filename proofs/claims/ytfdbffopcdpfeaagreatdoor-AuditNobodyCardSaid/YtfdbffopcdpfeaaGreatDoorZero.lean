/- append(v, make([]byte, m)...) onto bytes of the call's own. -/
import Derived.Test.YtfdbffopcdpfeaaGreatDoorProg
import Derived.WalkKit
import Derived.WalkSpells
import Derived.WalkLawsBesides
import Derived.Deep.QuietTactic
import Derived.BigQuiet
import Derived.Lib.Hide
import Derived.Deep.RegionHeld3
import Derived.Deep.DrawnRows
import Derived.Deep.AppendLies
import Derived.Deep.RegionLaw
import Derived.Lib.AppendZerosOnto
import Derived.Lib.SlBytesConst
import Derived.Test.YtfdbffopcdpfeaaGreatDoorBase
import Derived.Test.YtfdbffopcdpfeaaGreatDoorSuper
set_option linter.unusedVariables false
set_option linter.unusedSimpArgs false
namespace Go.Proofs.YtfdbffopcdpfeaaGreatDoor
open Go.RowKit
attribute [local go_sem ↓] Go.wp_at_zero Go.wp_at_succ


open Go
theorem zeros_list (m : Nat) : (Builtin.zeroCells (Value.int .u8 0).cells m).toList = List.replicate m (Value.int .u8 0) := by
  apply List.ext_getElem
  · simp [Builtin.zeroCells, Value.cells]
  · intro k h1 h2
    simp [Builtin.zeroCells, Value.cells, Nat.mod_one]
theorem run_zeros_own (w : World) (base : Nat) (v : Value) (n m : Nat) (xs : List Value) (hown : w.ownsRow base 5 1 v n xs) (hn0 : 0 < n) (hm : 0 < m) (hnm : n + m ≤ 1000000) (hbase : base ≤ w.heap.size) :
    ∃ v' w', (Builtin.append_ #[68, 3] 68 #[v, .int .i64 m]).run Tryz.prog w = .ok v' w' ∧ w'.ownsRow base 5 1 v' (n + m) (xs ++ List.replicate m (Value.int .u8 0)) ∧ w.grownBy w' v.ownBlock := by
  obtain ⟨i, hi, hz, hsize, hby⟩ := info_parts u8_info
  have ht := Tryz.underlying68
  have hti := Tryz.underlying3
  have hw : IntKind.i64.wrap (m : Int) = m := by rw [IntKind.wrap_i64]; omega
  have hneg : ¬ ((m : Int) < 0) := by omega
  have hbig : ¬ (281474976710656 < (m : Int)) := by omega
  have hlen : (xs ++ List.replicate m (Value.int .u8 0)).length = (n + m) * 1 := by rw [List.length_append, hown.1]; simp
  obtain ⟨g, cap, rfl, _, _⟩ := hown.form hn0
  rcases hown.2 with ⟨h, _⟩ | ⟨g', cap', cur, he, hbg, hg, hnc, hcm, hcs, htake⟩
  · cases h
  obtain ⟨rfl, rfl⟩ : g = g' ∧ cap = cap' := by simpa using he
  have hl : (List.replicate m (Value.int .u8 0)).length = m := by simp
  by_cases hroom : n + m ≤ cap
  · have hst := run_storeCells_at Tryz.prog g n 5 (List.replicate m (Value.int .u8 0)) 0 cur w hg (by simp; omega) (fun u hu => by rw [List.eq_of_mem_replicate hu]; rfl)
    simp only [Nat.add_zero] at hst
    have hmz : m ≠ 0 := by omega
    have hza : Builtin.zeroCells (Value.int .u8 0).cells m = (List.replicate m (Value.int .u8 0)).toArray := by rw [← zeros_list]
    rw [hl] at hst
    generalize hR : (cur.toList.take n ++ List.replicate m (Value.int .u8 0) ++ cur.toList.drop (n + m)).toArray = R at hst
    have hR1 : R.size = cap := by rw [← hR]; simp; omega
    have hR2 : R.toList.take (n + m) = xs ++ List.replicate m (Value.int .u8 0) := by
      rw [← hR]
      have : (cur.toList.take n) = xs := by simpa using htake
      simp only [this]
      have hl2 : (xs ++ List.replicate m (Value.int .u8 0)).length = n + m := by simpa using hlen
      rw [← hl2]
      exact List.take_left
    refine ⟨.slice (some ⟨g, 0, none⟩) (n + m) cap, w.setRow g R, ?_, ⟨hlen, .inr ⟨g, cap, R, rfl, hbg, setRow_heap w g cur R _ _ hg, hroom, hcm, by omega, by simpa using hR2⟩⟩, ⟨rfl, rfl, rfl, by simp, fun k _ hk => setRow_other w g k _ (fun e => hk (by simp [Value.ownBlock, e]))⟩⟩
    simp [Builtin.append_, run_underlying ht, run_underlying hti, sizeOf, typeInfo, zeroValue, hi, hz, hsize, hby, asInt, asIntOf, hw, hneg, hbig, hroom, hmz, Addr.add_lit, hza, hst]
  · have hfo := run_firstCells_some (P := Tryz.prog) w.drew 1 n ⟨g, 0, none⟩ n cap xs (by simpa using hown.1) (by
      intro j u hj; exact hown.cells (g := g) rfl j u hj)
    have hr := Lib.run_append_grow_zeros (P := Tryz.prog) w 68 3 68 5 i (.int .u8 0) .i64 .i64 ht hti hi hz (some ⟨g, 0, none⟩) n cap xs (by rw [hsize]; exact hfo) m hm (by omega) (by omega) (by omega) (by rw [hby]; omega) (by rw [hby]; have := growslice_fits (bytes := 1) (show cap < n + m by omega) (by omega); omega)
    have hza : Builtin.zeroCells (Value.int .u8 0).cells m = (List.replicate m (Value.int .u8 0)).toArray := by rw [← zeros_list]
    have hge := grownCap_ge w (n + m) cap 5
    have hcm := grownCap_le_maxLen w (n + m) cap 5 (by unfold maxLen; omega)
    refine ⟨_, _, hr, ⟨hlen, .inr ⟨w.heap.size, _, _, rfl, hbase, heap_alloc_new w.drew _, hge, hcm, ?_, ?_⟩⟩, ⟨rfl, rfl, rfl, by simp, fun k hk _ => heap_alloc_old w.drew _ hk⟩⟩
    · have hxl : xs.length = n := by simpa using hown.1
      simp only [Array.size_append, List.size_toArray, size_zeroCells, Value.cells, hxl]
      simp
      omega
    · rw [hza]
      have hl2 : (xs ++ List.replicate m (Value.int .u8 0)).length = (n + m) * 1 := hlen
      simp only [Array.toList_append, List.append_assoc]
      rw [← List.append_assoc, ← hl2]
      exact List.take_left
theorem wpList_zeros {ops : Array Oper} {rest : List Oper} {o : Oper} {a : Act} {Q : Exit → Act → World → Prop} (W : World) (hgd : o.guard = none) (s x : Operand)
    (ho : o.op = .call { callee := .builtin .append, args := #[s, x], argTypes := #[68, 3] }) (hty : o.type = 68) (base : Nat) (v : Value) (n m : Nat) (xs : List Value) (hs : a.eval s = v) (hx : a.eval x = .int .i64 m) (hown : W.ownsRow base 5 1 v n xs)
    (hn0 : 0 < n) (hm : 0 < m) (hnm : n + m ≤ 1000000) (hb : base ≤ W.heap.size)
    (h : ∀ v' w', w'.ownsRow base 5 1 v' (n + m) (xs ++ List.replicate m (Value.int .u8 0)) → Below base W w' → base ≤ w'.heap.size → wpList Tryz.prog ops Q rest (a.put o.dst v') w') :
    wpList Tryz.prog ops Q (o :: rest) a W := by
  refine wpList_plain hgd fun K hK => ?_
  obtain ⟨v', w', hr, h2, h3⟩ := run_zeros_own W base v n m xs hown hn0 hm hnm hb
  unfold Oper.wp execOp
  rw [← hty] at hr
  simp only [ho, resolve, invoke, builtin, Sem.run_bind, Sem.run_pure, Result.andThen_ok, List.map_toArray, List.map_cons, List.map_nil, hs, hx]
  rw [hty] at hr ⊢
  rw [hr]
  exact hK _ _ (h v' w' h2 ((Below.refl base W).grown h3 hb (own_base' hown)) (Nat.le_trans hb h3.size))
end Go.Proofs.YtfdbffopcdpfeaaGreatDoor
