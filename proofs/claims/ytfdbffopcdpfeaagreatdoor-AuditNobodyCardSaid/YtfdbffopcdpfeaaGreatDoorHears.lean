/- Hearing the fixed entries. -/
import Derived.Test.YtfdbffopcdpfeaaGreatDoorProg
import Derived.WalkKit
import Derived.WalkSpells
import Derived.WalkLawsBesides
import Derived.Deep.QuietTactic
import Derived.BigQuiet
import Derived.Lib.Hide
import Derived.Deep.RegionHeld3
import Derived.Deep.DrawnRows
import Derived.Deep.AppendLies
import Derived.Deep.RegionLaw
import Derived.Lib.AppendZerosOnto
import Derived.Lib.SlBytesConst
import Derived.Test.YtfdbffopcdpfeaaGreatDoorShelf
import Derived.Test.YtfdbffopcdpfeaaGreatDoorBase
import Derived.Test.YtfdbffopcdpfeaaGreatDoorJour
import Derived.Test.YtfdbffopcdpfeaaGreatDoorWords
import Derived.Test.YtfdbffopcdpfeaaGreatDoorRead
import Derived.Test.YtfdbffopcdpfeaaGreatDoorInts
import Derived.Test.YtfdbffopcdpfeaaGreatDoorLine
import Derived.Test.YtfdbffopcdpfeaaGreatDoorBook
import Derived.Test.YtfdbffopcdpfeaaGreatDoorOks
import Derived.Test.YtfdbffopcdpfeaaGreatDoorReply
import Derived.Test.YtfdbffopcdpfeaaGreatDoorFits
import Derived.Test.YtfdbffopcdpfeaaGreatDoorHear
set_option linter.unusedVariables false
set_option linter.unusedSimpArgs false
namespace Go.Proofs.YtfdbffopcdpfeaaGreatDoor
open Go.RowKit
attribute [local go_sem ↓] Go.wp_at_zero Go.wp_at_succ

open Go
theorem hear_connect_0 {w : World} {b : Nat} {m : Int} {h : Nat} {n : Int} (hh : (h : Int) ≤ 1000) (h0 : w.cell? ⟨0, 0, none⟩ = some (.int .i64 m)) (hb0 : b ≠ 0) (hb : BookAt w b false h n 0) :
    Calls Tryz.prog 6 #[.pointer (some ⟨b, 0, none⟩), .agg #[.string ⟨#[99, 111, 110, 110, 101, 99, 116]⟩, .string ⟨#[111, 107, 32, 49]⟩]] w (Heard b (.tuple #[.bool true, .int .i64 0]) (!true) ((h : Int) + 1) n 1 w) :=
  hear_gen hh h0 hb0 hb fun W h0 hb => fits_ok [⟨#[99, 111, 110, 110, 101, 99, 116]⟩] [⟨#[111, 107]⟩, ⟨#[49]⟩] (by decide) (by decide) (by decide) (by decide) (by decide) (by decide) rfl (by decide) h0 hb (fun w h => isLine_connect w m h) fun W gl gt hbW hne hl ht => ok_connect_0 _ _ hbW hne (wordsCell ht 1 rfl) (wordsCell hl 0 rfl)
theorem hear_connect_1 {w : World} {b : Nat} {m : Int} {h : Nat} {n : Int} (hh : (h : Int) ≤ 1000) (h0 : w.cell? ⟨0, 0, none⟩ = some (.int .i64 m)) (hb0 : b ≠ 0) (hb : BookAt w b false h n 1) :
    Calls Tryz.prog 6 #[.pointer (some ⟨b, 0, none⟩), .agg #[.string ⟨#[99, 111, 110, 110, 101, 99, 116]⟩, .string ⟨#[111, 107, 32, 49]⟩]] w (Heard b (.tuple #[.bool false, .int .i64 0]) (!false) ((h : Int) + 1) n 2 w) :=
  hear_gen hh h0 hb0 hb fun W h0 hb => fits_ok [⟨#[99, 111, 110, 110, 101, 99, 116]⟩] [⟨#[111, 107]⟩, ⟨#[49]⟩] (by decide) (by decide) (by decide) (by decide) (by decide) (by decide) rfl (by decide) h0 hb (fun w h => isLine_connect w m h) fun W gl gt hbW hne hl ht => ok_connect_1 _ _ hbW hne (wordsCell ht 1 rfl) (wordsCell hl 0 rfl)
theorem hear_now_5 {w : World} {b : Nat} {m : Int} {h : Nat} {k : Int} (hh : (h : Int) ≤ 1000) (h0 : w.cell? ⟨0, 0, none⟩ = some (.int .i64 m)) (hb0 : b ≠ 0) (hb : BookAt w b false h 5 k) :
    Calls Tryz.prog 6 #[.pointer (some ⟨b, 0, none⟩), .agg #[.string ⟨#[110, 111, 119]⟩, .string ⟨#[111, 107, 32, 53]⟩]] w (Heard b (.tuple #[.bool true, .int .i64 0]) (!true) ((h : Int) + 1) 5 k w) :=
  hear_gen hh h0 hb0 hb fun W h0 hb => fits_ok [⟨#[110, 111, 119]⟩] [⟨#[111, 107]⟩, ⟨#[53]⟩] (by decide) (by decide) (by decide) (by decide) (by decide) (by decide) rfl (by decide) h0 hb (fun w h => isLine_now w m h) fun W gl gt hbW hne hl ht => ok_now_5 _ _ hbW (wordsCell ht 1 rfl) (wordsCell hl 0 rfl)
theorem hear_now_0 {w : World} {b : Nat} {m : Int} {h : Nat} {k : Int} (hh : (h : Int) ≤ 1000) (h0 : w.cell? ⟨0, 0, none⟩ = some (.int .i64 m)) (hb0 : b ≠ 0) (hb : BookAt w b false h 0 k) :
    Calls Tryz.prog 6 #[.pointer (some ⟨b, 0, none⟩), .agg #[.string ⟨#[110, 111, 119]⟩, .string ⟨#[111, 107, 32, 53]⟩]] w (Heard b (.tuple #[.bool false, .int .i64 0]) (!false) ((h : Int) + 1) 0 k w) :=
  hear_gen hh h0 hb0 hb fun W h0 hb => fits_ok [⟨#[110, 111, 119]⟩] [⟨#[111, 107]⟩, ⟨#[53]⟩] (by decide) (by decide) (by decide) (by decide) (by decide) (by decide) rfl (by decide) h0 hb (fun w h => isLine_now w m h) fun W gl gt hbW hne hl ht => ok_now_0 _ _ hbW (wordsCell ht 1 rfl) (wordsCell hl 0 rfl)
theorem hear_run {w : World} {b : Nat} {m : Int} {h : Nat} {n k : Int} (hh : (h : Int) ≤ 1000) (h0 : w.cell? ⟨0, 0, none⟩ = some (.int .i64 m)) (hb0 : b ≠ 0) (hb : BookAt w b false h n k) :
    Calls Tryz.prog 6 #[.pointer (some ⟨b, 0, none⟩), .agg #[.string ⟨#[114, 117, 110, 32, 49, 32, 55]⟩, .string ⟨#[111, 107, 32, 51, 32, 52, 32, 49, 32, 48, 32, 48, 32, 45]⟩]] w (Heard b (.tuple #[.bool false, .int .i64 0]) (!false) ((h : Int) + 1) n k w) :=
  hear_gen hh h0 hb0 hb fun W h0 hb => fits_ok [⟨#[114, 117, 110]⟩, ⟨#[49]⟩, ⟨#[55]⟩] [⟨#[111, 107]⟩, ⟨#[51]⟩, ⟨#[52]⟩, ⟨#[49]⟩, ⟨#[48]⟩, ⟨#[48]⟩, ⟨#[45]⟩] (by decide) (by decide) (by decide) (by decide) (by decide) (by decide) rfl (by decide) h0 hb (fun w h => isLine_run w m h) fun W gl gt hbW hne hl ht => ok_run _ _ _ hbW ⟨wordsCell ht 1 rfl, wordsCell ht 2 rfl, wordsCell ht 3 rfl, wordsCell ht 4 rfl, wordsCell ht 5 rfl, wordsCell ht 6 rfl⟩ (wordsCell hl 0 rfl)
theorem hear_tick {w : World} {b : Nat} {m : Int} {h : Nat} {k : Int} (hh : (h : Int) ≤ 1000) (h0 : w.cell? ⟨0, 0, none⟩ = some (.int .i64 m)) (hb0 : b ≠ 0) (hb : BookAt w b false h 0 k) :
    Calls Tryz.prog 6 #[.pointer (some ⟨b, 0, none⟩), .agg #[.string ⟨#[116, 105, 99, 107, 32, 53]⟩, .string ⟨#[111, 107]⟩]] w (Heard b (.tuple #[.bool true, .int .i64 0]) (!true) ((h : Int) + 1) 5 k w) :=
  hear_gen hh h0 hb0 hb fun W h0 hb => fits_ok1 [⟨#[116, 105, 99, 107]⟩, ⟨#[53]⟩] [⟨#[111, 107]⟩] (by decide) (by decide) (by decide) (by decide) (by decide) (by decide) rfl (by decide) h0 hb (fun w h => isLine_tick w m h) fun W gl gt hbW hne hl ht => ok_tick _ _ hbW (wordsCell hl 0 rfl) (wordsCell hl 1 rfl)
theorem hear_what {w : World} {b : Nat} {m : Int} {h : Nat} {n k : Int} (hh : (h : Int) ≤ 1000) (h0 : w.cell? ⟨0, 0, none⟩ = some (.int .i64 m)) (hb0 : b ≠ 0) (hb : BookAt w b false h n k) :
    Calls Tryz.prog 6 #[.pointer (some ⟨b, 0, none⟩), .agg #[.string ⟨#[119, 104, 97, 116]⟩, .string ⟨#[98, 97, 100]⟩]] w (Heard b (.tuple #[.bool true, .int .i64 0]) (!true) ((h : Int) + 1) n k w) :=
  hear_gen hh h0 hb0 hb fun W h0 hb => fits_what h0 hb
end Go.Proofs.YtfdbffopcdpfeaaGreatDoor
