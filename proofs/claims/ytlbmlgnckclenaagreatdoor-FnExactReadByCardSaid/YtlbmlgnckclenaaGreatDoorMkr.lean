/- Raw shapes of scalars; marking one string: what the function writes, exactly. -/
import Derived.Test.YtlbmlgnckclenaaGreatDoorMark
import Derived.Test.YtlbmlgnckclenaaGreatDoorTx
import Derived.Laws.BytesArg
import Derived.Deep.RegionHeld3
import Derived.Deep.DrawnRows
import Derived.Deep.Cut
namespace Go.Proofs.YtlbmlgnckclenaaGreatDoor
open Go.RowKit
set_option linter.unusedVariables false
set_option linter.unusedSimpArgs false
attribute [local go_sem ↓] Go.wp_at_zero Go.wp_at_succ
def mkText (k : Int) : ByteArray := if k ≤ 0 then bs [109, 48] else bs (109 :: Go.Lib.decDigits k.toNat)
def mkByte (k : Int) : UInt8 := UInt8.ofNat k.toNat
def mkBool (k : Int) : Bool := k % 3 == 0
def rInt : Shape Int := Shape.one (fun n => .int .i64 n) (fun _ => True)
def rStr : Shape ByteArray := Shape.one (fun s => .string s) (fun _ => True)
def rStrs : Shape (List ByteArray) := Shape.sl 9 rStr
def rInts : Shape (List Int) := Shape.sl 3 rInt
def rBytes : Shape (List UInt8) := Shape.sl 5 Shape.byte
theorem ow_pair {α β : Type} {S : Shape α} {T : Shape β} {w : World} {c1 c2 : List Value} {x : α} {y : β} {f1 f2 : List Nat} (h1 : S.ow w c1 x f1) (h2 : T.ow w c2 y f2) (hn : (f1 ++ f2).Nodup) : (S.pair T).ow w (c1 ++ c2) (x, y) (f1 ++ f2) := ⟨c1, c2, f1, f2, rfl, h1, h2, rfl, hn⟩
theorem raw_ow_int {w : World} (n : Int) : rInt.ow w [.int .i64 n] n [] := ⟨⟨rfl, trivial⟩, rfl⟩
theorem raw_ow_bool {w : World} (b : Bool) : Shape.bool.ow w [.bool b] b [] := ⟨⟨rfl, trivial⟩, rfl⟩
theorem raw_ow_string {w : World} (s : ByteArray) : rStr.ow w [.string s] s [] := ⟨⟨rfl, trivial⟩, rfl⟩
theorem raw_ow_byte {w : World} {z : Int} (h : 0 ≤ z) : Shape.byte.ow w [.int .u8 (z % 256)] (mkByte z) [] := by
  refine ⟨⟨?_, trivial⟩, rfl⟩
  have : ((mkByte z).toNat : Int) = z % 256 := by unfold mkByte; rw [UInt8.toNat_ofNat']; omega
  show [Value.int .u8 (z % 256)] = [Value.int .u8 ((mkByte z).toNat : Int)]
  rw [this]
theorem bl_append (a b : ByteArray) : bl (a ++ b) = bl a ++ bl b := by
  unfold bl
  rw [ByteArray.data_append]
  simp
set_option maxRecDepth 100000 in
set_option maxHeartbeats 2000000 in
theorem markText_c (k : Int) (w : World) (h0 : 0 ≤ k) (hb : k ≤ 1099511627776) :
    Calls Tryz.prog 94 #[.int .i64 k] w fun e w' => e = .returned (.string (mkText k)) ∧ Ext w w' := by
  by_cases hz : k ≤ 0
  · go_enter Tryz.func94, Tryz.ntmps94
    go_wp2
    go_ret
    unfold mkText
    rw [if_pos hz]
    exact ⟨rfl, Ext.refl _⟩
  · have hlen : (dg0 k.toNat).length ≤ 13 := by
      unfold dg0
      rw [if_neg (by omega), decDigits_len]
      exact nDigits_le 13 k.toNat (by omega) (by omega)
    obtain ⟨D, hD⟩ : ∃ D, D = dg0 k.toNat := ⟨_, rfl⟩
    have hfin : mkText k = bs (109 :: D) := by
      unfold mkText
      rw [if_neg hz, hD]
      unfold dg0
      rw [if_neg (by omega)]
    rw [← hD] at hlen
    have HD := Lib.hid hD
    have HFI := Lib.hid hfin
    clear hD hfin
    go_enter Tryz.func94, Tryz.ntmps94
    go_wp2
    go_loopw [0, 3] (fun n o wr => ∃ (m : Int) (s : ByteArray), n = .int .i64 m ∧ o = .string s ∧ 0 ≤ m ∧ m ≤ k ∧ Hid (D = dg0 m.toNat ++ bl s) ∧ s.size ≤ 13 ∧ Ext w wr) (fun n _ _ => (intOf n).toNat)
    case atStart => exact ⟨k, _, rfl, rfl, h0, Int.le_refl _, Lib.hid (by rw [HD.out]; show _ = _ ++ []; rw [List.append_nil]), by decide, Ext.refl _⟩
    case round =>
      obtain ⟨m, s, rfl, rfl, hm, hmk, HE, hs, hx⟩ := hrel
      by_cases hp : 0 < m
      · have hd : m / 10 < m := by omega
        have hd0 : 0 ≤ m / 10 := by omega
        have hcell : ∀ i, i < 1 → (wr.alloc (.cells #[.int .u8 (48 + m % 10)] 5)).cell? ⟨wr.heap.size, 0 + i, none⟩ = some (.int .u8 ([48 + m % 10].getD i 0)) := by
          intro i hi
          cases i with
          | zero => simp
          | succ i => omega
        have hcv := run_convert_bytes_arg (P := Tryz.prog) (wr.alloc (.cells #[.int .u8 (48 + m % 10)] 5)) 29 5 Tryz.underlying29 Tryz.underlying5 wr.heap.size 0 1 1 [48 + m % 10] rfl hcell 9 Tryz.underlying9
        clear hcell
        have hsz : (strOfNums [48 + m % 10]).size = 1 := strOfNums_size _
        have hbl : Hid (bl (strOfNums [48 + m % 10]) = [UInt8.ofNat (48 + m.toNat % 10)]) := Lib.hid (by
          show [UInt8.ofNat (48 + m % 10).toNat] = _
          congr 2
          omega)
        have hD' : Hid (D = dg0 (m / 10).toNat ++ bl (strOfNums [48 + m % 10] ++ s)) := Lib.hid (by
          rw [HE.out, dg0_step m.toNat (by omega), bl_append, hbl.out, List.append_assoc]
          congr 2
          omega)
        have hs13 : (strOfNums [48 + m % 10] ++ s).size ≤ 13 := by
          have h := congrArg List.length hD'.out
          rw [List.length_append, bl_len] at h
          omega
        clear hbl
        generalize strOfNums [48 + m % 10] = t at *
        have hcat : t.size + s.size ≤ maxLen := by unfold maxLen; omega
        go_wp2
        go_roundw
        case rel => exact ⟨m / 10, t ++ s, by first | rfl | (congr 1; omega), rfl, hd0, by omega, hD', hs13, Ext.trans hx ((Ext.refl wr).alloc _)⟩
        case measure => simp [intOf]; omega
      · have hcat : s.size ≤ 1099511627776 := by omega
        have hm0 : m = 0 := by omega
        go_wp2
        go_ret
        refine ⟨?_, hx⟩
        rw [HFI.out, HE.out, hm0]
        show Ending.returned (.string (bs [109] ++ s)) = _
        congr 2
end Go.Proofs.YtlbmlgnckclenaaGreatDoor
