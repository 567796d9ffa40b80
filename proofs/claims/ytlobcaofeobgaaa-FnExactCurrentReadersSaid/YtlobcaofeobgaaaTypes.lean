/- The data types of the program as structures, how they lie in cells, and their sizes. Printed by gen.py. -/
import Derived.Test.YtlobcaofeobgaaaBase
import Derived.Test.YtlobcaofeobgaaaProg
namespace Go.Proofs.Ytlobcaofeobgaaa
open Go.RowKit
set_option linter.unusedVariables false
set_option linter.unusedSimpArgs false
set_option linter.unusedSectionVars false

def strs : Shape (List ByteArray) := Shape.sl 9 Shape.str
theorem info_string : (Try.prog.info? 9).map (fun i => (i.zero, i.size, i.bytes)) = some (some (.string (ByteArray.mk #[])), 1, 16) := by kernel_rfl
structure DKey where
  name : (List ByteArray)
  secret : Int
def sKey : Shape DKey := (strs.pair Shape.int).via fun x => (x.name, x.secret)
theorem sKey_rd {w : World} {cs : List Value} {x : DKey} (h : sKey.rd w cs x) : ∃ c0, cs = [c0, .int .i64 x.secret] ∧ strs.rd w [c0] x.name ∧ I64 x.secret := by
  obtain ⟨_, _, rfl, h0, ⟨rfl, h1⟩⟩ := h
  obtain ⟨v0, rfl⟩ := one_cell (strs.len h0)
  exact ⟨v0, rfl, h0, h1⟩
theorem sKey_f0 {w : World} {a0 a1 : Value} {x : DKey} (h : sKey.rd w [a0, a1] x) : strs.rd w [a0] x.name := by
  obtain ⟨c0, he, r0, r1⟩ := sKey_rd h
  simp only [List.cons.injEq, and_true] at he
  obtain ⟨rfl, rfl⟩ := he
  exact r0
theorem sKey_mk {w : World} {c0 : Value} {x : DKey} (h0 : strs.rd w [c0] x.name) (h1 : I64 x.secret) : sKey.rd w [c0, .int .i64 x.secret] x := ⟨[c0], _, rfl, h0, ⟨rfl, h1⟩⟩
def szKey (x : DKey) : Nat := (szL ByteArray.size) x.name

def sKeyL : Shape (List DKey) := Shape.sl 103 sKey
theorem info_Key : (Try.prog.info? 103).map (fun i => (i.zero, i.size, i.bytes)) = some (some (.agg #[.slice none 0 0, .int .i64 0]), 2, 32) := by kernel_rfl
structure DReader where
  node : Int
  name : (List ByteArray)
  epoch : Int
def sReader : Shape DReader := (Shape.int.pair (strs.pair Shape.int)).via fun x => (x.node, x.name, x.epoch)
theorem sReader_rd {w : World} {cs : List Value} {x : DReader} (h : sReader.rd w cs x) : ∃ c1, cs = [.int .i64 x.node, c1, .int .i64 x.epoch] ∧ I64 x.node ∧ strs.rd w [c1] x.name ∧ I64 x.epoch := by
  obtain ⟨_, _, rfl, ⟨rfl, h0⟩, _, _, rfl, h1, ⟨rfl, h2⟩⟩ := h
  obtain ⟨v1, rfl⟩ := one_cell (strs.len h1)
  exact ⟨v1, rfl, h0, h1, h2⟩
theorem sReader_f1 {w : World} {a0 a1 a2 : Value} {x : DReader} (h : sReader.rd w [a0, a1, a2] x) : strs.rd w [a1] x.name := by
  obtain ⟨c1, he, r0, r1, r2⟩ := sReader_rd h
  simp only [List.cons.injEq, and_true] at he
  obtain ⟨rfl, rfl, rfl⟩ := he
  exact r1
theorem sReader_mk {w : World} {c1 : Value} {x : DReader} (h0 : I64 x.node) (h1 : strs.rd w [c1] x.name) (h2 : I64 x.epoch) : sReader.rd w [.int .i64 x.node, c1, .int .i64 x.epoch] x := ⟨[.int .i64 x.node], _, rfl, ⟨rfl, h0⟩, ⟨[c1], _, rfl, h1, ⟨rfl, h2⟩⟩⟩
def szReader (x : DReader) : Nat := (szL ByteArray.size) x.name

def sReaderL : Shape (List DReader) := Shape.sl 106 sReader
theorem info_Reader : (Try.prog.info? 106).map (fun i => (i.zero, i.size, i.bytes)) = some (some (.agg #[.int .i64 0, .slice none 0 0, .int .i64 0]), 3, 40) := by kernel_rfl
structure DAccessController where
  keys : (List DKey)
  master : Int
  epoch : Int
  readers : (List DReader)
def sAccessController : Shape DAccessController := (sKeyL.pair (Shape.int.pair (Shape.int.pair sReaderL))).via fun x => (x.keys, x.master, x.epoch, x.readers)
theorem sAccessController_rd {w : World} {cs : List Value} {x : DAccessController} (h : sAccessController.rd w cs x) : ∃ c0 c3, cs = [c0, .int .i64 x.master, .int .i64 x.epoch, c3] ∧ sKeyL.rd w [c0] x.keys ∧ I64 x.master ∧ I64 x.epoch ∧ sReaderL.rd w [c3] x.readers := by
  obtain ⟨_, _, rfl, h0, _, _, rfl, ⟨rfl, h1⟩, _, _, rfl, ⟨rfl, h2⟩, h3⟩ := h
  obtain ⟨v0, rfl⟩ := one_cell (sKeyL.len h0)
  obtain ⟨v3, rfl⟩ := one_cell (sReaderL.len h3)
  exact ⟨v0, v3, rfl, h0, h1, h2, h3⟩
theorem sAccessController_f0 {w : World} {a0 a1 a2 a3 : Value} {x : DAccessController} (h : sAccessController.rd w [a0, a1, a2, a3] x) : sKeyL.rd w [a0] x.keys := by
  obtain ⟨c0, c3, he, r0, r1, r2, r3⟩ := sAccessController_rd h
  simp only [List.cons.injEq, and_true] at he
  obtain ⟨rfl, rfl, rfl, rfl⟩ := he
  exact r0
theorem sAccessController_f3 {w : World} {a0 a1 a2 a3 : Value} {x : DAccessController} (h : sAccessController.rd w [a0, a1, a2, a3] x) : sReaderL.rd w [a3] x.readers := by
  obtain ⟨c0, c3, he, r0, r1, r2, r3⟩ := sAccessController_rd h
  simp only [List.cons.injEq, and_true] at he
  obtain ⟨rfl, rfl, rfl, rfl⟩ := he
  exact r3
theorem sAccessController_mk {w : World} {c0 c3 : Value} {x : DAccessController} (h0 : sKeyL.rd w [c0] x.keys) (h1 : I64 x.master) (h2 : I64 x.epoch) (h3 : sReaderL.rd w [c3] x.readers) : sAccessController.rd w [c0, .int .i64 x.master, .int .i64 x.epoch, c3] x := ⟨[c0], _, rfl, h0, ⟨[.int .i64 x.master], _, rfl, ⟨rfl, h1⟩, ⟨[.int .i64 x.epoch], _, rfl, ⟨rfl, h2⟩, h3⟩⟩⟩
def szAccessController (x : DAccessController) : Nat := (szL szKey) x.keys + (szL szReader) x.readers

def sInts : Shape (List Int) := Shape.sl 3 Shape.int
theorem info_int : (Try.prog.info? 3).map (fun i => (i.zero, i.size, i.bytes)) = some (some (.int .i64 0), 1, 8) := by kernel_rfl
end Go.Proofs.Ytlobcaofeobgaaa
