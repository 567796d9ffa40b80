/- The numbers of the functions that write into what they are given. -/
import Derived.Test.YtifkepnfaggkiaaDoorEngDef
namespace Go.Proofs.YtifkepnfaggkiaaDoor
def mutIds : List Nat := []
def nilIds : List Nat := []
def conIds : List Nat := []
def viewIds : List Nat := []
def retTys : List Nat := []
def curIds : List (Nat × Nat) := [(12, 44), (13, 44), (20, 44), (21, 44), (22, 44), (23, 44), (24, 44), (25, 44), (26, 44), (27, 44), (34, 44), (35, 44), (36, 44), (37, 44)]
def shrIds : List Nat := [5, 12, 20, 22, 44, 54]
def newIds : List (Nat × Nat) := [(11, 44)]
def borIds : List Nat := [34]
def wkIds : List Nat := [45]
end Go.Proofs.YtifkepnfaggkiaaDoor
