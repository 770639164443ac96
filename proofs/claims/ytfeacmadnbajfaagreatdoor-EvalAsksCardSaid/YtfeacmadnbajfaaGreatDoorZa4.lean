/- Part 4 of the proof: words, contracts, plain laws. Laid by a program of this session (wip/tool/shake.py): what is needed of own and printed texts, in order. -/
import Derived.Test.YtfeacmadnbajfaaGreatDoorZa0
import Derived.Test.YtfeacmadnbajfaaGreatDoorZa1
import Derived.Test.YtfeacmadnbajfaaGreatDoorZa2
import Derived.Test.YtfeacmadnbajfaaGreatDoorZa3
import Derived.Calls
import Derived.Lib.ItoaNum
import Derived.Orders
import Derived.Tactics
import Derived.Below
import Derived.Laws.Rows
import Derived.Laws.World
import Derived.Laws.CopyRow
import Derived.Lib.FrozenHead
import Derived.Deep.AppendSrc
import Derived.Deep.Upon
import Derived.Laws.BytesArg
import Derived.IntWalk
import Derived.Laws.Externs
import Derived.LoopN
import Derived.Test.YtfeacmadnbajfaaGreatDoorProg
import Derived.KernelRfl
import Derived.MapKept
import Derived.RegionTactic
namespace Go.Proofs.YtfeacmadnbajfaaGreatDoor.AM
open Go.RowKit
structure PropD where
  name : ByteArray
  v : ValD
def PropD.enc (p : PropD) : List Dat := [ds' p.name, di p.v.a.k, di p.v.a.n, df p.v.a.f, ds' p.v.a.s, .lst 4 (p.v.l.map AtomD.enc)]
structure SpotD where
  var : ByteArray
  label : ByteArray
  props : List PropD
def SpotD.enc (s : SpotD) : List Dat := [ds' s.var, ds' s.label, .lst 6 (s.props.map PropD.enc)]
structure HopD where
  var : ByteArray
  type : ByteArray
  back : Bool
  many : Bool
  least : Int
  most : Int
def HopD.enc (h : HopD) : List Dat := [ds' h.var, ds' h.type, db h.back, db h.many, di h.least, di h.most]
structure ItemD where
  fn : Int
  terms : List TermD
def ItemD.enc (x : ItemD) : List Dat := [di x.fn, .lst 8 (x.terms.map TermD.enc)]
structure SortD where
  item : Int
  desc : Bool
def SortD.enc (x : SortD) : List Dat := [di x.item, db x.desc]
structure QueryD where
  spots : List SpotD
  hops : List HopD
  wh : List TermD
  items : List ItemD
  distinct : Bool
  sorts : List SortD
  skip : Int
  limit : Int
def QueryD.enc (q : QueryD) : List Dat := [.lst 3 (q.spots.map SpotD.enc), .lst 6 (q.hops.map HopD.enc), .lst 8 (q.wh.map TermD.enc), .lst 2 (q.items.map ItemD.enc), db q.distinct, .lst 2 (q.sorts.map SortD.enc), di q.skip, di q.limit]
abbrev ofD (l : List Dat) : AV := .agg (l.map .dat)
theorem row_at {α : Type} (e : α → List Dat) (l : List α) (k : Nat) (h : k < l.length) : (l.map e)[k]? = some (e l[k]) := by simp [h]
theorem lt_t {a b : Nat} (h : a < b) : decide ((a : Int) < (b : Int)) = true := by simpa using h
theorem lt_f {a b : Nat} (h : ¬ a < b) : decide ((a : Int) < (b : Int)) = false := by simpa using h
end Go.Proofs.YtfeacmadnbajfaaGreatDoor.AM
