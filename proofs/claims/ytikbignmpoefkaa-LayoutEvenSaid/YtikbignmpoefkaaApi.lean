/- The api's plain types as structures, and how they lie in memory. No condition. -/
import Derived.Test.YtikbignmpoefkaaGoT
namespace Go.Proofs.Ytikbignmpoefkaa
open Go.RowKit
@[ext] structure Layout where
  nodes : Int
  data : Int
  more : Int
  turn : Int
instance : GoT Layout := GoT.via (fun x => (x.nodes, x.data, x.more, x.turn))
abbrev Layout.v (x : Layout) : Value := .agg #[I x.nodes, I x.data, I x.more, I x.turn]
def Layout.ok (x : Layout) : Prop := (-9223372036854775808 ≤ x.nodes ∧ x.nodes ≤ 9223372036854775807) ∧ (-9223372036854775808 ≤ x.data ∧ x.data ≤ 9223372036854775807) ∧ (-9223372036854775808 ≤ x.more ∧ x.more ≤ 9223372036854775807) ∧ (-9223372036854775808 ≤ x.turn ∧ x.turn ≤ 9223372036854775807)
theorem Layout.flat {w : World} {B : Nat} {cs : List Value} {x : Layout} (h : GoT.rep w B cs x) : cs = [I x.nodes, I x.data, I x.more, I x.turn] ∧ x.ok := by
  simp only [GoT.rep] at h
  obtain ⟨_, _, rfl, ⟨rfl, o0⟩, ⟨_, _, rfl, ⟨rfl, o1⟩, ⟨_, _, rfl, ⟨rfl, o2⟩, ⟨rfl, o3⟩⟩⟩⟩ := h
  exact ⟨rfl, o0, o1, o2, o3⟩
theorem Layout.rep {w : World} {B : Nat} {x : Layout} (h : x.ok) : GoT.rep w B [I x.nodes, I x.data, I x.more, I x.turn] x := by
  obtain ⟨o0, o1, o2, o3⟩ := h
  exact (⟨_, _, rfl, ⟨rfl, o0⟩, ⟨_, _, rfl, ⟨rfl, o1⟩, ⟨_, _, rfl, ⟨rfl, o2⟩, ⟨rfl, o3⟩⟩⟩⟩ : GoT.rep w B [I x.nodes, I x.data, I x.more, I x.turn] x)
@[ext] structure Lease where
  holder : Int
  till : Int
  token : Int
instance : GoT Lease := GoT.via (fun x => (x.holder, x.till, x.token))
abbrev Lease.v (x : Lease) : Value := .agg #[I x.holder, I x.till, I x.token]
def Lease.ok (x : Lease) : Prop := (-9223372036854775808 ≤ x.holder ∧ x.holder ≤ 9223372036854775807) ∧ (-9223372036854775808 ≤ x.till ∧ x.till ≤ 9223372036854775807) ∧ (-9223372036854775808 ≤ x.token ∧ x.token ≤ 9223372036854775807)
theorem Lease.flat {w : World} {B : Nat} {cs : List Value} {x : Lease} (h : GoT.rep w B cs x) : cs = [I x.holder, I x.till, I x.token] ∧ x.ok := by
  simp only [GoT.rep] at h
  obtain ⟨_, _, rfl, ⟨rfl, o0⟩, ⟨_, _, rfl, ⟨rfl, o1⟩, ⟨rfl, o2⟩⟩⟩ := h
  exact ⟨rfl, o0, o1, o2⟩
theorem Lease.rep {w : World} {B : Nat} {x : Lease} (h : x.ok) : GoT.rep w B [I x.holder, I x.till, I x.token] x := by
  obtain ⟨o0, o1, o2⟩ := h
  exact (⟨_, _, rfl, ⟨rfl, o0⟩, ⟨_, _, rfl, ⟨rfl, o1⟩, ⟨rfl, o2⟩⟩⟩ : GoT.rep w B [I x.holder, I x.till, I x.token] x)
@[ext] structure Fence where
  seen : Int
instance : GoT Fence := GoT.via (fun x => x.seen)
abbrev Fence.v (x : Fence) : Value := .agg #[I x.seen]
def Fence.ok (x : Fence) : Prop := (-9223372036854775808 ≤ x.seen ∧ x.seen ≤ 9223372036854775807)
theorem Fence.flat {w : World} {B : Nat} {cs : List Value} {x : Fence} (h : GoT.rep w B cs x) : cs = [I x.seen] ∧ x.ok := by
  simp only [GoT.rep] at h
  obtain ⟨rfl, o0⟩ := h
  exact ⟨rfl, o0⟩
theorem Fence.rep {w : World} {B : Nat} {x : Fence} (h : x.ok) : GoT.rep w B [I x.seen] x := by
  have o0 := h
  exact (⟨rfl, o0⟩ : GoT.rep w B [I x.seen] x)
@[ext] structure Stamp where
  time : Int
  who : Int
instance : GoT Stamp := GoT.via (fun x => (x.time, x.who))
abbrev Stamp.v (x : Stamp) : Value := .agg #[I x.time, I x.who]
def Stamp.ok (x : Stamp) : Prop := (-9223372036854775808 ≤ x.time ∧ x.time ≤ 9223372036854775807) ∧ (-9223372036854775808 ≤ x.who ∧ x.who ≤ 9223372036854775807)
theorem Stamp.flat {w : World} {B : Nat} {cs : List Value} {x : Stamp} (h : GoT.rep w B cs x) : cs = [I x.time, I x.who] ∧ x.ok := by
  simp only [GoT.rep] at h
  obtain ⟨_, _, rfl, ⟨rfl, o0⟩, ⟨rfl, o1⟩⟩ := h
  exact ⟨rfl, o0, o1⟩
theorem Stamp.rep {w : World} {B : Nat} {x : Stamp} (h : x.ok) : GoT.rep w B [I x.time, I x.who] x := by
  obtain ⟨o0, o1⟩ := h
  exact (⟨_, _, rfl, ⟨rfl, o0⟩, ⟨rfl, o1⟩⟩ : GoT.rep w B [I x.time, I x.who] x)
@[ext] structure Copy where
  at_ : Stamp
  data : ByteArray
instance : GoT Copy := GoT.via (fun x => (x.at_, x.data))
abbrev Copy.v (x : Copy) : Value := .agg #[I x.at_.time, I x.at_.who, .string x.data]
def Copy.ok (x : Copy) : Prop := (-9223372036854775808 ≤ x.at_.time ∧ x.at_.time ≤ 9223372036854775807) ∧ (-9223372036854775808 ≤ x.at_.who ∧ x.at_.who ≤ 9223372036854775807) ∧ x.data.size ≤ 9223372036854775807
theorem Copy.flat {w : World} {B : Nat} {cs : List Value} {x : Copy} (h : GoT.rep w B cs x) : cs = [I x.at_.time, I x.at_.who, .string x.data] ∧ x.ok := by
  simp only [GoT.rep] at h
  obtain ⟨_, _, rfl, ⟨_, _, rfl, ⟨rfl, o0⟩, ⟨rfl, o1⟩⟩, ⟨rfl, o2⟩⟩ := h
  exact ⟨rfl, o0, o1, o2⟩
theorem Copy.rep {w : World} {B : Nat} {x : Copy} (h : x.ok) : GoT.rep w B [I x.at_.time, I x.at_.who, .string x.data] x := by
  obtain ⟨o0, o1, o2⟩ := h
  exact (⟨_, _, rfl, ⟨_, _, rfl, ⟨rfl, o0⟩, ⟨rfl, o1⟩⟩, ⟨rfl, o2⟩⟩ : GoT.rep w B [I x.at_.time, I x.at_.who, .string x.data] x)
@[ext] structure Bucket where
  level : Int
  now : Int
  burst : Int
  rate : Int
instance : GoT Bucket := GoT.via (fun x => (x.level, x.now, x.burst, x.rate))
abbrev Bucket.v (x : Bucket) : Value := .agg #[I x.level, I x.now, I x.burst, I x.rate]
def Bucket.ok (x : Bucket) : Prop := (-9223372036854775808 ≤ x.level ∧ x.level ≤ 9223372036854775807) ∧ (-9223372036854775808 ≤ x.now ∧ x.now ≤ 9223372036854775807) ∧ (-9223372036854775808 ≤ x.burst ∧ x.burst ≤ 9223372036854775807) ∧ (-9223372036854775808 ≤ x.rate ∧ x.rate ≤ 9223372036854775807)
theorem Bucket.flat {w : World} {B : Nat} {cs : List Value} {x : Bucket} (h : GoT.rep w B cs x) : cs = [I x.level, I x.now, I x.burst, I x.rate] ∧ x.ok := by
  simp only [GoT.rep] at h
  obtain ⟨_, _, rfl, ⟨rfl, o0⟩, ⟨_, _, rfl, ⟨rfl, o1⟩, ⟨_, _, rfl, ⟨rfl, o2⟩, ⟨rfl, o3⟩⟩⟩⟩ := h
  exact ⟨rfl, o0, o1, o2, o3⟩
theorem Bucket.rep {w : World} {B : Nat} {x : Bucket} (h : x.ok) : GoT.rep w B [I x.level, I x.now, I x.burst, I x.rate] x := by
  obtain ⟨o0, o1, o2, o3⟩ := h
  exact (⟨_, _, rfl, ⟨rfl, o0⟩, ⟨_, _, rfl, ⟨rfl, o1⟩, ⟨_, _, rfl, ⟨rfl, o2⟩, ⟨rfl, o3⟩⟩⟩⟩ : GoT.rep w B [I x.level, I x.now, I x.burst, I x.rate] x)
@[ext] structure Term where
  begin : Int
  end_ : Int
instance : GoT Term := GoT.via (fun x => (x.begin, x.end_))
abbrev Term.v (x : Term) : Value := .agg #[I x.begin, I x.end_]
def Term.ok (x : Term) : Prop := (-9223372036854775808 ≤ x.begin ∧ x.begin ≤ 9223372036854775807) ∧ (-9223372036854775808 ≤ x.end_ ∧ x.end_ ≤ 9223372036854775807)
theorem Term.flat {w : World} {B : Nat} {cs : List Value} {x : Term} (h : GoT.rep w B cs x) : cs = [I x.begin, I x.end_] ∧ x.ok := by
  simp only [GoT.rep] at h
  obtain ⟨_, _, rfl, ⟨rfl, o0⟩, ⟨rfl, o1⟩⟩ := h
  exact ⟨rfl, o0, o1⟩
theorem Term.rep {w : World} {B : Nat} {x : Term} (h : x.ok) : GoT.rep w B [I x.begin, I x.end_] x := by
  obtain ⟨o0, o1⟩ := h
  exact (⟨_, _, rfl, ⟨rfl, o0⟩, ⟨rfl, o1⟩⟩ : GoT.rep w B [I x.begin, I x.end_] x)
@[ext] structure Msg where
  kind : Int
  op : Int
  node : Int
  copy : Copy
instance : GoT Msg := GoT.via (fun x => (x.kind, x.op, x.node, x.copy))
abbrev Msg.v (x : Msg) : Value := .agg #[I x.kind, I x.op, I x.node, I x.copy.at_.time, I x.copy.at_.who, .string x.copy.data]
def Msg.ok (x : Msg) : Prop := (-9223372036854775808 ≤ x.kind ∧ x.kind ≤ 9223372036854775807) ∧ (-9223372036854775808 ≤ x.op ∧ x.op ≤ 9223372036854775807) ∧ (-9223372036854775808 ≤ x.node ∧ x.node ≤ 9223372036854775807) ∧ (-9223372036854775808 ≤ x.copy.at_.time ∧ x.copy.at_.time ≤ 9223372036854775807) ∧ (-9223372036854775808 ≤ x.copy.at_.who ∧ x.copy.at_.who ≤ 9223372036854775807) ∧ x.copy.data.size ≤ 9223372036854775807
theorem Msg.flat {w : World} {B : Nat} {cs : List Value} {x : Msg} (h : GoT.rep w B cs x) : cs = [I x.kind, I x.op, I x.node, I x.copy.at_.time, I x.copy.at_.who, .string x.copy.data] ∧ x.ok := by
  simp only [GoT.rep] at h
  obtain ⟨_, _, rfl, ⟨rfl, o0⟩, ⟨_, _, rfl, ⟨rfl, o1⟩, ⟨_, _, rfl, ⟨rfl, o2⟩, ⟨_, _, rfl, ⟨_, _, rfl, ⟨rfl, o3⟩, ⟨rfl, o4⟩⟩, ⟨rfl, o5⟩⟩⟩⟩⟩ := h
  exact ⟨rfl, o0, o1, o2, o3, o4, o5⟩
theorem Msg.rep {w : World} {B : Nat} {x : Msg} (h : x.ok) : GoT.rep w B [I x.kind, I x.op, I x.node, I x.copy.at_.time, I x.copy.at_.who, .string x.copy.data] x := by
  obtain ⟨o0, o1, o2, o3, o4, o5⟩ := h
  exact (⟨_, _, rfl, ⟨rfl, o0⟩, ⟨_, _, rfl, ⟨rfl, o1⟩, ⟨_, _, rfl, ⟨rfl, o2⟩, ⟨_, _, rfl, ⟨_, _, rfl, ⟨rfl, o3⟩, ⟨rfl, o4⟩⟩, ⟨rfl, o5⟩⟩⟩⟩⟩ : GoT.rep w B [I x.kind, I x.op, I x.node, I x.copy.at_.time, I x.copy.at_.who, .string x.copy.data] x)
@[ext] structure Epoch where
  no : Int
  members : U64
instance : GoT Epoch := GoT.via (fun x => (x.no, x.members))
abbrev Epoch.v (x : Epoch) : Value := .agg #[I x.no, .int .u64 (x.members.n : Int)]
def Epoch.ok (x : Epoch) : Prop := (-9223372036854775808 ≤ x.no ∧ x.no ≤ 9223372036854775807)
theorem Epoch.flat {w : World} {B : Nat} {cs : List Value} {x : Epoch} (h : GoT.rep w B cs x) : cs = [I x.no, .int .u64 (x.members.n : Int)] ∧ x.ok := by
  simp only [GoT.rep] at h
  obtain ⟨_, _, rfl, ⟨rfl, o0⟩, rfl⟩ := h
  exact ⟨rfl, o0⟩
theorem Epoch.rep {w : World} {B : Nat} {x : Epoch} (h : x.ok) : GoT.rep w B [I x.no, .int .u64 (x.members.n : Int)] x := by
  have o0 := h
  exact (⟨_, _, rfl, ⟨rfl, o0⟩, rfl⟩ : GoT.rep w B [I x.no, .int .u64 (x.members.n : Int)] x)
end Go.Proofs.Ytikbignmpoefkaa
