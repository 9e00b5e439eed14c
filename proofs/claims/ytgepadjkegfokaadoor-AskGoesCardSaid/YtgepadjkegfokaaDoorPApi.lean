/- The api's plain types as structures, and how they lie in memory. No condition. -/
import Derived.Test.YtgepadjkegfokaaDoorPGoT
namespace Go.Proofs.YtgepadjkegfokaaDoor
set_option linter.unusedSimpArgs false
set_option linter.unusedVariables false
open Go.RowKit
@[ext] structure Layout where
  nodes : Int
  data : Int
  more : Int
  turn : Int
instance : GoT Layout := GoT.via (fun x => (x.nodes, x.data, x.more, x.turn))
@[go_sem, simp] theorem Layout.eta (x : Layout) : (⟨x.nodes, x.data, x.more, x.turn⟩ : Layout) = x := rfl
abbrev Layout.v (x : Layout) : Value := .agg #[I x.nodes, I x.data, I x.more, I x.turn]
theorem Layout.r1 {x : Layout} {a0 : Int} {a1 : Int} {a2 : Int} {a3 : Int} (h : x = ⟨a0, a1, a2, a3⟩) : Ending.returned (.agg #[I a0, I a1, I a2, I a3]) = .returned x.v := by subst h; rfl
theorem Layout.r2 {x : Layout × Int} {a0 : Int} {a1 : Int} {a2 : Int} {a3 : Int} {e : Int} (h : x = (⟨a0, a1, a2, a3⟩, e)) : Ending.returned (.tuple #[.agg #[I a0, I a1, I a2, I a3], I e]) = .returned (.tuple #[x.1.v, I x.2]) := by subst h; rfl
def Layout.ok (x : Layout) : Prop := (-9223372036854775808 ≤ x.nodes ∧ x.nodes ≤ 9223372036854775807) ∧ (-9223372036854775808 ≤ x.data ∧ x.data ≤ 9223372036854775807) ∧ (-9223372036854775808 ≤ x.more ∧ x.more ≤ 9223372036854775807) ∧ (-9223372036854775808 ≤ x.turn ∧ x.turn ≤ 9223372036854775807)
theorem Layout.flat {w : World} {B : Nat} {cs : List Value} {x : Layout} (h : GoT.rep w B cs x) : cs = [I x.nodes, I x.data, I x.more, I x.turn] ∧ x.ok := by
  simp only [GoT.rep] at h
  obtain ⟨_, _, rfl, ⟨rfl, o0⟩, ⟨_, _, rfl, ⟨rfl, o1⟩, ⟨_, _, rfl, ⟨rfl, o2⟩, ⟨rfl, o3⟩⟩⟩⟩ := h
  exact ⟨rfl, o0, o1, o2, o3⟩
theorem Layout.rep {w : World} {B : Nat} {x : Layout} (h : x.ok) : GoT.rep w B [I x.nodes, I x.data, I x.more, I x.turn] x := by
  obtain ⟨o0, o1, o2, o3⟩ := h
  exact (⟨_, _, rfl, ⟨rfl, o0⟩, ⟨_, _, rfl, ⟨rfl, o1⟩, ⟨_, _, rfl, ⟨rfl, o2⟩, ⟨rfl, o3⟩⟩⟩⟩ : GoT.rep w B [I x.nodes, I x.data, I x.more, I x.turn] x)
@[ext] structure Lease where
  holder : Int
  till : Int
  token : Int
instance : GoT Lease := GoT.via (fun x => (x.holder, x.till, x.token))
@[go_sem, simp] theorem Lease.eta (x : Lease) : (⟨x.holder, x.till, x.token⟩ : Lease) = x := rfl
abbrev Lease.v (x : Lease) : Value := .agg #[I x.holder, I x.till, I x.token]
theorem Lease.r1 {x : Lease} {a0 : Int} {a1 : Int} {a2 : Int} (h : x = ⟨a0, a1, a2⟩) : Ending.returned (.agg #[I a0, I a1, I a2]) = .returned x.v := by subst h; rfl
theorem Lease.r2 {x : Lease × Int} {a0 : Int} {a1 : Int} {a2 : Int} {e : Int} (h : x = (⟨a0, a1, a2⟩, e)) : Ending.returned (.tuple #[.agg #[I a0, I a1, I a2], I e]) = .returned (.tuple #[x.1.v, I x.2]) := by subst h; rfl
def Lease.ok (x : Lease) : Prop := (-9223372036854775808 ≤ x.holder ∧ x.holder ≤ 9223372036854775807) ∧ (-9223372036854775808 ≤ x.till ∧ x.till ≤ 9223372036854775807) ∧ (-9223372036854775808 ≤ x.token ∧ x.token ≤ 9223372036854775807)
theorem Lease.flat {w : World} {B : Nat} {cs : List Value} {x : Lease} (h : GoT.rep w B cs x) : cs = [I x.holder, I x.till, I x.token] ∧ x.ok := by
  simp only [GoT.rep] at h
  obtain ⟨_, _, rfl, ⟨rfl, o0⟩, ⟨_, _, rfl, ⟨rfl, o1⟩, ⟨rfl, o2⟩⟩⟩ := h
  exact ⟨rfl, o0, o1, o2⟩
theorem Lease.rep {w : World} {B : Nat} {x : Lease} (h : x.ok) : GoT.rep w B [I x.holder, I x.till, I x.token] x := by
  obtain ⟨o0, o1, o2⟩ := h
  exact (⟨_, _, rfl, ⟨rfl, o0⟩, ⟨_, _, rfl, ⟨rfl, o1⟩, ⟨rfl, o2⟩⟩⟩ : GoT.rep w B [I x.holder, I x.till, I x.token] x)
@[ext] structure Fence where
  seen : Int
instance : GoT Fence := GoT.via (fun x => x.seen)
@[go_sem, simp] theorem Fence.eta (x : Fence) : (⟨x.seen⟩ : Fence) = x := rfl
abbrev Fence.v (x : Fence) : Value := .agg #[I x.seen]
theorem Fence.r1 {x : Fence} {a0 : Int} (h : x = ⟨a0⟩) : Ending.returned (.agg #[I a0]) = .returned x.v := by subst h; rfl
theorem Fence.r2 {x : Fence × Int} {a0 : Int} {e : Int} (h : x = (⟨a0⟩, e)) : Ending.returned (.tuple #[.agg #[I a0], I e]) = .returned (.tuple #[x.1.v, I x.2]) := by subst h; rfl
def Fence.ok (x : Fence) : Prop := (-9223372036854775808 ≤ x.seen ∧ x.seen ≤ 9223372036854775807)
theorem Fence.flat {w : World} {B : Nat} {cs : List Value} {x : Fence} (h : GoT.rep w B cs x) : cs = [I x.seen] ∧ x.ok := by
  simp only [GoT.rep] at h
  obtain ⟨rfl, o0⟩ := h
  exact ⟨rfl, o0⟩
theorem Fence.rep {w : World} {B : Nat} {x : Fence} (h : x.ok) : GoT.rep w B [I x.seen] x := by
  have o0 := h
  exact (⟨rfl, o0⟩ : GoT.rep w B [I x.seen] x)
@[ext] structure Stamp where
  time : Int
  who : Int
instance : GoT Stamp := GoT.via (fun x => (x.time, x.who))
@[go_sem, simp] theorem Stamp.eta (x : Stamp) : (⟨x.time, x.who⟩ : Stamp) = x := rfl
abbrev Stamp.v (x : Stamp) : Value := .agg #[I x.time, I x.who]
theorem Stamp.r1 {x : Stamp} {a0 : Int} {a1 : Int} (h : x = ⟨a0, a1⟩) : Ending.returned (.agg #[I a0, I a1]) = .returned x.v := by subst h; rfl
theorem Stamp.r2 {x : Stamp × Int} {a0 : Int} {a1 : Int} {e : Int} (h : x = (⟨a0, a1⟩, e)) : Ending.returned (.tuple #[.agg #[I a0, I a1], I e]) = .returned (.tuple #[x.1.v, I x.2]) := by subst h; rfl
def Stamp.ok (x : Stamp) : Prop := (-9223372036854775808 ≤ x.time ∧ x.time ≤ 9223372036854775807) ∧ (-9223372036854775808 ≤ x.who ∧ x.who ≤ 9223372036854775807)
theorem Stamp.flat {w : World} {B : Nat} {cs : List Value} {x : Stamp} (h : GoT.rep w B cs x) : cs = [I x.time, I x.who] ∧ x.ok := by
  simp only [GoT.rep] at h
  obtain ⟨_, _, rfl, ⟨rfl, o0⟩, ⟨rfl, o1⟩⟩ := h
  exact ⟨rfl, o0, o1⟩
theorem Stamp.rep {w : World} {B : Nat} {x : Stamp} (h : x.ok) : GoT.rep w B [I x.time, I x.who] x := by
  obtain ⟨o0, o1⟩ := h
  exact (⟨_, _, rfl, ⟨rfl, o0⟩, ⟨rfl, o1⟩⟩ : GoT.rep w B [I x.time, I x.who] x)
@[ext] structure Copy where
  at_ : Stamp
  data : ByteArray
instance : GoT Copy := GoT.via (fun x => (x.at_, x.data))
@[go_sem, simp] theorem Copy.eta (x : Copy) : (⟨x.at_, x.data⟩ : Copy) = x := rfl
abbrev Copy.v (x : Copy) : Value := .agg #[I x.at_.time, I x.at_.who, .string x.data]
theorem Copy.r1 {x : Copy} {a0 : Int} {a1 : Int} {a2 : ByteArray} (h : x = ⟨⟨a0, a1⟩, a2⟩) : Ending.returned (.agg #[I a0, I a1, .string a2]) = .returned x.v := by subst h; rfl
theorem Copy.r2 {x : Copy × Int} {a0 : Int} {a1 : Int} {a2 : ByteArray} {e : Int} (h : x = (⟨⟨a0, a1⟩, a2⟩, e)) : Ending.returned (.tuple #[.agg #[I a0, I a1, .string a2], I e]) = .returned (.tuple #[x.1.v, I x.2]) := by subst h; rfl
def Copy.ok (x : Copy) : Prop := (-9223372036854775808 ≤ x.at_.time ∧ x.at_.time ≤ 9223372036854775807) ∧ (-9223372036854775808 ≤ x.at_.who ∧ x.at_.who ≤ 9223372036854775807) ∧ x.data.size ≤ 9223372036854775807
theorem Copy.flat {w : World} {B : Nat} {cs : List Value} {x : Copy} (h : GoT.rep w B cs x) : cs = [I x.at_.time, I x.at_.who, .string x.data] ∧ x.ok := by
  simp only [GoT.rep] at h
  obtain ⟨_, _, rfl, ⟨_, _, rfl, ⟨rfl, o0⟩, ⟨rfl, o1⟩⟩, ⟨rfl, o2⟩⟩ := h
  exact ⟨rfl, o0, o1, o2⟩
theorem Copy.rep {w : World} {B : Nat} {x : Copy} (h : x.ok) : GoT.rep w B [I x.at_.time, I x.at_.who, .string x.data] x := by
  obtain ⟨o0, o1, o2⟩ := h
  exact (⟨_, _, rfl, ⟨_, _, rfl, ⟨rfl, o0⟩, ⟨rfl, o1⟩⟩, ⟨rfl, o2⟩⟩ : GoT.rep w B [I x.at_.time, I x.at_.who, .string x.data] x)
@[ext] structure Bucket where
  level : Int
  now : Int
  burst : Int
  rate : Int
instance : GoT Bucket := GoT.via (fun x => (x.level, x.now, x.burst, x.rate))
@[go_sem, simp] theorem Bucket.eta (x : Bucket) : (⟨x.level, x.now, x.burst, x.rate⟩ : Bucket) = x := rfl
abbrev Bucket.v (x : Bucket) : Value := .agg #[I x.level, I x.now, I x.burst, I x.rate]
theorem Bucket.r1 {x : Bucket} {a0 : Int} {a1 : Int} {a2 : Int} {a3 : Int} (h : x = ⟨a0, a1, a2, a3⟩) : Ending.returned (.agg #[I a0, I a1, I a2, I a3]) = .returned x.v := by subst h; rfl
theorem Bucket.r2 {x : Bucket × Int} {a0 : Int} {a1 : Int} {a2 : Int} {a3 : Int} {e : Int} (h : x = (⟨a0, a1, a2, a3⟩, e)) : Ending.returned (.tuple #[.agg #[I a0, I a1, I a2, I a3], I e]) = .returned (.tuple #[x.1.v, I x.2]) := by subst h; rfl
def Bucket.ok (x : Bucket) : Prop := (-9223372036854775808 ≤ x.level ∧ x.level ≤ 9223372036854775807) ∧ (-9223372036854775808 ≤ x.now ∧ x.now ≤ 9223372036854775807) ∧ (-9223372036854775808 ≤ x.burst ∧ x.burst ≤ 9223372036854775807) ∧ (-9223372036854775808 ≤ x.rate ∧ x.rate ≤ 9223372036854775807)
theorem Bucket.flat {w : World} {B : Nat} {cs : List Value} {x : Bucket} (h : GoT.rep w B cs x) : cs = [I x.level, I x.now, I x.burst, I x.rate] ∧ x.ok := by
  simp only [GoT.rep] at h
  obtain ⟨_, _, rfl, ⟨rfl, o0⟩, ⟨_, _, rfl, ⟨rfl, o1⟩, ⟨_, _, rfl, ⟨rfl, o2⟩, ⟨rfl, o3⟩⟩⟩⟩ := h
  exact ⟨rfl, o0, o1, o2, o3⟩
theorem Bucket.rep {w : World} {B : Nat} {x : Bucket} (h : x.ok) : GoT.rep w B [I x.level, I x.now, I x.burst, I x.rate] x := by
  obtain ⟨o0, o1, o2, o3⟩ := h
  exact (⟨_, _, rfl, ⟨rfl, o0⟩, ⟨_, _, rfl, ⟨rfl, o1⟩, ⟨_, _, rfl, ⟨rfl, o2⟩, ⟨rfl, o3⟩⟩⟩⟩ : GoT.rep w B [I x.level, I x.now, I x.burst, I x.rate] x)
@[ext] structure Term where
  begin : Int
  end_ : Int
instance : GoT Term := GoT.via (fun x => (x.begin, x.end_))
@[go_sem, simp] theorem Term.eta (x : Term) : (⟨x.begin, x.end_⟩ : Term) = x := rfl
abbrev Term.v (x : Term) : Value := .agg #[I x.begin, I x.end_]
theorem Term.r1 {x : Term} {a0 : Int} {a1 : Int} (h : x = ⟨a0, a1⟩) : Ending.returned (.agg #[I a0, I a1]) = .returned x.v := by subst h; rfl
theorem Term.r2 {x : Term × Int} {a0 : Int} {a1 : Int} {e : Int} (h : x = (⟨a0, a1⟩, e)) : Ending.returned (.tuple #[.agg #[I a0, I a1], I e]) = .returned (.tuple #[x.1.v, I x.2]) := by subst h; rfl
def Term.ok (x : Term) : Prop := (-9223372036854775808 ≤ x.begin ∧ x.begin ≤ 9223372036854775807) ∧ (-9223372036854775808 ≤ x.end_ ∧ x.end_ ≤ 9223372036854775807)
theorem Term.flat {w : World} {B : Nat} {cs : List Value} {x : Term} (h : GoT.rep w B cs x) : cs = [I x.begin, I x.end_] ∧ x.ok := by
  simp only [GoT.rep] at h
  obtain ⟨_, _, rfl, ⟨rfl, o0⟩, ⟨rfl, o1⟩⟩ := h
  exact ⟨rfl, o0, o1⟩
theorem Term.rep {w : World} {B : Nat} {x : Term} (h : x.ok) : GoT.rep w B [I x.begin, I x.end_] x := by
  obtain ⟨o0, o1⟩ := h
  exact (⟨_, _, rfl, ⟨rfl, o0⟩, ⟨rfl, o1⟩⟩ : GoT.rep w B [I x.begin, I x.end_] x)
@[ext] structure Msg where
  kind : Int
  op : Int
  node : Int
  copy : Copy
instance : GoT Msg := GoT.via (fun x => (x.kind, x.op, x.node, x.copy))
@[go_sem, simp] theorem Msg.eta (x : Msg) : (⟨x.kind, x.op, x.node, x.copy⟩ : Msg) = x := rfl
abbrev Msg.v (x : Msg) : Value := .agg #[I x.kind, I x.op, I x.node, I x.copy.at_.time, I x.copy.at_.who, .string x.copy.data]
theorem Msg.r1 {x : Msg} {a0 : Int} {a1 : Int} {a2 : Int} {a3 : Int} {a4 : Int} {a5 : ByteArray} (h : x = ⟨a0, a1, a2, ⟨⟨a3, a4⟩, a5⟩⟩) : Ending.returned (.agg #[I a0, I a1, I a2, I a3, I a4, .string a5]) = .returned x.v := by subst h; rfl
theorem Msg.r2 {x : Msg × Int} {a0 : Int} {a1 : Int} {a2 : Int} {a3 : Int} {a4 : Int} {a5 : ByteArray} {e : Int} (h : x = (⟨a0, a1, a2, ⟨⟨a3, a4⟩, a5⟩⟩, e)) : Ending.returned (.tuple #[.agg #[I a0, I a1, I a2, I a3, I a4, .string a5], I e]) = .returned (.tuple #[x.1.v, I x.2]) := by subst h; rfl
def Msg.ok (x : Msg) : Prop := (-9223372036854775808 ≤ x.kind ∧ x.kind ≤ 9223372036854775807) ∧ (-9223372036854775808 ≤ x.op ∧ x.op ≤ 9223372036854775807) ∧ (-9223372036854775808 ≤ x.node ∧ x.node ≤ 9223372036854775807) ∧ (-9223372036854775808 ≤ x.copy.at_.time ∧ x.copy.at_.time ≤ 9223372036854775807) ∧ (-9223372036854775808 ≤ x.copy.at_.who ∧ x.copy.at_.who ≤ 9223372036854775807) ∧ x.copy.data.size ≤ 9223372036854775807
theorem Msg.flat {w : World} {B : Nat} {cs : List Value} {x : Msg} (h : GoT.rep w B cs x) : cs = [I x.kind, I x.op, I x.node, I x.copy.at_.time, I x.copy.at_.who, .string x.copy.data] ∧ x.ok := by
  simp only [GoT.rep] at h
  obtain ⟨_, _, rfl, ⟨rfl, o0⟩, ⟨_, _, rfl, ⟨rfl, o1⟩, ⟨_, _, rfl, ⟨rfl, o2⟩, ⟨_, _, rfl, ⟨_, _, rfl, ⟨rfl, o3⟩, ⟨rfl, o4⟩⟩, ⟨rfl, o5⟩⟩⟩⟩⟩ := h
  exact ⟨rfl, o0, o1, o2, o3, o4, o5⟩
theorem Msg.rep {w : World} {B : Nat} {x : Msg} (h : x.ok) : GoT.rep w B [I x.kind, I x.op, I x.node, I x.copy.at_.time, I x.copy.at_.who, .string x.copy.data] x := by
  obtain ⟨o0, o1, o2, o3, o4, o5⟩ := h
  exact (⟨_, _, rfl, ⟨rfl, o0⟩, ⟨_, _, rfl, ⟨rfl, o1⟩, ⟨_, _, rfl, ⟨rfl, o2⟩, ⟨_, _, rfl, ⟨_, _, rfl, ⟨rfl, o3⟩, ⟨rfl, o4⟩⟩, ⟨rfl, o5⟩⟩⟩⟩⟩ : GoT.rep w B [I x.kind, I x.op, I x.node, I x.copy.at_.time, I x.copy.at_.who, .string x.copy.data] x)
@[ext] structure Epoch where
  no : Int
  members : U64
instance : GoT Epoch := GoT.via (fun x => (x.no, x.members))
@[go_sem, simp] theorem Epoch.eta (x : Epoch) : (⟨x.no, x.members⟩ : Epoch) = x := rfl
abbrev Epoch.v (x : Epoch) : Value := .agg #[I x.no, .int .u64 (x.members.n : Int)]
theorem Epoch.r1 {x : Epoch} {a0 : Int} {a1 : U64} (h : x = ⟨a0, a1⟩) : Ending.returned (.agg #[I a0, .int .u64 (a1.n : Int)]) = .returned x.v := by subst h; rfl
theorem Epoch.r2 {x : Epoch × Int} {a0 : Int} {a1 : U64} {e : Int} (h : x = (⟨a0, a1⟩, e)) : Ending.returned (.tuple #[.agg #[I a0, .int .u64 (a1.n : Int)], I e]) = .returned (.tuple #[x.1.v, I x.2]) := by subst h; rfl
def Epoch.ok (x : Epoch) : Prop := (-9223372036854775808 ≤ x.no ∧ x.no ≤ 9223372036854775807)
theorem Epoch.flat {w : World} {B : Nat} {cs : List Value} {x : Epoch} (h : GoT.rep w B cs x) : cs = [I x.no, .int .u64 (x.members.n : Int)] ∧ x.ok := by
  simp only [GoT.rep] at h
  obtain ⟨_, _, rfl, ⟨rfl, o0⟩, rfl⟩ := h
  exact ⟨rfl, o0⟩
theorem Epoch.rep {w : World} {B : Nat} {x : Epoch} (h : x.ok) : GoT.rep w B [I x.no, .int .u64 (x.members.n : Int)] x := by
  have o0 := h
  exact (⟨_, _, rfl, ⟨rfl, o0⟩, rfl⟩ : GoT.rep w B [I x.no, .int .u64 (x.members.n : Int)] x)
@[ext] structure Record where
  block : Int
  data : ByteArray
instance : GoT Record := GoT.via (fun x => (x.block, x.data))
@[go_sem, simp] theorem Record.eta (x : Record) : (⟨x.block, x.data⟩ : Record) = x := rfl
abbrev Record.v (x : Record) : Value := .agg #[I x.block, .string x.data]
theorem Record.r1 {x : Record} {a0 : Int} {a1 : ByteArray} (h : x = ⟨a0, a1⟩) : Ending.returned (.agg #[I a0, .string a1]) = .returned x.v := by subst h; rfl
theorem Record.r2 {x : Record × Int} {a0 : Int} {a1 : ByteArray} {e : Int} (h : x = (⟨a0, a1⟩, e)) : Ending.returned (.tuple #[.agg #[I a0, .string a1], I e]) = .returned (.tuple #[x.1.v, I x.2]) := by subst h; rfl
def Record.ok (x : Record) : Prop := (-9223372036854775808 ≤ x.block ∧ x.block ≤ 9223372036854775807) ∧ x.data.size ≤ 9223372036854775807
theorem Record.flat {w : World} {B : Nat} {cs : List Value} {x : Record} (h : GoT.rep w B cs x) : cs = [I x.block, .string x.data] ∧ x.ok := by
  simp only [GoT.rep] at h
  obtain ⟨_, _, rfl, ⟨rfl, o0⟩, ⟨rfl, o1⟩⟩ := h
  exact ⟨rfl, o0, o1⟩
theorem Record.rep {w : World} {B : Nat} {x : Record} (h : x.ok) : GoT.rep w B [I x.block, .string x.data] x := by
  obtain ⟨o0, o1⟩ := h
  exact (⟨_, _, rfl, ⟨rfl, o0⟩, ⟨rfl, o1⟩⟩ : GoT.rep w B [I x.block, .string x.data] x)
@[ext] structure Act where
  kind : Int
  n : Int
  data : ByteArray
instance : GoT Act := GoT.via (fun x => (x.kind, x.n, x.data))
@[go_sem, simp] theorem Act.eta (x : Act) : (⟨x.kind, x.n, x.data⟩ : Act) = x := rfl
abbrev Act.v (x : Act) : Value := .agg #[I x.kind, I x.n, .string x.data]
theorem Act.r1 {x : Act} {a0 : Int} {a1 : Int} {a2 : ByteArray} (h : x = ⟨a0, a1, a2⟩) : Ending.returned (.agg #[I a0, I a1, .string a2]) = .returned x.v := by subst h; rfl
theorem Act.r2 {x : Act × Int} {a0 : Int} {a1 : Int} {a2 : ByteArray} {e : Int} (h : x = (⟨a0, a1, a2⟩, e)) : Ending.returned (.tuple #[.agg #[I a0, I a1, .string a2], I e]) = .returned (.tuple #[x.1.v, I x.2]) := by subst h; rfl
def Act.ok (x : Act) : Prop := (-9223372036854775808 ≤ x.kind ∧ x.kind ≤ 9223372036854775807) ∧ (-9223372036854775808 ≤ x.n ∧ x.n ≤ 9223372036854775807) ∧ x.data.size ≤ 9223372036854775807
theorem Act.flat {w : World} {B : Nat} {cs : List Value} {x : Act} (h : GoT.rep w B cs x) : cs = [I x.kind, I x.n, .string x.data] ∧ x.ok := by
  simp only [GoT.rep] at h
  obtain ⟨_, _, rfl, ⟨rfl, o0⟩, ⟨_, _, rfl, ⟨rfl, o1⟩, ⟨rfl, o2⟩⟩⟩ := h
  exact ⟨rfl, o0, o1, o2⟩
theorem Act.rep {w : World} {B : Nat} {x : Act} (h : x.ok) : GoT.rep w B [I x.kind, I x.n, .string x.data] x := by
  obtain ⟨o0, o1, o2⟩ := h
  exact (⟨_, _, rfl, ⟨rfl, o0⟩, ⟨_, _, rfl, ⟨rfl, o1⟩, ⟨rfl, o2⟩⟩⟩ : GoT.rep w B [I x.kind, I x.n, .string x.data] x)
@[ext] structure Vote where
  kind : Int
  bid : Int
  node : Int
  copy : Copy
instance : GoT Vote := GoT.via (fun x => (x.kind, x.bid, x.node, x.copy))
@[go_sem, simp] theorem Vote.eta (x : Vote) : (⟨x.kind, x.bid, x.node, x.copy⟩ : Vote) = x := rfl
abbrev Vote.v (x : Vote) : Value := .agg #[I x.kind, I x.bid, I x.node, I x.copy.at_.time, I x.copy.at_.who, .string x.copy.data]
theorem Vote.r1 {x : Vote} {a0 : Int} {a1 : Int} {a2 : Int} {a3 : Int} {a4 : Int} {a5 : ByteArray} (h : x = ⟨a0, a1, a2, ⟨⟨a3, a4⟩, a5⟩⟩) : Ending.returned (.agg #[I a0, I a1, I a2, I a3, I a4, .string a5]) = .returned x.v := by subst h; rfl
theorem Vote.r2 {x : Vote × Int} {a0 : Int} {a1 : Int} {a2 : Int} {a3 : Int} {a4 : Int} {a5 : ByteArray} {e : Int} (h : x = (⟨a0, a1, a2, ⟨⟨a3, a4⟩, a5⟩⟩, e)) : Ending.returned (.tuple #[.agg #[I a0, I a1, I a2, I a3, I a4, .string a5], I e]) = .returned (.tuple #[x.1.v, I x.2]) := by subst h; rfl
def Vote.ok (x : Vote) : Prop := (-9223372036854775808 ≤ x.kind ∧ x.kind ≤ 9223372036854775807) ∧ (-9223372036854775808 ≤ x.bid ∧ x.bid ≤ 9223372036854775807) ∧ (-9223372036854775808 ≤ x.node ∧ x.node ≤ 9223372036854775807) ∧ (-9223372036854775808 ≤ x.copy.at_.time ∧ x.copy.at_.time ≤ 9223372036854775807) ∧ (-9223372036854775808 ≤ x.copy.at_.who ∧ x.copy.at_.who ≤ 9223372036854775807) ∧ x.copy.data.size ≤ 9223372036854775807
theorem Vote.flat {w : World} {B : Nat} {cs : List Value} {x : Vote} (h : GoT.rep w B cs x) : cs = [I x.kind, I x.bid, I x.node, I x.copy.at_.time, I x.copy.at_.who, .string x.copy.data] ∧ x.ok := by
  simp only [GoT.rep] at h
  obtain ⟨_, _, rfl, ⟨rfl, o0⟩, ⟨_, _, rfl, ⟨rfl, o1⟩, ⟨_, _, rfl, ⟨rfl, o2⟩, ⟨_, _, rfl, ⟨_, _, rfl, ⟨rfl, o3⟩, ⟨rfl, o4⟩⟩, ⟨rfl, o5⟩⟩⟩⟩⟩ := h
  exact ⟨rfl, o0, o1, o2, o3, o4, o5⟩
theorem Vote.rep {w : World} {B : Nat} {x : Vote} (h : x.ok) : GoT.rep w B [I x.kind, I x.bid, I x.node, I x.copy.at_.time, I x.copy.at_.who, .string x.copy.data] x := by
  obtain ⟨o0, o1, o2, o3, o4, o5⟩ := h
  exact (⟨_, _, rfl, ⟨rfl, o0⟩, ⟨_, _, rfl, ⟨rfl, o1⟩, ⟨_, _, rfl, ⟨rfl, o2⟩, ⟨_, _, rfl, ⟨_, _, rfl, ⟨rfl, o3⟩, ⟨rfl, o4⟩⟩, ⟨rfl, o5⟩⟩⟩⟩⟩ : GoT.rep w B [I x.kind, I x.bid, I x.node, I x.copy.at_.time, I x.copy.at_.who, .string x.copy.data] x)
@[ext] structure Seat where
  promised : Stamp
  kept : Copy
instance : GoT Seat := GoT.via (fun x => (x.promised, x.kept))
@[go_sem, simp] theorem Seat.eta (x : Seat) : (⟨x.promised, x.kept⟩ : Seat) = x := rfl
abbrev Seat.v (x : Seat) : Value := .agg #[I x.promised.time, I x.promised.who, I x.kept.at_.time, I x.kept.at_.who, .string x.kept.data]
theorem Seat.r1 {x : Seat} {a0 : Int} {a1 : Int} {a2 : Int} {a3 : Int} {a4 : ByteArray} (h : x = ⟨⟨a0, a1⟩, ⟨⟨a2, a3⟩, a4⟩⟩) : Ending.returned (.agg #[I a0, I a1, I a2, I a3, .string a4]) = .returned x.v := by subst h; rfl
theorem Seat.r2 {x : Seat × Int} {a0 : Int} {a1 : Int} {a2 : Int} {a3 : Int} {a4 : ByteArray} {e : Int} (h : x = (⟨⟨a0, a1⟩, ⟨⟨a2, a3⟩, a4⟩⟩, e)) : Ending.returned (.tuple #[.agg #[I a0, I a1, I a2, I a3, .string a4], I e]) = .returned (.tuple #[x.1.v, I x.2]) := by subst h; rfl
def Seat.ok (x : Seat) : Prop := (-9223372036854775808 ≤ x.promised.time ∧ x.promised.time ≤ 9223372036854775807) ∧ (-9223372036854775808 ≤ x.promised.who ∧ x.promised.who ≤ 9223372036854775807) ∧ (-9223372036854775808 ≤ x.kept.at_.time ∧ x.kept.at_.time ≤ 9223372036854775807) ∧ (-9223372036854775808 ≤ x.kept.at_.who ∧ x.kept.at_.who ≤ 9223372036854775807) ∧ x.kept.data.size ≤ 9223372036854775807
theorem Seat.flat {w : World} {B : Nat} {cs : List Value} {x : Seat} (h : GoT.rep w B cs x) : cs = [I x.promised.time, I x.promised.who, I x.kept.at_.time, I x.kept.at_.who, .string x.kept.data] ∧ x.ok := by
  simp only [GoT.rep] at h
  obtain ⟨_, _, rfl, ⟨_, _, rfl, ⟨rfl, o0⟩, ⟨rfl, o1⟩⟩, ⟨_, _, rfl, ⟨_, _, rfl, ⟨rfl, o2⟩, ⟨rfl, o3⟩⟩, ⟨rfl, o4⟩⟩⟩ := h
  exact ⟨rfl, o0, o1, o2, o3, o4⟩
theorem Seat.rep {w : World} {B : Nat} {x : Seat} (h : x.ok) : GoT.rep w B [I x.promised.time, I x.promised.who, I x.kept.at_.time, I x.kept.at_.who, .string x.kept.data] x := by
  obtain ⟨o0, o1, o2, o3, o4⟩ := h
  exact (⟨_, _, rfl, ⟨_, _, rfl, ⟨rfl, o0⟩, ⟨rfl, o1⟩⟩, ⟨_, _, rfl, ⟨_, _, rfl, ⟨rfl, o2⟩, ⟨rfl, o3⟩⟩, ⟨rfl, o4⟩⟩⟩ : GoT.rep w B [I x.promised.time, I x.promised.who, I x.kept.at_.time, I x.kept.at_.who, .string x.kept.data] x)
@[ext] structure Bid where
  time : Int
  phase : Int
  own : ByteArray
  value : ByteArray
  best : Copy
  heard : U64
instance : GoT Bid := GoT.via (fun x => (x.time, x.phase, x.own, x.value, x.best, x.heard))
@[go_sem, simp] theorem Bid.eta (x : Bid) : (⟨x.time, x.phase, x.own, x.value, x.best, x.heard⟩ : Bid) = x := rfl
abbrev Bid.v (x : Bid) : Value := .agg #[I x.time, I x.phase, .string x.own, .string x.value, I x.best.at_.time, I x.best.at_.who, .string x.best.data, .int .u64 (x.heard.n : Int)]
theorem Bid.r1 {x : Bid} {a0 : Int} {a1 : Int} {a2 : ByteArray} {a3 : ByteArray} {a4 : Int} {a5 : Int} {a6 : ByteArray} {a7 : U64} (h : x = ⟨a0, a1, a2, a3, ⟨⟨a4, a5⟩, a6⟩, a7⟩) : Ending.returned (.agg #[I a0, I a1, .string a2, .string a3, I a4, I a5, .string a6, .int .u64 (a7.n : Int)]) = .returned x.v := by subst h; rfl
theorem Bid.r2 {x : Bid × Int} {a0 : Int} {a1 : Int} {a2 : ByteArray} {a3 : ByteArray} {a4 : Int} {a5 : Int} {a6 : ByteArray} {a7 : U64} {e : Int} (h : x = (⟨a0, a1, a2, a3, ⟨⟨a4, a5⟩, a6⟩, a7⟩, e)) : Ending.returned (.tuple #[.agg #[I a0, I a1, .string a2, .string a3, I a4, I a5, .string a6, .int .u64 (a7.n : Int)], I e]) = .returned (.tuple #[x.1.v, I x.2]) := by subst h; rfl
def Bid.ok (x : Bid) : Prop := (-9223372036854775808 ≤ x.time ∧ x.time ≤ 9223372036854775807) ∧ (-9223372036854775808 ≤ x.phase ∧ x.phase ≤ 9223372036854775807) ∧ x.own.size ≤ 9223372036854775807 ∧ x.value.size ≤ 9223372036854775807 ∧ (-9223372036854775808 ≤ x.best.at_.time ∧ x.best.at_.time ≤ 9223372036854775807) ∧ (-9223372036854775808 ≤ x.best.at_.who ∧ x.best.at_.who ≤ 9223372036854775807) ∧ x.best.data.size ≤ 9223372036854775807
theorem Bid.flat {w : World} {B : Nat} {cs : List Value} {x : Bid} (h : GoT.rep w B cs x) : cs = [I x.time, I x.phase, .string x.own, .string x.value, I x.best.at_.time, I x.best.at_.who, .string x.best.data, .int .u64 (x.heard.n : Int)] ∧ x.ok := by
  simp only [GoT.rep] at h
  obtain ⟨_, _, rfl, ⟨rfl, o0⟩, ⟨_, _, rfl, ⟨rfl, o1⟩, ⟨_, _, rfl, ⟨rfl, o2⟩, ⟨_, _, rfl, ⟨rfl, o3⟩, ⟨_, _, rfl, ⟨_, _, rfl, ⟨_, _, rfl, ⟨rfl, o4⟩, ⟨rfl, o5⟩⟩, ⟨rfl, o6⟩⟩, rfl⟩⟩⟩⟩⟩ := h
  exact ⟨rfl, o0, o1, o2, o3, o4, o5, o6⟩
theorem Bid.rep {w : World} {B : Nat} {x : Bid} (h : x.ok) : GoT.rep w B [I x.time, I x.phase, .string x.own, .string x.value, I x.best.at_.time, I x.best.at_.who, .string x.best.data, .int .u64 (x.heard.n : Int)] x := by
  obtain ⟨o0, o1, o2, o3, o4, o5, o6⟩ := h
  exact (⟨_, _, rfl, ⟨rfl, o0⟩, ⟨_, _, rfl, ⟨rfl, o1⟩, ⟨_, _, rfl, ⟨rfl, o2⟩, ⟨_, _, rfl, ⟨rfl, o3⟩, ⟨_, _, rfl, ⟨_, _, rfl, ⟨_, _, rfl, ⟨rfl, o4⟩, ⟨rfl, o5⟩⟩, ⟨rfl, o6⟩⟩, rfl⟩⟩⟩⟩⟩ : GoT.rep w B [I x.time, I x.phase, .string x.own, .string x.value, I x.best.at_.time, I x.best.at_.who, .string x.best.data, .int .u64 (x.heard.n : Int)] x)
@[ext] structure Ask where
  op : Int
  kind : Int
  phase : Int
  data : ByteArray
  best : Copy
  heard : U64
instance : GoT Ask := GoT.via (fun x => (x.op, x.kind, x.phase, x.data, x.best, x.heard))
@[go_sem, simp] theorem Ask.eta (x : Ask) : (⟨x.op, x.kind, x.phase, x.data, x.best, x.heard⟩ : Ask) = x := rfl
abbrev Ask.v (x : Ask) : Value := .agg #[I x.op, I x.kind, I x.phase, .string x.data, I x.best.at_.time, I x.best.at_.who, .string x.best.data, .int .u64 (x.heard.n : Int)]
theorem Ask.r1 {x : Ask} {a0 : Int} {a1 : Int} {a2 : Int} {a3 : ByteArray} {a4 : Int} {a5 : Int} {a6 : ByteArray} {a7 : U64} (h : x = ⟨a0, a1, a2, a3, ⟨⟨a4, a5⟩, a6⟩, a7⟩) : Ending.returned (.agg #[I a0, I a1, I a2, .string a3, I a4, I a5, .string a6, .int .u64 (a7.n : Int)]) = .returned x.v := by subst h; rfl
theorem Ask.r2 {x : Ask × Int} {a0 : Int} {a1 : Int} {a2 : Int} {a3 : ByteArray} {a4 : Int} {a5 : Int} {a6 : ByteArray} {a7 : U64} {e : Int} (h : x = (⟨a0, a1, a2, a3, ⟨⟨a4, a5⟩, a6⟩, a7⟩, e)) : Ending.returned (.tuple #[.agg #[I a0, I a1, I a2, .string a3, I a4, I a5, .string a6, .int .u64 (a7.n : Int)], I e]) = .returned (.tuple #[x.1.v, I x.2]) := by subst h; rfl
def Ask.ok (x : Ask) : Prop := (-9223372036854775808 ≤ x.op ∧ x.op ≤ 9223372036854775807) ∧ (-9223372036854775808 ≤ x.kind ∧ x.kind ≤ 9223372036854775807) ∧ (-9223372036854775808 ≤ x.phase ∧ x.phase ≤ 9223372036854775807) ∧ x.data.size ≤ 9223372036854775807 ∧ (-9223372036854775808 ≤ x.best.at_.time ∧ x.best.at_.time ≤ 9223372036854775807) ∧ (-9223372036854775808 ≤ x.best.at_.who ∧ x.best.at_.who ≤ 9223372036854775807) ∧ x.best.data.size ≤ 9223372036854775807
theorem Ask.flat {w : World} {B : Nat} {cs : List Value} {x : Ask} (h : GoT.rep w B cs x) : cs = [I x.op, I x.kind, I x.phase, .string x.data, I x.best.at_.time, I x.best.at_.who, .string x.best.data, .int .u64 (x.heard.n : Int)] ∧ x.ok := by
  simp only [GoT.rep] at h
  obtain ⟨_, _, rfl, ⟨rfl, o0⟩, ⟨_, _, rfl, ⟨rfl, o1⟩, ⟨_, _, rfl, ⟨rfl, o2⟩, ⟨_, _, rfl, ⟨rfl, o3⟩, ⟨_, _, rfl, ⟨_, _, rfl, ⟨_, _, rfl, ⟨rfl, o4⟩, ⟨rfl, o5⟩⟩, ⟨rfl, o6⟩⟩, rfl⟩⟩⟩⟩⟩ := h
  exact ⟨rfl, o0, o1, o2, o3, o4, o5, o6⟩
theorem Ask.rep {w : World} {B : Nat} {x : Ask} (h : x.ok) : GoT.rep w B [I x.op, I x.kind, I x.phase, .string x.data, I x.best.at_.time, I x.best.at_.who, .string x.best.data, .int .u64 (x.heard.n : Int)] x := by
  obtain ⟨o0, o1, o2, o3, o4, o5, o6⟩ := h
  exact (⟨_, _, rfl, ⟨rfl, o0⟩, ⟨_, _, rfl, ⟨rfl, o1⟩, ⟨_, _, rfl, ⟨rfl, o2⟩, ⟨_, _, rfl, ⟨rfl, o3⟩, ⟨_, _, rfl, ⟨_, _, rfl, ⟨_, _, rfl, ⟨rfl, o4⟩, ⟨rfl, o5⟩⟩, ⟨rfl, o6⟩⟩, rfl⟩⟩⟩⟩⟩ : GoT.rep w B [I x.op, I x.kind, I x.phase, .string x.data, I x.best.at_.time, I x.best.at_.who, .string x.best.data, .int .u64 (x.heard.n : Int)] x)
theorem Stamp.get {w : World} {Bd : Nat} {A : Option Addr} {n c : Nat} {xs : List Stamp} (h : GoT.rep w Bd [.slice A n c] xs) (k : Nat) (hk : k < n) :
    ∃ (b off : Nat) (x : Stamp), A = some ⟨b, off, none⟩ ∧ b < Bd ∧ x.ok ∧ x ∈ xs ∧ xs[k]? = some x ∧ xs.drop k = x :: xs.drop (k + 1) ∧ w.cell? ⟨b, off + k * 2, none⟩ = some (I x.time) ∧ w.cell? ⟨b, off + k * 2 + 1, none⟩ = some (I x.who) := by
  obtain ⟨h1, h2, h3, h4, h5⟩ := list_open (fun x : Stamp => [I x.time, I x.who]) _ Stamp.flat h
  have hl : k < xs.length := by omega
  rcases h5 with rfl | ⟨b, off, hA, hb, hs⟩
  · simp at hl
  refine ⟨b, off, xs[k], hA, hb, h4 _ (List.getElem_mem hl), List.getElem_mem hl, List.getElem?_eq_getElem hl, List.drop_eq_getElem_cons hl, ?_, ?_⟩
  · have := hs k hl 0 _ rfl; simpa [GoT.size] using this
  · have := hs k hl 1 _ rfl; simpa [GoT.size] using this
theorem Copy.get {w : World} {Bd : Nat} {A : Option Addr} {n c : Nat} {xs : List Copy} (h : GoT.rep w Bd [.slice A n c] xs) (k : Nat) (hk : k < n) :
    ∃ (b off : Nat) (x : Copy), A = some ⟨b, off, none⟩ ∧ b < Bd ∧ x.ok ∧ x ∈ xs ∧ xs[k]? = some x ∧ xs.drop k = x :: xs.drop (k + 1) ∧ w.cell? ⟨b, off + k * 3, none⟩ = some (I x.at_.time) ∧ w.cell? ⟨b, off + k * 3 + 1, none⟩ = some (I x.at_.who) ∧ w.cell? ⟨b, off + k * 3 + 2, none⟩ = some (.string x.data) := by
  obtain ⟨h1, h2, h3, h4, h5⟩ := list_open (fun x : Copy => [I x.at_.time, I x.at_.who, .string x.data]) _ Copy.flat h
  have hl : k < xs.length := by omega
  rcases h5 with rfl | ⟨b, off, hA, hb, hs⟩
  · simp at hl
  refine ⟨b, off, xs[k], hA, hb, h4 _ (List.getElem_mem hl), List.getElem_mem hl, List.getElem?_eq_getElem hl, List.drop_eq_getElem_cons hl, ?_, ?_, ?_⟩
  · have := hs k hl 0 _ rfl; simpa [GoT.size] using this
  · have := hs k hl 1 _ rfl; simpa [GoT.size] using this
  · have := hs k hl 2 _ rfl; simpa [GoT.size] using this
theorem Bucket.get {w : World} {Bd : Nat} {A : Option Addr} {n c : Nat} {xs : List Bucket} (h : GoT.rep w Bd [.slice A n c] xs) (k : Nat) (hk : k < n) :
    ∃ (b off : Nat) (x : Bucket), A = some ⟨b, off, none⟩ ∧ b < Bd ∧ x.ok ∧ x ∈ xs ∧ xs[k]? = some x ∧ xs.drop k = x :: xs.drop (k + 1) ∧ w.cell? ⟨b, off + k * 4, none⟩ = some (I x.level) ∧ w.cell? ⟨b, off + k * 4 + 1, none⟩ = some (I x.now) ∧ w.cell? ⟨b, off + k * 4 + 2, none⟩ = some (I x.burst) ∧ w.cell? ⟨b, off + k * 4 + 3, none⟩ = some (I x.rate) := by
  obtain ⟨h1, h2, h3, h4, h5⟩ := list_open (fun x : Bucket => [I x.level, I x.now, I x.burst, I x.rate]) _ Bucket.flat h
  have hl : k < xs.length := by omega
  rcases h5 with rfl | ⟨b, off, hA, hb, hs⟩
  · simp at hl
  refine ⟨b, off, xs[k], hA, hb, h4 _ (List.getElem_mem hl), List.getElem_mem hl, List.getElem?_eq_getElem hl, List.drop_eq_getElem_cons hl, ?_, ?_, ?_, ?_⟩
  · have := hs k hl 0 _ rfl; simpa [GoT.size] using this
  · have := hs k hl 1 _ rfl; simpa [GoT.size] using this
  · have := hs k hl 2 _ rfl; simpa [GoT.size] using this
  · have := hs k hl 3 _ rfl; simpa [GoT.size] using this
theorem Term.get {w : World} {Bd : Nat} {A : Option Addr} {n c : Nat} {xs : List Term} (h : GoT.rep w Bd [.slice A n c] xs) (k : Nat) (hk : k < n) :
    ∃ (b off : Nat) (x : Term), A = some ⟨b, off, none⟩ ∧ b < Bd ∧ x.ok ∧ x ∈ xs ∧ xs[k]? = some x ∧ xs.drop k = x :: xs.drop (k + 1) ∧ w.cell? ⟨b, off + k * 2, none⟩ = some (I x.begin) ∧ w.cell? ⟨b, off + k * 2 + 1, none⟩ = some (I x.end_) := by
  obtain ⟨h1, h2, h3, h4, h5⟩ := list_open (fun x : Term => [I x.begin, I x.end_]) _ Term.flat h
  have hl : k < xs.length := by omega
  rcases h5 with rfl | ⟨b, off, hA, hb, hs⟩
  · simp at hl
  refine ⟨b, off, xs[k], hA, hb, h4 _ (List.getElem_mem hl), List.getElem_mem hl, List.getElem?_eq_getElem hl, List.drop_eq_getElem_cons hl, ?_, ?_⟩
  · have := hs k hl 0 _ rfl; simpa [GoT.size] using this
  · have := hs k hl 1 _ rfl; simpa [GoT.size] using this
theorem Msg.get {w : World} {Bd : Nat} {A : Option Addr} {n c : Nat} {xs : List Msg} (h : GoT.rep w Bd [.slice A n c] xs) (k : Nat) (hk : k < n) :
    ∃ (b off : Nat) (x : Msg), A = some ⟨b, off, none⟩ ∧ b < Bd ∧ x.ok ∧ x ∈ xs ∧ xs[k]? = some x ∧ xs.drop k = x :: xs.drop (k + 1) ∧ w.cell? ⟨b, off + k * 6, none⟩ = some (I x.kind) ∧ w.cell? ⟨b, off + k * 6 + 1, none⟩ = some (I x.op) ∧ w.cell? ⟨b, off + k * 6 + 2, none⟩ = some (I x.node) ∧ w.cell? ⟨b, off + k * 6 + 3, none⟩ = some (I x.copy.at_.time) ∧ w.cell? ⟨b, off + k * 6 + 4, none⟩ = some (I x.copy.at_.who) ∧ w.cell? ⟨b, off + k * 6 + 5, none⟩ = some (.string x.copy.data) := by
  obtain ⟨h1, h2, h3, h4, h5⟩ := list_open (fun x : Msg => [I x.kind, I x.op, I x.node, I x.copy.at_.time, I x.copy.at_.who, .string x.copy.data]) _ Msg.flat h
  have hl : k < xs.length := by omega
  rcases h5 with rfl | ⟨b, off, hA, hb, hs⟩
  · simp at hl
  refine ⟨b, off, xs[k], hA, hb, h4 _ (List.getElem_mem hl), List.getElem_mem hl, List.getElem?_eq_getElem hl, List.drop_eq_getElem_cons hl, ?_, ?_, ?_, ?_, ?_, ?_⟩
  · have := hs k hl 0 _ rfl; simpa [GoT.size] using this
  · have := hs k hl 1 _ rfl; simpa [GoT.size] using this
  · have := hs k hl 2 _ rfl; simpa [GoT.size] using this
  · have := hs k hl 3 _ rfl; simpa [GoT.size] using this
  · have := hs k hl 4 _ rfl; simpa [GoT.size] using this
  · have := hs k hl 5 _ rfl; simpa [GoT.size] using this
theorem Epoch.get {w : World} {Bd : Nat} {A : Option Addr} {n c : Nat} {xs : List Epoch} (h : GoT.rep w Bd [.slice A n c] xs) (k : Nat) (hk : k < n) :
    ∃ (b off : Nat) (x : Epoch), A = some ⟨b, off, none⟩ ∧ b < Bd ∧ x.ok ∧ x ∈ xs ∧ xs[k]? = some x ∧ xs.drop k = x :: xs.drop (k + 1) ∧ w.cell? ⟨b, off + k * 2, none⟩ = some (I x.no) ∧ w.cell? ⟨b, off + k * 2 + 1, none⟩ = some (.int .u64 (x.members.n : Int)) := by
  obtain ⟨h1, h2, h3, h4, h5⟩ := list_open (fun x : Epoch => [I x.no, .int .u64 (x.members.n : Int)]) _ Epoch.flat h
  have hl : k < xs.length := by omega
  rcases h5 with rfl | ⟨b, off, hA, hb, hs⟩
  · simp at hl
  refine ⟨b, off, xs[k], hA, hb, h4 _ (List.getElem_mem hl), List.getElem_mem hl, List.getElem?_eq_getElem hl, List.drop_eq_getElem_cons hl, ?_, ?_⟩
  · have := hs k hl 0 _ rfl; simpa [GoT.size] using this
  · have := hs k hl 1 _ rfl; simpa [GoT.size] using this
end Go.Proofs.YtgepadjkegfokaaDoor
