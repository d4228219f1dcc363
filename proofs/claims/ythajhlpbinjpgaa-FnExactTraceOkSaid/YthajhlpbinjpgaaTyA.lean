/- The types of the program as structures, their trees; what a row hands in reads as one. -/
import Derived.Test.YthajhlpbinjpgaaTw38
set_option linter.unusedSimpArgs false
set_option linter.unusedVariables false
namespace Go.Tw

@[ext] structure GMsg where
  kind : Int
  page : Int
  own : Bool
  list : List Int
  deriving DecidableEq

@[ext] structure GSender where
  base : Int
  queue : List GMsg
  deriving DecidableEq

@[ext] structure GReceiver where
  got : Int
  deriving DecidableEq

@[ext] structure GPacket where
  from_ : Int
  to : Int
  ack : Bool
  n : Int
  msg : GMsg
  deriving DecidableEq

@[ext] structure GFrame where
  state : Int
  list : List Int
  asked : Bool
  deriving DecidableEq

@[ext] structure GWait where
  who : Int
  own : Bool
  deriving DecidableEq

@[ext] structure GHome where
  list : List Int
  owner : Int
  readers : List Bool
  busy : Bool
  now : GWait
  acks : Int
  queue : List GWait
  deriving DecidableEq

@[ext] structure GTold where
  to : Int
  msg : GMsg
  deriving DecidableEq

@[ext] structure GNode where
  id : Int
  frames : List GFrame
  homes : List GHome
  out : List GSender
  in_ : List GReceiver
  deriving DecidableEq

@[ext] structure GWorld where
  size : Int
  nodes : List GNode
  net : List GPacket
  deriving DecidableEq

@[ext] structure GDeed where
  kind : Int
  a : Int
  b : Int
  c : Int
  deriving DecidableEq

@[ext] structure GIns where
  op : Int
  r : Int
  a : Int
  b : Int
  n : Int
  deriving DecidableEq

@[ext] structure GHart where
  regs : List Int
  pc : Int
  state : Int
  deriving DecidableEq

@[ext] structure GBlock where
  start : Int
  list : List GIns
  deriving DecidableEq

@[ext] structure GCore where
  hart : GHart
  cache : List GBlock
  deriving DecidableEq

@[ext] structure GFlock where
  world : GWorld
  cores : List GCore
  deriving DecidableEq

@[ext] structure GEvent where
  who : Int
  pc : Int
  at_ : Int
  got : Int
  put : Int
  deriving DecidableEq

@[ext] structure GRace where
  i : Int
  k : Int
  deriving DecidableEq

def eB (x : Bool) : List T := [.bool x]
theorem eB_def (x : Bool) : eB x = [.bool x] := rfl
theorem getD_eB (o : Option Bool) : (Option.map eB o).getD [.bool false] = eB (o.getD false) := by cases o <;> rfl
theorem rep_eB (n : Nat) : List.replicate n [.bool false] = enc eB (List.replicate n false) := enc_rep eB n false
theorem set_eB (xs : List Bool) (i : Nat) (x : Bool) : (enc eB xs).set i [.bool x] = enc eB (xs.set i x) := enc_set eB xs i x
theorem snoc_eB (xs : List Bool) (x : Bool) : enc eB xs ++ [[.bool x]] = enc eB (xs ++ [x]) := enc_snoc eB xs x
theorem one_eB (x : Bool) : [[.bool x]] = enc eB [x] := rfl

def eStr (x : ByteArray) : List T := [.str x]
theorem eStr_def (x : ByteArray) : eStr x = [.str x] := rfl
theorem getD_eStr (o : Option ByteArray) : (Option.map eStr o).getD [.str ByteArray.empty] = eStr (o.getD ByteArray.empty) := by cases o <;> rfl
theorem rep_eStr (n : Nat) : List.replicate n [.str ByteArray.empty] = enc eStr (List.replicate n ByteArray.empty) := enc_rep eStr n ByteArray.empty
theorem set_eStr (xs : List ByteArray) (i : Nat) (x : ByteArray) : (enc eStr xs).set i [.str x] = enc eStr (xs.set i x) := enc_set eStr xs i x
theorem snoc_eStr (xs : List ByteArray) (x : ByteArray) : enc eStr xs ++ [[.str x]] = enc eStr (xs ++ [x]) := enc_snoc eStr xs x
theorem one_eStr (x : ByteArray) : [[.str x]] = enc eStr [x] := rfl

def eU (x : Int) : List T := [.int .u8 x]
theorem eU_def (x : Int) : eU x = [.int .u8 x] := rfl
theorem getD_eU (o : Option Int) : (Option.map eU o).getD [.int .u8 0] = eU (o.getD 0) := by cases o <;> rfl
theorem rep_eU (n : Nat) : List.replicate n [.int .u8 0] = enc eU (List.replicate n 0) := enc_rep eU n 0
theorem set_eU (xs : List Int) (i : Nat) (x : Int) : (enc eU xs).set i [.int .u8 x] = enc eU (xs.set i x) := enc_set eU xs i x
theorem snoc_eU (xs : List Int) (x : Int) : enc eU xs ++ [[.int .u8 x]] = enc eU (xs ++ [x]) := enc_snoc eU xs x
theorem one_eU (x : Int) : [[.int .u8 x]] = enc eU [x] := rfl

def eIS (x : List Int) : List T := [.sl 1 (enc eI x)]
theorem eIS_def (x : List Int) : eIS x = [.sl 1 (enc eI x)] := rfl
theorem getD_eIS (o : Option (List Int)) : (Option.map eIS o).getD [.sl 1 []] = eIS (o.getD []) := by cases o <;> rfl
theorem rep_eIS (n : Nat) : List.replicate n [.sl 1 []] = enc eIS (List.replicate n []) := enc_rep eIS n []
theorem set_eIS (xs : List (List Int)) (i : Nat) (x : List Int) : (enc eIS xs).set i [.sl 1 (enc eI x)] = enc eIS (xs.set i x) := enc_set eIS xs i x
theorem snoc_eIS (xs : List (List Int)) (x : List Int) : enc eIS xs ++ [[.sl 1 (enc eI x)]] = enc eIS (xs ++ [x]) := enc_snoc eIS xs x
theorem one_eIS (x : List Int) : [[.sl 1 (enc eI x)]] = enc eIS [x] := rfl

theorem one_eI (x : Int) : [[T.int .i64 x]] = enc eI [x] := rfl
theorem fits_B {ts : List T} (h : FitsL [.bool] ts) : ∃ n, ts = eB n ∧ True := by
  obtain ⟨t, ts', rfl, h1, h2⟩ := fits_cons h
  obtain rfl := fits_nil h2
  obtain ⟨n, rfl⟩ := fits_bool h1
  exact ⟨n, rfl, trivial⟩
theorem fits_S {ts : List T} (h : FitsL [.str] ts) : ∃ s, ts = eStr s ∧ s.size ≤ 9223372036854775807 := by
  obtain ⟨t, ts', rfl, h1, h2⟩ := fits_cons h
  obtain rfl := fits_nil h2
  obtain ⟨n, rfl, h3⟩ := fits_str h1
  exact ⟨n, rfl, h3⟩
theorem fits_U {ts : List T} (h : FitsL [.int .u8] ts) : ∃ n, ts = eU n ∧ 0 ≤ n ∧ n ≤ 255 := by
  obtain ⟨t, ts', rfl, h1, h2⟩ := fits_cons h
  obtain rfl := fits_nil h2
  obtain ⟨n, rfl, h3, h4⟩ := fits_int h1
  exact ⟨n, rfl, h3, h4⟩
theorem fits_IS {ts : List T} (h : FitsL [.sl 1 [.int .i64]] ts) : ∃ xs : List Int, ts = [.sl 1 (enc eI xs)] ∧ xs.length ≤ 9223372036854775807 ∧ ∀ a ∈ xs, -9223372036854775808 ≤ a ∧ a ≤ 9223372036854775807 := by
  obtain ⟨t, ts', rfl, h1, h2⟩ := fits_cons h
  obtain rfl := fits_nil h2
  obtain ⟨xs, rfl, h3, h4⟩ := fits_sl (e := eI) (Q := fun a : Int => -9223372036854775808 ≤ a ∧ a ≤ 9223372036854775807) h1 fun ts h => fits_I h
  exact ⟨xs, rfl, h3, h4⟩

def eMsg (x : GMsg) : List T := [.int .i64 x.kind, .int .i64 x.page, .bool x.own, .sl 1 (enc eI x.list)]
theorem eMsg_def (x : GMsg) : eMsg x = [.int .i64 x.kind, .int .i64 x.page, .bool x.own, .sl 1 (enc eI x.list)] := rfl
theorem getD_eMsg (o : Option GMsg) : (Option.map eMsg o).getD [.int .i64 0, .int .i64 0, .bool false, .sl 1 []] = eMsg (o.getD ⟨0, 0, false, []⟩) := by cases o <;> rfl
theorem rep_eMsg (n : Nat) : List.replicate n [.int .i64 0, .int .i64 0, .bool false, .sl 1 []] = enc eMsg (List.replicate n ⟨0, 0, false, []⟩) := enc_rep eMsg n ⟨0, 0, false, []⟩
theorem set_eMsg (xs : List GMsg) (i : Nat) (kind0 : Int) (page0 : Int) (own0 : Bool) (list0 : List Int) : (enc eMsg xs).set i [.int .i64 kind0, .int .i64 page0, .bool own0, .sl 1 (enc eI list0)] = enc eMsg (xs.set i (⟨kind0, page0, own0, list0⟩ : GMsg)) := enc_set eMsg xs i (⟨kind0, page0, own0, list0⟩ : GMsg)
theorem snoc_eMsg (xs : List GMsg) (kind0 : Int) (page0 : Int) (own0 : Bool) (list0 : List Int) : enc eMsg xs ++ [[.int .i64 kind0, .int .i64 page0, .bool own0, .sl 1 (enc eI list0)]] = enc eMsg (xs ++ [(⟨kind0, page0, own0, list0⟩ : GMsg)]) := enc_snoc eMsg xs (⟨kind0, page0, own0, list0⟩ : GMsg)
theorem one_eMsg (kind0 : Int) (page0 : Int) (own0 : Bool) (list0 : List Int) : [[.int .i64 kind0, .int .i64 page0, .bool own0, .sl 1 (enc eI list0)]] = enc eMsg [(⟨kind0, page0, own0, list0⟩ : GMsg)] := rfl
theorem eta_Msg (x : GMsg) : (⟨x.kind, x.page, x.own, x.list⟩ : GMsg) = x := rfl
def GMsg.ok (x : GMsg) : Prop := (-9223372036854775808 ≤ x.kind ∧ x.kind ≤ 9223372036854775807) ∧ (-9223372036854775808 ≤ x.page ∧ x.page ≤ 9223372036854775807) ∧ (True) ∧ (x.list.length ≤ 9223372036854775807 ∧ ∀ a ∈ x.list, -9223372036854775808 ≤ a ∧ a ≤ 9223372036854775807)
theorem fits_Msg {ts : List T} (h : FitsL [.int .i64, .int .i64, .bool, .sl 1 [.int .i64]] ts) : ∃ x : GMsg, ts = eMsg x ∧ x.ok := by
  obtain ⟨t_kind, h_kind, rfl, q_kind, w0⟩ := fits_cons h
  obtain ⟨kind0, rfl, b_kind, c_kind⟩ := fits_int q_kind
  obtain ⟨t_page, h_page, rfl, q_page, w1⟩ := fits_cons w0
  obtain ⟨page0, rfl, b_page, c_page⟩ := fits_int q_page
  obtain ⟨t_own, h_own, rfl, q_own, w2⟩ := fits_cons w1
  obtain ⟨own0, rfl⟩ := fits_bool q_own
  obtain ⟨t_list, h_list, rfl, q_list, w3⟩ := fits_cons w2
  obtain ⟨list0, rfl, b_list, c_list⟩ := fits_sl (e := eI) (Q := fun a : Int => -9223372036854775808 ≤ a ∧ a ≤ 9223372036854775807) q_list fun ts h => fits_I h
  obtain rfl := fits_nil w3
  exact ⟨⟨kind0, page0, own0, list0⟩, rfl, ⟨b_kind, c_kind⟩, ⟨b_page, c_page⟩, trivial, ⟨b_list, c_list⟩⟩

theorem fits_MsgS {ts : List T} (h : FitsL [.sl 4 [.int .i64, .int .i64, .bool, .sl 1 [.int .i64]]] ts) : ∃ xs : List GMsg, ts = [.sl 4 (enc eMsg xs)] ∧ xs.length ≤ 9223372036854775807 ∧ ∀ a ∈ xs, a.ok := by
  obtain ⟨t, ts', rfl, h1, h2⟩ := fits_cons h
  obtain rfl := fits_nil h2
  obtain ⟨xs, rfl, h3, h4⟩ := fits_sl (e := eMsg) (Q := fun a : GMsg => a.ok) h1 fun ts h => fits_Msg h
  exact ⟨xs, rfl, h3, h4⟩

def eSender (x : GSender) : List T := [.int .i64 x.base, .sl 4 (enc eMsg x.queue)]
theorem eSender_def (x : GSender) : eSender x = [.int .i64 x.base, .sl 4 (enc eMsg x.queue)] := rfl
theorem getD_eSender (o : Option GSender) : (Option.map eSender o).getD [.int .i64 0, .sl 4 []] = eSender (o.getD ⟨0, []⟩) := by cases o <;> rfl
theorem rep_eSender (n : Nat) : List.replicate n [.int .i64 0, .sl 4 []] = enc eSender (List.replicate n ⟨0, []⟩) := enc_rep eSender n ⟨0, []⟩
theorem set_eSender (xs : List GSender) (i : Nat) (base0 : Int) (queue0 : List GMsg) : (enc eSender xs).set i [.int .i64 base0, .sl 4 (enc eMsg queue0)] = enc eSender (xs.set i (⟨base0, queue0⟩ : GSender)) := enc_set eSender xs i (⟨base0, queue0⟩ : GSender)
theorem snoc_eSender (xs : List GSender) (base0 : Int) (queue0 : List GMsg) : enc eSender xs ++ [[.int .i64 base0, .sl 4 (enc eMsg queue0)]] = enc eSender (xs ++ [(⟨base0, queue0⟩ : GSender)]) := enc_snoc eSender xs (⟨base0, queue0⟩ : GSender)
theorem one_eSender (base0 : Int) (queue0 : List GMsg) : [[.int .i64 base0, .sl 4 (enc eMsg queue0)]] = enc eSender [(⟨base0, queue0⟩ : GSender)] := rfl
theorem eta_Sender (x : GSender) : (⟨x.base, x.queue⟩ : GSender) = x := rfl
def GSender.ok (x : GSender) : Prop := (-9223372036854775808 ≤ x.base ∧ x.base ≤ 9223372036854775807) ∧ (x.queue.length ≤ 9223372036854775807 ∧ ∀ a ∈ x.queue, a.ok)
theorem fits_Sender {ts : List T} (h : FitsL [.int .i64, .sl 4 [.int .i64, .int .i64, .bool, .sl 1 [.int .i64]]] ts) : ∃ x : GSender, ts = eSender x ∧ x.ok := by
  obtain ⟨t_base, h_base, rfl, q_base, w0⟩ := fits_cons h
  obtain ⟨base0, rfl, b_base, c_base⟩ := fits_int q_base
  obtain ⟨t_queue, h_queue, rfl, q_queue, w1⟩ := fits_cons w0
  obtain ⟨queue0, rfl, b_queue, c_queue⟩ := fits_sl (e := eMsg) (Q := fun a : GMsg => a.ok) q_queue fun ts h => fits_Msg h
  obtain rfl := fits_nil w1
  exact ⟨⟨base0, queue0⟩, rfl, ⟨b_base, c_base⟩, ⟨b_queue, c_queue⟩⟩


def eReceiver (x : GReceiver) : List T := [.int .i64 x.got]
theorem eReceiver_def (x : GReceiver) : eReceiver x = [.int .i64 x.got] := rfl
theorem getD_eReceiver (o : Option GReceiver) : (Option.map eReceiver o).getD [.int .i64 0] = eReceiver (o.getD ⟨0⟩) := by cases o <;> rfl
theorem rep_eReceiver (n : Nat) : List.replicate n [.int .i64 0] = enc eReceiver (List.replicate n ⟨0⟩) := enc_rep eReceiver n ⟨0⟩
theorem set_eReceiver (xs : List GReceiver) (i : Nat) (got0 : Int) : (enc eReceiver xs).set i [.int .i64 got0] = enc eReceiver (xs.set i (⟨got0⟩ : GReceiver)) := enc_set eReceiver xs i (⟨got0⟩ : GReceiver)
theorem snoc_eReceiver (xs : List GReceiver) (got0 : Int) : enc eReceiver xs ++ [[.int .i64 got0]] = enc eReceiver (xs ++ [(⟨got0⟩ : GReceiver)]) := enc_snoc eReceiver xs (⟨got0⟩ : GReceiver)
theorem one_eReceiver (got0 : Int) : [[.int .i64 got0]] = enc eReceiver [(⟨got0⟩ : GReceiver)] := rfl
theorem eta_Receiver (x : GReceiver) : (⟨x.got⟩ : GReceiver) = x := rfl
def GReceiver.ok (x : GReceiver) : Prop := (-9223372036854775808 ≤ x.got ∧ x.got ≤ 9223372036854775807)
theorem fits_Receiver {ts : List T} (h : FitsL [.int .i64] ts) : ∃ x : GReceiver, ts = eReceiver x ∧ x.ok := by
  obtain ⟨t_got, h_got, rfl, q_got, w0⟩ := fits_cons h
  obtain ⟨got0, rfl, b_got, c_got⟩ := fits_int q_got
  obtain rfl := fits_nil w0
  exact ⟨⟨got0⟩, rfl, ⟨b_got, c_got⟩⟩


def ePacket (x : GPacket) : List T := [.int .i64 x.from_, .int .i64 x.to, .bool x.ack, .int .i64 x.n, .int .i64 x.msg.kind, .int .i64 x.msg.page, .bool x.msg.own, .sl 1 (enc eI x.msg.list)]
theorem ePacket_def (x : GPacket) : ePacket x = [.int .i64 x.from_, .int .i64 x.to, .bool x.ack, .int .i64 x.n, .int .i64 x.msg.kind, .int .i64 x.msg.page, .bool x.msg.own, .sl 1 (enc eI x.msg.list)] := rfl
theorem getD_ePacket (o : Option GPacket) : (Option.map ePacket o).getD [.int .i64 0, .int .i64 0, .bool false, .int .i64 0, .int .i64 0, .int .i64 0, .bool false, .sl 1 []] = ePacket (o.getD ⟨0, 0, false, 0, ⟨0, 0, false, []⟩⟩) := by cases o <;> rfl
theorem rep_ePacket (n : Nat) : List.replicate n [.int .i64 0, .int .i64 0, .bool false, .int .i64 0, .int .i64 0, .int .i64 0, .bool false, .sl 1 []] = enc ePacket (List.replicate n ⟨0, 0, false, 0, ⟨0, 0, false, []⟩⟩) := enc_rep ePacket n ⟨0, 0, false, 0, ⟨0, 0, false, []⟩⟩
theorem set_ePacket (xs : List GPacket) (i : Nat) (from_0 : Int) (to0 : Int) (ack0 : Bool) (n0 : Int) (msg_kind0 : Int) (msg_page0 : Int) (msg_own0 : Bool) (msg_list0 : List Int) : (enc ePacket xs).set i [.int .i64 from_0, .int .i64 to0, .bool ack0, .int .i64 n0, .int .i64 msg_kind0, .int .i64 msg_page0, .bool msg_own0, .sl 1 (enc eI msg_list0)] = enc ePacket (xs.set i (⟨from_0, to0, ack0, n0, ⟨msg_kind0, msg_page0, msg_own0, msg_list0⟩⟩ : GPacket)) := enc_set ePacket xs i (⟨from_0, to0, ack0, n0, ⟨msg_kind0, msg_page0, msg_own0, msg_list0⟩⟩ : GPacket)
theorem snoc_ePacket (xs : List GPacket) (from_0 : Int) (to0 : Int) (ack0 : Bool) (n0 : Int) (msg_kind0 : Int) (msg_page0 : Int) (msg_own0 : Bool) (msg_list0 : List Int) : enc ePacket xs ++ [[.int .i64 from_0, .int .i64 to0, .bool ack0, .int .i64 n0, .int .i64 msg_kind0, .int .i64 msg_page0, .bool msg_own0, .sl 1 (enc eI msg_list0)]] = enc ePacket (xs ++ [(⟨from_0, to0, ack0, n0, ⟨msg_kind0, msg_page0, msg_own0, msg_list0⟩⟩ : GPacket)]) := enc_snoc ePacket xs (⟨from_0, to0, ack0, n0, ⟨msg_kind0, msg_page0, msg_own0, msg_list0⟩⟩ : GPacket)
theorem one_ePacket (from_0 : Int) (to0 : Int) (ack0 : Bool) (n0 : Int) (msg_kind0 : Int) (msg_page0 : Int) (msg_own0 : Bool) (msg_list0 : List Int) : [[.int .i64 from_0, .int .i64 to0, .bool ack0, .int .i64 n0, .int .i64 msg_kind0, .int .i64 msg_page0, .bool msg_own0, .sl 1 (enc eI msg_list0)]] = enc ePacket [(⟨from_0, to0, ack0, n0, ⟨msg_kind0, msg_page0, msg_own0, msg_list0⟩⟩ : GPacket)] := rfl
theorem eta_Packet (x : GPacket) : (⟨x.from_, x.to, x.ack, x.n, ⟨x.msg.kind, x.msg.page, x.msg.own, x.msg.list⟩⟩ : GPacket) = x := rfl
def GPacket.ok (x : GPacket) : Prop := (-9223372036854775808 ≤ x.from_ ∧ x.from_ ≤ 9223372036854775807) ∧ (-9223372036854775808 ≤ x.to ∧ x.to ≤ 9223372036854775807) ∧ (True) ∧ (-9223372036854775808 ≤ x.n ∧ x.n ≤ 9223372036854775807) ∧ (x.msg.ok)
theorem fits_Packet {ts : List T} (h : FitsL [.int .i64, .int .i64, .bool, .int .i64, .int .i64, .int .i64, .bool, .sl 1 [.int .i64]] ts) : ∃ x : GPacket, ts = ePacket x ∧ x.ok := by
  obtain ⟨t_from_, h_from_, rfl, q_from_, w0⟩ := fits_cons h
  obtain ⟨from_0, rfl, b_from_, c_from_⟩ := fits_int q_from_
  obtain ⟨t_to, h_to, rfl, q_to, w1⟩ := fits_cons w0
  obtain ⟨to0, rfl, b_to, c_to⟩ := fits_int q_to
  obtain ⟨t_ack, h_ack, rfl, q_ack, w2⟩ := fits_cons w1
  obtain ⟨ack0, rfl⟩ := fits_bool q_ack
  obtain ⟨t_n, h_n, rfl, q_n, w3⟩ := fits_cons w2
  obtain ⟨n0, rfl, b_n, c_n⟩ := fits_int q_n
  obtain ⟨t_msg_kind, h_msg_kind, rfl, q_msg_kind, w4⟩ := fits_cons w3
  obtain ⟨msg_kind0, rfl, b_msg_kind, c_msg_kind⟩ := fits_int q_msg_kind
  obtain ⟨t_msg_page, h_msg_page, rfl, q_msg_page, w5⟩ := fits_cons w4
  obtain ⟨msg_page0, rfl, b_msg_page, c_msg_page⟩ := fits_int q_msg_page
  obtain ⟨t_msg_own, h_msg_own, rfl, q_msg_own, w6⟩ := fits_cons w5
  obtain ⟨msg_own0, rfl⟩ := fits_bool q_msg_own
  obtain ⟨t_msg_list, h_msg_list, rfl, q_msg_list, w7⟩ := fits_cons w6
  obtain ⟨msg_list0, rfl, b_msg_list, c_msg_list⟩ := fits_sl (e := eI) (Q := fun a : Int => -9223372036854775808 ≤ a ∧ a ≤ 9223372036854775807) q_msg_list fun ts h => fits_I h
  obtain rfl := fits_nil w7
  exact ⟨⟨from_0, to0, ack0, n0, ⟨msg_kind0, msg_page0, msg_own0, msg_list0⟩⟩, rfl, ⟨b_from_, c_from_⟩, ⟨b_to, c_to⟩, trivial, ⟨b_n, c_n⟩, ⟨⟨b_msg_kind, c_msg_kind⟩, ⟨b_msg_page, c_msg_page⟩, trivial, ⟨b_msg_list, c_msg_list⟩⟩⟩


def eFrame (x : GFrame) : List T := [.int .i64 x.state, .sl 1 (enc eI x.list), .bool x.asked]
theorem eFrame_def (x : GFrame) : eFrame x = [.int .i64 x.state, .sl 1 (enc eI x.list), .bool x.asked] := rfl
theorem getD_eFrame (o : Option GFrame) : (Option.map eFrame o).getD [.int .i64 0, .sl 1 [], .bool false] = eFrame (o.getD ⟨0, [], false⟩) := by cases o <;> rfl
theorem rep_eFrame (n : Nat) : List.replicate n [.int .i64 0, .sl 1 [], .bool false] = enc eFrame (List.replicate n ⟨0, [], false⟩) := enc_rep eFrame n ⟨0, [], false⟩
theorem set_eFrame (xs : List GFrame) (i : Nat) (state0 : Int) (list0 : List Int) (asked0 : Bool) : (enc eFrame xs).set i [.int .i64 state0, .sl 1 (enc eI list0), .bool asked0] = enc eFrame (xs.set i (⟨state0, list0, asked0⟩ : GFrame)) := enc_set eFrame xs i (⟨state0, list0, asked0⟩ : GFrame)
theorem snoc_eFrame (xs : List GFrame) (state0 : Int) (list0 : List Int) (asked0 : Bool) : enc eFrame xs ++ [[.int .i64 state0, .sl 1 (enc eI list0), .bool asked0]] = enc eFrame (xs ++ [(⟨state0, list0, asked0⟩ : GFrame)]) := enc_snoc eFrame xs (⟨state0, list0, asked0⟩ : GFrame)
theorem one_eFrame (state0 : Int) (list0 : List Int) (asked0 : Bool) : [[.int .i64 state0, .sl 1 (enc eI list0), .bool asked0]] = enc eFrame [(⟨state0, list0, asked0⟩ : GFrame)] := rfl
theorem eta_Frame (x : GFrame) : (⟨x.state, x.list, x.asked⟩ : GFrame) = x := rfl
def GFrame.ok (x : GFrame) : Prop := (-9223372036854775808 ≤ x.state ∧ x.state ≤ 9223372036854775807) ∧ (x.list.length ≤ 9223372036854775807 ∧ ∀ a ∈ x.list, -9223372036854775808 ≤ a ∧ a ≤ 9223372036854775807) ∧ (True)
theorem fits_Frame {ts : List T} (h : FitsL [.int .i64, .sl 1 [.int .i64], .bool] ts) : ∃ x : GFrame, ts = eFrame x ∧ x.ok := by
  obtain ⟨t_state, h_state, rfl, q_state, w0⟩ := fits_cons h
  obtain ⟨state0, rfl, b_state, c_state⟩ := fits_int q_state
  obtain ⟨t_list, h_list, rfl, q_list, w1⟩ := fits_cons w0
  obtain ⟨list0, rfl, b_list, c_list⟩ := fits_sl (e := eI) (Q := fun a : Int => -9223372036854775808 ≤ a ∧ a ≤ 9223372036854775807) q_list fun ts h => fits_I h
  obtain ⟨t_asked, h_asked, rfl, q_asked, w2⟩ := fits_cons w1
  obtain ⟨asked0, rfl⟩ := fits_bool q_asked
  obtain rfl := fits_nil w2
  exact ⟨⟨state0, list0, asked0⟩, rfl, ⟨b_state, c_state⟩, ⟨b_list, c_list⟩, trivial⟩


def eWait (x : GWait) : List T := [.int .i64 x.who, .bool x.own]
theorem eWait_def (x : GWait) : eWait x = [.int .i64 x.who, .bool x.own] := rfl
theorem getD_eWait (o : Option GWait) : (Option.map eWait o).getD [.int .i64 0, .bool false] = eWait (o.getD ⟨0, false⟩) := by cases o <;> rfl
theorem rep_eWait (n : Nat) : List.replicate n [.int .i64 0, .bool false] = enc eWait (List.replicate n ⟨0, false⟩) := enc_rep eWait n ⟨0, false⟩
theorem set_eWait (xs : List GWait) (i : Nat) (who0 : Int) (own0 : Bool) : (enc eWait xs).set i [.int .i64 who0, .bool own0] = enc eWait (xs.set i (⟨who0, own0⟩ : GWait)) := enc_set eWait xs i (⟨who0, own0⟩ : GWait)
theorem snoc_eWait (xs : List GWait) (who0 : Int) (own0 : Bool) : enc eWait xs ++ [[.int .i64 who0, .bool own0]] = enc eWait (xs ++ [(⟨who0, own0⟩ : GWait)]) := enc_snoc eWait xs (⟨who0, own0⟩ : GWait)
theorem one_eWait (who0 : Int) (own0 : Bool) : [[.int .i64 who0, .bool own0]] = enc eWait [(⟨who0, own0⟩ : GWait)] := rfl
theorem eta_Wait (x : GWait) : (⟨x.who, x.own⟩ : GWait) = x := rfl
def GWait.ok (x : GWait) : Prop := (-9223372036854775808 ≤ x.who ∧ x.who ≤ 9223372036854775807) ∧ (True)
theorem fits_Wait {ts : List T} (h : FitsL [.int .i64, .bool] ts) : ∃ x : GWait, ts = eWait x ∧ x.ok := by
  obtain ⟨t_who, h_who, rfl, q_who, w0⟩ := fits_cons h
  obtain ⟨who0, rfl, b_who, c_who⟩ := fits_int q_who
  obtain ⟨t_own, h_own, rfl, q_own, w1⟩ := fits_cons w0
  obtain ⟨own0, rfl⟩ := fits_bool q_own
  obtain rfl := fits_nil w1
  exact ⟨⟨who0, own0⟩, rfl, ⟨b_who, c_who⟩, trivial⟩

theorem fits_BoolS {ts : List T} (h : FitsL [.sl 1 [.bool]] ts) : ∃ xs : List Bool, ts = [.sl 1 (enc eB xs)] ∧ xs.length ≤ 9223372036854775807 ∧ ∀ a ∈ xs, True := by
  obtain ⟨t, ts', rfl, h1, h2⟩ := fits_cons h
  obtain rfl := fits_nil h2
  obtain ⟨xs, rfl, h3, h4⟩ := fits_sl (e := eB) (Q := fun a : Bool => True) h1 fun ts h => fits_B h
  exact ⟨xs, rfl, h3, h4⟩
theorem fits_WaitS {ts : List T} (h : FitsL [.sl 2 [.int .i64, .bool]] ts) : ∃ xs : List GWait, ts = [.sl 2 (enc eWait xs)] ∧ xs.length ≤ 9223372036854775807 ∧ ∀ a ∈ xs, a.ok := by
  obtain ⟨t, ts', rfl, h1, h2⟩ := fits_cons h
  obtain rfl := fits_nil h2
  obtain ⟨xs, rfl, h3, h4⟩ := fits_sl (e := eWait) (Q := fun a : GWait => a.ok) h1 fun ts h => fits_Wait h
  exact ⟨xs, rfl, h3, h4⟩

def eHome (x : GHome) : List T := [.sl 1 (enc eI x.list), .int .i64 x.owner, .sl 1 (enc eB x.readers), .bool x.busy, .int .i64 x.now.who, .bool x.now.own, .int .i64 x.acks, .sl 2 (enc eWait x.queue)]
theorem eHome_def (x : GHome) : eHome x = [.sl 1 (enc eI x.list), .int .i64 x.owner, .sl 1 (enc eB x.readers), .bool x.busy, .int .i64 x.now.who, .bool x.now.own, .int .i64 x.acks, .sl 2 (enc eWait x.queue)] := rfl
theorem getD_eHome (o : Option GHome) : (Option.map eHome o).getD [.sl 1 [], .int .i64 0, .sl 1 [], .bool false, .int .i64 0, .bool false, .int .i64 0, .sl 2 []] = eHome (o.getD ⟨[], 0, [], false, ⟨0, false⟩, 0, []⟩) := by cases o <;> rfl
theorem rep_eHome (n : Nat) : List.replicate n [.sl 1 [], .int .i64 0, .sl 1 [], .bool false, .int .i64 0, .bool false, .int .i64 0, .sl 2 []] = enc eHome (List.replicate n ⟨[], 0, [], false, ⟨0, false⟩, 0, []⟩) := enc_rep eHome n ⟨[], 0, [], false, ⟨0, false⟩, 0, []⟩
theorem set_eHome (xs : List GHome) (i : Nat) (list0 : List Int) (owner0 : Int) (readers0 : List Bool) (busy0 : Bool) (now_who0 : Int) (now_own0 : Bool) (acks0 : Int) (queue0 : List GWait) : (enc eHome xs).set i [.sl 1 (enc eI list0), .int .i64 owner0, .sl 1 (enc eB readers0), .bool busy0, .int .i64 now_who0, .bool now_own0, .int .i64 acks0, .sl 2 (enc eWait queue0)] = enc eHome (xs.set i (⟨list0, owner0, readers0, busy0, ⟨now_who0, now_own0⟩, acks0, queue0⟩ : GHome)) := enc_set eHome xs i (⟨list0, owner0, readers0, busy0, ⟨now_who0, now_own0⟩, acks0, queue0⟩ : GHome)
theorem snoc_eHome (xs : List GHome) (list0 : List Int) (owner0 : Int) (readers0 : List Bool) (busy0 : Bool) (now_who0 : Int) (now_own0 : Bool) (acks0 : Int) (queue0 : List GWait) : enc eHome xs ++ [[.sl 1 (enc eI list0), .int .i64 owner0, .sl 1 (enc eB readers0), .bool busy0, .int .i64 now_who0, .bool now_own0, .int .i64 acks0, .sl 2 (enc eWait queue0)]] = enc eHome (xs ++ [(⟨list0, owner0, readers0, busy0, ⟨now_who0, now_own0⟩, acks0, queue0⟩ : GHome)]) := enc_snoc eHome xs (⟨list0, owner0, readers0, busy0, ⟨now_who0, now_own0⟩, acks0, queue0⟩ : GHome)
theorem one_eHome (list0 : List Int) (owner0 : Int) (readers0 : List Bool) (busy0 : Bool) (now_who0 : Int) (now_own0 : Bool) (acks0 : Int) (queue0 : List GWait) : [[.sl 1 (enc eI list0), .int .i64 owner0, .sl 1 (enc eB readers0), .bool busy0, .int .i64 now_who0, .bool now_own0, .int .i64 acks0, .sl 2 (enc eWait queue0)]] = enc eHome [(⟨list0, owner0, readers0, busy0, ⟨now_who0, now_own0⟩, acks0, queue0⟩ : GHome)] := rfl
theorem eta_Home (x : GHome) : (⟨x.list, x.owner, x.readers, x.busy, ⟨x.now.who, x.now.own⟩, x.acks, x.queue⟩ : GHome) = x := rfl
def GHome.ok (x : GHome) : Prop := (x.list.length ≤ 9223372036854775807 ∧ ∀ a ∈ x.list, -9223372036854775808 ≤ a ∧ a ≤ 9223372036854775807) ∧ (-9223372036854775808 ≤ x.owner ∧ x.owner ≤ 9223372036854775807) ∧ (x.readers.length ≤ 9223372036854775807 ∧ ∀ a ∈ x.readers, True) ∧ (True) ∧ (x.now.ok) ∧ (-9223372036854775808 ≤ x.acks ∧ x.acks ≤ 9223372036854775807) ∧ (x.queue.length ≤ 9223372036854775807 ∧ ∀ a ∈ x.queue, a.ok)
theorem fits_Home {ts : List T} (h : FitsL [.sl 1 [.int .i64], .int .i64, .sl 1 [.bool], .bool, .int .i64, .bool, .int .i64, .sl 2 [.int .i64, .bool]] ts) : ∃ x : GHome, ts = eHome x ∧ x.ok := by
  obtain ⟨t_list, h_list, rfl, q_list, w0⟩ := fits_cons h
  obtain ⟨list0, rfl, b_list, c_list⟩ := fits_sl (e := eI) (Q := fun a : Int => -9223372036854775808 ≤ a ∧ a ≤ 9223372036854775807) q_list fun ts h => fits_I h
  obtain ⟨t_owner, h_owner, rfl, q_owner, w1⟩ := fits_cons w0
  obtain ⟨owner0, rfl, b_owner, c_owner⟩ := fits_int q_owner
  obtain ⟨t_readers, h_readers, rfl, q_readers, w2⟩ := fits_cons w1
  obtain ⟨readers0, rfl, b_readers, c_readers⟩ := fits_sl (e := eB) (Q := fun a : Bool => True) q_readers fun ts h => fits_B h
  obtain ⟨t_busy, h_busy, rfl, q_busy, w3⟩ := fits_cons w2
  obtain ⟨busy0, rfl⟩ := fits_bool q_busy
  obtain ⟨t_now_who, h_now_who, rfl, q_now_who, w4⟩ := fits_cons w3
  obtain ⟨now_who0, rfl, b_now_who, c_now_who⟩ := fits_int q_now_who
  obtain ⟨t_now_own, h_now_own, rfl, q_now_own, w5⟩ := fits_cons w4
  obtain ⟨now_own0, rfl⟩ := fits_bool q_now_own
  obtain ⟨t_acks, h_acks, rfl, q_acks, w6⟩ := fits_cons w5
  obtain ⟨acks0, rfl, b_acks, c_acks⟩ := fits_int q_acks
  obtain ⟨t_queue, h_queue, rfl, q_queue, w7⟩ := fits_cons w6
  obtain ⟨queue0, rfl, b_queue, c_queue⟩ := fits_sl (e := eWait) (Q := fun a : GWait => a.ok) q_queue fun ts h => fits_Wait h
  obtain rfl := fits_nil w7
  exact ⟨⟨list0, owner0, readers0, busy0, ⟨now_who0, now_own0⟩, acks0, queue0⟩, rfl, ⟨b_list, c_list⟩, ⟨b_owner, c_owner⟩, ⟨b_readers, c_readers⟩, trivial, ⟨⟨b_now_who, c_now_who⟩, trivial⟩, ⟨b_acks, c_acks⟩, ⟨b_queue, c_queue⟩⟩


def eTold (x : GTold) : List T := [.int .i64 x.to, .int .i64 x.msg.kind, .int .i64 x.msg.page, .bool x.msg.own, .sl 1 (enc eI x.msg.list)]
theorem eTold_def (x : GTold) : eTold x = [.int .i64 x.to, .int .i64 x.msg.kind, .int .i64 x.msg.page, .bool x.msg.own, .sl 1 (enc eI x.msg.list)] := rfl
theorem getD_eTold (o : Option GTold) : (Option.map eTold o).getD [.int .i64 0, .int .i64 0, .int .i64 0, .bool false, .sl 1 []] = eTold (o.getD ⟨0, ⟨0, 0, false, []⟩⟩) := by cases o <;> rfl
theorem rep_eTold (n : Nat) : List.replicate n [.int .i64 0, .int .i64 0, .int .i64 0, .bool false, .sl 1 []] = enc eTold (List.replicate n ⟨0, ⟨0, 0, false, []⟩⟩) := enc_rep eTold n ⟨0, ⟨0, 0, false, []⟩⟩
theorem set_eTold (xs : List GTold) (i : Nat) (to0 : Int) (msg_kind0 : Int) (msg_page0 : Int) (msg_own0 : Bool) (msg_list0 : List Int) : (enc eTold xs).set i [.int .i64 to0, .int .i64 msg_kind0, .int .i64 msg_page0, .bool msg_own0, .sl 1 (enc eI msg_list0)] = enc eTold (xs.set i (⟨to0, ⟨msg_kind0, msg_page0, msg_own0, msg_list0⟩⟩ : GTold)) := enc_set eTold xs i (⟨to0, ⟨msg_kind0, msg_page0, msg_own0, msg_list0⟩⟩ : GTold)
theorem snoc_eTold (xs : List GTold) (to0 : Int) (msg_kind0 : Int) (msg_page0 : Int) (msg_own0 : Bool) (msg_list0 : List Int) : enc eTold xs ++ [[.int .i64 to0, .int .i64 msg_kind0, .int .i64 msg_page0, .bool msg_own0, .sl 1 (enc eI msg_list0)]] = enc eTold (xs ++ [(⟨to0, ⟨msg_kind0, msg_page0, msg_own0, msg_list0⟩⟩ : GTold)]) := enc_snoc eTold xs (⟨to0, ⟨msg_kind0, msg_page0, msg_own0, msg_list0⟩⟩ : GTold)
theorem one_eTold (to0 : Int) (msg_kind0 : Int) (msg_page0 : Int) (msg_own0 : Bool) (msg_list0 : List Int) : [[.int .i64 to0, .int .i64 msg_kind0, .int .i64 msg_page0, .bool msg_own0, .sl 1 (enc eI msg_list0)]] = enc eTold [(⟨to0, ⟨msg_kind0, msg_page0, msg_own0, msg_list0⟩⟩ : GTold)] := rfl
theorem eta_Told (x : GTold) : (⟨x.to, ⟨x.msg.kind, x.msg.page, x.msg.own, x.msg.list⟩⟩ : GTold) = x := rfl
def GTold.ok (x : GTold) : Prop := (-9223372036854775808 ≤ x.to ∧ x.to ≤ 9223372036854775807) ∧ (x.msg.ok)
theorem fits_Told {ts : List T} (h : FitsL [.int .i64, .int .i64, .int .i64, .bool, .sl 1 [.int .i64]] ts) : ∃ x : GTold, ts = eTold x ∧ x.ok := by
  obtain ⟨t_to, h_to, rfl, q_to, w0⟩ := fits_cons h
  obtain ⟨to0, rfl, b_to, c_to⟩ := fits_int q_to
  obtain ⟨t_msg_kind, h_msg_kind, rfl, q_msg_kind, w1⟩ := fits_cons w0
  obtain ⟨msg_kind0, rfl, b_msg_kind, c_msg_kind⟩ := fits_int q_msg_kind
  obtain ⟨t_msg_page, h_msg_page, rfl, q_msg_page, w2⟩ := fits_cons w1
  obtain ⟨msg_page0, rfl, b_msg_page, c_msg_page⟩ := fits_int q_msg_page
  obtain ⟨t_msg_own, h_msg_own, rfl, q_msg_own, w3⟩ := fits_cons w2
  obtain ⟨msg_own0, rfl⟩ := fits_bool q_msg_own
  obtain ⟨t_msg_list, h_msg_list, rfl, q_msg_list, w4⟩ := fits_cons w3
  obtain ⟨msg_list0, rfl, b_msg_list, c_msg_list⟩ := fits_sl (e := eI) (Q := fun a : Int => -9223372036854775808 ≤ a ∧ a ≤ 9223372036854775807) q_msg_list fun ts h => fits_I h
  obtain rfl := fits_nil w4
  exact ⟨⟨to0, ⟨msg_kind0, msg_page0, msg_own0, msg_list0⟩⟩, rfl, ⟨b_to, c_to⟩, ⟨⟨b_msg_kind, c_msg_kind⟩, ⟨b_msg_page, c_msg_page⟩, trivial, ⟨b_msg_list, c_msg_list⟩⟩⟩

theorem fits_FrameS {ts : List T} (h : FitsL [.sl 3 [.int .i64, .sl 1 [.int .i64], .bool]] ts) : ∃ xs : List GFrame, ts = [.sl 3 (enc eFrame xs)] ∧ xs.length ≤ 9223372036854775807 ∧ ∀ a ∈ xs, a.ok := by
  obtain ⟨t, ts', rfl, h1, h2⟩ := fits_cons h
  obtain rfl := fits_nil h2
  obtain ⟨xs, rfl, h3, h4⟩ := fits_sl (e := eFrame) (Q := fun a : GFrame => a.ok) h1 fun ts h => fits_Frame h
  exact ⟨xs, rfl, h3, h4⟩
theorem fits_HomeS {ts : List T} (h : FitsL [.sl 8 [.sl 1 [.int .i64], .int .i64, .sl 1 [.bool], .bool, .int .i64, .bool, .int .i64, .sl 2 [.int .i64, .bool]]] ts) : ∃ xs : List GHome, ts = [.sl 8 (enc eHome xs)] ∧ xs.length ≤ 9223372036854775807 ∧ ∀ a ∈ xs, a.ok := by
  obtain ⟨t, ts', rfl, h1, h2⟩ := fits_cons h
  obtain rfl := fits_nil h2
  obtain ⟨xs, rfl, h3, h4⟩ := fits_sl (e := eHome) (Q := fun a : GHome => a.ok) h1 fun ts h => fits_Home h
  exact ⟨xs, rfl, h3, h4⟩
theorem fits_SenderS {ts : List T} (h : FitsL [.sl 2 [.int .i64, .sl 4 [.int .i64, .int .i64, .bool, .sl 1 [.int .i64]]]] ts) : ∃ xs : List GSender, ts = [.sl 2 (enc eSender xs)] ∧ xs.length ≤ 9223372036854775807 ∧ ∀ a ∈ xs, a.ok := by
  obtain ⟨t, ts', rfl, h1, h2⟩ := fits_cons h
  obtain rfl := fits_nil h2
  obtain ⟨xs, rfl, h3, h4⟩ := fits_sl (e := eSender) (Q := fun a : GSender => a.ok) h1 fun ts h => fits_Sender h
  exact ⟨xs, rfl, h3, h4⟩
theorem fits_ReceiverS {ts : List T} (h : FitsL [.sl 1 [.int .i64]] ts) : ∃ xs : List GReceiver, ts = [.sl 1 (enc eReceiver xs)] ∧ xs.length ≤ 9223372036854775807 ∧ ∀ a ∈ xs, a.ok := by
  obtain ⟨t, ts', rfl, h1, h2⟩ := fits_cons h
  obtain rfl := fits_nil h2
  obtain ⟨xs, rfl, h3, h4⟩ := fits_sl (e := eReceiver) (Q := fun a : GReceiver => a.ok) h1 fun ts h => fits_Receiver h
  exact ⟨xs, rfl, h3, h4⟩

def eNode (x : GNode) : List T := [.int .i64 x.id, .sl 3 (enc eFrame x.frames), .sl 8 (enc eHome x.homes), .sl 2 (enc eSender x.out), .sl 1 (enc eReceiver x.in_)]
theorem eNode_def (x : GNode) : eNode x = [.int .i64 x.id, .sl 3 (enc eFrame x.frames), .sl 8 (enc eHome x.homes), .sl 2 (enc eSender x.out), .sl 1 (enc eReceiver x.in_)] := rfl
theorem getD_eNode (o : Option GNode) : (Option.map eNode o).getD [.int .i64 0, .sl 3 [], .sl 8 [], .sl 2 [], .sl 1 []] = eNode (o.getD ⟨0, [], [], [], []⟩) := by cases o <;> rfl
theorem rep_eNode (n : Nat) : List.replicate n [.int .i64 0, .sl 3 [], .sl 8 [], .sl 2 [], .sl 1 []] = enc eNode (List.replicate n ⟨0, [], [], [], []⟩) := enc_rep eNode n ⟨0, [], [], [], []⟩
theorem set_eNode (xs : List GNode) (i : Nat) (id0 : Int) (frames0 : List GFrame) (homes0 : List GHome) (out0 : List GSender) (in_0 : List GReceiver) : (enc eNode xs).set i [.int .i64 id0, .sl 3 (enc eFrame frames0), .sl 8 (enc eHome homes0), .sl 2 (enc eSender out0), .sl 1 (enc eReceiver in_0)] = enc eNode (xs.set i (⟨id0, frames0, homes0, out0, in_0⟩ : GNode)) := enc_set eNode xs i (⟨id0, frames0, homes0, out0, in_0⟩ : GNode)
theorem snoc_eNode (xs : List GNode) (id0 : Int) (frames0 : List GFrame) (homes0 : List GHome) (out0 : List GSender) (in_0 : List GReceiver) : enc eNode xs ++ [[.int .i64 id0, .sl 3 (enc eFrame frames0), .sl 8 (enc eHome homes0), .sl 2 (enc eSender out0), .sl 1 (enc eReceiver in_0)]] = enc eNode (xs ++ [(⟨id0, frames0, homes0, out0, in_0⟩ : GNode)]) := enc_snoc eNode xs (⟨id0, frames0, homes0, out0, in_0⟩ : GNode)
theorem one_eNode (id0 : Int) (frames0 : List GFrame) (homes0 : List GHome) (out0 : List GSender) (in_0 : List GReceiver) : [[.int .i64 id0, .sl 3 (enc eFrame frames0), .sl 8 (enc eHome homes0), .sl 2 (enc eSender out0), .sl 1 (enc eReceiver in_0)]] = enc eNode [(⟨id0, frames0, homes0, out0, in_0⟩ : GNode)] := rfl
theorem eta_Node (x : GNode) : (⟨x.id, x.frames, x.homes, x.out, x.in_⟩ : GNode) = x := rfl
def GNode.ok (x : GNode) : Prop := (-9223372036854775808 ≤ x.id ∧ x.id ≤ 9223372036854775807) ∧ (x.frames.length ≤ 9223372036854775807 ∧ ∀ a ∈ x.frames, a.ok) ∧ (x.homes.length ≤ 9223372036854775807 ∧ ∀ a ∈ x.homes, a.ok) ∧ (x.out.length ≤ 9223372036854775807 ∧ ∀ a ∈ x.out, a.ok) ∧ (x.in_.length ≤ 9223372036854775807 ∧ ∀ a ∈ x.in_, a.ok)
theorem fits_Node {ts : List T} (h : FitsL [.int .i64, .sl 3 [.int .i64, .sl 1 [.int .i64], .bool], .sl 8 [.sl 1 [.int .i64], .int .i64, .sl 1 [.bool], .bool, .int .i64, .bool, .int .i64, .sl 2 [.int .i64, .bool]], .sl 2 [.int .i64, .sl 4 [.int .i64, .int .i64, .bool, .sl 1 [.int .i64]]], .sl 1 [.int .i64]] ts) : ∃ x : GNode, ts = eNode x ∧ x.ok := by
  obtain ⟨t_id, h_id, rfl, q_id, w0⟩ := fits_cons h
  obtain ⟨id0, rfl, b_id, c_id⟩ := fits_int q_id
  obtain ⟨t_frames, h_frames, rfl, q_frames, w1⟩ := fits_cons w0
  obtain ⟨frames0, rfl, b_frames, c_frames⟩ := fits_sl (e := eFrame) (Q := fun a : GFrame => a.ok) q_frames fun ts h => fits_Frame h
  obtain ⟨t_homes, h_homes, rfl, q_homes, w2⟩ := fits_cons w1
  obtain ⟨homes0, rfl, b_homes, c_homes⟩ := fits_sl (e := eHome) (Q := fun a : GHome => a.ok) q_homes fun ts h => fits_Home h
  obtain ⟨t_out, h_out, rfl, q_out, w3⟩ := fits_cons w2
  obtain ⟨out0, rfl, b_out, c_out⟩ := fits_sl (e := eSender) (Q := fun a : GSender => a.ok) q_out fun ts h => fits_Sender h
  obtain ⟨t_in_, h_in_, rfl, q_in_, w4⟩ := fits_cons w3
  obtain ⟨in_0, rfl, b_in_, c_in_⟩ := fits_sl (e := eReceiver) (Q := fun a : GReceiver => a.ok) q_in_ fun ts h => fits_Receiver h
  obtain rfl := fits_nil w4
  exact ⟨⟨id0, frames0, homes0, out0, in_0⟩, rfl, ⟨b_id, c_id⟩, ⟨b_frames, c_frames⟩, ⟨b_homes, c_homes⟩, ⟨b_out, c_out⟩, ⟨b_in_, c_in_⟩⟩

theorem fits_NodeS {ts : List T} (h : FitsL [.sl 5 [.int .i64, .sl 3 [.int .i64, .sl 1 [.int .i64], .bool], .sl 8 [.sl 1 [.int .i64], .int .i64, .sl 1 [.bool], .bool, .int .i64, .bool, .int .i64, .sl 2 [.int .i64, .bool]], .sl 2 [.int .i64, .sl 4 [.int .i64, .int .i64, .bool, .sl 1 [.int .i64]]], .sl 1 [.int .i64]]] ts) : ∃ xs : List GNode, ts = [.sl 5 (enc eNode xs)] ∧ xs.length ≤ 9223372036854775807 ∧ ∀ a ∈ xs, a.ok := by
  obtain ⟨t, ts', rfl, h1, h2⟩ := fits_cons h
  obtain rfl := fits_nil h2
  obtain ⟨xs, rfl, h3, h4⟩ := fits_sl (e := eNode) (Q := fun a : GNode => a.ok) h1 fun ts h => fits_Node h
  exact ⟨xs, rfl, h3, h4⟩
theorem fits_PacketS {ts : List T} (h : FitsL [.sl 8 [.int .i64, .int .i64, .bool, .int .i64, .int .i64, .int .i64, .bool, .sl 1 [.int .i64]]] ts) : ∃ xs : List GPacket, ts = [.sl 8 (enc ePacket xs)] ∧ xs.length ≤ 9223372036854775807 ∧ ∀ a ∈ xs, a.ok := by
  obtain ⟨t, ts', rfl, h1, h2⟩ := fits_cons h
  obtain rfl := fits_nil h2
  obtain ⟨xs, rfl, h3, h4⟩ := fits_sl (e := ePacket) (Q := fun a : GPacket => a.ok) h1 fun ts h => fits_Packet h
  exact ⟨xs, rfl, h3, h4⟩

def eWorld (x : GWorld) : List T := [.int .i64 x.size, .sl 5 (enc eNode x.nodes), .sl 8 (enc ePacket x.net)]
theorem eWorld_def (x : GWorld) : eWorld x = [.int .i64 x.size, .sl 5 (enc eNode x.nodes), .sl 8 (enc ePacket x.net)] := rfl
theorem getD_eWorld (o : Option GWorld) : (Option.map eWorld o).getD [.int .i64 0, .sl 5 [], .sl 8 []] = eWorld (o.getD ⟨0, [], []⟩) := by cases o <;> rfl
theorem rep_eWorld (n : Nat) : List.replicate n [.int .i64 0, .sl 5 [], .sl 8 []] = enc eWorld (List.replicate n ⟨0, [], []⟩) := enc_rep eWorld n ⟨0, [], []⟩
theorem set_eWorld (xs : List GWorld) (i : Nat) (size0 : Int) (nodes0 : List GNode) (net0 : List GPacket) : (enc eWorld xs).set i [.int .i64 size0, .sl 5 (enc eNode nodes0), .sl 8 (enc ePacket net0)] = enc eWorld (xs.set i (⟨size0, nodes0, net0⟩ : GWorld)) := enc_set eWorld xs i (⟨size0, nodes0, net0⟩ : GWorld)
theorem snoc_eWorld (xs : List GWorld) (size0 : Int) (nodes0 : List GNode) (net0 : List GPacket) : enc eWorld xs ++ [[.int .i64 size0, .sl 5 (enc eNode nodes0), .sl 8 (enc ePacket net0)]] = enc eWorld (xs ++ [(⟨size0, nodes0, net0⟩ : GWorld)]) := enc_snoc eWorld xs (⟨size0, nodes0, net0⟩ : GWorld)
theorem one_eWorld (size0 : Int) (nodes0 : List GNode) (net0 : List GPacket) : [[.int .i64 size0, .sl 5 (enc eNode nodes0), .sl 8 (enc ePacket net0)]] = enc eWorld [(⟨size0, nodes0, net0⟩ : GWorld)] := rfl
theorem eta_World (x : GWorld) : (⟨x.size, x.nodes, x.net⟩ : GWorld) = x := rfl
def GWorld.ok (x : GWorld) : Prop := (-9223372036854775808 ≤ x.size ∧ x.size ≤ 9223372036854775807) ∧ (x.nodes.length ≤ 9223372036854775807 ∧ ∀ a ∈ x.nodes, a.ok) ∧ (x.net.length ≤ 9223372036854775807 ∧ ∀ a ∈ x.net, a.ok)
theorem fits_World {ts : List T} (h : FitsL [.int .i64, .sl 5 [.int .i64, .sl 3 [.int .i64, .sl 1 [.int .i64], .bool], .sl 8 [.sl 1 [.int .i64], .int .i64, .sl 1 [.bool], .bool, .int .i64, .bool, .int .i64, .sl 2 [.int .i64, .bool]], .sl 2 [.int .i64, .sl 4 [.int .i64, .int .i64, .bool, .sl 1 [.int .i64]]], .sl 1 [.int .i64]], .sl 8 [.int .i64, .int .i64, .bool, .int .i64, .int .i64, .int .i64, .bool, .sl 1 [.int .i64]]] ts) : ∃ x : GWorld, ts = eWorld x ∧ x.ok := by
  obtain ⟨t_size, h_size, rfl, q_size, w0⟩ := fits_cons h
  obtain ⟨size0, rfl, b_size, c_size⟩ := fits_int q_size
  obtain ⟨t_nodes, h_nodes, rfl, q_nodes, w1⟩ := fits_cons w0
  obtain ⟨nodes0, rfl, b_nodes, c_nodes⟩ := fits_sl (e := eNode) (Q := fun a : GNode => a.ok) q_nodes fun ts h => fits_Node h
  obtain ⟨t_net, h_net, rfl, q_net, w2⟩ := fits_cons w1
  obtain ⟨net0, rfl, b_net, c_net⟩ := fits_sl (e := ePacket) (Q := fun a : GPacket => a.ok) q_net fun ts h => fits_Packet h
  obtain rfl := fits_nil w2
  exact ⟨⟨size0, nodes0, net0⟩, rfl, ⟨b_size, c_size⟩, ⟨b_nodes, c_nodes⟩, ⟨b_net, c_net⟩⟩


def eDeed (x : GDeed) : List T := [.int .i64 x.kind, .int .i64 x.a, .int .i64 x.b, .int .i64 x.c]
theorem eDeed_def (x : GDeed) : eDeed x = [.int .i64 x.kind, .int .i64 x.a, .int .i64 x.b, .int .i64 x.c] := rfl
theorem getD_eDeed (o : Option GDeed) : (Option.map eDeed o).getD [.int .i64 0, .int .i64 0, .int .i64 0, .int .i64 0] = eDeed (o.getD ⟨0, 0, 0, 0⟩) := by cases o <;> rfl
theorem rep_eDeed (n : Nat) : List.replicate n [.int .i64 0, .int .i64 0, .int .i64 0, .int .i64 0] = enc eDeed (List.replicate n ⟨0, 0, 0, 0⟩) := enc_rep eDeed n ⟨0, 0, 0, 0⟩
theorem set_eDeed (xs : List GDeed) (i : Nat) (kind0 : Int) (a0 : Int) (b0 : Int) (c0 : Int) : (enc eDeed xs).set i [.int .i64 kind0, .int .i64 a0, .int .i64 b0, .int .i64 c0] = enc eDeed (xs.set i (⟨kind0, a0, b0, c0⟩ : GDeed)) := enc_set eDeed xs i (⟨kind0, a0, b0, c0⟩ : GDeed)
theorem snoc_eDeed (xs : List GDeed) (kind0 : Int) (a0 : Int) (b0 : Int) (c0 : Int) : enc eDeed xs ++ [[.int .i64 kind0, .int .i64 a0, .int .i64 b0, .int .i64 c0]] = enc eDeed (xs ++ [(⟨kind0, a0, b0, c0⟩ : GDeed)]) := enc_snoc eDeed xs (⟨kind0, a0, b0, c0⟩ : GDeed)
theorem one_eDeed (kind0 : Int) (a0 : Int) (b0 : Int) (c0 : Int) : [[.int .i64 kind0, .int .i64 a0, .int .i64 b0, .int .i64 c0]] = enc eDeed [(⟨kind0, a0, b0, c0⟩ : GDeed)] := rfl
theorem eta_Deed (x : GDeed) : (⟨x.kind, x.a, x.b, x.c⟩ : GDeed) = x := rfl
def GDeed.ok (x : GDeed) : Prop := (-9223372036854775808 ≤ x.kind ∧ x.kind ≤ 9223372036854775807) ∧ (-9223372036854775808 ≤ x.a ∧ x.a ≤ 9223372036854775807) ∧ (-9223372036854775808 ≤ x.b ∧ x.b ≤ 9223372036854775807) ∧ (-9223372036854775808 ≤ x.c ∧ x.c ≤ 9223372036854775807)
theorem fits_Deed {ts : List T} (h : FitsL [.int .i64, .int .i64, .int .i64, .int .i64] ts) : ∃ x : GDeed, ts = eDeed x ∧ x.ok := by
  obtain ⟨t_kind, h_kind, rfl, q_kind, w0⟩ := fits_cons h
  obtain ⟨kind0, rfl, b_kind, c_kind⟩ := fits_int q_kind
  obtain ⟨t_a, h_a, rfl, q_a, w1⟩ := fits_cons w0
  obtain ⟨a0, rfl, b_a, c_a⟩ := fits_int q_a
  obtain ⟨t_b, h_b, rfl, q_b, w2⟩ := fits_cons w1
  obtain ⟨b0, rfl, b_b, c_b⟩ := fits_int q_b
  obtain ⟨t_c, h_c, rfl, q_c, w3⟩ := fits_cons w2
  obtain ⟨c0, rfl, b_c, c_c⟩ := fits_int q_c
  obtain rfl := fits_nil w3
  exact ⟨⟨kind0, a0, b0, c0⟩, rfl, ⟨b_kind, c_kind⟩, ⟨b_a, c_a⟩, ⟨b_b, c_b⟩, ⟨b_c, c_c⟩⟩


def eIns (x : GIns) : List T := [.int .i64 x.op, .int .i64 x.r, .int .i64 x.a, .int .i64 x.b, .int .i64 x.n]
theorem eIns_def (x : GIns) : eIns x = [.int .i64 x.op, .int .i64 x.r, .int .i64 x.a, .int .i64 x.b, .int .i64 x.n] := rfl
theorem getD_eIns (o : Option GIns) : (Option.map eIns o).getD [.int .i64 0, .int .i64 0, .int .i64 0, .int .i64 0, .int .i64 0] = eIns (o.getD ⟨0, 0, 0, 0, 0⟩) := by cases o <;> rfl
theorem rep_eIns (n : Nat) : List.replicate n [.int .i64 0, .int .i64 0, .int .i64 0, .int .i64 0, .int .i64 0] = enc eIns (List.replicate n ⟨0, 0, 0, 0, 0⟩) := enc_rep eIns n ⟨0, 0, 0, 0, 0⟩
theorem set_eIns (xs : List GIns) (i : Nat) (op0 : Int) (r0 : Int) (a0 : Int) (b0 : Int) (n0 : Int) : (enc eIns xs).set i [.int .i64 op0, .int .i64 r0, .int .i64 a0, .int .i64 b0, .int .i64 n0] = enc eIns (xs.set i (⟨op0, r0, a0, b0, n0⟩ : GIns)) := enc_set eIns xs i (⟨op0, r0, a0, b0, n0⟩ : GIns)
theorem snoc_eIns (xs : List GIns) (op0 : Int) (r0 : Int) (a0 : Int) (b0 : Int) (n0 : Int) : enc eIns xs ++ [[.int .i64 op0, .int .i64 r0, .int .i64 a0, .int .i64 b0, .int .i64 n0]] = enc eIns (xs ++ [(⟨op0, r0, a0, b0, n0⟩ : GIns)]) := enc_snoc eIns xs (⟨op0, r0, a0, b0, n0⟩ : GIns)
theorem one_eIns (op0 : Int) (r0 : Int) (a0 : Int) (b0 : Int) (n0 : Int) : [[.int .i64 op0, .int .i64 r0, .int .i64 a0, .int .i64 b0, .int .i64 n0]] = enc eIns [(⟨op0, r0, a0, b0, n0⟩ : GIns)] := rfl
theorem eta_Ins (x : GIns) : (⟨x.op, x.r, x.a, x.b, x.n⟩ : GIns) = x := rfl
def GIns.ok (x : GIns) : Prop := (-9223372036854775808 ≤ x.op ∧ x.op ≤ 9223372036854775807) ∧ (-9223372036854775808 ≤ x.r ∧ x.r ≤ 9223372036854775807) ∧ (-9223372036854775808 ≤ x.a ∧ x.a ≤ 9223372036854775807) ∧ (-9223372036854775808 ≤ x.b ∧ x.b ≤ 9223372036854775807) ∧ (-9223372036854775808 ≤ x.n ∧ x.n ≤ 9223372036854775807)
theorem fits_Ins {ts : List T} (h : FitsL [.int .i64, .int .i64, .int .i64, .int .i64, .int .i64] ts) : ∃ x : GIns, ts = eIns x ∧ x.ok := by
  obtain ⟨t_op, h_op, rfl, q_op, w0⟩ := fits_cons h
  obtain ⟨op0, rfl, b_op, c_op⟩ := fits_int q_op
  obtain ⟨t_r, h_r, rfl, q_r, w1⟩ := fits_cons w0
  obtain ⟨r0, rfl, b_r, c_r⟩ := fits_int q_r
  obtain ⟨t_a, h_a, rfl, q_a, w2⟩ := fits_cons w1
  obtain ⟨a0, rfl, b_a, c_a⟩ := fits_int q_a
  obtain ⟨t_b, h_b, rfl, q_b, w3⟩ := fits_cons w2
  obtain ⟨b0, rfl, b_b, c_b⟩ := fits_int q_b
  obtain ⟨t_n, h_n, rfl, q_n, w4⟩ := fits_cons w3
  obtain ⟨n0, rfl, b_n, c_n⟩ := fits_int q_n
  obtain rfl := fits_nil w4
  exact ⟨⟨op0, r0, a0, b0, n0⟩, rfl, ⟨b_op, c_op⟩, ⟨b_r, c_r⟩, ⟨b_a, c_a⟩, ⟨b_b, c_b⟩, ⟨b_n, c_n⟩⟩


def eHart (x : GHart) : List T := [.sl 1 (enc eI x.regs), .int .i64 x.pc, .int .i64 x.state]
theorem eHart_def (x : GHart) : eHart x = [.sl 1 (enc eI x.regs), .int .i64 x.pc, .int .i64 x.state] := rfl
theorem getD_eHart (o : Option GHart) : (Option.map eHart o).getD [.sl 1 [], .int .i64 0, .int .i64 0] = eHart (o.getD ⟨[], 0, 0⟩) := by cases o <;> rfl
theorem rep_eHart (n : Nat) : List.replicate n [.sl 1 [], .int .i64 0, .int .i64 0] = enc eHart (List.replicate n ⟨[], 0, 0⟩) := enc_rep eHart n ⟨[], 0, 0⟩
theorem set_eHart (xs : List GHart) (i : Nat) (regs0 : List Int) (pc0 : Int) (state0 : Int) : (enc eHart xs).set i [.sl 1 (enc eI regs0), .int .i64 pc0, .int .i64 state0] = enc eHart (xs.set i (⟨regs0, pc0, state0⟩ : GHart)) := enc_set eHart xs i (⟨regs0, pc0, state0⟩ : GHart)
theorem snoc_eHart (xs : List GHart) (regs0 : List Int) (pc0 : Int) (state0 : Int) : enc eHart xs ++ [[.sl 1 (enc eI regs0), .int .i64 pc0, .int .i64 state0]] = enc eHart (xs ++ [(⟨regs0, pc0, state0⟩ : GHart)]) := enc_snoc eHart xs (⟨regs0, pc0, state0⟩ : GHart)
theorem one_eHart (regs0 : List Int) (pc0 : Int) (state0 : Int) : [[.sl 1 (enc eI regs0), .int .i64 pc0, .int .i64 state0]] = enc eHart [(⟨regs0, pc0, state0⟩ : GHart)] := rfl
theorem eta_Hart (x : GHart) : (⟨x.regs, x.pc, x.state⟩ : GHart) = x := rfl
def GHart.ok (x : GHart) : Prop := (x.regs.length ≤ 9223372036854775807 ∧ ∀ a ∈ x.regs, -9223372036854775808 ≤ a ∧ a ≤ 9223372036854775807) ∧ (-9223372036854775808 ≤ x.pc ∧ x.pc ≤ 9223372036854775807) ∧ (-9223372036854775808 ≤ x.state ∧ x.state ≤ 9223372036854775807)
theorem fits_Hart {ts : List T} (h : FitsL [.sl 1 [.int .i64], .int .i64, .int .i64] ts) : ∃ x : GHart, ts = eHart x ∧ x.ok := by
  obtain ⟨t_regs, h_regs, rfl, q_regs, w0⟩ := fits_cons h
  obtain ⟨regs0, rfl, b_regs, c_regs⟩ := fits_sl (e := eI) (Q := fun a : Int => -9223372036854775808 ≤ a ∧ a ≤ 9223372036854775807) q_regs fun ts h => fits_I h
  obtain ⟨t_pc, h_pc, rfl, q_pc, w1⟩ := fits_cons w0
  obtain ⟨pc0, rfl, b_pc, c_pc⟩ := fits_int q_pc
  obtain ⟨t_state, h_state, rfl, q_state, w2⟩ := fits_cons w1
  obtain ⟨state0, rfl, b_state, c_state⟩ := fits_int q_state
  obtain rfl := fits_nil w2
  exact ⟨⟨regs0, pc0, state0⟩, rfl, ⟨b_regs, c_regs⟩, ⟨b_pc, c_pc⟩, ⟨b_state, c_state⟩⟩

theorem fits_InsS {ts : List T} (h : FitsL [.sl 5 [.int .i64, .int .i64, .int .i64, .int .i64, .int .i64]] ts) : ∃ xs : List GIns, ts = [.sl 5 (enc eIns xs)] ∧ xs.length ≤ 9223372036854775807 ∧ ∀ a ∈ xs, a.ok := by
  obtain ⟨t, ts', rfl, h1, h2⟩ := fits_cons h
  obtain rfl := fits_nil h2
  obtain ⟨xs, rfl, h3, h4⟩ := fits_sl (e := eIns) (Q := fun a : GIns => a.ok) h1 fun ts h => fits_Ins h
  exact ⟨xs, rfl, h3, h4⟩

def eBlock (x : GBlock) : List T := [.int .i64 x.start, .sl 5 (enc eIns x.list)]
theorem eBlock_def (x : GBlock) : eBlock x = [.int .i64 x.start, .sl 5 (enc eIns x.list)] := rfl
theorem getD_eBlock (o : Option GBlock) : (Option.map eBlock o).getD [.int .i64 0, .sl 5 []] = eBlock (o.getD ⟨0, []⟩) := by cases o <;> rfl
theorem rep_eBlock (n : Nat) : List.replicate n [.int .i64 0, .sl 5 []] = enc eBlock (List.replicate n ⟨0, []⟩) := enc_rep eBlock n ⟨0, []⟩
theorem set_eBlock (xs : List GBlock) (i : Nat) (start0 : Int) (list0 : List GIns) : (enc eBlock xs).set i [.int .i64 start0, .sl 5 (enc eIns list0)] = enc eBlock (xs.set i (⟨start0, list0⟩ : GBlock)) := enc_set eBlock xs i (⟨start0, list0⟩ : GBlock)
theorem snoc_eBlock (xs : List GBlock) (start0 : Int) (list0 : List GIns) : enc eBlock xs ++ [[.int .i64 start0, .sl 5 (enc eIns list0)]] = enc eBlock (xs ++ [(⟨start0, list0⟩ : GBlock)]) := enc_snoc eBlock xs (⟨start0, list0⟩ : GBlock)
theorem one_eBlock (start0 : Int) (list0 : List GIns) : [[.int .i64 start0, .sl 5 (enc eIns list0)]] = enc eBlock [(⟨start0, list0⟩ : GBlock)] := rfl
theorem eta_Block (x : GBlock) : (⟨x.start, x.list⟩ : GBlock) = x := rfl
def GBlock.ok (x : GBlock) : Prop := (-9223372036854775808 ≤ x.start ∧ x.start ≤ 9223372036854775807) ∧ (x.list.length ≤ 9223372036854775807 ∧ ∀ a ∈ x.list, a.ok)
theorem fits_Block {ts : List T} (h : FitsL [.int .i64, .sl 5 [.int .i64, .int .i64, .int .i64, .int .i64, .int .i64]] ts) : ∃ x : GBlock, ts = eBlock x ∧ x.ok := by
  obtain ⟨t_start, h_start, rfl, q_start, w0⟩ := fits_cons h
  obtain ⟨start0, rfl, b_start, c_start⟩ := fits_int q_start
  obtain ⟨t_list, h_list, rfl, q_list, w1⟩ := fits_cons w0
  obtain ⟨list0, rfl, b_list, c_list⟩ := fits_sl (e := eIns) (Q := fun a : GIns => a.ok) q_list fun ts h => fits_Ins h
  obtain rfl := fits_nil w1
  exact ⟨⟨start0, list0⟩, rfl, ⟨b_start, c_start⟩, ⟨b_list, c_list⟩⟩

theorem fits_BlockS {ts : List T} (h : FitsL [.sl 2 [.int .i64, .sl 5 [.int .i64, .int .i64, .int .i64, .int .i64, .int .i64]]] ts) : ∃ xs : List GBlock, ts = [.sl 2 (enc eBlock xs)] ∧ xs.length ≤ 9223372036854775807 ∧ ∀ a ∈ xs, a.ok := by
  obtain ⟨t, ts', rfl, h1, h2⟩ := fits_cons h
  obtain rfl := fits_nil h2
  obtain ⟨xs, rfl, h3, h4⟩ := fits_sl (e := eBlock) (Q := fun a : GBlock => a.ok) h1 fun ts h => fits_Block h
  exact ⟨xs, rfl, h3, h4⟩

def eCore (x : GCore) : List T := [.sl 1 (enc eI x.hart.regs), .int .i64 x.hart.pc, .int .i64 x.hart.state, .sl 2 (enc eBlock x.cache)]
theorem eCore_def (x : GCore) : eCore x = [.sl 1 (enc eI x.hart.regs), .int .i64 x.hart.pc, .int .i64 x.hart.state, .sl 2 (enc eBlock x.cache)] := rfl
theorem getD_eCore (o : Option GCore) : (Option.map eCore o).getD [.sl 1 [], .int .i64 0, .int .i64 0, .sl 2 []] = eCore (o.getD ⟨⟨[], 0, 0⟩, []⟩) := by cases o <;> rfl
theorem rep_eCore (n : Nat) : List.replicate n [.sl 1 [], .int .i64 0, .int .i64 0, .sl 2 []] = enc eCore (List.replicate n ⟨⟨[], 0, 0⟩, []⟩) := enc_rep eCore n ⟨⟨[], 0, 0⟩, []⟩
theorem set_eCore (xs : List GCore) (i : Nat) (hart_regs0 : List Int) (hart_pc0 : Int) (hart_state0 : Int) (cache0 : List GBlock) : (enc eCore xs).set i [.sl 1 (enc eI hart_regs0), .int .i64 hart_pc0, .int .i64 hart_state0, .sl 2 (enc eBlock cache0)] = enc eCore (xs.set i (⟨⟨hart_regs0, hart_pc0, hart_state0⟩, cache0⟩ : GCore)) := enc_set eCore xs i (⟨⟨hart_regs0, hart_pc0, hart_state0⟩, cache0⟩ : GCore)
theorem snoc_eCore (xs : List GCore) (hart_regs0 : List Int) (hart_pc0 : Int) (hart_state0 : Int) (cache0 : List GBlock) : enc eCore xs ++ [[.sl 1 (enc eI hart_regs0), .int .i64 hart_pc0, .int .i64 hart_state0, .sl 2 (enc eBlock cache0)]] = enc eCore (xs ++ [(⟨⟨hart_regs0, hart_pc0, hart_state0⟩, cache0⟩ : GCore)]) := enc_snoc eCore xs (⟨⟨hart_regs0, hart_pc0, hart_state0⟩, cache0⟩ : GCore)
theorem one_eCore (hart_regs0 : List Int) (hart_pc0 : Int) (hart_state0 : Int) (cache0 : List GBlock) : [[.sl 1 (enc eI hart_regs0), .int .i64 hart_pc0, .int .i64 hart_state0, .sl 2 (enc eBlock cache0)]] = enc eCore [(⟨⟨hart_regs0, hart_pc0, hart_state0⟩, cache0⟩ : GCore)] := rfl
theorem eta_Core (x : GCore) : (⟨⟨x.hart.regs, x.hart.pc, x.hart.state⟩, x.cache⟩ : GCore) = x := rfl
def GCore.ok (x : GCore) : Prop := (x.hart.ok) ∧ (x.cache.length ≤ 9223372036854775807 ∧ ∀ a ∈ x.cache, a.ok)
theorem fits_Core {ts : List T} (h : FitsL [.sl 1 [.int .i64], .int .i64, .int .i64, .sl 2 [.int .i64, .sl 5 [.int .i64, .int .i64, .int .i64, .int .i64, .int .i64]]] ts) : ∃ x : GCore, ts = eCore x ∧ x.ok := by
  obtain ⟨t_hart_regs, h_hart_regs, rfl, q_hart_regs, w0⟩ := fits_cons h
  obtain ⟨hart_regs0, rfl, b_hart_regs, c_hart_regs⟩ := fits_sl (e := eI) (Q := fun a : Int => -9223372036854775808 ≤ a ∧ a ≤ 9223372036854775807) q_hart_regs fun ts h => fits_I h
  obtain ⟨t_hart_pc, h_hart_pc, rfl, q_hart_pc, w1⟩ := fits_cons w0
  obtain ⟨hart_pc0, rfl, b_hart_pc, c_hart_pc⟩ := fits_int q_hart_pc
  obtain ⟨t_hart_state, h_hart_state, rfl, q_hart_state, w2⟩ := fits_cons w1
  obtain ⟨hart_state0, rfl, b_hart_state, c_hart_state⟩ := fits_int q_hart_state
  obtain ⟨t_cache, h_cache, rfl, q_cache, w3⟩ := fits_cons w2
  obtain ⟨cache0, rfl, b_cache, c_cache⟩ := fits_sl (e := eBlock) (Q := fun a : GBlock => a.ok) q_cache fun ts h => fits_Block h
  obtain rfl := fits_nil w3
  exact ⟨⟨⟨hart_regs0, hart_pc0, hart_state0⟩, cache0⟩, rfl, ⟨⟨b_hart_regs, c_hart_regs⟩, ⟨b_hart_pc, c_hart_pc⟩, ⟨b_hart_state, c_hart_state⟩⟩, ⟨b_cache, c_cache⟩⟩

theorem fits_CoreS {ts : List T} (h : FitsL [.sl 4 [.sl 1 [.int .i64], .int .i64, .int .i64, .sl 2 [.int .i64, .sl 5 [.int .i64, .int .i64, .int .i64, .int .i64, .int .i64]]]] ts) : ∃ xs : List GCore, ts = [.sl 4 (enc eCore xs)] ∧ xs.length ≤ 9223372036854775807 ∧ ∀ a ∈ xs, a.ok := by
  obtain ⟨t, ts', rfl, h1, h2⟩ := fits_cons h
  obtain rfl := fits_nil h2
  obtain ⟨xs, rfl, h3, h4⟩ := fits_sl (e := eCore) (Q := fun a : GCore => a.ok) h1 fun ts h => fits_Core h
  exact ⟨xs, rfl, h3, h4⟩

def eFlock (x : GFlock) : List T := [.int .i64 x.world.size, .sl 5 (enc eNode x.world.nodes), .sl 8 (enc ePacket x.world.net), .sl 4 (enc eCore x.cores)]
theorem eFlock_def (x : GFlock) : eFlock x = [.int .i64 x.world.size, .sl 5 (enc eNode x.world.nodes), .sl 8 (enc ePacket x.world.net), .sl 4 (enc eCore x.cores)] := rfl
theorem getD_eFlock (o : Option GFlock) : (Option.map eFlock o).getD [.int .i64 0, .sl 5 [], .sl 8 [], .sl 4 []] = eFlock (o.getD ⟨⟨0, [], []⟩, []⟩) := by cases o <;> rfl
theorem rep_eFlock (n : Nat) : List.replicate n [.int .i64 0, .sl 5 [], .sl 8 [], .sl 4 []] = enc eFlock (List.replicate n ⟨⟨0, [], []⟩, []⟩) := enc_rep eFlock n ⟨⟨0, [], []⟩, []⟩
theorem set_eFlock (xs : List GFlock) (i : Nat) (world_size0 : Int) (world_nodes0 : List GNode) (world_net0 : List GPacket) (cores0 : List GCore) : (enc eFlock xs).set i [.int .i64 world_size0, .sl 5 (enc eNode world_nodes0), .sl 8 (enc ePacket world_net0), .sl 4 (enc eCore cores0)] = enc eFlock (xs.set i (⟨⟨world_size0, world_nodes0, world_net0⟩, cores0⟩ : GFlock)) := enc_set eFlock xs i (⟨⟨world_size0, world_nodes0, world_net0⟩, cores0⟩ : GFlock)
theorem snoc_eFlock (xs : List GFlock) (world_size0 : Int) (world_nodes0 : List GNode) (world_net0 : List GPacket) (cores0 : List GCore) : enc eFlock xs ++ [[.int .i64 world_size0, .sl 5 (enc eNode world_nodes0), .sl 8 (enc ePacket world_net0), .sl 4 (enc eCore cores0)]] = enc eFlock (xs ++ [(⟨⟨world_size0, world_nodes0, world_net0⟩, cores0⟩ : GFlock)]) := enc_snoc eFlock xs (⟨⟨world_size0, world_nodes0, world_net0⟩, cores0⟩ : GFlock)
theorem one_eFlock (world_size0 : Int) (world_nodes0 : List GNode) (world_net0 : List GPacket) (cores0 : List GCore) : [[.int .i64 world_size0, .sl 5 (enc eNode world_nodes0), .sl 8 (enc ePacket world_net0), .sl 4 (enc eCore cores0)]] = enc eFlock [(⟨⟨world_size0, world_nodes0, world_net0⟩, cores0⟩ : GFlock)] := rfl
theorem eta_Flock (x : GFlock) : (⟨⟨x.world.size, x.world.nodes, x.world.net⟩, x.cores⟩ : GFlock) = x := rfl
def GFlock.ok (x : GFlock) : Prop := (x.world.ok) ∧ (x.cores.length ≤ 9223372036854775807 ∧ ∀ a ∈ x.cores, a.ok)
theorem fits_Flock {ts : List T} (h : FitsL [.int .i64, .sl 5 [.int .i64, .sl 3 [.int .i64, .sl 1 [.int .i64], .bool], .sl 8 [.sl 1 [.int .i64], .int .i64, .sl 1 [.bool], .bool, .int .i64, .bool, .int .i64, .sl 2 [.int .i64, .bool]], .sl 2 [.int .i64, .sl 4 [.int .i64, .int .i64, .bool, .sl 1 [.int .i64]]], .sl 1 [.int .i64]], .sl 8 [.int .i64, .int .i64, .bool, .int .i64, .int .i64, .int .i64, .bool, .sl 1 [.int .i64]], .sl 4 [.sl 1 [.int .i64], .int .i64, .int .i64, .sl 2 [.int .i64, .sl 5 [.int .i64, .int .i64, .int .i64, .int .i64, .int .i64]]]] ts) : ∃ x : GFlock, ts = eFlock x ∧ x.ok := by
  obtain ⟨t_world_size, h_world_size, rfl, q_world_size, w0⟩ := fits_cons h
  obtain ⟨world_size0, rfl, b_world_size, c_world_size⟩ := fits_int q_world_size
  obtain ⟨t_world_nodes, h_world_nodes, rfl, q_world_nodes, w1⟩ := fits_cons w0
  obtain ⟨world_nodes0, rfl, b_world_nodes, c_world_nodes⟩ := fits_sl (e := eNode) (Q := fun a : GNode => a.ok) q_world_nodes fun ts h => fits_Node h
  obtain ⟨t_world_net, h_world_net, rfl, q_world_net, w2⟩ := fits_cons w1
  obtain ⟨world_net0, rfl, b_world_net, c_world_net⟩ := fits_sl (e := ePacket) (Q := fun a : GPacket => a.ok) q_world_net fun ts h => fits_Packet h
  obtain ⟨t_cores, h_cores, rfl, q_cores, w3⟩ := fits_cons w2
  obtain ⟨cores0, rfl, b_cores, c_cores⟩ := fits_sl (e := eCore) (Q := fun a : GCore => a.ok) q_cores fun ts h => fits_Core h
  obtain rfl := fits_nil w3
  exact ⟨⟨⟨world_size0, world_nodes0, world_net0⟩, cores0⟩, rfl, ⟨⟨b_world_size, c_world_size⟩, ⟨b_world_nodes, c_world_nodes⟩, ⟨b_world_net, c_world_net⟩⟩, ⟨b_cores, c_cores⟩⟩


def eEvent (x : GEvent) : List T := [.int .i64 x.who, .int .i64 x.pc, .int .i64 x.at_, .int .i64 x.got, .int .i64 x.put]
theorem eEvent_def (x : GEvent) : eEvent x = [.int .i64 x.who, .int .i64 x.pc, .int .i64 x.at_, .int .i64 x.got, .int .i64 x.put] := rfl
theorem getD_eEvent (o : Option GEvent) : (Option.map eEvent o).getD [.int .i64 0, .int .i64 0, .int .i64 0, .int .i64 0, .int .i64 0] = eEvent (o.getD ⟨0, 0, 0, 0, 0⟩) := by cases o <;> rfl
theorem rep_eEvent (n : Nat) : List.replicate n [.int .i64 0, .int .i64 0, .int .i64 0, .int .i64 0, .int .i64 0] = enc eEvent (List.replicate n ⟨0, 0, 0, 0, 0⟩) := enc_rep eEvent n ⟨0, 0, 0, 0, 0⟩
theorem set_eEvent (xs : List GEvent) (i : Nat) (who0 : Int) (pc0 : Int) (at_0 : Int) (got0 : Int) (put0 : Int) : (enc eEvent xs).set i [.int .i64 who0, .int .i64 pc0, .int .i64 at_0, .int .i64 got0, .int .i64 put0] = enc eEvent (xs.set i (⟨who0, pc0, at_0, got0, put0⟩ : GEvent)) := enc_set eEvent xs i (⟨who0, pc0, at_0, got0, put0⟩ : GEvent)
theorem snoc_eEvent (xs : List GEvent) (who0 : Int) (pc0 : Int) (at_0 : Int) (got0 : Int) (put0 : Int) : enc eEvent xs ++ [[.int .i64 who0, .int .i64 pc0, .int .i64 at_0, .int .i64 got0, .int .i64 put0]] = enc eEvent (xs ++ [(⟨who0, pc0, at_0, got0, put0⟩ : GEvent)]) := enc_snoc eEvent xs (⟨who0, pc0, at_0, got0, put0⟩ : GEvent)
theorem one_eEvent (who0 : Int) (pc0 : Int) (at_0 : Int) (got0 : Int) (put0 : Int) : [[.int .i64 who0, .int .i64 pc0, .int .i64 at_0, .int .i64 got0, .int .i64 put0]] = enc eEvent [(⟨who0, pc0, at_0, got0, put0⟩ : GEvent)] := rfl
theorem eta_Event (x : GEvent) : (⟨x.who, x.pc, x.at_, x.got, x.put⟩ : GEvent) = x := rfl
def GEvent.ok (x : GEvent) : Prop := (-9223372036854775808 ≤ x.who ∧ x.who ≤ 9223372036854775807) ∧ (-9223372036854775808 ≤ x.pc ∧ x.pc ≤ 9223372036854775807) ∧ (-9223372036854775808 ≤ x.at_ ∧ x.at_ ≤ 9223372036854775807) ∧ (-9223372036854775808 ≤ x.got ∧ x.got ≤ 9223372036854775807) ∧ (-9223372036854775808 ≤ x.put ∧ x.put ≤ 9223372036854775807)
theorem fits_Event {ts : List T} (h : FitsL [.int .i64, .int .i64, .int .i64, .int .i64, .int .i64] ts) : ∃ x : GEvent, ts = eEvent x ∧ x.ok := by
  obtain ⟨t_who, h_who, rfl, q_who, w0⟩ := fits_cons h
  obtain ⟨who0, rfl, b_who, c_who⟩ := fits_int q_who
  obtain ⟨t_pc, h_pc, rfl, q_pc, w1⟩ := fits_cons w0
  obtain ⟨pc0, rfl, b_pc, c_pc⟩ := fits_int q_pc
  obtain ⟨t_at_, h_at_, rfl, q_at_, w2⟩ := fits_cons w1
  obtain ⟨at_0, rfl, b_at_, c_at_⟩ := fits_int q_at_
  obtain ⟨t_got, h_got, rfl, q_got, w3⟩ := fits_cons w2
  obtain ⟨got0, rfl, b_got, c_got⟩ := fits_int q_got
  obtain ⟨t_put, h_put, rfl, q_put, w4⟩ := fits_cons w3
  obtain ⟨put0, rfl, b_put, c_put⟩ := fits_int q_put
  obtain rfl := fits_nil w4
  exact ⟨⟨who0, pc0, at_0, got0, put0⟩, rfl, ⟨b_who, c_who⟩, ⟨b_pc, c_pc⟩, ⟨b_at_, c_at_⟩, ⟨b_got, c_got⟩, ⟨b_put, c_put⟩⟩


def eRace (x : GRace) : List T := [.int .i64 x.i, .int .i64 x.k]
theorem eRace_def (x : GRace) : eRace x = [.int .i64 x.i, .int .i64 x.k] := rfl
theorem getD_eRace (o : Option GRace) : (Option.map eRace o).getD [.int .i64 0, .int .i64 0] = eRace (o.getD ⟨0, 0⟩) := by cases o <;> rfl
theorem rep_eRace (n : Nat) : List.replicate n [.int .i64 0, .int .i64 0] = enc eRace (List.replicate n ⟨0, 0⟩) := enc_rep eRace n ⟨0, 0⟩
theorem set_eRace (xs : List GRace) (i : Nat) (i0 : Int) (k0 : Int) : (enc eRace xs).set i [.int .i64 i0, .int .i64 k0] = enc eRace (xs.set i (⟨i0, k0⟩ : GRace)) := enc_set eRace xs i (⟨i0, k0⟩ : GRace)
theorem snoc_eRace (xs : List GRace) (i0 : Int) (k0 : Int) : enc eRace xs ++ [[.int .i64 i0, .int .i64 k0]] = enc eRace (xs ++ [(⟨i0, k0⟩ : GRace)]) := enc_snoc eRace xs (⟨i0, k0⟩ : GRace)
theorem one_eRace (i0 : Int) (k0 : Int) : [[.int .i64 i0, .int .i64 k0]] = enc eRace [(⟨i0, k0⟩ : GRace)] := rfl
theorem eta_Race (x : GRace) : (⟨x.i, x.k⟩ : GRace) = x := rfl
def GRace.ok (x : GRace) : Prop := (-9223372036854775808 ≤ x.i ∧ x.i ≤ 9223372036854775807) ∧ (-9223372036854775808 ≤ x.k ∧ x.k ≤ 9223372036854775807)
theorem fits_Race {ts : List T} (h : FitsL [.int .i64, .int .i64] ts) : ∃ x : GRace, ts = eRace x ∧ x.ok := by
  obtain ⟨t_i, h_i, rfl, q_i, w0⟩ := fits_cons h
  obtain ⟨i0, rfl, b_i, c_i⟩ := fits_int q_i
  obtain ⟨t_k, h_k, rfl, q_k, w1⟩ := fits_cons w0
  obtain ⟨k0, rfl, b_k, c_k⟩ := fits_int q_k
  obtain rfl := fits_nil w1
  exact ⟨⟨i0, k0⟩, rfl, ⟨b_i, c_i⟩, ⟨b_k, c_k⟩⟩

theorem fits_IntSS {ts : List T} (h : FitsL [.sl 1 [.sl 1 [.int .i64]]] ts) : ∃ xs : List (List Int), ts = [.sl 1 (enc eIS xs)] ∧ xs.length ≤ 9223372036854775807 ∧ ∀ a ∈ xs, a.length ≤ 9223372036854775807 ∧ ∀ a' ∈ a, -9223372036854775808 ≤ a' ∧ a' ≤ 9223372036854775807 := by
  obtain ⟨t, ts', rfl, h1, h2⟩ := fits_cons h
  obtain rfl := fits_nil h2
  obtain ⟨xs, rfl, h3, h4⟩ := fits_sl (e := eIS) (Q := fun a : List Int => a.length ≤ 9223372036854775807 ∧ ∀ a' ∈ a, -9223372036854775808 ≤ a' ∧ a' ≤ 9223372036854775807) h1 fun ts h => fits_IS h
  exact ⟨xs, rfl, h3, h4⟩
theorem fits_EventS {ts : List T} (h : FitsL [.sl 5 [.int .i64, .int .i64, .int .i64, .int .i64, .int .i64]] ts) : ∃ xs : List GEvent, ts = [.sl 5 (enc eEvent xs)] ∧ xs.length ≤ 9223372036854775807 ∧ ∀ a ∈ xs, a.ok := by
  obtain ⟨t, ts', rfl, h1, h2⟩ := fits_cons h
  obtain rfl := fits_nil h2
  obtain ⟨xs, rfl, h3, h4⟩ := fits_sl (e := eEvent) (Q := fun a : GEvent => a.ok) h1 fun ts h => fits_Event h
  exact ⟨xs, rfl, h3, h4⟩
theorem fits_HartS {ts : List T} (h : FitsL [.sl 3 [.sl 1 [.int .i64], .int .i64, .int .i64]] ts) : ∃ xs : List GHart, ts = [.sl 3 (enc eHart xs)] ∧ xs.length ≤ 9223372036854775807 ∧ ∀ a ∈ xs, a.ok := by
  obtain ⟨t, ts', rfl, h1, h2⟩ := fits_cons h
  obtain rfl := fits_nil h2
  obtain ⟨xs, rfl, h3, h4⟩ := fits_sl (e := eHart) (Q := fun a : GHart => a.ok) h1 fun ts h => fits_Hart h
  exact ⟨xs, rfl, h3, h4⟩
theorem fits_DeedS {ts : List T} (h : FitsL [.sl 4 [.int .i64, .int .i64, .int .i64, .int .i64]] ts) : ∃ xs : List GDeed, ts = [.sl 4 (enc eDeed xs)] ∧ xs.length ≤ 9223372036854775807 ∧ ∀ a ∈ xs, a.ok := by
  obtain ⟨t, ts', rfl, h1, h2⟩ := fits_cons h
  obtain rfl := fits_nil h2
  obtain ⟨xs, rfl, h3, h4⟩ := fits_sl (e := eDeed) (Q := fun a : GDeed => a.ok) h1 fun ts h => fits_Deed h
  exact ⟨xs, rfl, h3, h4⟩
theorem fits_RaceS {ts : List T} (h : FitsL [.sl 2 [.int .i64, .int .i64]] ts) : ∃ xs : List GRace, ts = [.sl 2 (enc eRace xs)] ∧ xs.length ≤ 9223372036854775807 ∧ ∀ a ∈ xs, a.ok := by
  obtain ⟨t, ts', rfl, h1, h2⟩ := fits_cons h
  obtain rfl := fits_nil h2
  obtain ⟨xs, rfl, h3, h4⟩ := fits_sl (e := eRace) (Q := fun a : GRace => a.ok) h1 fun ts h => fits_Race h
  exact ⟨xs, rfl, h3, h4⟩
theorem fits_U8S {ts : List T} (h : FitsL [.sl 1 [.int .u8]] ts) : ∃ xs : List Int, ts = [.sl 1 (enc eU xs)] ∧ xs.length ≤ 9223372036854775807 ∧ ∀ a ∈ xs, 0 ≤ a ∧ a ≤ 255 := by
  obtain ⟨t, ts', rfl, h1, h2⟩ := fits_cons h
  obtain rfl := fits_nil h2
  obtain ⟨xs, rfl, h3, h4⟩ := fits_sl (e := eU) (Q := fun a : Int => 0 ≤ a ∧ a ≤ 255) h1 fun ts h => fits_U h
  exact ⟨xs, rfl, h3, h4⟩
theorem fits_StrS {ts : List T} (h : FitsL [.sl 1 [.str]] ts) : ∃ xs : List ByteArray, ts = [.sl 1 (enc eStr xs)] ∧ xs.length ≤ 9223372036854775807 ∧ ∀ a ∈ xs, a.size ≤ 9223372036854775807 := by
  obtain ⟨t, ts', rfl, h1, h2⟩ := fits_cons h
  obtain rfl := fits_nil h2
  obtain ⟨xs, rfl, h3, h4⟩ := fits_sl (e := eStr) (Q := fun a : ByteArray => a.size ≤ 9223372036854775807) h1 fun ts h => fits_S h
  exact ⟨xs, rfl, h3, h4⟩

attribute [go_sem] getD_eB set_eB snoc_eB eB_def getD_eStr set_eStr snoc_eStr eStr_def getD_eU set_eU snoc_eU eU_def getD_eIS set_eIS snoc_eIS eIS_def getD_eMsg set_eMsg snoc_eMsg eMsg_def getD_eSender set_eSender snoc_eSender eSender_def getD_eReceiver set_eReceiver snoc_eReceiver eReceiver_def getD_ePacket set_ePacket snoc_ePacket ePacket_def getD_eFrame set_eFrame snoc_eFrame eFrame_def getD_eWait set_eWait snoc_eWait eWait_def getD_eHome set_eHome snoc_eHome eHome_def getD_eTold set_eTold snoc_eTold eTold_def getD_eNode set_eNode snoc_eNode eNode_def getD_eWorld set_eWorld snoc_eWorld eWorld_def getD_eDeed set_eDeed snoc_eDeed eDeed_def getD_eIns set_eIns snoc_eIns eIns_def getD_eHart set_eHart snoc_eHart eHart_def getD_eBlock set_eBlock snoc_eBlock eBlock_def getD_eCore set_eCore snoc_eCore eCore_def getD_eFlock set_eFlock snoc_eFlock eFlock_def getD_eEvent set_eEvent snoc_eEvent eEvent_def getD_eRace set_eRace snoc_eRace eRace_def eta_Msg eta_Sender eta_Receiver eta_Packet eta_Frame eta_Wait eta_Home eta_Told eta_Node eta_World eta_Deed eta_Ins eta_Hart eta_Block eta_Core eta_Flock eta_Event eta_Race
end Go.Tw
