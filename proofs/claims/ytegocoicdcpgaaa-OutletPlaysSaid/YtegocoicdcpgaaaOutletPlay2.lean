/- The law of the plays of the stream that one writes, walked. -/
import Derived.Test.YtegocoicdcpgaaaNOutletPlay2
import Derived.Test.YtegocoicdcpgaaaOutletPlay
set_option linter.unusedVariables false
namespace Go.Br
open Go
attribute [local irreducible] Addr.add

theorem RingC.same {w w' : World} {p D sz : Nat} {C : List UInt8} (h : RingC w p D C sz) (h1 : w'.heap[p]? = w.heap[p]?) (h2 : w'.heap[D]? = w.heap[D]?) : RingC w' p D C sz := by
  obtain ⟨bs, a, h, hl, hc⟩ := h
  exact ⟨bs, a, ⟨h.hp.same h1, h.hD.same h2, h.ne, h.pos, h.big, h.ha, h.hn⟩, hl, hc⟩
theorem OutAt.same {w w' : World} {o p D sz base : Nat} {C : List UInt8} {cl gn : Bool} (h : OutAt w o p D C sz base cl gn) (hw : ∀ i ∈ [o, p, D], w'.heap[i]? = w.heap[i]?) : OutAt w' o p D C sz base cl gn :=
  ⟨h.ho.same (hw o (by simp)), h.hr.same (hw p (by simp)) (hw D (by simp)), h.op, h.oD, h.big⟩
/-- A stream that one writes. -/
@[irreducible] def outA (o p D sz base : Nat) (cl gn : Bool) (C : List UInt8) : SA := held [o, p, D] fun w => OutAt w o p D C sz base cl gn
theorem outA_mk {w : World} {o p D sz base : Nat} {C : List UInt8} {cl gn : Bool} (h : OutAt w o p D C sz base cl gn) : (outA o p D sz base cl gn C).p [o, p, D] [] w := by
  unfold outA
  exact held_mk (by have := h.lt; simp; omega) fun w' hw => h.same hw
theorem St.out {c : Ctx} {w : World} {L R : List SA} {o p D sz base : Nat} {C : List UInt8} {cl gn : Bool} (h : St c w L) (hp : Pick (outA o p D sz base cl gn C) L R) : OutAt w o p D C sz base cl gn := by
  obtain ⟨F, G, h⟩ := h.get hp
  unfold outA at h
  rw [held_p] at h
  exact h.2.2.2 w fun _ _ => rfl
/-- A call that leaves the stream as it is. -/
theorem St.outKeep {c : Ctx} {w w' : World} {L : List SA} (h : St c w L) (k : Kp [] w w') : St c w' L := h.keep k
theorem St.outSet {c : Ctx} {w : World} {L R : List SA} {o p D sz base : Nat} {C : List UInt8} {cl gn : Bool} (h : St c w L) (hp : Pick (outA o p D sz base cl gn C) L R) :
    OutAt w o p D C sz base cl gn ∧ (∀ {X : Option Addr} {cs : List Value}, RdIn R X cs → ∀ a, X = some a → cs ≠ [] → a.block ∉ [o, p, D]) ∧
      ∀ {w' : World} {base' : Nat} {C' : List UInt8} {cl' gn' : Bool}, Kp [o, p, D] w w' → OutAt w' o p D C' sz base' cl' gn' → St c w' (outA o p D sz base' cl' gn' C' :: R) := by
  obtain ⟨F, G, h1, h2, h3⟩ := (h.pick hp).openR
  have hF : F = [o, p, D] := by unfold outA at h1; rw [held_p] at h1; exact h1.1
  subst hF
  refine ⟨h.out hp, h2, fun {w' base' C' cl' gn'} k h' => h3 k (outA_mk h') (fun i hi => .inl hi) (by simp)⟩
theorem St.outNew {c : Ctx} {w w' : World} {L : List SA} {o p D sz base : Nat} {C : List UInt8} {cl gn : Bool} (h : St c w L) (k : Kp [] w w') (h1 : w.heap.size ≤ o) (h2 : w.heap.size ≤ p) (h3 : w.heap.size ≤ D) (h' : OutAt w' o p D C sz base cl gn) : St c w' (outA o p D sz base cl gn C :: L) :=
  h.new k (outA_mk h') (by simp; omega) (by simp)

theorem oAt_ok {c : Ctx} {w : World} {L : List SA} (h : St c w L) {size : Int} {base : Nat} (hbs : base < 18446744073709551616) {Q : Value → World → Prop}
    (hbad : ∀ w', St c w' L → Strm < base → Q (.tuple #[.pointer none, .int .i64 215]) w')
    (hbad2 : ∀ w', St c w' L → base ≤ Strm → size < 1 ∨ 65536 < size → Q (.tuple #[.pointer none, .int .i64 50]) w')
    (hk : ∀ (o p D sz : Nat) w', size = (sz : Int) → St c w' (outA o p D sz base false false [] :: L) → base ≤ Strm → 1 ≤ sz → sz ≤ 65536 → Q (.tuple #[.pointer (some ⟨o, 0, none⟩), .int .i64 0]) w') : CALL PG 57 [.int .i64 size, .int .u64 (base : Int)] w Q := by
  refine call57 ?_
  unfold N57
  unfold Strm at *
  refine ifd (fun h1 => (hbad _ h (by omega))) fun h1 => ?_
  by_cases hs : size < 1 ∨ 65536 < size
  · exact ol_bad hs ⟨_, _, rfl, leti rfl (ift (by decide) (leti rfl (hbad2 _ h (by omega) hs)))⟩
  · obtain ⟨sz, rfl⟩ : ∃ sz : Nat, size = (sz : Int) := ⟨size.toNat, by omega⟩
    refine ol_new (by omega) (by omega) fun w1 o p D k1 fo fp fD ho => ⟨_, _, rfl, leti rfl (iff_ (by decide) ?_)⟩
    have h2 := h.outNew k1 fo fp fD ho
    obtain ⟨ho2, _, up⟩ := h2.outSet .head
    refine Br.st 1 ho2.ho (by kernel_rfl) rfl (by simp) fun w2 k2 s2 hb2 => ?_
    refine hk o p D sz w2 rfl (up (k2.mono (by simp)) ⟨hb2, ho2.hr.kp k2 ?_ ?_, ho2.op, ho2.oD, by simp [Strm]; omega⟩) (by omega) (by omega) (by omega)
    · have := ho2.op; simp; omega
    · have := ho2.oD; simp; omega

section
variable {c : Ctx} {w : World} {L R : List SA} {o p D sz base : Nat} {C : List UInt8} {cl gn : Bool}
theorem oBase_ok (h : St c w L) (hp : Pick (outA o p D sz base cl gn C) L R) {Q : Value → World → Prop} (hk : Q (.int .u64 (base : Int)) w) : CALL PG 43 [.pointer (some ⟨o, 0, none⟩)] w Q := ol_base (h.out hp) hk
theorem oClosed_ok (h : St c w L) (hp : Pick (outA o p D sz base cl gn C) L R) {Q : Value → World → Prop} (hk : Q (.bool cl) w) : CALL PG 62 [.pointer (some ⟨o, 0, none⟩)] w Q := ol_closed (h.out hp) hk
theorem oDone_ok (h : St c w L) (hp : Pick (outA o p D sz base cl gn C) L R) {Q : Value → World → Prop} (hk : Q (.bool gn) w) : CALL PG 49 [.pointer (some ⟨o, 0, none⟩)] w Q := ol_done (h.out hp) hk
theorem oEnd_ok (h : St c w L) (hp : Pick (outA o p D sz base cl gn C) L R) {Q : Value → World → Prop} (hk : ∀ w', St c w' L → Q (.int .u64 ((base + C.length : Nat) : Int)) w') : CALL PG 45 [.pointer (some ⟨o, 0, none⟩)] w Q := ol_end (h.out hp) fun w' k => hk w' (h.keep k)
theorem oTop_ok (h : St c w L) (hp : Pick (outA o p D sz base cl gn C) L R) {Q : Value → World → Prop} (hk : ∀ w', St c w' L → Q (.int .u64 (topN base C.length cl : Int)) w') : CALL PG 48 [.pointer (some ⟨o, 0, none⟩)] w Q := ol_top (h.out hp) fun w' k => hk w' (h.keep k)
theorem oClose_ok (h : St c w L) (hp : Pick (outA o p D sz base cl gn C) L R) {Q : Value → World → Prop} (hk : ∀ w', St c w' (outA o p D sz base true gn C :: R) → Q (.tuple #[]) w') : CALL PG 47 [.pointer (some ⟨o, 0, none⟩)] w Q := by
  obtain ⟨ho, ap, up⟩ := h.outSet hp
  exact ol_close ho fun w' k s h' => hk w' (up (k.mono (by simp)) h')
theorem oPut_ok (h : St c w L) (hp : Pick (outA o p D sz base cl gn C) L R) {A : Option Addr} {d : Nat} {xs : List UInt8} (hr : RdIn R A (bvs xs)) (hc : xs.length ≤ d) (hcb : xs.length ≤ 1000000) {Q : Value → World → Prop}
    (hk : ∀ w', St c w' (outA o p D sz base cl gn (C ++ xs.take (putN C.length sz base cl xs.length).1) :: R) → Q (.tuple #[.int .i64 ((putN C.length sz base cl xs.length).1 : Int), .int .i64 (putN C.length sz base cl xs.length).2]) w') :
    CALL PG 41 [.pointer (some ⟨o, 0, none⟩), .slice A xs.length d] w Q := by
  obtain ⟨ho, ap, up⟩ := h.outSet hp
  refine ol_put ho (hr _ _ (h.pick hp).drop) hc hcb (fun x hx hne => ?_) fun w' k h' => hk w' (up (k.mono (by simp)) h')
  have := ap hr x hx (by intro e; apply hne; cases xs with | nil => rfl | cons a b => simp [bvs] at e)
  simp only [List.mem_cons, List.not_mem_nil, or_false, not_or] at this
  exact this.2
theorem oAcked_ok (h : St c w L) (hp : Pick (outA o p D sz base cl gn C) L R) {T : Nat} (hT : T < 18446744073709551616) {Q : Value → World → Prop}
    (hno : (T ≤ base ∨ topN base C.length cl < T ∨ gn = true) → ∀ w', St c w' L → Q (.bool false) w')
    (hyes : base < T → T ≤ topN base C.length cl → gn = false → ∀ (t : Nat) (g : Bool), ((T = topN base C.length cl ∧ cl = true ∧ t = T - 1 ∧ g = true) ∨ (¬ (T = topN base C.length cl ∧ cl = true) ∧ t = T ∧ g = gn)) →
      ∀ w', St c w' (outA o p D sz t cl g (C.drop (t - base)) :: R) → Q (.bool true) w') :
    CALL PG 44 [.pointer (some ⟨o, 0, none⟩), .int .u64 (T : Int)] w Q := by
  obtain ⟨ho, ap, up⟩ := h.outSet hp
  exact ol_acked ho hT (fun hc w' k => hno hc w' (h.keep k)) fun h1 h2 h3 t g ht w' k h' => hyes h1 h2 h3 t g ht w' (up k h')
theorem oBytes_ok (h : St c w L) (hp : Pick (outA o p D sz base cl gn C) L R) {F : Nat} (hF : F < 18446744073709551616) {many : Int} {Q : Value → World → Prop}
    (hk : ∀ w' A k xs, xs = (if F < base then [] else (C.drop (F - base)).take many.toNat) → St c w' (rows A (bvs xs) :: L) → Q (.slice A xs.length k) w') :
    CALL PG 42 [.pointer (some ⟨o, 0, none⟩), .int .u64 (F : Int), .int .i64 many] w Q :=
  ol_bytes (h.out hp) hF fun w' A k xs k' e hr hf _ => hk w' A k xs e (h.newRows k' hr hf)
theorem oLen_ok (h : St c w L) (hp : Pick (outA o p D sz base cl gn C) L R) {Q : Value → World → Prop} (hk : Q (.int .i64 (C.length : Int)) w) : CALL PG 19 [.pointer (some ⟨p, 0, none⟩)] w Q := rc_len (h.out hp).hr hk
theorem oFree_ok (h : St c w L) (hp : Pick (outA o p D sz base cl gn C) L R) {Q : Value → World → Prop} (hk : ∀ w', St c w' L → Q (.int .i64 ((sz : Int) - C.length)) w') : CALL PG 17 [.pointer (some ⟨p, 0, none⟩)] w Q := rc_free (h.out hp).hr (hk _ h.drew)
end
theorem u64_rng (y : Int) : ∃ n : Nat, IntKind.u64.wrap y = (n : Int) ∧ n < 18446744073709551616 := by
  unfold IntKind.wrap
  simp only [IntKind.bits, IntKind.signed]
  refine ⟨(y % 18446744073709551616).toNat, ?_, ?_⟩
  · simp; omega
  · omega

structure OpO where
  kind : Int
  n : Int
  to : Nat
  B : Option Addr
  Bk : Nat
  xs : List UInt8
def opc (x : OpO) : List Value := [.int .i64 x.kind, .int .i64 x.n, .int .u64 (x.to : Int), .slice x.B x.xs.length x.Bk]
theorem opc_length (x : OpO) : (opc x).length = 4 := rfl
abbrev opv (x : OpO) : Value := .agg #[.int .i64 x.kind, .int .i64 x.n, .int .u64 (x.to : Int), .slice x.B x.xs.length x.Bk]

theorem one_ok {c : Ctx} {w : World} {R R2 : List SA} {o p D sz base : Nat} {C : List UInt8} {cl gn : Bool} (h : St c w (outA o p D sz base cl gn C :: R)) {A : Option Addr} {k : Nat} (hA : Pick (rows A (bvs C)) R R2) (hk1 : C.length ≤ k) (hC : C.length ≤ sz) (hs : sz ≤ 65536) (hb : base + C.length ≤ Strm)
    (x : OpO) (hB : RdIn R x.B (bvs x.xs)) (hx : x.xs.length ≤ x.Bk) (hx2 : x.xs.length ≤ 300) (hto : x.to < 18446744073709551616) {Q : Value → World → Prop}
    (hk : ∀ A' k' w' C' base' cl' gn', St c w' (rows A' (bvs C') :: outA o p D sz base' cl' gn' C' :: R) → C'.length ≤ k' → C'.length ≤ sz → base' + C'.length ≤ Strm → Q (.tuple #[ov A' C'.length k' base' sz cl' gn', .bool true]) w') :
    CALL PG 59 [.pointer (some ⟨o, 0, none⟩), ov A C.length k base sz cl gn, opv x] w Q := by
  refine call59 ?_
  unfold N59
  refine h.box fun p4 w' h => ?_
  refine h.box fun p5 w' h => ?_
  refine h.allocG tiO17 fun p6 w' h => ?_
  repeat' (first
    | ((with_reducible show RDI _ (loadVar _ (Addr.add _ _)) _ _ _); refine h.rdI _ ?_)
    | ((with_reducible show RDB _ (loadVar _ (Addr.add _ _)) _ _); refine h.rdB _ ?_)
    | ((with_reducible show RDP _ (loadVar _ (Addr.add _ _)) _ _); refine h.rdP _ ?_)
    | ((with_reducible show RDL _ (loadVar _ (Addr.add _ _)) _ _); refine h.rdL _ ?_)
    | ((with_reducible show RDT _ (loadVar _ (Addr.add _ _)) _ _); refine h.rdT _ ?_)
    | ((with_reducible show RUNU _ (storeVar _ (Addr.add _ _) _) _ _); refine h.st _ fun w' h => ?_)
    | ((with_reducible show RDI _ (loadVar _ ⟨_, _, _⟩) _ _ _); refine h.rdvI ?_)
    | ((with_reducible show RDB _ (loadVar _ ⟨_, _, _⟩) _ _); refine h.rdvB ?_)
    | ((with_reducible show RDP _ (loadVar _ ⟨_, _, _⟩) _ _); refine h.rdvP ?_)
    | ((with_reducible show RDL _ (loadVar _ ⟨_, _, _⟩) _ _); refine h.rdvL ?_)
    | ((with_reducible show RDT _ (loadVar _ ⟨_, _, _⟩) _ _); refine h.rdvT ?_)
    | ((with_reducible show RD _ (loadVar _ ⟨_, _, _⟩) _ _); refine h.rdG ?_; first | refine ⟨_, rfl, ?_⟩ | refine ⟨_, _, rfl, ?_⟩ | refine ⟨_, _, _, rfl, ?_⟩ | refine ⟨_, _, _, _, rfl, ?_⟩ | refine ⟨_, _, _, _, _, rfl, ?_⟩ | refine ⟨_, _, _, _, _, _, rfl, ?_⟩ | refine ⟨_, _, _, _, _, _, _, rfl, ?_⟩ | refine ⟨_, _, _, _, _, _, _, _, rfl, ?_⟩ | refine ⟨_, _, _, _, _, _, _, _, _, rfl, ?_⟩)
    | ((with_reducible show RUNU _ (storeVar _ ⟨_, _, _⟩ (.agg _)) _ _); refine h.stG fun w' h => ?_)
    | ((with_reducible show RUNU _ (storeVar _ ⟨_, _, _⟩ _) _ _); refine h.stV fun w' h => ?_))
  refine leti rfl ?_
  refine ⟨fun to' w' => (∃ T : Nat, to' = (T : Int) ∧ T < 18446744073709551616) ∧ St c w' (blk p4 93 (ovs A C.length k base sz cl gn) :: blk p5 99 (opc x) :: blk p6 93 (ovs none 0 0 0 0 false false) :: outA o p D sz base cl gn C :: R), ?_, ?_⟩
  · repeat' (first
      | ((with_reducible show RDI _ (loadVar _ (Addr.add _ _)) _ _ _); refine h.rdI _ ?_)
      | ((with_reducible show RDB _ (loadVar _ (Addr.add _ _)) _ _); refine h.rdB _ ?_)
      | ((with_reducible show RDP _ (loadVar _ (Addr.add _ _)) _ _); refine h.rdP _ ?_)
      | ((with_reducible show RDL _ (loadVar _ (Addr.add _ _)) _ _); refine h.rdL _ ?_)
      | ((with_reducible show RDT _ (loadVar _ (Addr.add _ _)) _ _); refine h.rdT _ ?_)
      | ((with_reducible show RUNU _ (storeVar _ (Addr.add _ _) _) _ _); refine h.st _ fun w' h => ?_)
      | ((with_reducible show RDI _ (loadVar _ ⟨_, _, _⟩) _ _ _); refine h.rdvI ?_)
      | ((with_reducible show RDB _ (loadVar _ ⟨_, _, _⟩) _ _); refine h.rdvB ?_)
      | ((with_reducible show RDP _ (loadVar _ ⟨_, _, _⟩) _ _); refine h.rdvP ?_)
      | ((with_reducible show RDL _ (loadVar _ ⟨_, _, _⟩) _ _); refine h.rdvL ?_)
      | ((with_reducible show RDT _ (loadVar _ ⟨_, _, _⟩) _ _); refine h.rdvT ?_)
      | ((with_reducible show RD _ (loadVar _ ⟨_, _, _⟩) _ _); refine h.rdG ?_; first | refine ⟨_, rfl, ?_⟩ | refine ⟨_, _, rfl, ?_⟩ | refine ⟨_, _, _, rfl, ?_⟩ | refine ⟨_, _, _, _, rfl, ?_⟩ | refine ⟨_, _, _, _, _, rfl, ?_⟩ | refine ⟨_, _, _, _, _, _, rfl, ?_⟩ | refine ⟨_, _, _, _, _, _, _, rfl, ?_⟩ | refine ⟨_, _, _, _, _, _, _, _, rfl, ?_⟩ | refine ⟨_, _, _, _, _, _, _, _, _, rfl, ?_⟩)
      | ((with_reducible show RUNU _ (storeVar _ ⟨_, _, _⟩ (.agg _)) _ _); refine h.stG fun w' h => ?_)
      | ((with_reducible show RUNU _ (storeVar _ ⟨_, _, _⟩ _) _ _); refine h.stV fun w' h => ?_))
    refine ⟨by decide, ifb (fun h1 => ?_) fun h1 => ?_⟩
    · repeat' (first
        | ((with_reducible show RDI _ (loadVar _ (Addr.add _ _)) _ _ _); refine h.rdI _ ?_)
        | ((with_reducible show RDB _ (loadVar _ (Addr.add _ _)) _ _); refine h.rdB _ ?_)
        | ((with_reducible show RDP _ (loadVar _ (Addr.add _ _)) _ _); refine h.rdP _ ?_)
        | ((with_reducible show RDL _ (loadVar _ (Addr.add _ _)) _ _); refine h.rdL _ ?_)
        | ((with_reducible show RDT _ (loadVar _ (Addr.add _ _)) _ _); refine h.rdT _ ?_)
        | ((with_reducible show RUNU _ (storeVar _ (Addr.add _ _) _) _ _); refine h.st _ fun w' h => ?_)
        | ((with_reducible show RDI _ (loadVar _ ⟨_, _, _⟩) _ _ _); refine h.rdvI ?_)
        | ((with_reducible show RDB _ (loadVar _ ⟨_, _, _⟩) _ _); refine h.rdvB ?_)
        | ((with_reducible show RDP _ (loadVar _ ⟨_, _, _⟩) _ _); refine h.rdvP ?_)
        | ((with_reducible show RDL _ (loadVar _ ⟨_, _, _⟩) _ _); refine h.rdvL ?_)
        | ((with_reducible show RDT _ (loadVar _ ⟨_, _, _⟩) _ _); refine h.rdvT ?_)
        | ((with_reducible show RD _ (loadVar _ ⟨_, _, _⟩) _ _); refine h.rdG ?_; first | refine ⟨_, rfl, ?_⟩ | refine ⟨_, _, rfl, ?_⟩ | refine ⟨_, _, _, rfl, ?_⟩ | refine ⟨_, _, _, _, rfl, ?_⟩ | refine ⟨_, _, _, _, _, rfl, ?_⟩ | refine ⟨_, _, _, _, _, _, rfl, ?_⟩ | refine ⟨_, _, _, _, _, _, _, rfl, ?_⟩ | refine ⟨_, _, _, _, _, _, _, _, rfl, ?_⟩ | refine ⟨_, _, _, _, _, _, _, _, _, rfl, ?_⟩)
        | ((with_reducible show RUNU _ (storeVar _ ⟨_, _, _⟩ (.agg _)) _ _); refine h.stG fun w' h => ?_)
        | ((with_reducible show RUNU _ (storeVar _ ⟨_, _, _⟩ _) _ _); refine h.stV fun w' h => ?_))
      obtain ⟨T, e, hT⟩ := u64_rng ((base : Int) + x.to)
      exact leti e ⟨⟨T, rfl, hT⟩, h.to⟩
    · exact ⟨⟨x.to, rfl, hto⟩, h.to⟩
  rintro _ w' ⟨⟨T, rfl, hT⟩, h⟩
  refine ⟨fun w' => St c w' (blk p4 93 (ovs A C.length k base sz cl gn) :: blk p5 99 (opc x) :: blk p6 93 (ovs none 0 0 0 0 false false) :: outA o p D sz base cl gn C :: R), ?_, ?_⟩
  · repeat' (first
      | ((with_reducible show RDI _ (loadVar _ (Addr.add _ _)) _ _ _); refine h.rdI _ ?_)
      | ((with_reducible show RDB _ (loadVar _ (Addr.add _ _)) _ _); refine h.rdB _ ?_)
      | ((with_reducible show RDP _ (loadVar _ (Addr.add _ _)) _ _); refine h.rdP _ ?_)
      | ((with_reducible show RDL _ (loadVar _ (Addr.add _ _)) _ _); refine h.rdL _ ?_)
      | ((with_reducible show RDT _ (loadVar _ (Addr.add _ _)) _ _); refine h.rdT _ ?_)
      | ((with_reducible show RUNU _ (storeVar _ (Addr.add _ _) _) _ _); refine h.st _ fun w' h => ?_)
      | ((with_reducible show RDI _ (loadVar _ ⟨_, _, _⟩) _ _ _); refine h.rdvI ?_)
      | ((with_reducible show RDB _ (loadVar _ ⟨_, _, _⟩) _ _); refine h.rdvB ?_)
      | ((with_reducible show RDP _ (loadVar _ ⟨_, _, _⟩) _ _); refine h.rdvP ?_)
      | ((with_reducible show RDL _ (loadVar _ ⟨_, _, _⟩) _ _); refine h.rdvL ?_)
      | ((with_reducible show RDT _ (loadVar _ ⟨_, _, _⟩) _ _); refine h.rdvT ?_)
      | ((with_reducible show RD _ (loadVar _ ⟨_, _, _⟩) _ _); refine h.rdG ?_; first | refine ⟨_, rfl, ?_⟩ | refine ⟨_, _, rfl, ?_⟩ | refine ⟨_, _, _, rfl, ?_⟩ | refine ⟨_, _, _, _, rfl, ?_⟩ | refine ⟨_, _, _, _, _, rfl, ?_⟩ | refine ⟨_, _, _, _, _, _, rfl, ?_⟩ | refine ⟨_, _, _, _, _, _, _, rfl, ?_⟩ | refine ⟨_, _, _, _, _, _, _, _, rfl, ?_⟩ | refine ⟨_, _, _, _, _, _, _, _, _, rfl, ?_⟩)
      | ((with_reducible show RUNU _ (storeVar _ ⟨_, _, _⟩ (.agg _)) _ _); refine h.stG fun w' h => ?_)
      | ((with_reducible show RUNU _ (storeVar _ ⟨_, _, _⟩ _) _ _); refine h.stV fun w' h => ?_))
    refine ⟨by decide, by decide, ?_⟩
    refine ⟨fun b w' => St c w' (blk p4 93 (ovs A C.length k base sz cl gn) :: blk p5 99 (opc x) :: blk p6 93 (ovs none 0 0 0 0 false false) :: outA o p D sz base cl gn C :: R), ?_, ?_⟩
    · exact letb rfl (ifb (fun _ => h) fun _ => letb rfl h)
    rintro b w' h
    refine ifb (fun _ => ?_) fun _ => ?_
    · repeat' (first
        | ((with_reducible show RDI _ (loadVar _ (Addr.add _ _)) _ _ _); refine h.rdI _ ?_)
        | ((with_reducible show RDB _ (loadVar _ (Addr.add _ _)) _ _); refine h.rdB _ ?_)
        | ((with_reducible show RDP _ (loadVar _ (Addr.add _ _)) _ _); refine h.rdP _ ?_)
        | ((with_reducible show RDL _ (loadVar _ (Addr.add _ _)) _ _); refine h.rdL _ ?_)
        | ((with_reducible show RDT _ (loadVar _ (Addr.add _ _)) _ _); refine h.rdT _ ?_)
        | ((with_reducible show RUNU _ (storeVar _ (Addr.add _ _) _) _ _); refine h.st _ fun w' h => ?_)
        | ((with_reducible show RDI _ (loadVar _ ⟨_, _, _⟩) _ _ _); refine h.rdvI ?_)
        | ((with_reducible show RDB _ (loadVar _ ⟨_, _, _⟩) _ _); refine h.rdvB ?_)
        | ((with_reducible show RDP _ (loadVar _ ⟨_, _, _⟩) _ _); refine h.rdvP ?_)
        | ((with_reducible show RDL _ (loadVar _ ⟨_, _, _⟩) _ _); refine h.rdvL ?_)
        | ((with_reducible show RDT _ (loadVar _ ⟨_, _, _⟩) _ _); refine h.rdvT ?_)
        | ((with_reducible show RD _ (loadVar _ ⟨_, _, _⟩) _ _); refine h.rdG ?_; first | refine ⟨_, rfl, ?_⟩ | refine ⟨_, _, rfl, ?_⟩ | refine ⟨_, _, _, rfl, ?_⟩ | refine ⟨_, _, _, _, rfl, ?_⟩ | refine ⟨_, _, _, _, _, rfl, ?_⟩ | refine ⟨_, _, _, _, _, _, rfl, ?_⟩ | refine ⟨_, _, _, _, _, _, _, rfl, ?_⟩ | refine ⟨_, _, _, _, _, _, _, _, rfl, ?_⟩ | refine ⟨_, _, _, _, _, _, _, _, _, rfl, ?_⟩)
        | ((with_reducible show RUNU _ (storeVar _ ⟨_, _, _⟩ (.agg _)) _ _); refine h.stG fun w' h => ?_)
        | ((with_reducible show RUNU _ (storeVar _ ⟨_, _, _⟩ _) _ _); refine h.stV fun w' h => ?_))
      refine rAcked_ok h (.tail (.tail (.tail (.tail hA)))) hk1 (by omega) hb hT (fun hc w' h => ⟨_, _, _, _, _, _, _, _, rfl, ?_⟩) fun hb1 hb2 hb3 t g ht A' k' w' h hk' => ⟨_, _, _, _, _, _, _, _, rfl, ?_⟩
      · repeat' (first
          | ((with_reducible show RDI _ (loadVar _ (Addr.add _ _)) _ _ _); refine h.rdI _ ?_)
          | ((with_reducible show RDB _ (loadVar _ (Addr.add _ _)) _ _); refine h.rdB _ ?_)
          | ((with_reducible show RDP _ (loadVar _ (Addr.add _ _)) _ _); refine h.rdP _ ?_)
          | ((with_reducible show RDL _ (loadVar _ (Addr.add _ _)) _ _); refine h.rdL _ ?_)
          | ((with_reducible show RDT _ (loadVar _ (Addr.add _ _)) _ _); refine h.rdT _ ?_)
          | ((with_reducible show RUNU _ (storeVar _ (Addr.add _ _) _) _ _); refine h.st _ fun w' h => ?_)
          | ((with_reducible show RDI _ (loadVar _ ⟨_, _, _⟩) _ _ _); refine h.rdvI ?_)
          | ((with_reducible show RDB _ (loadVar _ ⟨_, _, _⟩) _ _); refine h.rdvB ?_)
          | ((with_reducible show RDP _ (loadVar _ ⟨_, _, _⟩) _ _); refine h.rdvP ?_)
          | ((with_reducible show RDL _ (loadVar _ ⟨_, _, _⟩) _ _); refine h.rdvL ?_)
          | ((with_reducible show RDT _ (loadVar _ ⟨_, _, _⟩) _ _); refine h.rdvT ?_)
          | ((with_reducible show RD _ (loadVar _ ⟨_, _, _⟩) _ _); refine h.rdG ?_; first | refine ⟨_, rfl, ?_⟩ | refine ⟨_, _, rfl, ?_⟩ | refine ⟨_, _, _, rfl, ?_⟩ | refine ⟨_, _, _, _, rfl, ?_⟩ | refine ⟨_, _, _, _, _, rfl, ?_⟩ | refine ⟨_, _, _, _, _, _, rfl, ?_⟩ | refine ⟨_, _, _, _, _, _, _, rfl, ?_⟩ | refine ⟨_, _, _, _, _, _, _, _, rfl, ?_⟩ | refine ⟨_, _, _, _, _, _, _, _, _, rfl, ?_⟩)
          | ((with_reducible show RUNU _ (storeVar _ ⟨_, _, _⟩ (.agg _)) _ _); refine h.stG fun w' h => ?_)
          | ((with_reducible show RUNU _ (storeVar _ ⟨_, _, _⟩ _) _ _); refine h.stV fun w' h => ?_))
        have hd := h.drew
        refine letb rfl ⟨fun w => St c w [blk p4 93 (ovs A C.length k base sz cl gn)], hd.to, ?_⟩
        first | refine St.rdsI _ ?_ | refine St.rdsB _ ?_ | refine St.rdsP _ ?_ | refine St.rdsL _ ?_ | (refine St.rdsG ?_; first | refine ⟨_, rfl, ?_⟩ | refine ⟨_, _, rfl, ?_⟩ | refine ⟨_, _, _, rfl, ?_⟩ | refine ⟨_, _, _, _, rfl, ?_⟩ | refine ⟨_, _, _, _, _, rfl, ?_⟩ | refine ⟨_, _, _, _, _, _, rfl, ?_⟩ | refine ⟨_, _, _, _, _, _, _, rfl, ?_⟩ | refine ⟨_, _, _, _, _, _, _, _, rfl, ?_⟩ | refine ⟨_, _, _, _, _, _, _, _, _, rfl, ?_⟩)
        refine oAcked_ok hd (.tail (.tail (.tail .head))) hT (fun _ w' h => ⟨_, rfl, fun w => St c w [blk p4 93 (ovs A C.length k base sz cl gn)], fun _ h => h, h.to, ?_⟩) fun a1 a2 a3 => absurd hc (by simp [a3]; omega)
        refine h.stG fun w' h => ?_
        refine ⟨fun w => St c w [blk p4 93 (ovs A C.length k base sz cl gn)], fun _ h => h, h.to, letb rfl ?_⟩
        repeat' (first
          | ((with_reducible show RDI _ (loadVar _ (Addr.add _ _)) _ _ _); refine h.rdI _ ?_)
          | ((with_reducible show RDB _ (loadVar _ (Addr.add _ _)) _ _); refine h.rdB _ ?_)
          | ((with_reducible show RDP _ (loadVar _ (Addr.add _ _)) _ _); refine h.rdP _ ?_)
          | ((with_reducible show RDL _ (loadVar _ (Addr.add _ _)) _ _); refine h.rdL _ ?_)
          | ((with_reducible show RDT _ (loadVar _ (Addr.add _ _)) _ _); refine h.rdT _ ?_)
          | ((with_reducible show RUNU _ (storeVar _ (Addr.add _ _) _) _ _); refine h.st _ fun w' h => ?_)
          | ((with_reducible show RDI _ (loadVar _ ⟨_, _, _⟩) _ _ _); refine h.rdvI ?_)
          | ((with_reducible show RDB _ (loadVar _ ⟨_, _, _⟩) _ _); refine h.rdvB ?_)
          | ((with_reducible show RDP _ (loadVar _ ⟨_, _, _⟩) _ _); refine h.rdvP ?_)
          | ((with_reducible show RDL _ (loadVar _ ⟨_, _, _⟩) _ _); refine h.rdvL ?_)
          | ((with_reducible show RDT _ (loadVar _ ⟨_, _, _⟩) _ _); refine h.rdvT ?_)
          | ((with_reducible show RD _ (loadVar _ ⟨_, _, _⟩) _ _); refine h.rdG ?_; first | refine ⟨_, rfl, ?_⟩ | refine ⟨_, _, rfl, ?_⟩ | refine ⟨_, _, _, rfl, ?_⟩ | refine ⟨_, _, _, _, rfl, ?_⟩ | refine ⟨_, _, _, _, _, rfl, ?_⟩ | refine ⟨_, _, _, _, _, _, rfl, ?_⟩ | refine ⟨_, _, _, _, _, _, _, rfl, ?_⟩ | refine ⟨_, _, _, _, _, _, _, _, rfl, ?_⟩ | refine ⟨_, _, _, _, _, _, _, _, _, rfl, ?_⟩)
          | ((with_reducible show RUNU _ (storeVar _ ⟨_, _, _⟩ (.agg _)) _ _); refine h.stG fun w' h => ?_)
          | ((with_reducible show RUNU _ (storeVar _ ⟨_, _, _⟩ _) _ _); refine h.stV fun w' h => ?_))
        exact hk A k _ C base cl gn ((h.drop.drop.drop.addRo (.tail hA) fun _ h => h)) hk1 hC hb
      · repeat' (first
          | ((with_reducible show RDI _ (loadVar _ (Addr.add _ _)) _ _ _); refine h.rdI _ ?_)
          | ((with_reducible show RDB _ (loadVar _ (Addr.add _ _)) _ _); refine h.rdB _ ?_)
          | ((with_reducible show RDP _ (loadVar _ (Addr.add _ _)) _ _); refine h.rdP _ ?_)
          | ((with_reducible show RDL _ (loadVar _ (Addr.add _ _)) _ _); refine h.rdL _ ?_)
          | ((with_reducible show RDT _ (loadVar _ (Addr.add _ _)) _ _); refine h.rdT _ ?_)
          | ((with_reducible show RUNU _ (storeVar _ (Addr.add _ _) _) _ _); refine h.st _ fun w' h => ?_)
          | ((with_reducible show RDI _ (loadVar _ ⟨_, _, _⟩) _ _ _); refine h.rdvI ?_)
          | ((with_reducible show RDB _ (loadVar _ ⟨_, _, _⟩) _ _); refine h.rdvB ?_)
          | ((with_reducible show RDP _ (loadVar _ ⟨_, _, _⟩) _ _); refine h.rdvP ?_)
          | ((with_reducible show RDL _ (loadVar _ ⟨_, _, _⟩) _ _); refine h.rdvL ?_)
          | ((with_reducible show RDT _ (loadVar _ ⟨_, _, _⟩) _ _); refine h.rdvT ?_)
          | ((with_reducible show RD _ (loadVar _ ⟨_, _, _⟩) _ _); refine h.rdG ?_; first | refine ⟨_, rfl, ?_⟩ | refine ⟨_, _, rfl, ?_⟩ | refine ⟨_, _, _, rfl, ?_⟩ | refine ⟨_, _, _, _, rfl, ?_⟩ | refine ⟨_, _, _, _, _, rfl, ?_⟩ | refine ⟨_, _, _, _, _, _, rfl, ?_⟩ | refine ⟨_, _, _, _, _, _, _, rfl, ?_⟩ | refine ⟨_, _, _, _, _, _, _, _, rfl, ?_⟩ | refine ⟨_, _, _, _, _, _, _, _, _, rfl, ?_⟩)
          | ((with_reducible show RUNU _ (storeVar _ ⟨_, _, _⟩ (.agg _)) _ _); refine h.stG fun w' h => ?_)
          | ((with_reducible show RUNU _ (storeVar _ ⟨_, _, _⟩ _) _ _); refine h.stV fun w' h => ?_))
        have hd := h.drew
        refine letb rfl ⟨fun w => St c w [blk p4 93 (ovs A' (C.drop (t - base)).length k' t sz cl g)], hd.to, ?_⟩
        first | refine St.rdsI _ ?_ | refine St.rdsB _ ?_ | refine St.rdsP _ ?_ | refine St.rdsL _ ?_ | (refine St.rdsG ?_; first | refine ⟨_, rfl, ?_⟩ | refine ⟨_, _, rfl, ?_⟩ | refine ⟨_, _, _, rfl, ?_⟩ | refine ⟨_, _, _, _, rfl, ?_⟩ | refine ⟨_, _, _, _, _, rfl, ?_⟩ | refine ⟨_, _, _, _, _, _, rfl, ?_⟩ | refine ⟨_, _, _, _, _, _, _, rfl, ?_⟩ | refine ⟨_, _, _, _, _, _, _, _, rfl, ?_⟩ | refine ⟨_, _, _, _, _, _, _, _, _, rfl, ?_⟩)
        refine oAcked_ok hd (.tail (.tail (.tail (.tail .head)))) hT (fun hc => absurd hc (by simp [hb3]; omega)) fun a1 a2 a3 t' g' ht' w' h => ⟨_, rfl, fun w => St c w [blk p4 93 (ovs A' (C.drop (t - base)).length k' t sz cl g)], fun _ h => h, h.to, ?_⟩
        have e : t' = t ∧ g' = g := by
          rcases ht with ⟨q1, q2, q3, q4⟩ | ⟨q1, q2, q3⟩ <;> rcases ht' with ⟨r1, r2, r3, r4⟩ | ⟨r1, r2, r3⟩
          · exact ⟨by omega, by rw [r4, q4]⟩
          · exact absurd ⟨q1, q2⟩ r1
          · exact absurd ⟨r1, r2⟩ q1
          · exact ⟨by omega, by rw [r3, q3]⟩
        obtain ⟨rfl, rfl⟩ := e
        have htb : t' ≤ base + C.length := by
          unfold topN at ht hb2
          rcases ht with ⟨q1, q2, q3, q4⟩ | ⟨q1, q2, q3⟩
          · subst q2; simp at q1; omega
          · cases cl with
            | true => simp at q1 hb2; omega
            | false => simp at hb2; omega
        refine h.stG fun w' h => ?_
        refine ⟨fun w => St c w [blk p4 93 (ovs A' (C.drop (t' - base)).length k' t' sz cl g')], fun _ h => h, h.to, letb rfl ?_⟩
        repeat' (first
          | ((with_reducible show RDI _ (loadVar _ (Addr.add _ _)) _ _ _); refine h.rdI _ ?_)
          | ((with_reducible show RDB _ (loadVar _ (Addr.add _ _)) _ _); refine h.rdB _ ?_)
          | ((with_reducible show RDP _ (loadVar _ (Addr.add _ _)) _ _); refine h.rdP _ ?_)
          | ((with_reducible show RDL _ (loadVar _ (Addr.add _ _)) _ _); refine h.rdL _ ?_)
          | ((with_reducible show RDT _ (loadVar _ (Addr.add _ _)) _ _); refine h.rdT _ ?_)
          | ((with_reducible show RUNU _ (storeVar _ (Addr.add _ _) _) _ _); refine h.st _ fun w' h => ?_)
          | ((with_reducible show RDI _ (loadVar _ ⟨_, _, _⟩) _ _ _); refine h.rdvI ?_)
          | ((with_reducible show RDB _ (loadVar _ ⟨_, _, _⟩) _ _); refine h.rdvB ?_)
          | ((with_reducible show RDP _ (loadVar _ ⟨_, _, _⟩) _ _); refine h.rdvP ?_)
          | ((with_reducible show RDL _ (loadVar _ ⟨_, _, _⟩) _ _); refine h.rdvL ?_)
          | ((with_reducible show RDT _ (loadVar _ ⟨_, _, _⟩) _ _); refine h.rdvT ?_)
          | ((with_reducible show RD _ (loadVar _ ⟨_, _, _⟩) _ _); refine h.rdG ?_; first | refine ⟨_, rfl, ?_⟩ | refine ⟨_, _, rfl, ?_⟩ | refine ⟨_, _, _, rfl, ?_⟩ | refine ⟨_, _, _, _, rfl, ?_⟩ | refine ⟨_, _, _, _, _, rfl, ?_⟩ | refine ⟨_, _, _, _, _, _, rfl, ?_⟩ | refine ⟨_, _, _, _, _, _, _, rfl, ?_⟩ | refine ⟨_, _, _, _, _, _, _, _, rfl, ?_⟩ | refine ⟨_, _, _, _, _, _, _, _, _, rfl, ?_⟩)
          | ((with_reducible show RUNU _ (storeVar _ ⟨_, _, _⟩ (.agg _)) _ _); refine h.stG fun w' h => ?_)
          | ((with_reducible show RUNU _ (storeVar _ ⟨_, _, _⟩ _) _ _); refine h.stV fun w' h => ?_))
        have h2 : St c _ (rows A' (bvs (C.drop (t' - base))) :: outA o p D sz t' cl g' (C.drop (t' - base)) :: R) := h.to
        exact hk A' k' _ _ t' cl g' h2 hk' (by rw [List.length_drop]; omega) (by rw [List.length_drop]; omega)
    refine letb rfl (ifb (fun _ => ?_) fun _ => letb rfl (ifb (fun _ => ?_) fun _ => h))
    · refine oClose_ok h (.tail (.tail (.tail .head))) fun w' h => ⟨rfl, ?_⟩
      repeat' (first
        | ((with_reducible show RDI _ (loadVar _ (Addr.add _ _)) _ _ _); refine h.rdI _ ?_)
        | ((with_reducible show RDB _ (loadVar _ (Addr.add _ _)) _ _); refine h.rdB _ ?_)
        | ((with_reducible show RDP _ (loadVar _ (Addr.add _ _)) _ _); refine h.rdP _ ?_)
        | ((with_reducible show RDL _ (loadVar _ (Addr.add _ _)) _ _); refine h.rdL _ ?_)
        | ((with_reducible show RDT _ (loadVar _ (Addr.add _ _)) _ _); refine h.rdT _ ?_)
        | ((with_reducible show RUNU _ (storeVar _ (Addr.add _ _) _) _ _); refine h.st _ fun w' h => ?_)
        | ((with_reducible show RDI _ (loadVar _ ⟨_, _, _⟩) _ _ _); refine h.rdvI ?_)
        | ((with_reducible show RDB _ (loadVar _ ⟨_, _, _⟩) _ _); refine h.rdvB ?_)
        | ((with_reducible show RDP _ (loadVar _ ⟨_, _, _⟩) _ _); refine h.rdvP ?_)
        | ((with_reducible show RDL _ (loadVar _ ⟨_, _, _⟩) _ _); refine h.rdvL ?_)
        | ((with_reducible show RDT _ (loadVar _ ⟨_, _, _⟩) _ _); refine h.rdvT ?_)
        | ((with_reducible show RD _ (loadVar _ ⟨_, _, _⟩) _ _); refine h.rdG ?_; first | refine ⟨_, rfl, ?_⟩ | refine ⟨_, _, rfl, ?_⟩ | refine ⟨_, _, _, rfl, ?_⟩ | refine ⟨_, _, _, _, rfl, ?_⟩ | refine ⟨_, _, _, _, _, rfl, ?_⟩ | refine ⟨_, _, _, _, _, _, rfl, ?_⟩ | refine ⟨_, _, _, _, _, _, _, rfl, ?_⟩ | refine ⟨_, _, _, _, _, _, _, _, rfl, ?_⟩ | refine ⟨_, _, _, _, _, _, _, _, _, rfl, ?_⟩)
        | ((with_reducible show RUNU _ (storeVar _ ⟨_, _, _⟩ (.agg _)) _ _); refine h.stG fun w' h => ?_)
        | ((with_reducible show RUNU _ (storeVar _ ⟨_, _, _⟩ _) _ _); refine h.stV fun w' h => ?_))
      have h2 : St c _ (outA o p D sz base true gn C :: R) := h.to
      exact hk A k _ C base true gn (h2.addRo (.tail hA) fun _ h => h) hk1 hC hb
    · have hd := h.drew
      refine ⟨fun w => St c w (blk p4 93 (ovs A C.length k base sz cl gn) :: blk p5 99 (opc x) :: outA o p D sz base cl gn C :: R), hd.to, ?_⟩
      first | refine St.rdsI _ ?_ | refine St.rdsB _ ?_ | refine St.rdsP _ ?_ | refine St.rdsL _ ?_ | (refine St.rdsG ?_; first | refine ⟨_, rfl, ?_⟩ | refine ⟨_, _, rfl, ?_⟩ | refine ⟨_, _, _, rfl, ?_⟩ | refine ⟨_, _, _, _, rfl, ?_⟩ | refine ⟨_, _, _, _, _, rfl, ?_⟩ | refine ⟨_, _, _, _, _, _, rfl, ?_⟩ | refine ⟨_, _, _, _, _, _, _, rfl, ?_⟩ | refine ⟨_, _, _, _, _, _, _, _, rfl, ?_⟩ | refine ⟨_, _, _, _, _, _, _, _, _, rfl, ?_⟩)
      first | refine St.rdsI _ ?_ | refine St.rdsB _ ?_ | refine St.rdsP _ ?_ | refine St.rdsL _ ?_ | (refine St.rdsG ?_; first | refine ⟨_, rfl, ?_⟩ | refine ⟨_, _, rfl, ?_⟩ | refine ⟨_, _, _, rfl, ?_⟩ | refine ⟨_, _, _, _, rfl, ?_⟩ | refine ⟨_, _, _, _, _, rfl, ?_⟩ | refine ⟨_, _, _, _, _, _, rfl, ?_⟩ | refine ⟨_, _, _, _, _, _, _, rfl, ?_⟩ | refine ⟨_, _, _, _, _, _, _, _, rfl, ?_⟩ | refine ⟨_, _, _, _, _, _, _, _, _, rfl, ?_⟩)
      first | refine St.rdsI _ ?_ | refine St.rdsB _ ?_ | refine St.rdsP _ ?_ | refine St.rdsL _ ?_ | (refine St.rdsG ?_; first | refine ⟨_, rfl, ?_⟩ | refine ⟨_, _, rfl, ?_⟩ | refine ⟨_, _, _, rfl, ?_⟩ | refine ⟨_, _, _, _, rfl, ?_⟩ | refine ⟨_, _, _, _, _, rfl, ?_⟩ | refine ⟨_, _, _, _, _, _, rfl, ?_⟩ | refine ⟨_, _, _, _, _, _, _, rfl, ?_⟩ | refine ⟨_, _, _, _, _, _, _, _, rfl, ?_⟩ | refine ⟨_, _, _, _, _, _, _, _, _, rfl, ?_⟩)
      first | refine St.rdsI _ ?_ | refine St.rdsB _ ?_ | refine St.rdsP _ ?_ | refine St.rdsL _ ?_ | (refine St.rdsG ?_; first | refine ⟨_, rfl, ?_⟩ | refine ⟨_, _, rfl, ?_⟩ | refine ⟨_, _, _, rfl, ?_⟩ | refine ⟨_, _, _, _, rfl, ?_⟩ | refine ⟨_, _, _, _, _, rfl, ?_⟩ | refine ⟨_, _, _, _, _, _, rfl, ?_⟩ | refine ⟨_, _, _, _, _, _, _, rfl, ?_⟩ | refine ⟨_, _, _, _, _, _, _, _, rfl, ?_⟩ | refine ⟨_, _, _, _, _, _, _, _, _, rfl, ?_⟩)
      refine oBytes_ok hd (.tail (.tail (.tail .head))) hT fun w' A1 k1 xs e1 h => ⟨_, _, _, rfl, ?_⟩
      refine ⟨fun w => St c w (rows A1 (bvs xs) :: blk p4 93 (ovs A C.length k base sz cl gn) :: blk p5 99 (opc x) :: outA o p D sz base cl gn C :: R), fun _ h => St.drop h, h.to, ?_⟩
      refine St.bytesToStringS (RdIn.rows .head) rfl ?_ (hs := undBytes2)
      refine rBytes_ok h (.tail (.tail (.tail (.tail (.tail hA))))) (by omega) hb hT fun A2 k2 w' xs' e2 h => ⟨_, _, _, rfl, ?_⟩
      refine ⟨fun w => St c w (rows A2 (bvs xs') :: rows A1 (bvs xs) :: blk p4 93 (ovs A C.length k base sz cl gn) :: blk p5 99 (opc x) :: outA o p D sz base cl gn C :: R), fun _ h => St.drop h, h.to, ?_⟩
      refine St.bytesToStringS (RdIn.rows .head) rfl ?_ (hs := undBytes2)
      refine h.stG fun w' h => ?_
      refine ⟨fun w => St c w (rows A2 (bvs xs') :: rows A1 (bvs xs) :: blk p4 93 (ovs A C.length k base sz cl gn) :: blk p5 99 (opc x) :: outA o p D sz base cl gn C :: R), fun _ h => h, h.to, ?_⟩
      refine letb (y := true) (strOf_eq (by rw [e1, e2])) ?_
      repeat' (first
        | ((with_reducible show RDI _ (loadVar _ (Addr.add _ _)) _ _ _); refine h.rdI _ ?_)
        | ((with_reducible show RDB _ (loadVar _ (Addr.add _ _)) _ _); refine h.rdB _ ?_)
        | ((with_reducible show RDP _ (loadVar _ (Addr.add _ _)) _ _); refine h.rdP _ ?_)
        | ((with_reducible show RDL _ (loadVar _ (Addr.add _ _)) _ _); refine h.rdL _ ?_)
        | ((with_reducible show RDT _ (loadVar _ (Addr.add _ _)) _ _); refine h.rdT _ ?_)
        | ((with_reducible show RUNU _ (storeVar _ (Addr.add _ _) _) _ _); refine h.st _ fun w' h => ?_)
        | ((with_reducible show RDI _ (loadVar _ ⟨_, _, _⟩) _ _ _); refine h.rdvI ?_)
        | ((with_reducible show RDB _ (loadVar _ ⟨_, _, _⟩) _ _); refine h.rdvB ?_)
        | ((with_reducible show RDP _ (loadVar _ ⟨_, _, _⟩) _ _); refine h.rdvP ?_)
        | ((with_reducible show RDL _ (loadVar _ ⟨_, _, _⟩) _ _); refine h.rdvL ?_)
        | ((with_reducible show RDT _ (loadVar _ ⟨_, _, _⟩) _ _); refine h.rdvT ?_)
        | ((with_reducible show RD _ (loadVar _ ⟨_, _, _⟩) _ _); refine h.rdG ?_; first | refine ⟨_, rfl, ?_⟩ | refine ⟨_, _, rfl, ?_⟩ | refine ⟨_, _, _, rfl, ?_⟩ | refine ⟨_, _, _, _, rfl, ?_⟩ | refine ⟨_, _, _, _, _, rfl, ?_⟩ | refine ⟨_, _, _, _, _, _, rfl, ?_⟩ | refine ⟨_, _, _, _, _, _, _, rfl, ?_⟩ | refine ⟨_, _, _, _, _, _, _, _, rfl, ?_⟩ | refine ⟨_, _, _, _, _, _, _, _, _, rfl, ?_⟩)
        | ((with_reducible show RUNU _ (storeVar _ ⟨_, _, _⟩ (.agg _)) _ _); refine h.stG fun w' h => ?_)
        | ((with_reducible show RUNU _ (storeVar _ ⟨_, _, _⟩ _) _ _); refine h.stV fun w' h => ?_))
      have h4 : St c _ (outA o p D sz base cl gn C :: R) := h.to
      exact hk A k _ C base cl gn (h4.addRo (.tail hA) fun _ h => h) hk1 hC hb
  · rintro w' h
    repeat' (first
      | ((with_reducible show RDI _ (loadVar _ (Addr.add _ _)) _ _ _); refine h.rdI _ ?_)
      | ((with_reducible show RDB _ (loadVar _ (Addr.add _ _)) _ _); refine h.rdB _ ?_)
      | ((with_reducible show RDP _ (loadVar _ (Addr.add _ _)) _ _); refine h.rdP _ ?_)
      | ((with_reducible show RDL _ (loadVar _ (Addr.add _ _)) _ _); refine h.rdL _ ?_)
      | ((with_reducible show RDT _ (loadVar _ (Addr.add _ _)) _ _); refine h.rdT _ ?_)
      | ((with_reducible show RUNU _ (storeVar _ (Addr.add _ _) _) _ _); refine h.st _ fun w' h => ?_)
      | ((with_reducible show RDI _ (loadVar _ ⟨_, _, _⟩) _ _ _); refine h.rdvI ?_)
      | ((with_reducible show RDB _ (loadVar _ ⟨_, _, _⟩) _ _); refine h.rdvB ?_)
      | ((with_reducible show RDP _ (loadVar _ ⟨_, _, _⟩) _ _); refine h.rdvP ?_)
      | ((with_reducible show RDL _ (loadVar _ ⟨_, _, _⟩) _ _); refine h.rdvL ?_)
      | ((with_reducible show RDT _ (loadVar _ ⟨_, _, _⟩) _ _); refine h.rdvT ?_)
      | ((with_reducible show RD _ (loadVar _ ⟨_, _, _⟩) _ _); refine h.rdG ?_; first | refine ⟨_, rfl, ?_⟩ | refine ⟨_, _, rfl, ?_⟩ | refine ⟨_, _, _, rfl, ?_⟩ | refine ⟨_, _, _, _, rfl, ?_⟩ | refine ⟨_, _, _, _, _, rfl, ?_⟩ | refine ⟨_, _, _, _, _, _, rfl, ?_⟩ | refine ⟨_, _, _, _, _, _, _, rfl, ?_⟩ | refine ⟨_, _, _, _, _, _, _, _, rfl, ?_⟩ | refine ⟨_, _, _, _, _, _, _, _, _, rfl, ?_⟩)
      | ((with_reducible show RUNU _ (storeVar _ ⟨_, _, _⟩ (.agg _)) _ _); refine h.stG fun w' h => ?_)
      | ((with_reducible show RUNU _ (storeVar _ ⟨_, _, _⟩ _) _ _); refine h.stV fun w' h => ?_))
    refine rPut_ok h (.tail (.tail (.tail (.tail hA)))) hB.more.more.more.more hx hk1 hs hC (by omega) hb fun A' k' w' h hk' => ⟨_, _, _, _, _, _, _, _, _, rfl, ?_⟩
    repeat' (first
      | ((with_reducible show RDI _ (loadVar _ (Addr.add _ _)) _ _ _); refine h.rdI _ ?_)
      | ((with_reducible show RDB _ (loadVar _ (Addr.add _ _)) _ _); refine h.rdB _ ?_)
      | ((with_reducible show RDP _ (loadVar _ (Addr.add _ _)) _ _); refine h.rdP _ ?_)
      | ((with_reducible show RDL _ (loadVar _ (Addr.add _ _)) _ _); refine h.rdL _ ?_)
      | ((with_reducible show RDT _ (loadVar _ (Addr.add _ _)) _ _); refine h.rdT _ ?_)
      | ((with_reducible show RUNU _ (storeVar _ (Addr.add _ _) _) _ _); refine h.st _ fun w' h => ?_)
      | ((with_reducible show RDI _ (loadVar _ ⟨_, _, _⟩) _ _ _); refine h.rdvI ?_)
      | ((with_reducible show RDB _ (loadVar _ ⟨_, _, _⟩) _ _); refine h.rdvB ?_)
      | ((with_reducible show RDP _ (loadVar _ ⟨_, _, _⟩) _ _); refine h.rdvP ?_)
      | ((with_reducible show RDL _ (loadVar _ ⟨_, _, _⟩) _ _); refine h.rdvL ?_)
      | ((with_reducible show RDT _ (loadVar _ ⟨_, _, _⟩) _ _); refine h.rdvT ?_)
      | ((with_reducible show RD _ (loadVar _ ⟨_, _, _⟩) _ _); refine h.rdG ?_; first | refine ⟨_, rfl, ?_⟩ | refine ⟨_, _, rfl, ?_⟩ | refine ⟨_, _, _, rfl, ?_⟩ | refine ⟨_, _, _, _, rfl, ?_⟩ | refine ⟨_, _, _, _, _, rfl, ?_⟩ | refine ⟨_, _, _, _, _, _, rfl, ?_⟩ | refine ⟨_, _, _, _, _, _, _, rfl, ?_⟩ | refine ⟨_, _, _, _, _, _, _, _, rfl, ?_⟩ | refine ⟨_, _, _, _, _, _, _, _, _, rfl, ?_⟩)
      | ((with_reducible show RUNU _ (storeVar _ ⟨_, _, _⟩ (.agg _)) _ _); refine h.stG fun w' h => ?_)
      | ((with_reducible show RUNU _ (storeVar _ ⟨_, _, _⟩ _) _ _); refine h.stV fun w' h => ?_))
    refine leti rfl (leti rfl ?_)
    repeat' (first
      | ((with_reducible show RDI _ (loadVar _ (Addr.add _ _)) _ _ _); refine h.rdI _ ?_)
      | ((with_reducible show RDB _ (loadVar _ (Addr.add _ _)) _ _); refine h.rdB _ ?_)
      | ((with_reducible show RDP _ (loadVar _ (Addr.add _ _)) _ _); refine h.rdP _ ?_)
      | ((with_reducible show RDL _ (loadVar _ (Addr.add _ _)) _ _); refine h.rdL _ ?_)
      | ((with_reducible show RDT _ (loadVar _ (Addr.add _ _)) _ _); refine h.rdT _ ?_)
      | ((with_reducible show RUNU _ (storeVar _ (Addr.add _ _) _) _ _); refine h.st _ fun w' h => ?_)
      | ((with_reducible show RDI _ (loadVar _ ⟨_, _, _⟩) _ _ _); refine h.rdvI ?_)
      | ((with_reducible show RDB _ (loadVar _ ⟨_, _, _⟩) _ _); refine h.rdvB ?_)
      | ((with_reducible show RDP _ (loadVar _ ⟨_, _, _⟩) _ _); refine h.rdvP ?_)
      | ((with_reducible show RDL _ (loadVar _ ⟨_, _, _⟩) _ _); refine h.rdvL ?_)
      | ((with_reducible show RDT _ (loadVar _ ⟨_, _, _⟩) _ _); refine h.rdvT ?_)
      | ((with_reducible show RD _ (loadVar _ ⟨_, _, _⟩) _ _); refine h.rdG ?_; first | refine ⟨_, rfl, ?_⟩ | refine ⟨_, _, rfl, ?_⟩ | refine ⟨_, _, _, rfl, ?_⟩ | refine ⟨_, _, _, _, rfl, ?_⟩ | refine ⟨_, _, _, _, _, rfl, ?_⟩ | refine ⟨_, _, _, _, _, _, rfl, ?_⟩ | refine ⟨_, _, _, _, _, _, _, rfl, ?_⟩ | refine ⟨_, _, _, _, _, _, _, _, rfl, ?_⟩ | refine ⟨_, _, _, _, _, _, _, _, _, rfl, ?_⟩)
      | ((with_reducible show RUNU _ (storeVar _ ⟨_, _, _⟩ (.agg _)) _ _); refine h.stG fun w' h => ?_)
      | ((with_reducible show RUNU _ (storeVar _ ⟨_, _, _⟩ _) _ _); refine h.stV fun w' h => ?_))
    have hpn : (putN C.length sz base cl x.xs.length).1 ≤ x.xs.length ∧ (putN C.length sz base cl x.xs.length).1 ≤ sz - C.length ∧ base + C.length + (putN C.length sz base cl x.xs.length).1 ≤ Strm := by
      unfold putN
      split
      · exact ⟨by simp, by simp, by simpa using hb⟩
      · split
        · exact ⟨by simp, by simp, by simpa using hb⟩
        · split
          · exact ⟨by simp, by simp, by simpa using hb⟩
          · split <;> simp <;> omega
    have hl2 : (C ++ x.xs.take (putN C.length sz base cl x.xs.length).1).length = C.length + (putN C.length sz base cl x.xs.length).1 := by rw [List.length_append, List.length_take]; omega
    generalize hC' : C ++ x.xs.take (putN C.length sz base cl x.xs.length).1 = C' at *
    have h3 : St c _ (outA o p D sz base cl gn C :: blk p4 93 (ovs A' C'.length k' base sz cl gn) :: rows A' (bvs C') :: blk p6 93 (ovs none 0 0 0 0 false false) :: R) := h.to
    refine oPut_ok h (.tail (.tail (.tail (.tail .head)))) (xs := x.xs) hB.more.more.more.more hx (by omega) fun w' h => ⟨_, _, rfl, leti rfl (leti rfl ?_)⟩
    rw [hC'] at h
    repeat' (first
      | ((with_reducible show RDI _ (loadVar _ (Addr.add _ _)) _ _ _); refine h.rdI _ ?_)
      | ((with_reducible show RDB _ (loadVar _ (Addr.add _ _)) _ _); refine h.rdB _ ?_)
      | ((with_reducible show RDP _ (loadVar _ (Addr.add _ _)) _ _); refine h.rdP _ ?_)
      | ((with_reducible show RDL _ (loadVar _ (Addr.add _ _)) _ _); refine h.rdL _ ?_)
      | ((with_reducible show RDT _ (loadVar _ (Addr.add _ _)) _ _); refine h.rdT _ ?_)
      | ((with_reducible show RUNU _ (storeVar _ (Addr.add _ _) _) _ _); refine h.st _ fun w' h => ?_)
      | ((with_reducible show RDI _ (loadVar _ ⟨_, _, _⟩) _ _ _); refine h.rdvI ?_)
      | ((with_reducible show RDB _ (loadVar _ ⟨_, _, _⟩) _ _); refine h.rdvB ?_)
      | ((with_reducible show RDP _ (loadVar _ ⟨_, _, _⟩) _ _); refine h.rdvP ?_)
      | ((with_reducible show RDL _ (loadVar _ ⟨_, _, _⟩) _ _); refine h.rdvL ?_)
      | ((with_reducible show RDT _ (loadVar _ ⟨_, _, _⟩) _ _); refine h.rdvT ?_)
      | ((with_reducible show RD _ (loadVar _ ⟨_, _, _⟩) _ _); refine h.rdG ?_; first | refine ⟨_, rfl, ?_⟩ | refine ⟨_, _, rfl, ?_⟩ | refine ⟨_, _, _, rfl, ?_⟩ | refine ⟨_, _, _, _, rfl, ?_⟩ | refine ⟨_, _, _, _, _, rfl, ?_⟩ | refine ⟨_, _, _, _, _, _, rfl, ?_⟩ | refine ⟨_, _, _, _, _, _, _, rfl, ?_⟩ | refine ⟨_, _, _, _, _, _, _, _, rfl, ?_⟩ | refine ⟨_, _, _, _, _, _, _, _, _, rfl, ?_⟩)
      | ((with_reducible show RUNU _ (storeVar _ ⟨_, _, _⟩ (.agg _)) _ _); refine h.stG fun w' h => ?_)
      | ((with_reducible show RUNU _ (storeVar _ ⟨_, _, _⟩ _) _ _); refine h.stV fun w' h => ?_))
    refine ift (by simp) ?_
    repeat' (first
      | ((with_reducible show RDI _ (loadVar _ (Addr.add _ _)) _ _ _); refine h.rdI _ ?_)
      | ((with_reducible show RDB _ (loadVar _ (Addr.add _ _)) _ _); refine h.rdB _ ?_)
      | ((with_reducible show RDP _ (loadVar _ (Addr.add _ _)) _ _); refine h.rdP _ ?_)
      | ((with_reducible show RDL _ (loadVar _ (Addr.add _ _)) _ _); refine h.rdL _ ?_)
      | ((with_reducible show RDT _ (loadVar _ (Addr.add _ _)) _ _); refine h.rdT _ ?_)
      | ((with_reducible show RUNU _ (storeVar _ (Addr.add _ _) _) _ _); refine h.st _ fun w' h => ?_)
      | ((with_reducible show RDI _ (loadVar _ ⟨_, _, _⟩) _ _ _); refine h.rdvI ?_)
      | ((with_reducible show RDB _ (loadVar _ ⟨_, _, _⟩) _ _); refine h.rdvB ?_)
      | ((with_reducible show RDP _ (loadVar _ ⟨_, _, _⟩) _ _); refine h.rdvP ?_)
      | ((with_reducible show RDL _ (loadVar _ ⟨_, _, _⟩) _ _); refine h.rdvL ?_)
      | ((with_reducible show RDT _ (loadVar _ ⟨_, _, _⟩) _ _); refine h.rdvT ?_)
      | ((with_reducible show RD _ (loadVar _ ⟨_, _, _⟩) _ _); refine h.rdG ?_; first | refine ⟨_, rfl, ?_⟩ | refine ⟨_, _, rfl, ?_⟩ | refine ⟨_, _, _, rfl, ?_⟩ | refine ⟨_, _, _, _, rfl, ?_⟩ | refine ⟨_, _, _, _, _, rfl, ?_⟩ | refine ⟨_, _, _, _, _, _, rfl, ?_⟩ | refine ⟨_, _, _, _, _, _, _, rfl, ?_⟩ | refine ⟨_, _, _, _, _, _, _, _, rfl, ?_⟩ | refine ⟨_, _, _, _, _, _, _, _, _, rfl, ?_⟩)
      | ((with_reducible show RUNU _ (storeVar _ ⟨_, _, _⟩ (.agg _)) _ _); refine h.stG fun w' h => ?_)
      | ((with_reducible show RUNU _ (storeVar _ ⟨_, _, _⟩ _) _ _); refine h.stV fun w' h => ?_))
    refine letb (y := true) (by simp) ?_
    repeat' (first
      | ((with_reducible show RDI _ (loadVar _ (Addr.add _ _)) _ _ _); refine h.rdI _ ?_)
      | ((with_reducible show RDB _ (loadVar _ (Addr.add _ _)) _ _); refine h.rdB _ ?_)
      | ((with_reducible show RDP _ (loadVar _ (Addr.add _ _)) _ _); refine h.rdP _ ?_)
      | ((with_reducible show RDL _ (loadVar _ (Addr.add _ _)) _ _); refine h.rdL _ ?_)
      | ((with_reducible show RDT _ (loadVar _ (Addr.add _ _)) _ _); refine h.rdT _ ?_)
      | ((with_reducible show RUNU _ (storeVar _ (Addr.add _ _) _) _ _); refine h.st _ fun w' h => ?_)
      | ((with_reducible show RDI _ (loadVar _ ⟨_, _, _⟩) _ _ _); refine h.rdvI ?_)
      | ((with_reducible show RDB _ (loadVar _ ⟨_, _, _⟩) _ _); refine h.rdvB ?_)
      | ((with_reducible show RDP _ (loadVar _ ⟨_, _, _⟩) _ _); refine h.rdvP ?_)
      | ((with_reducible show RDL _ (loadVar _ ⟨_, _, _⟩) _ _); refine h.rdvL ?_)
      | ((with_reducible show RDT _ (loadVar _ ⟨_, _, _⟩) _ _); refine h.rdvT ?_)
      | ((with_reducible show RD _ (loadVar _ ⟨_, _, _⟩) _ _); refine h.rdG ?_; first | refine ⟨_, rfl, ?_⟩ | refine ⟨_, _, rfl, ?_⟩ | refine ⟨_, _, _, rfl, ?_⟩ | refine ⟨_, _, _, _, rfl, ?_⟩ | refine ⟨_, _, _, _, _, rfl, ?_⟩ | refine ⟨_, _, _, _, _, _, rfl, ?_⟩ | refine ⟨_, _, _, _, _, _, _, rfl, ?_⟩ | refine ⟨_, _, _, _, _, _, _, _, rfl, ?_⟩ | refine ⟨_, _, _, _, _, _, _, _, _, rfl, ?_⟩)
      | ((with_reducible show RUNU _ (storeVar _ ⟨_, _, _⟩ (.agg _)) _ _); refine h.stG fun w' h => ?_)
      | ((with_reducible show RUNU _ (storeVar _ ⟨_, _, _⟩ _) _ _); refine h.stV fun w' h => ?_))
    have h4 : St c _ (rows A' (bvs C') :: outA o p D sz base cl gn C' :: R) := h.to
    exact hk A' k' _ C' base cl gn h4 hk' (by omega) (by omega)

/-- What is asked for: the calls, and their bytes. -/
def OpsIn (L : List SA) (l : Option Addr) (n : Nat) : Prop := ∃ Y : List OpO, Y.length = n ∧ RdIn L l (Y.flatMap opc) ∧ ∀ y ∈ Y, RdIn L y.B (bvs y.xs) ∧ y.xs.length ≤ y.Bk ∧ y.to < 18446744073709551616
theorem great_ok {c : Ctx} {w : World} {L : List SA} (h : St c w L) {l : Option Addr} {Y : List OpO} {k : Nat} (hl : RdIn L l (Y.flatMap opc)) {Q : Value → World → Prop} (hno : Q (.bool true) w) (hk : Y.length ≤ 60 → (∀ y ∈ Y, y.xs.length ≤ 300) → Q (.bool false) w) :
    CALL PG 56 [.slice l Y.length k] w Q := by
  refine call56 ?_
  unfold N56
  refine ifd (fun _ => hno) fun h1 => ?_
  refine ⟨fun m i w' => ∃ j : Nat, j + m = Y.length ∧ i = (j : Int) ∧ w' = w ∧ ∀ y ∈ Y.take j, y.xs.length ≤ 300, ⟨Y.length, 0, by omega, rfl, rfl, by simp⟩, ?_⟩
  rintro m _ w' ⟨j, hj, rfl, rfl, hY⟩
  refine ifd (fun h2 => ?_) fun h2 => hk (by omega) (by rwa [List.take_of_length_le (by omega)] at hY)
  obtain ⟨y, hy⟩ := ex_get (L := Y) (j := j) (by omega)
  refine h.ix (z := 3) hl hy fun a ha => ?_
  subst ha
  refine h.rdEL 3 hl hy ?_
  refine ifd (fun _ => hno) fun h3 => ?_
  refine leti (y := ((j + 1 : Nat) : Int)) (wrap_i64 (by omega) (by omega)) ⟨m - 1, by omega, j + 1, by omega, rfl, rfl, fun z hz => ?_⟩
  rw [take_snoc' hy] at hz
  simp only [List.mem_append, List.mem_singleton] at hz
  rcases hz with hz | rfl
  · exact hY z hz
  · omega

theorem oAlive_ok {c : Ctx} {w : World} {L : List SA} (h : St c w L) {Q : Value → World → Prop} (hk : ∀ w', St c w' L → Q (.bool true) w') : CALL PG 46 [] w Q := ol_alive fun w' k => hk w' (h.keep k)
theorem oplays_ok {c : Ctx} {w : World} {R : List SA} (h : St c w R) {l : Option Addr} {Y : List OpO} {lk base : Nat} {size : Int} (hl : RdIn R l (Y.flatMap opc)) (hY : ∀ y ∈ Y, RdIn R y.B (bvs y.xs) ∧ y.xs.length ≤ y.Bk ∧ y.to < 18446744073709551616) (hbs : base < 18446744073709551616)
    {Q : Value → World → Prop} (hk : ∀ w', St c w' R → Q (.bool true) w') : CALL PG 11 [.int .i64 size, .int .u64 (base : Int), .slice l Y.length lk] w Q := by
  refine call11 ?_
  unfold N11
  refine great_ok h hl ⟨_, rfl, ift rfl (hk _ h)⟩ fun hn hx300 => ⟨_, rfl, iff_ rfl ?_⟩
  refine oAt_ok h hbs (fun w' h hb => ⟨_, _, rfl, leti rfl ?_⟩) (fun w' h hb1 hb2 => ⟨_, _, rfl, leti rfl ?_⟩) fun o p D sz w' hsz h hb h1 h2 => ⟨_, _, rfl, leti rfl ?_⟩
  · refine rAt_ok h (fun w' h _ => ⟨_, _, _, _, _, _, _, _, rfl, ?_⟩) (fun w' h hc => absurd hb (by omega)) fun w' h hc => absurd hb (by omega)
    refine h.allocG tiO17 fun p9 w' h => ?_
    repeat' (first
      | ((with_reducible show RDI _ (loadVar _ (Addr.add _ _)) _ _ _); refine h.rdI _ ?_)
      | ((with_reducible show RDB _ (loadVar _ (Addr.add _ _)) _ _); refine h.rdB _ ?_)
      | ((with_reducible show RDP _ (loadVar _ (Addr.add _ _)) _ _); refine h.rdP _ ?_)
      | ((with_reducible show RDL _ (loadVar _ (Addr.add _ _)) _ _); refine h.rdL _ ?_)
      | ((with_reducible show RDT _ (loadVar _ (Addr.add _ _)) _ _); refine h.rdT _ ?_)
      | ((with_reducible show RUNU _ (storeVar _ (Addr.add _ _) _) _ _); refine h.st _ fun w' h => ?_)
      | ((with_reducible show RDI _ (loadVar _ ⟨_, _, _⟩) _ _ _); refine h.rdvI ?_)
      | ((with_reducible show RDB _ (loadVar _ ⟨_, _, _⟩) _ _); refine h.rdvB ?_)
      | ((with_reducible show RDP _ (loadVar _ ⟨_, _, _⟩) _ _); refine h.rdvP ?_)
      | ((with_reducible show RDL _ (loadVar _ ⟨_, _, _⟩) _ _); refine h.rdvL ?_)
      | ((with_reducible show RDT _ (loadVar _ ⟨_, _, _⟩) _ _); refine h.rdvT ?_)
      | ((with_reducible show RD _ (loadVar _ ⟨_, _, _⟩) _ _); refine h.rdG ?_; first | refine ⟨_, rfl, ?_⟩ | refine ⟨_, _, rfl, ?_⟩ | refine ⟨_, _, _, rfl, ?_⟩ | refine ⟨_, _, _, _, rfl, ?_⟩ | refine ⟨_, _, _, _, _, rfl, ?_⟩ | refine ⟨_, _, _, _, _, _, rfl, ?_⟩ | refine ⟨_, _, _, _, _, _, _, rfl, ?_⟩ | refine ⟨_, _, _, _, _, _, _, _, rfl, ?_⟩ | refine ⟨_, _, _, _, _, _, _, _, _, rfl, ?_⟩)
      | ((with_reducible show RUNU _ (storeVar _ ⟨_, _, _⟩ (.agg _)) _ _); refine h.stG fun w' h => ?_)
      | ((with_reducible show RUNU _ (storeVar _ ⟨_, _, _⟩ _) _ _); refine h.stV fun w' h => ?_))
    refine leti rfl (iff_ (by decide) (iff_ rfl ?_))
    refine ⟨fun m i w' => i = 0 ∧ St c w' R, ⟨0, rfl, h.drop⟩, ?_⟩
    rintro m _ w' ⟨rfl, h⟩
    refine ifd (fun _ => iff_ (by decide) (oAlive_ok h fun w' h => ⟨_, rfl, letb rfl (hk _ h)⟩)) fun _ => oAlive_ok h fun w' h => ⟨_, rfl, letb rfl (hk _ h)⟩
  · refine rAt_ok h (fun w' h hc => absurd hb1 (by omega)) (fun w' h _ _ => ⟨_, _, _, _, _, _, _, _, rfl, ?_⟩) fun w' h hc _ _ => absurd hb2 (by omega)
    refine h.allocG tiO17 fun p9 w' h => ?_
    repeat' (first
      | ((with_reducible show RDI _ (loadVar _ (Addr.add _ _)) _ _ _); refine h.rdI _ ?_)
      | ((with_reducible show RDB _ (loadVar _ (Addr.add _ _)) _ _); refine h.rdB _ ?_)
      | ((with_reducible show RDP _ (loadVar _ (Addr.add _ _)) _ _); refine h.rdP _ ?_)
      | ((with_reducible show RDL _ (loadVar _ (Addr.add _ _)) _ _); refine h.rdL _ ?_)
      | ((with_reducible show RDT _ (loadVar _ (Addr.add _ _)) _ _); refine h.rdT _ ?_)
      | ((with_reducible show RUNU _ (storeVar _ (Addr.add _ _) _) _ _); refine h.st _ fun w' h => ?_)
      | ((with_reducible show RDI _ (loadVar _ ⟨_, _, _⟩) _ _ _); refine h.rdvI ?_)
      | ((with_reducible show RDB _ (loadVar _ ⟨_, _, _⟩) _ _); refine h.rdvB ?_)
      | ((with_reducible show RDP _ (loadVar _ ⟨_, _, _⟩) _ _); refine h.rdvP ?_)
      | ((with_reducible show RDL _ (loadVar _ ⟨_, _, _⟩) _ _); refine h.rdvL ?_)
      | ((with_reducible show RDT _ (loadVar _ ⟨_, _, _⟩) _ _); refine h.rdvT ?_)
      | ((with_reducible show RD _ (loadVar _ ⟨_, _, _⟩) _ _); refine h.rdG ?_; first | refine ⟨_, rfl, ?_⟩ | refine ⟨_, _, rfl, ?_⟩ | refine ⟨_, _, _, rfl, ?_⟩ | refine ⟨_, _, _, _, rfl, ?_⟩ | refine ⟨_, _, _, _, _, rfl, ?_⟩ | refine ⟨_, _, _, _, _, _, rfl, ?_⟩ | refine ⟨_, _, _, _, _, _, _, rfl, ?_⟩ | refine ⟨_, _, _, _, _, _, _, _, rfl, ?_⟩ | refine ⟨_, _, _, _, _, _, _, _, _, rfl, ?_⟩)
      | ((with_reducible show RUNU _ (storeVar _ ⟨_, _, _⟩ (.agg _)) _ _); refine h.stG fun w' h => ?_)
      | ((with_reducible show RUNU _ (storeVar _ ⟨_, _, _⟩ _) _ _); refine h.stV fun w' h => ?_))
    refine leti rfl (iff_ (by decide) (iff_ rfl ?_))
    refine ⟨fun m i w' => i = 0 ∧ St c w' R, ⟨0, rfl, h.drop⟩, ?_⟩
    rintro m _ w' ⟨rfl, h⟩
    refine ifd (fun _ => iff_ (by decide) (oAlive_ok h fun w' h => ⟨_, rfl, letb rfl (hk _ h)⟩)) fun _ => oAlive_ok h fun w' h => ⟨_, rfl, letb rfl (hk _ h)⟩
  subst hsz
  refine rAt_ok h (fun w' h hc => absurd hb (by omega)) (fun w' h hc h3 => absurd h3 (by omega)) fun w' h _ _ _ => ⟨_, _, _, _, _, _, _, _, rfl, ?_⟩
  refine h.allocG tiO17 fun p9 w' h => ?_
  repeat' (first
    | ((with_reducible show RDI _ (loadVar _ (Addr.add _ _)) _ _ _); refine h.rdI _ ?_)
    | ((with_reducible show RDB _ (loadVar _ (Addr.add _ _)) _ _); refine h.rdB _ ?_)
    | ((with_reducible show RDP _ (loadVar _ (Addr.add _ _)) _ _); refine h.rdP _ ?_)
    | ((with_reducible show RDL _ (loadVar _ (Addr.add _ _)) _ _); refine h.rdL _ ?_)
    | ((with_reducible show RDT _ (loadVar _ (Addr.add _ _)) _ _); refine h.rdT _ ?_)
    | ((with_reducible show RUNU _ (storeVar _ (Addr.add _ _) _) _ _); refine h.st _ fun w' h => ?_)
    | ((with_reducible show RDI _ (loadVar _ ⟨_, _, _⟩) _ _ _); refine h.rdvI ?_)
    | ((with_reducible show RDB _ (loadVar _ ⟨_, _, _⟩) _ _); refine h.rdvB ?_)
    | ((with_reducible show RDP _ (loadVar _ ⟨_, _, _⟩) _ _); refine h.rdvP ?_)
    | ((with_reducible show RDL _ (loadVar _ ⟨_, _, _⟩) _ _); refine h.rdvL ?_)
    | ((with_reducible show RDT _ (loadVar _ ⟨_, _, _⟩) _ _); refine h.rdvT ?_)
    | ((with_reducible show RD _ (loadVar _ ⟨_, _, _⟩) _ _); refine h.rdG ?_; first | refine ⟨_, rfl, ?_⟩ | refine ⟨_, _, rfl, ?_⟩ | refine ⟨_, _, _, rfl, ?_⟩ | refine ⟨_, _, _, _, rfl, ?_⟩ | refine ⟨_, _, _, _, _, rfl, ?_⟩ | refine ⟨_, _, _, _, _, _, rfl, ?_⟩ | refine ⟨_, _, _, _, _, _, _, rfl, ?_⟩ | refine ⟨_, _, _, _, _, _, _, _, rfl, ?_⟩ | refine ⟨_, _, _, _, _, _, _, _, _, rfl, ?_⟩)
    | ((with_reducible show RUNU _ (storeVar _ ⟨_, _, _⟩ (.agg _)) _ _); refine h.stG fun w' h => ?_)
    | ((with_reducible show RUNU _ (storeVar _ ⟨_, _, _⟩ _) _ _); refine h.stV fun w' h => ?_))
  refine leti rfl (iff_ (by decide) (iff_ rfl ?_))
  refine ⟨fun m i w' => ∃ (j : Nat) (A : Option Addr) (k : Nat) (C : List UInt8) (b : Nat) (cl gn : Bool), j + m = Y.length ∧ i = (j : Int) ∧ C.length ≤ k ∧ C.length ≤ sz ∧ b + C.length ≤ Strm ∧
    St c w' (blk p9 93 (ovs A C.length k b sz cl gn) :: outA o p D sz b cl gn C :: rows A (bvs C) :: R), ⟨Y.length, 0, none, 0, [], base, false, false, by omega, rfl, by simp, by simp, by simpa using hb, ?_⟩, ?_⟩
  · have h3 := (h.addNil (φ := fun w => Row w none (bvs [])) fun w => Row.nil w none)
    exact h3.to
  rintro m _ w' ⟨j, A, k, C, b, cl, gn, hj, rfl, hCk, hCs, hbC, h⟩
  have hd := h.drew
  refine ifd (fun h3 => ift rfl ?_) fun h3 => oAlive_ok h fun w' h => ⟨_, rfl, letb rfl (hk _ h.to)⟩
  refine hd.rdG ⟨_, _, _, _, _, _, _, rfl, ?_⟩
  obtain ⟨y, hy⟩ := ex_get (L := Y) (j := j) (by omega)
  have hym := List.mem_of_getElem? hy
  refine hd.ix (z := 3) hl.more.more.more hy fun a ha => ?_
  refine hd.rdEG (a := a) (by rw [← ha]; exact hl.more.more.more) hy ?_ (hz := opc_length)
  refine ⟨_, _, _, _, _, _, rfl, ?_⟩
  have h4 : St c w'.drew (outA o p D sz b cl gn C :: rows A (bvs C) :: blk p9 93 (ovs A C.length k b sz cl gn) :: R) := hd.to
  obtain ⟨hy1, hy2, hy3⟩ := hY y hym
  refine one_ok h4 .head hCk hCs h2 hbC y hy1.more.more hy2 (hx300 y hym) hy3 fun A' k' w' C' b' cl' gn' h hk' hC' hb' => ⟨_, _, _, _, _, _, _, _, rfl, ?_⟩
  refine ⟨fun w => St c w (outA o p D sz b' cl' gn' C' :: rows A' (bvs C') :: R), h.to, ?_⟩
  refine h.stG fun w' h => ?_
  have h5 : St c w' (blk p9 93 (ovs A' C'.length k' b' sz cl' gn') :: outA o p D sz b' cl' gn' C' :: rows A' (bvs C') :: R) := h.to
  clear h4 hd h
  have h6 := h5.drew
  refine ⟨fun w => St c w (outA o p D sz b' cl' gn' C' :: rows A' (bvs C') :: R), fun _ h => h, h5.drop, letb rfl ?_⟩
  refine ⟨fun w => St c w (blk p9 93 (ovs A' C'.length k' b' sz cl' gn') :: outA o p D sz b' cl' gn' C' :: rows A' (bvs C') :: R), h6, iff_ rfl ?_⟩
  first | refine St.rdsI _ ?_ | refine St.rdsB _ ?_ | refine St.rdsP _ ?_ | refine St.rdsL _ ?_ | (refine St.rdsG ?_; first | refine ⟨_, rfl, ?_⟩ | refine ⟨_, _, rfl, ?_⟩ | refine ⟨_, _, _, rfl, ?_⟩ | refine ⟨_, _, _, _, rfl, ?_⟩ | refine ⟨_, _, _, _, _, rfl, ?_⟩ | refine ⟨_, _, _, _, _, _, rfl, ?_⟩ | refine ⟨_, _, _, _, _, _, _, rfl, ?_⟩ | refine ⟨_, _, _, _, _, _, _, _, rfl, ?_⟩ | refine ⟨_, _, _, _, _, _, _, _, _, rfl, ?_⟩)
  refine oBase_ok h6 (.tail .head) ⟨_, rfl, fun w => St c w (blk p9 93 (ovs A' C'.length k' b' sz cl' gn') :: outA o p D sz b' cl' gn' C' :: rows A' (bvs C') :: R), fun _ h => h, h6, iff_ (by simp) ?_⟩
  first | refine St.rdsI _ ?_ | refine St.rdsB _ ?_ | refine St.rdsP _ ?_ | refine St.rdsL _ ?_ | (refine St.rdsG ?_; first | refine ⟨_, rfl, ?_⟩ | refine ⟨_, _, rfl, ?_⟩ | refine ⟨_, _, _, rfl, ?_⟩ | refine ⟨_, _, _, _, rfl, ?_⟩ | refine ⟨_, _, _, _, _, rfl, ?_⟩ | refine ⟨_, _, _, _, _, _, rfl, ?_⟩ | refine ⟨_, _, _, _, _, _, _, rfl, ?_⟩ | refine ⟨_, _, _, _, _, _, _, _, rfl, ?_⟩ | refine ⟨_, _, _, _, _, _, _, _, _, rfl, ?_⟩)
  refine oEnd_ok h6 (.tail .head) fun w' h7 => ⟨_, rfl, fun w => St c w (blk p9 93 (ovs A' C'.length k' b' sz cl' gn') :: outA o p D sz b' cl' gn' C' :: rows A' (bvs C') :: R), fun _ h => h, h7, ?_⟩
  refine rEnd_ok h7 (by unfold Strm at *; omega) fun w' h8 => ⟨_, rfl, fun w => St c w (blk p9 93 (ovs A' C'.length k' b' sz cl' gn') :: outA o p D sz b' cl' gn' C' :: rows A' (bvs C') :: R), h8, iff_ (by simp) ?_⟩
  first | refine St.rdsI _ ?_ | refine St.rdsB _ ?_ | refine St.rdsP _ ?_ | refine St.rdsL _ ?_ | (refine St.rdsG ?_; first | refine ⟨_, rfl, ?_⟩ | refine ⟨_, _, rfl, ?_⟩ | refine ⟨_, _, _, rfl, ?_⟩ | refine ⟨_, _, _, _, rfl, ?_⟩ | refine ⟨_, _, _, _, _, rfl, ?_⟩ | refine ⟨_, _, _, _, _, _, rfl, ?_⟩ | refine ⟨_, _, _, _, _, _, _, rfl, ?_⟩ | refine ⟨_, _, _, _, _, _, _, _, rfl, ?_⟩ | refine ⟨_, _, _, _, _, _, _, _, _, rfl, ?_⟩)
  refine oTop_ok h8 (.tail .head) fun w' h9 => ⟨_, rfl, fun w => St c w (blk p9 93 (ovs A' C'.length k' b' sz cl' gn') :: outA o p D sz b' cl' gn' C' :: rows A' (bvs C') :: R), fun _ h => h, h9, ?_⟩
  refine rTop_ok h9 (by unfold Strm at *; omega) fun w' h10 => ⟨_, rfl, fun w => St c w (blk p9 93 (ovs A' C'.length k' b' sz cl' gn') :: outA o p D sz b' cl' gn' C' :: rows A' (bvs C') :: R), h10, iff_ (by simp) ?_⟩
  first | refine St.rdsI _ ?_ | refine St.rdsB _ ?_ | refine St.rdsP _ ?_ | refine St.rdsL _ ?_ | (refine St.rdsG ?_; first | refine ⟨_, rfl, ?_⟩ | refine ⟨_, _, rfl, ?_⟩ | refine ⟨_, _, _, rfl, ?_⟩ | refine ⟨_, _, _, _, rfl, ?_⟩ | refine ⟨_, _, _, _, _, rfl, ?_⟩ | refine ⟨_, _, _, _, _, _, rfl, ?_⟩ | refine ⟨_, _, _, _, _, _, _, rfl, ?_⟩ | refine ⟨_, _, _, _, _, _, _, _, rfl, ?_⟩ | refine ⟨_, _, _, _, _, _, _, _, _, rfl, ?_⟩)
  refine oDone_ok h10 (.tail .head) ⟨_, rfl, fun w => St c w (blk p9 93 (ovs A' C'.length k' b' sz cl' gn') :: outA o p D sz b' cl' gn' C' :: rows A' (bvs C') :: R), fun _ h => h, h10, iff_ (by simp) ?_⟩
  first | refine St.rdsI _ ?_ | refine St.rdsB _ ?_ | refine St.rdsP _ ?_ | refine St.rdsL _ ?_ | (refine St.rdsG ?_; first | refine ⟨_, rfl, ?_⟩ | refine ⟨_, _, rfl, ?_⟩ | refine ⟨_, _, _, rfl, ?_⟩ | refine ⟨_, _, _, _, rfl, ?_⟩ | refine ⟨_, _, _, _, _, rfl, ?_⟩ | refine ⟨_, _, _, _, _, _, rfl, ?_⟩ | refine ⟨_, _, _, _, _, _, _, rfl, ?_⟩ | refine ⟨_, _, _, _, _, _, _, _, rfl, ?_⟩ | refine ⟨_, _, _, _, _, _, _, _, _, rfl, ?_⟩)
  refine oClosed_ok h10 (.tail .head) ⟨_, rfl, fun w => St c w (blk p9 93 (ovs A' C'.length k' b' sz cl' gn') :: outA o p D sz b' cl' gn' C' :: rows A' (bvs C') :: R), fun _ h => h, h10, iff_ (by simp) ?_⟩
  have rdp : ∀ {K : Option Addr → Prop} {c : Ctx} {t : TypeId}, ldT PG t = true → K (some ⟨p, 0, none⟩) → RDSP PG (loadVar t (Addr.add ⟨o, 0, none⟩ 0)) (fun w => St c w (blk p9 93 (ovs A' C'.length k' b' sz cl' gn') :: outA o p D sz b' cl' gn' C' :: rows A' (bvs C') :: R)) K := fun ht hk => by
    unfold RDSP
    exact ⟨_, fun w h => ld 0 (h.out (.tail .head)).ho rfl ht, _, rfl, hk⟩
  refine rdp (by kernel_rfl) ?_
  first | refine St.rdsI _ ?_ | refine St.rdsB _ ?_ | refine St.rdsP _ ?_ | refine St.rdsL _ ?_ | (refine St.rdsG ?_; first | refine ⟨_, rfl, ?_⟩ | refine ⟨_, _, rfl, ?_⟩ | refine ⟨_, _, _, rfl, ?_⟩ | refine ⟨_, _, _, _, rfl, ?_⟩ | refine ⟨_, _, _, _, _, rfl, ?_⟩ | refine ⟨_, _, _, _, _, _, rfl, ?_⟩ | refine ⟨_, _, _, _, _, _, _, rfl, ?_⟩ | refine ⟨_, _, _, _, _, _, _, _, rfl, ?_⟩ | refine ⟨_, _, _, _, _, _, _, _, _, rfl, ?_⟩)
  refine oLen_ok h10 (.tail .head) ⟨_, rfl, fun w => St c w (blk p9 93 (ovs A' C'.length k' b' sz cl' gn') :: outA o p D sz b' cl' gn' C' :: rows A' (bvs C') :: R), fun _ h => h, h10, iff_ (by simp) ?_⟩
  refine rdp (by kernel_rfl) ?_
  first | refine St.rdsI _ ?_ | refine St.rdsB _ ?_ | refine St.rdsP _ ?_ | refine St.rdsL _ ?_ | (refine St.rdsG ?_; first | refine ⟨_, rfl, ?_⟩ | refine ⟨_, _, rfl, ?_⟩ | refine ⟨_, _, _, rfl, ?_⟩ | refine ⟨_, _, _, _, rfl, ?_⟩ | refine ⟨_, _, _, _, _, rfl, ?_⟩ | refine ⟨_, _, _, _, _, _, rfl, ?_⟩ | refine ⟨_, _, _, _, _, _, _, rfl, ?_⟩ | refine ⟨_, _, _, _, _, _, _, _, rfl, ?_⟩ | refine ⟨_, _, _, _, _, _, _, _, _, rfl, ?_⟩)
  refine oFree_ok h10 (.tail .head) fun w' h11 => ⟨_, rfl, fun w => St c w (blk p9 93 (ovs A' C'.length k' b' sz cl' gn') :: outA o p D sz b' cl' gn' C' :: rows A' (bvs C') :: R), fun _ h => h, h11, ?_⟩
  rw [wrap_i64 (by omega) (by omega)]
  refine iff_ (by simp) (leti (y := ((j + 1 : Nat) : Int)) (wrap_i64 (by omega) (by omega)) ⟨m - 1, by omega, j + 1, A', k', C', b', cl', gn', by omega, rfl, hk', hC', hb', h11⟩)
end Go.Br
