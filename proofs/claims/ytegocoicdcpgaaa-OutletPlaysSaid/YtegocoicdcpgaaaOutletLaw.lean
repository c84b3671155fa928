/- The example, and two laws of the stream that one writes, walked. -/
import Derived.Test.YtegocoicdcpgaaaNOutletLaw
import Derived.Test.YtegocoicdcpgaaaOutlet
set_option linter.unusedVariables false
namespace Go.Br
open Go

theorem undU8 : PG.underlying 5 = some (.int .u8) := by kernel_rfl
theorem undStr : PG.underlying 9 = some .string := by kernel_rfl
theorem undBytes : PG.underlying 28 = some (.slice 5) := by kernel_rfl
theorem litB5 (w : World) : (Instr.buildSlice 28 5 #[(0, .int .u8 97), (1, .int .u8 98), (2, .int .u8 99), (3, .int .u8 100), (4, .int .u8 101)]).run PG w = .ok (.slice (some ⟨w.heap.size, 0, none⟩) 5 5) (w.alloc (.cells (bvs [97, 98, 99, 100, 101]).toArray 5)) := by kernel_rfl
theorem litB1 (w : World) : (Instr.buildSlice 28 1 #[(0, .int .u8 101)]).run PG w = .ok (.slice (some ⟨w.heap.size, 0, none⟩) 1 1) (w.alloc (.cells (bvs [101]).toArray 5)) := by kernel_rfl
theorem litX (w : World) : (Instr.buildSlice 28 1 #[(0, .int .u8 120)]).run PG w = .ok (.slice (some ⟨w.heap.size, 0, none⟩) 1 1) (w.alloc (.cells (bvs [120]).toArray 5)) := by kernel_rfl
/-- What is new is apart from what was. -/
theorem newA {A : Option Addr} {n p D : Nat} {xs : List UInt8} (h : ∀ x, A = some x → n ≤ x.block) (hp : p < n) (hD : D < n) : ∀ x, A = some x → xs ≠ [] → x.block ≠ p ∧ x.block ≠ D := by
  intro x hx _; have := h x hx; omega
theorem oldA {w : World} {A : Option Addr} {p D : Nat} {xs : List UInt8} (h : Row w A (bvs xs)) (hp : w.heap.size ≤ p) (hD : w.heap.size ≤ D) : ∀ x, A = some x → xs ≠ [] → x.block ≠ p ∧ x.block ≠ D := by
  intro x hx hne
  have := h.old hx (by cases xs with | nil => exact absurd rfl hne | cons c r => simp [bvs])
  omega

theorem ol_alive {w : World} {Q : Value → World → Prop} (hk : ∀ w', Kp [] w w' → Q (.bool true) w') : CALL PG 46 [] w Q := by
  refine call46 ?_
  unfold N46
  refine ol_new (size := 4) (by decide) (by decide) fun w1 o p D k1 fo fp fD h1 => ⟨_, _, rfl, leti rfl (iff_ (by decide) (iff_ rfl ?_))⟩
  refine RD.of (ld 0 h1.ho rfl (by kernel_rfl)) ⟨_, rfl, iff_ rfl ?_⟩
  refine newBytes undBytes undU8 [97, 98, 99, 100, 101] litB5 fun w2 A k2 hA fA => ?_
  have l1 := h1.lt
  have h2 := h1.keep k2
  refine ol_put (xs := [97, 98, 99, 100, 101]) h2 hA (by decide) (by decide) (newA fA l1.2.1 l1.2.2) fun w3 k3 h3 => ⟨_, _, rfl, leti (y := 4) (by decide) (leti rfl ?_)⟩
  have e3 : (([] : List UInt8) ++ ([97, 98, 99, 100, 101] : List UInt8).take (putN ([] : List UInt8).length 4 0 false ([97, 98, 99, 100, 101] : List UInt8).length).1) = [97, 98, 99, 100] := by decide
  rw [e3] at h3
  refine ol_acked (T := 2) h3 (by decide) (fun h => absurd h (by decide)) fun _ _ _ t g ht w4 k4 h4 => ⟨_, rfl, letb rfl ?_⟩
  have ht : t = 2 ∧ g = false := by
    rcases ht with ⟨a, b, _⟩ | ⟨_, a, b⟩
    · cases b
    · exact ⟨a, b⟩
  obtain ⟨rfl, rfl⟩ := ht
  have e4 : (([97, 98, 99, 100] : List UInt8).drop (2 - 0)) = [99, 100] := rfl
  rw [e4] at h4
  refine newBytes undBytes undU8 [101] litB1 fun w5 A5 k5 hA5 fA5 => ?_
  have l4 := h4.lt
  refine ol_put (xs := [101]) (h4.keep k5) hA5 (by decide) (by decide) (newA fA5 l4.2.1 l4.2.2) fun w6 k6 h6 => ⟨_, _, rfl, leti (y := 1) (by decide) (leti rfl ?_)⟩
  have e6 : (([99, 100] : List UInt8) ++ ([101] : List UInt8).take (putN ([99, 100] : List UInt8).length 4 2 false ([101] : List UInt8).length).1) = [99, 100, 101] := by decide
  rw [e6] at h6
  refine ol_bytes (F := 3) h6 (by decide) fun w7 A7 c7 xs k7 hx hA7 fA7 _ => ⟨_, _, _, rfl, ?_⟩
  have hx : xs = [100, 101] := by rw [hx]; rfl
  subst hx
  refine RD.bytesToString (bs := [100, 101]) undBytes undU8 undStr hA7 rfl ⟨_, rfl, lets rfl ?_⟩
  refine ol_close (h6.keep k7) fun w8 k8 s8 h8 => ⟨rfl, ift rfl (ift rfl (ift rfl (ift ?_ ?_)))⟩
  · rw [show ByteArray.mk #[100, 101] = strOf [100, 101] from rfl]; exact strOf_inj.2 rfl
  refine ol_top h8 fun w9 k9 => ⟨_, rfl, ift (by decide) (ol_closed (h8.keep k9) ⟨_, rfl, ift rfl (ol_done (h8.keep k9) ⟨_, rfl, letb rfl (hk w9 ?_)⟩)⟩)⟩
  have K2 := k1.then k2
  have K3 : Kp [] w w3 := K2.new k3 (by simp; omega)
  have K4 : Kp [] w w4 := K3.new k4 (by simp; omega)
  have K6 : Kp [] w w6 := (K4.then k5).new k6 (by simp; omega)
  exact ((K6.then k7).new k8 (by simp; omega)).then k9

theorem done_ok {w : World} {size : Int} {A : Option Addr} {c T : Nat} {xs : List UInt8} (hb : Row w A (bvs xs)) (hc : xs.length ≤ c) (hT : T < 18446744073709551616) {Q : Value → World → Prop} (hk : ∀ w', Kp [] w w' → Q (.bool true) w') :
    CALL PG 9 [.int .i64 size, .slice A xs.length c, .int .u64 (T : Int)] w Q := by
  refine call9 ?_
  unfold N9
  refine ifd (fun _ => hk w (Kp.refl w)) fun g1 => ifd (fun _ => hk w (Kp.refl w)) fun g2 => ifd (fun _ => hk w (Kp.refl w)) fun g3 => ?_
  obtain ⟨sz, rfl⟩ : ∃ sz : Nat, size = (sz : Int) := ⟨size.toNat, by omega⟩
  refine ol_new (size := sz) (by omega) (by omega) fun w1 o p D k1 fo fp fD h1 => ⟨_, _, rfl, leti rfl (iff_ (by decide) (iff_ rfl ?_))⟩
  refine RD.of (ld 0 h1.ho rfl (by kernel_rfl)) ⟨_, rfl, iff_ rfl ?_⟩
  refine ol_put h1 (hb.keep k1) hc (by omega) (oldA hb fp fD) fun w2 k2 h2 => ⟨_, _, rfl, leti rfl (leti rfl ?_)⟩
  have K2 : Kp [] w w2 := k1.new k2 (by simp; omega)
  have hn : (([] : List UInt8) ++ xs.take (putN ([] : List UInt8).length sz 0 false xs.length).1).length = (putN ([] : List UInt8).length sz 0 false xs.length).1 ∧ (putN ([] : List UInt8).length sz 0 false xs.length).1 ≤ 300 := by
    have : (putN ([] : List UInt8).length sz 0 false xs.length).1 ≤ xs.length := by
      unfold putN; simp only [Bool.false_eq_true, if_false]
      split
      · simp
      · split
        · simp
        · split <;> simp; omega
    constructor
    · rw [List.nil_append, List.length_take]; omega
    · omega
  generalize (putN ([] : List UInt8).length sz 0 false xs.length).1 = n at *
  generalize ([] : List UInt8) ++ xs.take n = C at *
  obtain ⟨hn, hn300⟩ := hn
  subst hn
  refine ol_close h2 fun w3 k3 s3 h3 => ⟨rfl, ?_⟩
  have K3 : Kp [] w w3 := K2.new k3 (by simp; omega)
  refine newBytes undBytes undU8 [120] litX fun w4 A4 k4 hA4 fA4 => ?_
  have l3 := h3.lt
  refine ol_put (xs := [120]) (h3.keep k4) hA4 (by decide) (by decide) (newA fA4 l3.2.1 l3.2.2) fun w5 k5 h5 => ⟨_, _, rfl, leti (y := 0) (by simp [putN]) (leti (y := 212) (by simp [putN]) ?_)⟩
  have e5 : C ++ ([120] : List UInt8).take (putN C.length sz 0 true ([120] : List UInt8).length).1 = C := by simp [putN]
  rw [e5] at h5
  have K5 : Kp [] w w5 := (K3.then k4).new k5 (by simp; omega)
  refine ol_end h5 fun w6 k6 => ⟨_, rfl, leti rfl ?_⟩
  have h6 := h5.keep k6
  have hw1 : IntKind.u64.wrap (((0 + C.length : Nat) : Int) + 1) = ((C.length + 1 : Nat) : Int) := by rw [u64_id (by omega) (by omega)]; omega
  have hw0 : IntKind.u64.wrap (C.length : Int) = (C.length : Int) := u64_id (by omega) (by omega)
  rw [hw1, hw0]
  have etop : topN 0 C.length true = C.length + 1 := by simp [topN]
  have fin : ∀ w', Kp [] w w' → CALL PG 46 [] w' fun v w'' => ∃ x : Bool, v = .bool x ∧ LETB x fun x => Q (.bool x) w'' := fun w' k => ol_alive fun w'' k' => ⟨_, rfl, letb rfl (hk w'' (k.then k'))⟩
  refine ol_acked h6 hT (fun hno w7 k7 => ?_) fun hy1 hy2 hy3 t g ht w7 k7 h7 => ?_
  · rw [etop] at hno
    have hno : T = 0 ∨ C.length + 1 < T := by rcases hno with h | h | h <;> first | exact .inr h | exact .inl (by omega) | cases h
    have h7 := h6.keep k7
    have K7 := (K5.then k6).then k7
    refine ⟨_, rfl, letb rfl ⟨fun w12 => Kp [] w7 w12, ?_, ?_⟩⟩
    · refine iff_ rfl (iff_ rfl (iff_ (by simp) ?_))
      refine ol_top h7 fun w8 k8 => ⟨_, rfl, iff_ (by rw [etop]; simp) ?_⟩
      have h8 := h7.keep k8
      refine ifd (fun c1 => iff_ ?_ (ol_done h8 ⟨_, rfl, iff_ ?_ k8⟩)) fun c1 => iff_ rfl (ol_done h8 ⟨_, rfl, iff_ ?_ k8⟩)
      · simp; omega
      · simp; omega
      · simp; omega
    · intro w12 k12
      have h12 := h7.keep k12
      refine ol_done h12 ⟨_, rfl, ift rfl ?_⟩
      refine ol_acked (T := C.length + 1) h12 (by omega) (fun h => absurd h (by rw [etop]; simp)) fun _ _ _ t g ht w13 k13 h13 => ⟨_, rfl, ift rfl ?_⟩
      have hg : g = true := by
        rcases ht with ⟨_, _, _, h⟩ | ⟨h, _⟩
        · exact h
        · exact absurd ⟨etop.symm, rfl⟩ h
      subst hg
      refine ol_done h13 ⟨_, rfl, ift rfl (fin w13 ?_)⟩
      exact (K7.then k12).new k13 (by simp; omega)
  · rw [etop] at hy2
    have K7 : Kp [] w w7 := (K5.then k6).new k7 (by simp; omega)
    refine ⟨_, rfl, letb rfl ⟨fun w12 => Kp [] w7 w12, ?_, ?_⟩⟩
    · refine iff_ rfl (iff_ rfl (iff_ (by simp) ?_))
      have hd : (C.drop (t - 0)).length + t = C.length := by
        rw [List.length_drop]
        rcases ht with ⟨a, _, b, _⟩ | ⟨a, b, _⟩
        · rw [etop] at a; omega
        · rw [etop] at a; simp at a; omega
      refine ol_top h7 fun w8 k8 => ⟨_, rfl, iff_ (by simp [topN]; omega) ?_⟩
      have h8 := h7.keep k8
      have hg : (!(g == ((T : Int) == ((C.length + 1 : Nat) : Int)))) = false := by
        rcases ht with ⟨a, _, _, rfl⟩ | ⟨a, _, rfl⟩
        · rw [etop] at a; rw [a]; simp
        · rw [etop] at a; simp at a
          have : ((T : Int) == ((C.length + 1 : Nat) : Int)) = false := by simp; omega
          rw [this]; rfl
      refine ifdt (by omega) (iff_ (by simp; omega) (ol_done h8 ⟨_, rfl, iff_ ?_ k8⟩))
      exact hg
    · intro w12 k12
      have h12 := h7.keep k12
      refine ol_done h12 ⟨_, rfl, ?_⟩
      rcases ht with ⟨a, _, b, rfl⟩ | ⟨a, b, rfl⟩
      · rw [etop] at a
        have et : t = C.length := by omega
        subst et
        refine iff_ rfl (RD.of (ld 0 h12.ho rfl (by kernel_rfl)) ⟨_, rfl, rc_len h12.hr ⟨_, rfl, ift (by simp) ?_⟩⟩)
        refine ol_acked (T := C.length + 1) h12 (by omega) (fun _ w13 k13 => ⟨_, rfl, ift rfl ?_⟩) fun _ _ h => by cases h
        refine ol_base (h12.keep k13) ⟨_, rfl, ift (by simp) (fin w13 ((K7.then k12).then k13))⟩
      · rw [etop] at a
        simp at a
        subst b
        refine ift rfl ?_
        have hd : (C.drop (t - 0)).length = C.length - t := by rw [List.length_drop]; rfl
        have et2 : topN t (C.drop (t - 0)).length true = C.length + 1 := by rw [hd]; simp [topN]; omega
        refine ol_acked (T := C.length + 1) h12 (by omega) (fun h => absurd h (by rw [et2]; simp; omega)) fun _ _ _ t' g ht w13 k13 h13 => ⟨_, rfl, ift rfl ?_⟩
        have hg : g = true := by
          rcases ht with ⟨_, _, _, h⟩ | ⟨h, _⟩
          · exact h
          · exact absurd ⟨et2.symm, rfl⟩ h
        subst hg
        refine ol_done h13 ⟨_, rfl, ift rfl (fin w13 ?_)⟩
        exact (K7.then k12).new k13 (by simp; omega)
end Go.Br
