/- ConnHands: for every input the law returns true, and each argument reads behind the call as it read before. No condition. -/
import Derived.Test.YtmglifmopjedbaaGreatHandsLaw
import Derived.Test.YtmglifmopjedbaaGreatBrRow
import Derived.Test.YtmglifmopjedbaaGreatRows
set_option linter.unusedVariables false
namespace Go.Proofs.YtmglifmopjedbaaGreat
open Go Go.Br
def cfg_rd_wf (W : World) (x : Cfg) : Prop:=(-9223372036854775808 <= x.ports /\ x.ports <= 9223372036854775807) /\ (-9223372036854775808 <= x.half /\ x.half <= 9223372036854775807) /\ (-9223372036854775808 <= x.conns /\ x.conns <= 9223372036854775807) /\ (-9223372036854775808 <= x.flows /\ x.flows <= 9223372036854775807) /\ (-9223372036854775808 <= x.buffer /\ x.buffer <= 9223372036854775807) /\ (-9223372036854775808 <= x.chunks /\ x.chunks <= 9223372036854775807) /\ (-9223372036854775808 <= x.addrs /\ x.addrs <= 9223372036854775807) /\ (-9223372036854775808 <= x.paths /\ x.paths <= 9223372036854775807) /\ (-9223372036854775808 <= x.mss /\ x.mss <= 9223372036854775807) /\ (-9223372036854775808 <= x.silence /\ x.silence <= 9223372036854775807) /\ (-9223372036854775808 <= x.keep /\ x.keep <= 9223372036854775807) /\ (-9223372036854775808 <= x.burst /\ x.burst <= 9223372036854775807) /\ (-9223372036854775808 <= x.rate /\ x.rate <= 9223372036854775807) /\ (-9223372036854775808 <= x.score /\ x.score <= 9223372036854775807) /\ (-9223372036854775808 <= x.policy /\ x.policy <= 9223372036854775807)
theorem cfg_rd {W : World} {f : Nat} {es : List Value} (h : RdT PG W f 24 es) : ∃ x : Cfg,es = cfg x /\ cfg_rd_wf W x:=by
 obtain ⟨c2,_,h3⟩:=rd_field (i:=0) (off:=0) (ft:=3) (z:=15) (z':=1) (by kernel_rfl) (by kernel_rfl) (by kernel_rfl) h
 obtain ⟨c4,_,h5⟩:=rd_field (i:=1) (off:=1) (ft:=3) (z:=15) (z':=1) (by kernel_rfl) (by kernel_rfl) (by kernel_rfl) h
 obtain ⟨c6,_,h7⟩:=rd_field (i:=2) (off:=2) (ft:=3) (z:=15) (z':=1) (by kernel_rfl) (by kernel_rfl) (by kernel_rfl) h
 obtain ⟨c8,_,h9⟩:=rd_field (i:=3) (off:=3) (ft:=3) (z:=15) (z':=1) (by kernel_rfl) (by kernel_rfl) (by kernel_rfl) h
 obtain ⟨c10,_,h11⟩:=rd_field (i:=4) (off:=4) (ft:=3) (z:=15) (z':=1) (by kernel_rfl) (by kernel_rfl) (by kernel_rfl) h
 obtain ⟨c12,_,h13⟩:=rd_field (i:=5) (off:=5) (ft:=3) (z:=15) (z':=1) (by kernel_rfl) (by kernel_rfl) (by kernel_rfl) h
 obtain ⟨c14,_,h15⟩:=rd_field (i:=6) (off:=6) (ft:=3) (z:=15) (z':=1) (by kernel_rfl) (by kernel_rfl) (by kernel_rfl) h
 obtain ⟨c16,_,h17⟩:=rd_field (i:=7) (off:=7) (ft:=3) (z:=15) (z':=1) (by kernel_rfl) (by kernel_rfl) (by kernel_rfl) h
 obtain ⟨c18,_,h19⟩:=rd_field (i:=8) (off:=8) (ft:=3) (z:=15) (z':=1) (by kernel_rfl) (by kernel_rfl) (by kernel_rfl) h
 obtain ⟨c20,_,h21⟩:=rd_field (i:=9) (off:=9) (ft:=3) (z:=15) (z':=1) (by kernel_rfl) (by kernel_rfl) (by kernel_rfl) h
 obtain ⟨c22,_,h23⟩:=rd_field (i:=10) (off:=10) (ft:=3) (z:=15) (z':=1) (by kernel_rfl) (by kernel_rfl) (by kernel_rfl) h
 obtain ⟨c24,_,h25⟩:=rd_field (i:=11) (off:=11) (ft:=3) (z:=15) (z':=1) (by kernel_rfl) (by kernel_rfl) (by kernel_rfl) h
 obtain ⟨c26,_,h27⟩:=rd_field (i:=12) (off:=12) (ft:=3) (z:=15) (z':=1) (by kernel_rfl) (by kernel_rfl) (by kernel_rfl) h
 obtain ⟨c28,_,h29⟩:=rd_field (i:=13) (off:=13) (ft:=3) (z:=15) (z':=1) (by kernel_rfl) (by kernel_rfl) (by kernel_rfl) h
 obtain ⟨c30,_,h31⟩:=rd_field (i:=14) (off:=14) (ft:=22) (z:=15) (z':=1) (by kernel_rfl) (by kernel_rfl) (by kernel_rfl) h
 obtain ⟨xq32,eq32,wq32⟩:=rd_int (k:=.i64) (by kernel_rfl) h3
 have vq32 : -9223372036854775808 <= xq32 /\ xq32 <= 9223372036854775807:=by simp [Lit.wf,IntKind.min,IntKind.max,IntKind.signed,IntKind.bits] at wq32; omega
 obtain ⟨xq33,eq33,wq33⟩:=rd_int (k:=.i64) (by kernel_rfl) h5
 have vq33 : -9223372036854775808 <= xq33 /\ xq33 <= 9223372036854775807:=by simp [Lit.wf,IntKind.min,IntKind.max,IntKind.signed,IntKind.bits] at wq33; omega
 obtain ⟨xq34,eq34,wq34⟩:=rd_int (k:=.i64) (by kernel_rfl) h7
 have vq34 : -9223372036854775808 <= xq34 /\ xq34 <= 9223372036854775807:=by simp [Lit.wf,IntKind.min,IntKind.max,IntKind.signed,IntKind.bits] at wq34; omega
 obtain ⟨xq35,eq35,wq35⟩:=rd_int (k:=.i64) (by kernel_rfl) h9
 have vq35 : -9223372036854775808 <= xq35 /\ xq35 <= 9223372036854775807:=by simp [Lit.wf,IntKind.min,IntKind.max,IntKind.signed,IntKind.bits] at wq35; omega
 obtain ⟨xq36,eq36,wq36⟩:=rd_int (k:=.i64) (by kernel_rfl) h11
 have vq36 : -9223372036854775808 <= xq36 /\ xq36 <= 9223372036854775807:=by simp [Lit.wf,IntKind.min,IntKind.max,IntKind.signed,IntKind.bits] at wq36; omega
 obtain ⟨xq37,eq37,wq37⟩:=rd_int (k:=.i64) (by kernel_rfl) h13
 have vq37 : -9223372036854775808 <= xq37 /\ xq37 <= 9223372036854775807:=by simp [Lit.wf,IntKind.min,IntKind.max,IntKind.signed,IntKind.bits] at wq37; omega
 obtain ⟨xq38,eq38,wq38⟩:=rd_int (k:=.i64) (by kernel_rfl) h15
 have vq38 : -9223372036854775808 <= xq38 /\ xq38 <= 9223372036854775807:=by simp [Lit.wf,IntKind.min,IntKind.max,IntKind.signed,IntKind.bits] at wq38; omega
 obtain ⟨xq39,eq39,wq39⟩:=rd_int (k:=.i64) (by kernel_rfl) h17
 have vq39 : -9223372036854775808 <= xq39 /\ xq39 <= 9223372036854775807:=by simp [Lit.wf,IntKind.min,IntKind.max,IntKind.signed,IntKind.bits] at wq39; omega
 obtain ⟨xq40,eq40,wq40⟩:=rd_int (k:=.i64) (by kernel_rfl) h19
 have vq40 : -9223372036854775808 <= xq40 /\ xq40 <= 9223372036854775807:=by simp [Lit.wf,IntKind.min,IntKind.max,IntKind.signed,IntKind.bits] at wq40; omega
 obtain ⟨xq41,eq41,wq41⟩:=rd_int (k:=.i64) (by kernel_rfl) h21
 have vq41 : -9223372036854775808 <= xq41 /\ xq41 <= 9223372036854775807:=by simp [Lit.wf,IntKind.min,IntKind.max,IntKind.signed,IntKind.bits] at wq41; omega
 obtain ⟨xq42,eq42,wq42⟩:=rd_int (k:=.i64) (by kernel_rfl) h23
 have vq42 : -9223372036854775808 <= xq42 /\ xq42 <= 9223372036854775807:=by simp [Lit.wf,IntKind.min,IntKind.max,IntKind.signed,IntKind.bits] at wq42; omega
 obtain ⟨xq43,eq43,wq43⟩:=rd_int (k:=.i64) (by kernel_rfl) h25
 have vq43 : -9223372036854775808 <= xq43 /\ xq43 <= 9223372036854775807:=by simp [Lit.wf,IntKind.min,IntKind.max,IntKind.signed,IntKind.bits] at wq43; omega
 obtain ⟨xq44,eq44,wq44⟩:=rd_int (k:=.i64) (by kernel_rfl) h27
 have vq44 : -9223372036854775808 <= xq44 /\ xq44 <= 9223372036854775807:=by simp [Lit.wf,IntKind.min,IntKind.max,IntKind.signed,IntKind.bits] at wq44; omega
 obtain ⟨xq45,eq45,wq45⟩:=rd_int (k:=.i64) (by kernel_rfl) h29
 have vq45 : -9223372036854775808 <= xq45 /\ xq45 <= 9223372036854775807:=by simp [Lit.wf,IntKind.min,IntKind.max,IntKind.signed,IntKind.bits] at wq45; omega
 obtain ⟨xq46,eq46,wq46⟩:=rd_int (k:=.i64) (by kernel_rfl) h31
 have vq46 : -9223372036854775808 <= xq46 /\ xq46 <= 9223372036854775807:=by simp [Lit.wf,IntKind.min,IntKind.max,IntKind.signed,IntKind.bits] at wq46; omega
 match es,c2 with
 | [u0,u1,u2,u3,u4,u5,u6,u7,u8,u9,u10,u11,u12,u13,u14],_ =>
  simp at eq32 eq33 eq34 eq35 eq36 eq37 eq38 eq39 eq40 eq41 eq42 eq43 eq44 eq45 eq46
  subst eq32; subst eq33; subst eq34; subst eq35; subst eq36; subst eq37; subst eq38; subst eq39; subst eq40; subst eq41; subst eq42; subst eq43; subst eq44; subst eq45; subst eq46
  exact ⟨⟨xq32,xq33,xq34,xq35,xq36,xq37,xq38,xq39,xq40,xq41,xq42,xq43,xq44,xq45,xq46⟩,rfl,⟨vq32,vq33,vq34,vq35,vq36,vq37,vq38,vq39,vq40,vq41,vq42,vq43,vq44,vq45,vq46⟩⟩
def drc_rd_wf (W : World) (x : Dr) : Prop:=(0 <= x.ka /\ x.ka <= 18446744073709551615) /\ (0 <= x.kb /\ x.kb <= 18446744073709551615) /\ (0 <= x.fa /\ x.fa <= 4294967295) /\ (0 <= x.fb /\ x.fb <= 4294967295) /\ (0 <= x.seedK0 /\ x.seedK0 <= 18446744073709551615) /\ (0 <= x.seedK1 /\ x.seedK1 <= 18446744073709551615)
theorem drc_rd {W : World} {f : Nat} {es : List Value} (h : RdT PG W f 30 es) : ∃ x : Dr,es = drc x /\ drc_rd_wf W x:=by
 obtain ⟨c2,_,h3⟩:=rd_field (i:=0) (off:=0) (ft:=25) (z:=6) (z':=1) (by kernel_rfl) (by kernel_rfl) (by kernel_rfl) h
 obtain ⟨c4,_,h5⟩:=rd_field (i:=1) (off:=1) (ft:=25) (z:=6) (z':=1) (by kernel_rfl) (by kernel_rfl) (by kernel_rfl) h
 obtain ⟨c6,_,h7⟩:=rd_field (i:=2) (off:=2) (ft:=26) (z:=6) (z':=1) (by kernel_rfl) (by kernel_rfl) (by kernel_rfl) h
 obtain ⟨c8,_,h9⟩:=rd_field (i:=3) (off:=3) (ft:=26) (z:=6) (z':=1) (by kernel_rfl) (by kernel_rfl) (by kernel_rfl) h
 obtain ⟨c10,_,h11⟩:=rd_field (i:=4) (off:=4) (ft:=28) (z:=6) (z':=2) (by kernel_rfl) (by kernel_rfl) (by kernel_rfl) h
 obtain ⟨xq12,eq12,wq12⟩:=rd_int (k:=.u64) (by kernel_rfl) h3
 have vq12 : 0 <= xq12 /\ xq12 <= 18446744073709551615:=by simp [Lit.wf,IntKind.min,IntKind.max,IntKind.signed,IntKind.bits] at wq12; omega
 obtain ⟨xq13,eq13,wq13⟩:=rd_int (k:=.u64) (by kernel_rfl) h5
 have vq13 : 0 <= xq13 /\ xq13 <= 18446744073709551615:=by simp [Lit.wf,IntKind.min,IntKind.max,IntKind.signed,IntKind.bits] at wq13; omega
 obtain ⟨xq14,eq14,wq14⟩:=rd_int (k:=.u32) (by kernel_rfl) h7
 have vq14 : 0 <= xq14 /\ xq14 <= 4294967295:=by simp [Lit.wf,IntKind.min,IntKind.max,IntKind.signed,IntKind.bits] at wq14; omega
 obtain ⟨xq15,eq15,wq15⟩:=rd_int (k:=.u32) (by kernel_rfl) h9
 have vq15 : 0 <= xq15 /\ xq15 <= 4294967295:=by simp [Lit.wf,IntKind.min,IntKind.max,IntKind.signed,IntKind.bits] at wq15; omega
 obtain ⟨c17,_,h18⟩:=rd_field (i:=0) (off:=0) (ft:=25) (z:=2) (z':=1) (by kernel_rfl) (by kernel_rfl) (by kernel_rfl) h11
 obtain ⟨c19,_,h20⟩:=rd_field (i:=1) (off:=1) (ft:=25) (z:=2) (z':=1) (by kernel_rfl) (by kernel_rfl) (by kernel_rfl) h11
 obtain ⟨xq21,eq21,wq21⟩:=rd_int (k:=.u64) (by kernel_rfl) h18
 have vq21 : 0 <= xq21 /\ xq21 <= 18446744073709551615:=by simp [Lit.wf,IntKind.min,IntKind.max,IntKind.signed,IntKind.bits] at wq21; omega
 obtain ⟨xq22,eq22,wq22⟩:=rd_int (k:=.u64) (by kernel_rfl) h20
 have vq22 : 0 <= xq22 /\ xq22 <= 18446744073709551615:=by simp [Lit.wf,IntKind.min,IntKind.max,IntKind.signed,IntKind.bits] at wq22; omega
 match es,c2 with
 | [u0,u1,u2,u3,u4,u5],_ =>
  simp at eq12 eq13 eq14 eq15 eq21 eq22
  subst eq12; subst eq13; subst eq14; subst eq15; subst eq21; subst eq22
  exact ⟨⟨xq12,xq13,xq14,xq15,xq21,xq22⟩,rfl,⟨vq12,vq13,vq14,vq15,vq21,vq22⟩⟩
theorem dr_ok {W : World} {d : Dr} (h : drc_rd_wf W d) : DrOk d:=by
 unfold drc_rd_wf at h
 exact ⟨by omega,by omega,by omega,by omega⟩
theorem walk_ConnHands (W : World) (args : List Value) (h : ArgsOk Tryz.prog W Tryz.f3.params.toList args) : CALL Tryz.prog 3 args W fun v W' => v = .bool true /\ Kp [] W W':=by
 have h' : ArgsOk PG W [24,30] args:=h
 obtain ⟨v0,r0,rfl,h0,h'⟩:=h'.cons
 obtain ⟨v1,r1,rfl,h1,h'⟩:=h'.cons
 obtain rfl:=h'.nil
 obtain ⟨g,rfl,_⟩:=agg_rd cfg_rd h0
 obtain ⟨d,rfl,hd⟩:=agg_rd drc_rd h1
 have hs:=St.start (w:=W) (φ:=fun _ => True) fun w' _ => trivial
 exact hands_ok hs (g:=g) (d:=d) (dr_ok hd) fun W' L' k => ⟨rfl,k.kp⟩
set_option maxRecDepth 100000 in
theorem lifted_ConnHands (os : Os) (started : os.Started) (H : Type) (enc : TypeId × Value -> H) :
  ReturnsInHanded {} Tryz.checked os 3 .any (Rows.connHandsSpec.pre6 enc Tryz.prog Tryz.f3 Rows.connHandsRow.domain false) (Rows.connHandsSpec.post enc Tryz.prog Tryz.f3 false true false false) :=
 law_lift (C:=Tryz.checked) (bt:=4) (by kernel_rfl) started (by kernel_rfl) Tryz.func3 (by kernel_rfl) (by kernel_rfl) (by kernel_rfl) (by kernel_rfl) rfl
  (ChangeSpec.witness6 (enc:=enc) (C:=Tryz.checked) false ⟨#[],#[.agg #[.int .i64 0,.int .i64 0,.int .i64 0,.int .i64 0,.int .i64 0,.int .i64 0,.int .i64 0,.int .i64 0,.int .i64 0,.int .i64 0,.int .i64 0,.int .i64 0,.int .i64 0,.int .i64 0,.int .i64 0],.agg #[.int .u64 0,.int .u64 0,.int .u32 0,.int .u32 0,.int .u64 0,.int .u64 0]],[]⟩ 8 (by kernel_rfl) (by kernel_rfl) (by kernel_rfl) (by kernel_rfl))
  (fun ds hd => by
   match ds,hd with
   | [d0,d1],_ => rfl)
  walk_ConnHands
end Go.Proofs.YtmglifmopjedbaaGreat
