import Derived.Test.YtadfohbogoocgaaPAx0
import Derived.Test.YtadfohbogoocgaaPAx1
import Derived.Test.YtadfohbogoocgaaPAx5
import Derived.Test.YtadfohbogoocgaaPAx7
namespace Go.Proofs.Ytadfohbogoocgaa.PA
open Go.RowKit Go.Proofs.YtadfohbogoocgaaW.PrintWords Go.Proofs.YtadfohbogoocgaaW.PrintLast Go.Proofs.YtadfohbogoocgaaW.PrintMore Go.Proofs.YtadfohbogoocgaaX Go.Proofs.YtadfohbogoocgaaB Go.Proofs.YtadfohbogoocgaaPq
attribute [local go_sem] gi gj gx gy jr js gm gn
set_option linter.unusedVariables false
set_option linter.unusedSimpArgs false
attribute [local go_sem high] eqA36
mutual
def zw.j1 : Nat → ByteArray → Bool → Int → Int → Int → Int → Int → Int → ByteArray → List (S36) → Int → Int → Int → Option (Int × Int × Int × Int × Int × Int × ByteArray × (List (S36)) × Int × Int × Int × ByteArray × Bool)
  | 0, _, _, _, _, _, _, _, _, _, _, _, _, _ => none
  | k + 1, x1000, x1001, x219000, x219001, x219002, x219003, x219004, x219005, x219006, x219007, x219008, x219009, x219010 => if x1001 = true then (some (x219000, x219001, x219002, x219003, x219004, x219005, x219006, x219007, x219008, x219009, x219010, x1000, true)) else ((je.f k x219000 x219001 x219002 x219003 x219004 x219005 x219006 x219007 x219008 x219009 x219010).bind fun t247 => (some (x219000, x219001, x219002, x219003, x219004, x219005, x219006, x219007, x219008, x219009, x219010, x1000, !t247)))
def zw.l0 : Nat → Int → Int → Int → ByteArray → Bool → Int → Int → Int → Int → Int → Int → ByteArray → List (S36) → Int → Int → Int → Option (Int × Int × Int × Int × Int × Int × ByteArray × (List (S36)) × Int × Int × Int × ByteArray × Bool)
  | 0, _, _, _, _, _, _, _, _, _, _, _, _, _, _, _, _ => none
  | k + 1, x4, x33, x34, x1000, x1001, x219000, x219001, x219002, x219003, x219004, x219005, x219006, x219007, x219008, x219009, x219010 => if x34 < x33 then ((vz.f k x1000 x1001).bind fun bt239 => (if x219007.length < 5864062014805 then (zw.l0 k x4 x33 (wrap64 (x34 + 1)) bt239.2.2.2.1 bt239.2.2.2.2 x219000 x219001 x219002 x219003 x219004 x219005 x219006 (x219007 ++ [(⟨bt239.1, bt239.2.1, bt239.2.2.1⟩ : S36)]) x219008 x219009 x219010) else (none))) else (if x1001 = true then (zw.j1 k x1000 true x219000 x219001 x219002 x219003 x219004 x219005 x219006 x219007 x219008 x219009 x219010) else (zw.j1 k x1000 (decide (x4 > 200)) x219000 x219001 x219002 x219003 x219004 x219005 x219006 x219007 x219008 x219009 x219010))
end
def zw.f (k : Nat) (s0_0 : ByteArray) (s0_1 : Bool) : Option (Int × Int × Int × Int × Int × Int × ByteArray × (List (S36)) × Int × Int × Int × ByteArray × Bool) := (zl.f k s0_0 s0_1).bind fun bt209 => ((zl.f k bt209.2.1 bt209.2.2).bind fun bt212 => ((zl.f k bt212.2.1 bt212.2.2).bind fun bt215 => (if bt215.1 = 2 then ((zl.f k bt215.2.1 bt215.2.2).bind fun bt219 => ((zl.f k bt219.2.1 bt219.2.2).bind fun bt222 => ((zl.f k bt222.2.1 bt222.2.2).bind fun bt225 => (zw.j1 k bt225.2.1 bt225.2.2 bt209.1 bt212.1 bt215.1 0 0 0 (⟨#[]⟩ : ByteArray) ([] : List (S36)) bt219.1 bt222.1 bt225.1)))) else ((vz.f k bt215.2.1 bt215.2.2).bind fun bt228 => ((uc.f k bt228.2.2.2.1 bt228.2.2.2.2).bind fun bt233 => ((zl.f k bt233.2.1 bt233.2.2).bind fun bt236 => (zw.l0 k bt236.1 (mn bt236.1 200) 0 bt236.2.1 bt236.2.2 bt209.1 bt212.1 bt215.1 bt228.1 bt228.2.1 bt228.2.2.1 bt233.1 ([] : List (S36)) 0 0 0)))))))
theorem zw.mono_l : ∀ k, (∀ y0 y1 y2 y3 y4 y5 y6 y7 y8 y9 y10 y11 y12, LeO (zw.j1 k y0 y1 y2 y3 y4 y5 y6 y7 y8 y9 y10 y11 y12) (zw.j1 (k + 1) y0 y1 y2 y3 y4 y5 y6 y7 y8 y9 y10 y11 y12)) ∧ (∀ y0 y1 y2 y3 y4 y5 y6 y7 y8 y9 y10 y11 y12 y13 y14 y15, LeO (zw.l0 k y0 y1 y2 y3 y4 y5 y6 y7 y8 y9 y10 y11 y12 y13 y14 y15) (zw.l0 (k + 1) y0 y1 y2 y3 y4 y5 y6 y7 y8 y9 y10 y11 y12 y13 y14 y15))
  | 0 => ⟨fun _ _ _ _ _ _ _ _ _ _ _ _ _ r h => by simp [zw.j1] at h, fun _ _ _ _ _ _ _ _ _ _ _ _ _ _ _ _ r h => by simp [zw.l0] at h⟩
  | k + 1 => by
    obtain ⟨ih0, ih1⟩ := zw.mono_l k
    refine ⟨?_, ?_⟩
    · intro y0 y1 y2 y3 y4 y5 y6 y7 y8 y9 y10 y11 y12
      unfold zw.j1
      repeat' first
      | (with_reducible exact ih0 _ _ _ _ _ _ _ _ _ _ _ _ _)
      | (with_reducible exact ih1 _ _ _ _ _ _ _ _ _ _ _ _ _ _ _ _)
      | (with_reducible exact je.mono _ _ _ _ _ _ _ _ _ _ _ _)
      | (with_reducible exact vz.mono _ _ _)
      | (with_reducible exact zl.mono _ _ _)
      | (with_reducible exact uc.mono _ _ _)
      | (with_reducible exact LeO.refl _)
      | (with_reducible exact LeO.none _)
      | (with_reducible refine LeO.ite ?_ ?_)
      | (with_reducible refine LeO.bind ?_ (fun _ => ?_))
      | exact ih0 _ _ _ _ _ _ _ _ _ _ _ _ _
      | exact ih1 _ _ _ _ _ _ _ _ _ _ _ _ _ _ _ _
      | exact je.mono _ _ _ _ _ _ _ _ _ _ _ _
      | exact vz.mono _ _ _
      | exact zl.mono _ _ _
      | exact uc.mono _ _ _
      | exact LeO.none _
      | refine LeO.ite ?_ ?_
      | refine LeO.bind ?_ (fun _ => ?_)
    · intro y0 y1 y2 y3 y4 y5 y6 y7 y8 y9 y10 y11 y12 y13 y14 y15
      unfold zw.l0
      repeat' first
      | (with_reducible exact ih0 _ _ _ _ _ _ _ _ _ _ _ _ _)
      | (with_reducible exact ih1 _ _ _ _ _ _ _ _ _ _ _ _ _ _ _ _)
      | (with_reducible exact je.mono _ _ _ _ _ _ _ _ _ _ _ _)
      | (with_reducible exact vz.mono _ _ _)
      | (with_reducible exact zl.mono _ _ _)
      | (with_reducible exact uc.mono _ _ _)
      | (with_reducible exact LeO.refl _)
      | (with_reducible exact LeO.none _)
      | (with_reducible refine LeO.ite ?_ ?_)
      | (with_reducible refine LeO.bind ?_ (fun _ => ?_))
      | exact ih0 _ _ _ _ _ _ _ _ _ _ _ _ _
      | exact ih1 _ _ _ _ _ _ _ _ _ _ _ _ _ _ _ _
      | exact je.mono _ _ _ _ _ _ _ _ _ _ _ _
      | exact vz.mono _ _ _
      | exact zl.mono _ _ _
      | exact uc.mono _ _ _
      | exact LeO.none _
      | refine LeO.ite ?_ ?_
      | refine LeO.bind ?_ (fun _ => ?_)
theorem zw.mono : ∀ a0 a1 k, LeO (zw.f k a0 a1) (zw.f (k + 1) a0 a1) := by
  intro a0 a1 k
  obtain ⟨ih0, ih1⟩ := zw.mono_l k
  unfold zw.f
  repeat' first
      | (with_reducible exact ih0 _ _ _ _ _ _ _ _ _ _ _ _ _)
      | (with_reducible exact ih1 _ _ _ _ _ _ _ _ _ _ _ _ _ _ _ _)
      | (with_reducible exact je.mono _ _ _ _ _ _ _ _ _ _ _ _)
      | (with_reducible exact vz.mono _ _ _)
      | (with_reducible exact zl.mono _ _ _)
      | (with_reducible exact uc.mono _ _ _)
      | (with_reducible exact LeO.refl _)
      | (with_reducible exact LeO.none _)
      | (with_reducible refine LeO.ite ?_ ?_)
      | (with_reducible refine LeO.bind ?_ (fun _ => ?_))
      | exact ih0 _ _ _ _ _ _ _ _ _ _ _ _ _
      | exact ih1 _ _ _ _ _ _ _ _ _ _ _ _ _ _ _ _
      | exact je.mono _ _ _ _ _ _ _ _ _ _ _ _
      | exact vz.mono _ _ _
      | exact zl.mono _ _ _
      | exact uc.mono _ _ _
      | exact LeO.none _
      | refine LeO.ite ?_ ?_
      | refine LeO.bind ?_ (fun _ => ?_)
def zw.T8 : Bool × List (List Nat × List Nat) := (true, [([], []), ([0], [0]), ([], []), ([2], [2]), ([3], [3]), ([1, 4, 3], [1, 4]), ([0, 1, 2, 3, 4, 5], []), ([6, 5, 5, 0, 1, 2, 3, 4, 5], [5, 6])])
def zw.B8 : List Nat := [0, 1, 0, 4, 12, 31, 63, 127]
theorem zw.tab8 : rtab .any (opsOf Try.f40 8) = zw.T8 := by kernel_rfl
theorem zw.bits8 : waitsOk zw.T8.2 zw.B8 = true := by kernel_rfl
set_option maxHeartbeats 8000000 in
set_option maxRecDepth 100000 in
theorem zw.calls (k : Nat) (g : Nat) (s0_0 : ByteArray) (s0_1 : Bool) (r1 : Int) (r2 : Int) (r3 : Int) (r4 : Int) (r5 : Int) (r6 : Int) (r7 : ByteArray) (r8 : List (S36)) (r9 : Int) (r10 : Int) (r11 : Int) (r12 : ByteArray) (r13 : Bool) (w0 w : World) (hI : IsS86 w0 w g s0_0 s0_1) (hB : Below w0.heap.size w0 w) (h : zw.f k s0_0 s0_1 = some (r1, r2, r3, r4, r5, r6, r7, r8, r9, r10, r11, r12, r13)) :
  Calls Try.prog 40 #[.pointer (some ⟨g, 0, none⟩)] w fun e w' => ∃ v7_ : Value, e = .returned (.agg #[.int .i64 r1, .int .i64 r2, .int .i64 r3, .int .i64 r4, .int .i64 r5, .int .i64 r6, .string r7, v7_, .int .i64 r9, .int .i64 r10, .int .i64 r11]) ∧ Kd.R k36 36 w' w.heap.size (fun _ => True) v7_ r8 ∧ IsS86 w0 w' g r12 r13 ∧ Below w0.heap.size w0 w' ∧ KeepBut w w' g none := by
 have hu38 := Try.underlying38
 have hu36 := Try.underlying36
 have HI0 := Aside0.mk hI
 have HK := Aside0.mk (KeepBut.refl w g none)
 have HL := Aside0.mk hB.size
 clear hI
 have HW0 := Aside0.mk hB.size
 have HB := Aside0.mk hB
 clear hB
 have H : ((zl.f k s0_0 s0_1).bind fun bt209 => ((zl.f k bt209.2.1 bt209.2.2).bind fun bt212 => ((zl.f k bt212.2.1 bt212.2.2).bind fun bt215 => (if bt215.1 = 2 then ((zl.f k bt215.2.1 bt215.2.2).bind fun bt219 => ((zl.f k bt219.2.1 bt219.2.2).bind fun bt222 => ((zl.f k bt222.2.1 bt222.2.2).bind fun bt225 => (zw.j1 k bt225.2.1 bt225.2.2 bt209.1 bt212.1 bt215.1 0 0 0 (⟨#[]⟩ : ByteArray) ([] : List (S36)) bt219.1 bt222.1 bt225.1)))) else ((vz.f k bt215.2.1 bt215.2.2).bind fun bt228 => ((uc.f k bt228.2.2.2.1 bt228.2.2.2.2).bind fun bt233 => ((zl.f k bt233.2.1 bt233.2.2).bind fun bt236 => (zw.l0 k bt236.1 (mn bt236.1 200) 0 bt236.2.1 bt236.2.2 bt209.1 bt212.1 bt215.1 bt228.1 bt228.2.1 bt228.2.2.1 bt233.1 ([] : List (S36)) 0 0 0)))))))) = some (r1, r2, r3, r4, r5, r6, r7, r8, r9, r10, r11, r12, r13) := h
 clear h
 replace H := Option.bind_eq_some_iff.mp H
 obtain ⟨⟨t209, t210, t211⟩, A20, H⟩ := H
 replace H : ((zl.f k t210 t211).bind fun bt212 => ((zl.f k bt212.2.1 bt212.2.2).bind fun bt215 => (if bt215.1 = 2 then ((zl.f k bt215.2.1 bt215.2.2).bind fun bt219 => ((zl.f k bt219.2.1 bt219.2.2).bind fun bt222 => ((zl.f k bt222.2.1 bt222.2.2).bind fun bt225 => (zw.j1 k bt225.2.1 bt225.2.2 t209 bt212.1 bt215.1 0 0 0 (⟨#[]⟩ : ByteArray) ([] : List (S36)) bt219.1 bt222.1 bt225.1)))) else ((vz.f k bt215.2.1 bt215.2.2).bind fun bt228 => ((uc.f k bt228.2.2.2.1 bt228.2.2.2.2).bind fun bt233 => ((zl.f k bt233.2.1 bt233.2.2).bind fun bt236 => (zw.l0 k bt236.1 (mn bt236.1 200) 0 bt236.2.1 bt236.2.2 t209 bt212.1 bt215.1 bt228.1 bt228.2.1 bt228.2.2.1 bt233.1 ([] : List (S36)) 0 0 0))))))) = some (r1, r2, r3, r4, r5, r6, r7, r8, r9, r10, r11, r12, r13) := H
 have A2 := Aside0.mk A20
 clear A20
 replace H := Option.bind_eq_some_iff.mp H
 obtain ⟨⟨t212, t213, t214⟩, A30, H⟩ := H
 replace H : ((zl.f k t213 t214).bind fun bt215 => (if bt215.1 = 2 then ((zl.f k bt215.2.1 bt215.2.2).bind fun bt219 => ((zl.f k bt219.2.1 bt219.2.2).bind fun bt222 => ((zl.f k bt222.2.1 bt222.2.2).bind fun bt225 => (zw.j1 k bt225.2.1 bt225.2.2 t209 t212 bt215.1 0 0 0 (⟨#[]⟩ : ByteArray) ([] : List (S36)) bt219.1 bt222.1 bt225.1)))) else ((vz.f k bt215.2.1 bt215.2.2).bind fun bt228 => ((uc.f k bt228.2.2.2.1 bt228.2.2.2.2).bind fun bt233 => ((zl.f k bt233.2.1 bt233.2.2).bind fun bt236 => (zw.l0 k bt236.1 (mn bt236.1 200) 0 bt236.2.1 bt236.2.2 t209 t212 bt215.1 bt228.1 bt228.2.1 bt228.2.2.1 bt233.1 ([] : List (S36)) 0 0 0)))))) = some (r1, r2, r3, r4, r5, r6, r7, r8, r9, r10, r11, r12, r13) := H
 have A3 := Aside0.mk A30
 clear A30
 replace H := Option.bind_eq_some_iff.mp H
 obtain ⟨⟨t215, t216, t217⟩, A40, H⟩ := H
 replace H : (if t215 = 2 then ((zl.f k t216 t217).bind fun bt219 => ((zl.f k bt219.2.1 bt219.2.2).bind fun bt222 => ((zl.f k bt222.2.1 bt222.2.2).bind fun bt225 => (zw.j1 k bt225.2.1 bt225.2.2 t209 t212 t215 0 0 0 (⟨#[]⟩ : ByteArray) ([] : List (S36)) bt219.1 bt222.1 bt225.1)))) else ((vz.f k t216 t217).bind fun bt228 => ((uc.f k bt228.2.2.2.1 bt228.2.2.2.2).bind fun bt233 => ((zl.f k bt233.2.1 bt233.2.2).bind fun bt236 => (zw.l0 k bt236.1 (mn bt236.1 200) 0 bt236.2.1 bt236.2.2 t209 t212 t215 bt228.1 bt228.2.1 bt228.2.2.1 bt233.1 ([] : List (S36)) 0 0 0))))) = some (r1, r2, r3, r4, r5, r6, r7, r8, r9, r10, r11, r12, r13) := H
 have A4 := Aside0.mk A40
 clear A40
 have HC5 := Aside0.mk H
 clear H
 go_enter Try.func40, Try.ntmps40
 go_upto_if 14 with (first | ((with_reducible refine yf (N := 2) rfl ?_); refine yd ?hg (N := 2) ?hd (cs := #[.int .i64 0, .int .i64 0, .int .i64 0, .int .i64 0, .int .i64 0, .int .i64 0, .string (⟨#[]⟩ : ByteArray), .slice none 0 0, .int .i64 0, .int .i64 0, .int .i64 0]) (t := 38) ?hr ?_; (case hd => rfl); (case hg => rfl); (case hr => first | (go_simp; done) | (go_simp; rfl)); intro gb208 hg w6 hbox hb; have n0_ := Aside0.mk (IsS86.below (by repeat (first | (with_reducible first | exact HI0.out | apply IsS86.alloc | apply IsS86.drewN | apply IsS86.drew | apply IsS86.set_0 | apply IsS86.set_1) | exact HI0.out)) hb); have n1_ := Aside0.mk (KeepBut.trans (by repeat (first | (with_reducible first | exact HK.out | apply KeepBut.set_ | apply vp | apply vv | apply vq) | exact HK.out)) (KeepBut.of_below hb g none) (.inl rfl)); have n2_ := Aside0.mk (zj (by repeat (first | (with_reducible first | exact HB.out | apply z8 | apply z6 | apply z7 | refine zb ?_ (IsS86.ge HI0.out)) | exact HB.out)) hb); have n3_ := Aside0.mk (hbox); have n4_ := Aside0.mk ((by rw [hg]; exact (z0i (w := w) (g := g) (row := none) (by repeat (first | (with_reducible first | exact HK.out | apply KeepBut.set_ | apply vp | apply vv | apply vq) | exact HK.out))) : w.heap.size ≤ gb208)); have n5_ := Aside0.mk ((Nat.le_trans HW0.out (by rw [hg]; exact (z0i (w := w) (g := g) (row := none) (by repeat (first | (with_reducible first | exact HK.out | apply KeepBut.set_ | apply vp | apply vv | apply vq) | exact HK.out))) : w.heap.size ≤ gb208) : w0.heap.size ≤ gb208)); have n6_ := Aside0.mk ((by rw [hg]; exact Nat.ne_of_lt (IsS86.lt (show IsS86 w0 _ g s0_0 s0_1 from by repeat (first | (with_reducible first | exact HI0.out | apply IsS86.alloc | apply IsS86.drewN | apply IsS86.drew | apply IsS86.set_0 | apply IsS86.set_1) | exact HI0.out))) : g ≠ gb208)); have n7_ := Aside0.mk ((by rw [hg]; exact Nat.ne_of_gt (IsS86.lt (show IsS86 w0 _ g s0_0 s0_1 from by repeat (first | (with_reducible first | exact HI0.out | apply IsS86.alloc | apply IsS86.drewN | apply IsS86.drew | apply IsS86.set_0 | apply IsS86.set_1) | exact HI0.out))) : gb208 ≠ g)); clear HI0; clear HK; clear HB; have HI0 := n0_; have HK := n1_; have HB := n2_; have BK208 := n3_; have GW208 := n4_; have GE208 := n5_; have NB0_208 := n6_; have NB208_0 := n7_; clear n0_ n1_ n2_ n3_ n4_ n5_ n6_ n7_; clear hb hbox hg) | ((with_reducible refine zu (f := 44) rfl ?_); refine yn (some 6) rfl rfl Try.func44 (by kernel_rfl) rfl #[.pointer (some ⟨g, 0, none⟩)] rfl (by (try simp only [List.map_toArray, List.map_cons, List.map_nil]); first | done | rfl | (simp only [List.length_drop, List.length_take]; rfl)) ?_; (with_reducible refine (zl.calls k g s0_0 s0_1 t209 t210 t211 w0 _ ?side1 ?side2 A2.out).mono ?_); (case side1 => repeat (first | (with_reducible first | exact HI0.out | apply IsS86.alloc | apply IsS86.drewN | apply IsS86.drew | apply IsS86.set_0 | apply IsS86.set_1 | refine IsS86.far ?_ NB0_208.out _) | exact HI0.out)); (case side2 => repeat (first | (with_reducible first | exact HB.out | apply z8 | apply z6 | apply z7 | refine zb ?_ (IsS86.ge HI0.out) | refine zb ?_ GE208.out) | exact HB.out)); rintro e w7 ⟨rfl, hi, hb, hk⟩; refine ⟨_, rfl, ?_⟩; have n0_ := Aside0.mk (KeepBut.blk hk (g' := gb208) (o := .cells #[.int .i64 0, .int .i64 0, .int .i64 0, .int .i64 0, .int .i64 0, .int .i64 0, .string (⟨#[]⟩ : ByteArray), .slice none 0 0, .int .i64 0, .int .i64 0, .int .i64 0] 38 (0, 0)) (by (with_reducible repeat (first | refine ze ?_ _ | refine zf ?_ | refine zc ?_ _)); exact BK208.out) NB208_0.out (by simp)); have n1_ := Aside0.mk (KeepBut.trans (by repeat (first | (with_reducible first | exact HK.out | apply KeepBut.set_ | apply vp | apply vv | apply vq | refine ua ?_ GW208.out _) | exact HK.out)) hk (.inl rfl)); have n2_ := Aside0.mk (hb); have n3_ := Aside0.mk (hi); clear BK208; clear HK; clear HB; clear HI0; have BK208 := n0_; have HK := n1_; have HB := n2_; have HI0 := n3_; clear n0_ n1_ n2_ n3_; (try clear hb); (try clear hb2); (try clear hk); (try clear hi)) | ((with_reducible refine zu (f := 44) rfl ?_); refine yn (some 8) rfl rfl Try.func44 (by kernel_rfl) rfl #[.pointer (some ⟨g, 0, none⟩)] rfl (by (try simp only [List.map_toArray, List.map_cons, List.map_nil]); first | done | rfl | (simp only [List.length_drop, List.length_take]; rfl)) ?_; (with_reducible refine (zl.calls k g t210 t211 t212 t213 t214 w0 _ ?side1 ?side2 A3.out).mono ?_); (case side1 => repeat (first | (with_reducible first | exact HI0.out | apply IsS86.alloc | apply IsS86.drewN | apply IsS86.drew | apply IsS86.set_0 | apply IsS86.set_1 | refine IsS86.far ?_ NB0_208.out _) | exact HI0.out)); (case side2 => repeat (first | (with_reducible first | exact HB.out | apply z8 | apply z6 | apply z7 | refine zb ?_ (IsS86.ge HI0.out) | refine zb ?_ GE208.out) | exact HB.out)); rintro e w8 ⟨rfl, hi, hb, hk⟩; refine ⟨_, rfl, ?_⟩; have n0_ := Aside0.mk (KeepBut.blk hk (g' := gb208) (o := .cells #[.int .i64 0, .int .i64 0, .int .i64 0, .int .i64 0, .int .i64 0, .int .i64 0, .string (⟨#[]⟩ : ByteArray), .slice none 0 0, .int .i64 0, .int .i64 0, .int .i64 0] 38 (0, 0)) (by (with_reducible repeat (first | refine ze ?_ _ | refine zf ?_ | refine zc ?_ _)); exact BK208.out) NB208_0.out (by simp)); have n1_ := Aside0.mk (KeepBut.trans (by repeat (first | (with_reducible first | exact HK.out | apply KeepBut.set_ | apply vp | apply vv | apply vq | refine ua ?_ GW208.out _) | exact HK.out)) hk (.inl rfl)); have n2_ := Aside0.mk (hb); have n3_ := Aside0.mk (hi); clear BK208; clear HK; clear HB; clear HI0; have BK208 := n0_; have HK := n1_; have HB := n2_; have HI0 := n3_; clear n0_ n1_ n2_ n3_; (try clear hb); (try clear hb2); (try clear hk); (try clear hi)) | ((with_reducible refine zu (f := 44) rfl ?_); refine yn (some 10) rfl rfl Try.func44 (by kernel_rfl) rfl #[.pointer (some ⟨g, 0, none⟩)] rfl (by (try simp only [List.map_toArray, List.map_cons, List.map_nil]); first | done | rfl | (simp only [List.length_drop, List.length_take]; rfl)) ?_; (with_reducible refine (zl.calls k g t213 t214 t215 t216 t217 w0 _ ?side1 ?side2 A4.out).mono ?_); (case side1 => repeat (first | (with_reducible first | exact HI0.out | apply IsS86.alloc | apply IsS86.drewN | apply IsS86.drew | apply IsS86.set_0 | apply IsS86.set_1 | refine IsS86.far ?_ NB0_208.out _) | exact HI0.out)); (case side2 => repeat (first | (with_reducible first | exact HB.out | apply z8 | apply z6 | apply z7 | refine zb ?_ (IsS86.ge HI0.out) | refine zb ?_ GE208.out) | exact HB.out)); rintro e w9 ⟨rfl, hi, hb, hk⟩; refine ⟨_, rfl, ?_⟩; have n0_ := Aside0.mk (KeepBut.blk hk (g' := gb208) (o := .cells #[.int .i64 0, .int .i64 0, .int .i64 0, .int .i64 0, .int .i64 0, .int .i64 0, .string (⟨#[]⟩ : ByteArray), .slice none 0 0, .int .i64 0, .int .i64 0, .int .i64 0] 38 (0, 0)) (by (with_reducible repeat (first | refine ze ?_ _ | refine zf ?_ | refine zc ?_ _)); exact BK208.out) NB208_0.out (by simp)); have n1_ := Aside0.mk (KeepBut.trans (by repeat (first | (with_reducible first | exact HK.out | apply KeepBut.set_ | apply vp | apply vv | apply vq | refine ua ?_ GW208.out _) | exact HK.out)) hk (.inl rfl)); have n2_ := Aside0.mk (hb); have n3_ := Aside0.mk (hi); clear BK208; clear HK; clear HB; clear HI0; have BK208 := n0_; have HK := n1_; have HB := n2_; have HI0 := n3_; clear n0_ n1_ n2_ n3_; (try clear hb); (try clear hb2); (try clear hk); (try clear hi)) | ((with_reducible refine yf (N := 3) rfl ?_); refine yd ?hg (N := 3) ?hd (cs := #[.int .i64 0, .int .i64 0, .int .i64 0, .int .i64 0, .int .i64 0, .int .i64 0, .string (⟨#[]⟩ : ByteArray), .slice none 0 0, .int .i64 0, .int .i64 0, .int .i64 0]) (t := 38) ?hr ?_; (case hd => rfl); (case hg => rfl); (case hr => first | (go_simp; done) | (go_simp; rfl)); intro gb218 hg w10 hbox hb; have n0_ := Aside0.mk (IsS86.below (by repeat (first | (with_reducible first | exact HI0.out | apply IsS86.alloc | apply IsS86.drewN | apply IsS86.drew | apply IsS86.set_0 | apply IsS86.set_1 | refine IsS86.far ?_ NB0_208.out _) | exact HI0.out)) hb); have n1_ := Aside0.mk (zt (by (with_reducible repeat (first | refine ze ?_ _ | refine zf ?_ | refine zc ?_ _)); exact BK208.out) hb); have n2_ := Aside0.mk (KeepBut.trans (by repeat (first | (with_reducible first | exact HK.out | apply KeepBut.set_ | apply vp | apply vv | apply vq | refine ua ?_ GW208.out _) | exact HK.out)) (KeepBut.of_below hb g none) (.inl rfl)); have n3_ := Aside0.mk (zj (by repeat (first | (with_reducible first | exact HB.out | apply z8 | apply z6 | apply z7 | refine zb ?_ (IsS86.ge HI0.out) | refine zb ?_ GE208.out) | exact HB.out)) hb); have n4_ := Aside0.mk (hbox); have n5_ := Aside0.mk ((by rw [hg]; exact (z0i (w := w) (g := g) (row := none) (by repeat (first | (with_reducible first | exact HK.out | apply KeepBut.set_ | apply vp | apply vv | apply vq | refine ua ?_ GW208.out _) | exact HK.out))) : w.heap.size ≤ gb218)); have n6_ := Aside0.mk ((Nat.le_trans HW0.out (by rw [hg]; exact (z0i (w := w) (g := g) (row := none) (by repeat (first | (with_reducible first | exact HK.out | apply KeepBut.set_ | apply vp | apply vv | apply vq | refine ua ?_ GW208.out _) | exact HK.out))) : w.heap.size ≤ gb218) : w0.heap.size ≤ gb218)); have n7_ := Aside0.mk ((by rw [hg]; exact Nat.ne_of_lt (vo (g := gb208) (o := .cells #[.int .i64 0, .int .i64 0, .int .i64 0, .int .i64 0, .int .i64 0, .int .i64 0, .string (⟨#[]⟩ : ByteArray), .slice none 0 0, .int .i64 0, .int .i64 0, .int .i64 0] 38 (0, 0)) (by (with_reducible repeat (first | refine ze ?_ _ | refine zf ?_ | refine zc ?_ _)); exact BK208.out)) : gb208 ≠ gb218)); have n8_ := Aside0.mk ((by rw [hg]; exact Nat.ne_of_gt (vo (g := gb208) (o := .cells #[.int .i64 0, .int .i64 0, .int .i64 0, .int .i64 0, .int .i64 0, .int .i64 0, .string (⟨#[]⟩ : ByteArray), .slice none 0 0, .int .i64 0, .int .i64 0, .int .i64 0] 38 (0, 0)) (by (with_reducible repeat (first | refine ze ?_ _ | refine zf ?_ | refine zc ?_ _)); exact BK208.out)) : gb218 ≠ gb208)); have n9_ := Aside0.mk ((by rw [hg]; exact Nat.ne_of_lt (IsS86.lt (show IsS86 w0 _ g t216 t217 from by repeat (first | (with_reducible first | exact HI0.out | apply IsS86.alloc | apply IsS86.drewN | apply IsS86.drew | apply IsS86.set_0 | apply IsS86.set_1 | refine IsS86.far ?_ NB0_208.out _) | exact HI0.out))) : g ≠ gb218)); have n10_ := Aside0.mk ((by rw [hg]; exact Nat.ne_of_gt (IsS86.lt (show IsS86 w0 _ g t216 t217 from by repeat (first | (with_reducible first | exact HI0.out | apply IsS86.alloc | apply IsS86.drewN | apply IsS86.drew | apply IsS86.set_0 | apply IsS86.set_1 | refine IsS86.far ?_ NB0_208.out _) | exact HI0.out))) : gb218 ≠ g)); clear HI0; clear BK208; clear HK; clear HB; have HI0 := n0_; have BK208 := n1_; have HK := n2_; have HB := n3_; have BK218 := n4_; have GW218 := n5_; have GE218 := n6_; have NB208_218 := n7_; have NB218_208 := n8_; have NB0_218 := n9_; have NB218_0 := n10_; clear n0_ n1_ n2_ n3_ n4_ n5_ n6_ n7_ n8_ n9_ n10_; clear hb hbox hg; have hnb11 := NB218_208.out; have hnc11 := NB208_218.out; have hnb12 := NB218_0.out; have hnc12 := NB0_218.out; have hcz13_0 := yq BK218.out; have hfz13_0 := fun j_ => zi BK218.out j_))
 (try simp only [Act.put, List.setIfInBounds_toArray, List.set_cons_zero, List.set_cons_succ])
 go_cut [] (fun wc => ∃ (kq : Nat) (x1000_4 : ByteArray) (x1001_4 : Bool) (x219003_4 : Int) (x219004_4 : Int) (x219005_4 : Int) (x219006_4 : ByteArray) (x219007_4 : List (S36)) (x219008_4 : Int) (x219009_4 : Int) (x219010_4 : Int) (u219007 : Value), Aside0 (zw.j1 kq x1000_4 x1001_4 t209 t212 t215 x219003_4 x219004_4 x219005_4 x219006_4 x219007_4 x219008_4 x219009_4 x219010_4 = some (r1, r2, r3, r4, r5, r6, r7, r8, r9, r10, r11, r12, r13)) ∧ Aside0 (kq ≤ k) ∧ Aside0 (Kd.R k36 36 wc w.heap.size (fun _ => True) u219007 x219007_4) ∧ Aside0 (wc.heap[gb208]? = some (.cells #[.int .i64 0, .int .i64 0, .int .i64 0, .int .i64 0, .int .i64 0, .int .i64 0, .string (⟨#[]⟩ : ByteArray), (.slice none 0 0), .int .i64 0, .int .i64 0, .int .i64 0] 38 (0, 0))) ∧ Aside0 (wc.heap[gb218]? = some (.cells #[.int .i64 t209, .int .i64 t212, .int .i64 t215, .int .i64 x219003_4, .int .i64 x219004_4, .int .i64 x219005_4, .string x219006_4, u219007, .int .i64 x219008_4, .int .i64 x219009_4, .int .i64 x219010_4] 38 (0, 0))) ∧ Aside0 (IsS86 w0 wc g x1000_4 x1001_4) ∧ Aside0 (KeepBut w wc g none) ∧ Aside0 (Below w0.heap.size w0 wc))
 case first =>
  have H := HC5.out
  clear HC5
  by_cases c14 : t215 = 2
  ·
   rw [if_pos c14] at H
   have c14b0 : (t215 == 2) = true := beq_iff_eq.mpr c14
   have c14b1 : (t215 != 2) = false := bne_eq_false_iff_eq.mpr c14
   clear c14
   (first | rw [c14b0] | (simp only [vw, ud]; rw [c14b0]) | skip)
   replace H := Option.bind_eq_some_iff.mp H
   obtain ⟨⟨t219, t220, t221⟩, A150, H⟩ := H
   replace H : ((zl.f k t220 t221).bind fun bt222 => ((zl.f k bt222.2.1 bt222.2.2).bind fun bt225 => (zw.j1 k bt225.2.1 bt225.2.2 t209 t212 t215 0 0 0 (⟨#[]⟩ : ByteArray) ([] : List (S36)) t219 bt222.1 bt225.1))) = some (r1, r2, r3, r4, r5, r6, r7, r8, r9, r10, r11, r12, r13) := H
   have A15 := Aside0.mk A150
   clear A150
   replace H := Option.bind_eq_some_iff.mp H
   obtain ⟨⟨t222, t223, t224⟩, A160, H⟩ := H
   replace H : ((zl.f k t223 t224).bind fun bt225 => (zw.j1 k bt225.2.1 bt225.2.2 t209 t212 t215 0 0 0 (⟨#[]⟩ : ByteArray) ([] : List (S36)) t219 t222 bt225.1)) = some (r1, r2, r3, r4, r5, r6, r7, r8, r9, r10, r11, r12, r13) := H
   have A16 := Aside0.mk A160
   clear A160
   replace H := Option.bind_eq_some_iff.mp H
   obtain ⟨⟨t225, t226, t227⟩, A170, H⟩ := H
   replace H : (zw.j1 k t226 t227 t209 t212 t215 0 0 0 (⟨#[]⟩ : ByteArray) ([] : List (S36)) t219 t222 t225) = some (r1, r2, r3, r4, r5, r6, r7, r8, r9, r10, r11, r12, r13) := H
   have A17 := Aside0.mk A170
   clear A170
   have H' := Aside0.mk H
   clear H
   go_wp2_with (first | ((with_reducible refine zu (f := 44) rfl ?_); refine yn (some 16) rfl rfl Try.func44 (by kernel_rfl) rfl #[.pointer (some ⟨g, 0, none⟩)] rfl (by (try simp only [List.map_toArray, List.map_cons, List.map_nil]); first | done | rfl | (simp only [List.length_drop, List.length_take]; rfl)) ?_; (with_reducible refine (zl.calls k g t216 t217 t219 t220 t221 w0 _ ?side1 ?side2 A15.out).mono ?_); (case side1 => repeat (first | (with_reducible first | exact HI0.out | apply IsS86.alloc | apply IsS86.drewN | apply IsS86.drew | apply IsS86.set_0 | apply IsS86.set_1 | refine IsS86.far ?_ NB0_208.out _ | refine IsS86.far ?_ NB0_218.out _) | exact HI0.out)); (case side2 => repeat (first | (with_reducible first | exact HB.out | apply z8 | apply z6 | apply z7 | refine zb ?_ (IsS86.ge HI0.out) | refine zb ?_ GE208.out | refine zb ?_ GE218.out) | exact HB.out)); rintro e w18 ⟨rfl, hi, hb, hk⟩; refine ⟨_, rfl, ?_⟩; have n0_ := Aside0.mk (KeepBut.blk hk (g' := gb208) (o := .cells #[.int .i64 0, .int .i64 0, .int .i64 0, .int .i64 0, .int .i64 0, .int .i64 0, .string (⟨#[]⟩ : ByteArray), .slice none 0 0, .int .i64 0, .int .i64 0, .int .i64 0] 38 (0, 0)) (by (with_reducible repeat (first | refine ze ?_ _ | refine zf ?_ | refine zc ?_ _)); refine zp ?_ NB208_218.out _; (with_reducible repeat (first | refine ze ?_ _ | refine zf ?_ | refine zc ?_ _)); refine zp ?_ NB208_218.out _; (with_reducible repeat (first | refine ze ?_ _ | refine zf ?_ | refine zc ?_ _)); refine zp ?_ NB208_218.out _; (with_reducible repeat (first | refine ze ?_ _ | refine zf ?_ | refine zc ?_ _)); refine zp ?_ NB208_218.out _; (with_reducible repeat (first | refine ze ?_ _ | refine zf ?_ | refine zc ?_ _)); refine zp ?_ NB208_218.out _; (with_reducible repeat (first | refine ze ?_ _ | refine zf ?_ | refine zc ?_ _)); refine zp ?_ NB208_218.out _; (with_reducible repeat (first | refine ze ?_ _ | refine zf ?_ | refine zc ?_ _)); refine zp ?_ NB208_218.out _; (with_reducible repeat (first | refine ze ?_ _ | refine zf ?_ | refine zc ?_ _)); refine zp ?_ NB208_218.out _; (with_reducible repeat (first | refine ze ?_ _ | refine zf ?_ | refine zc ?_ _)); refine zp ?_ NB208_218.out _; (with_reducible repeat (first | refine ze ?_ _ | refine zf ?_ | refine zc ?_ _)); refine zp ?_ NB208_218.out _; (with_reducible repeat (first | refine ze ?_ _ | refine zf ?_ | refine zc ?_ _)); refine zp ?_ NB208_218.out _; (with_reducible repeat (first | refine ze ?_ _ | refine zf ?_ | refine zc ?_ _)); exact BK208.out) NB208_0.out (by simp)); have n1_ := Aside0.mk (KeepBut.blk hk (g' := gb218) (o := .cells #[.int .i64 t209, .int .i64 t212, .int .i64 t215, .int .i64 0, .int .i64 0, .int .i64 0, .string (⟨#[]⟩ : ByteArray), .slice none 0 0, .int .i64 0, .int .i64 0, .int .i64 0] 38 (0, 0)) (by (with_reducible repeat (first | refine ze ?_ _ | refine zf ?_ | refine zc ?_ _)); refine zx (cs := #[.int .i64 t209, .int .i64 t212, .int .i64 t215, .int .i64 0, .int .i64 0, .int .i64 0, .string (⟨#[]⟩ : ByteArray), .slice none 0 0, .int .i64 0, .int .i64 0, .int .i64 0]) ?_ 10 _ rfl; (with_reducible repeat (first | refine ze ?_ _ | refine zf ?_ | refine zc ?_ _)); refine zx (cs := #[.int .i64 t209, .int .i64 t212, .int .i64 t215, .int .i64 0, .int .i64 0, .int .i64 0, .string (⟨#[]⟩ : ByteArray), .slice none 0 0, .int .i64 0, .int .i64 0, .int .i64 0]) ?_ 9 _ rfl; (with_reducible repeat (first | refine ze ?_ _ | refine zf ?_ | refine zc ?_ _)); refine zx (cs := #[.int .i64 t209, .int .i64 t212, .int .i64 t215, .int .i64 0, .int .i64 0, .int .i64 0, .string (⟨#[]⟩ : ByteArray), .slice none 0 0, .int .i64 0, .int .i64 0, .int .i64 0]) ?_ 8 _ rfl; (with_reducible repeat (first | refine ze ?_ _ | refine zf ?_ | refine zc ?_ _)); refine zx (cs := #[.int .i64 t209, .int .i64 t212, .int .i64 t215, .int .i64 0, .int .i64 0, .int .i64 0, .string (⟨#[]⟩ : ByteArray), .slice none 0 0, .int .i64 0, .int .i64 0, .int .i64 0]) ?_ 7 _ rfl; (with_reducible repeat (first | refine ze ?_ _ | refine zf ?_ | refine zc ?_ _)); refine zx (cs := #[.int .i64 t209, .int .i64 t212, .int .i64 t215, .int .i64 0, .int .i64 0, .int .i64 0, .string (⟨#[]⟩ : ByteArray), .slice none 0 0, .int .i64 0, .int .i64 0, .int .i64 0]) ?_ 6 _ rfl; (with_reducible repeat (first | refine ze ?_ _ | refine zf ?_ | refine zc ?_ _)); refine zx (cs := #[.int .i64 t209, .int .i64 t212, .int .i64 t215, .int .i64 0, .int .i64 0, .int .i64 0, .string (⟨#[]⟩ : ByteArray), .slice none 0 0, .int .i64 0, .int .i64 0, .int .i64 0]) ?_ 5 _ rfl; (with_reducible repeat (first | refine ze ?_ _ | refine zf ?_ | refine zc ?_ _)); refine zx (cs := #[.int .i64 t209, .int .i64 t212, .int .i64 t215, .int .i64 0, .int .i64 0, .int .i64 0, .string (⟨#[]⟩ : ByteArray), .slice none 0 0, .int .i64 0, .int .i64 0, .int .i64 0]) ?_ 4 _ rfl; (with_reducible repeat (first | refine ze ?_ _ | refine zf ?_ | refine zc ?_ _)); refine zx (cs := #[.int .i64 t209, .int .i64 t212, .int .i64 t215, .int .i64 0, .int .i64 0, .int .i64 0, .string (⟨#[]⟩ : ByteArray), .slice none 0 0, .int .i64 0, .int .i64 0, .int .i64 0]) ?_ 3 _ rfl; (with_reducible repeat (first | refine ze ?_ _ | refine zf ?_ | refine zc ?_ _)); refine zx (cs := #[.int .i64 t209, .int .i64 t212, .int .i64 0, .int .i64 0, .int .i64 0, .int .i64 0, .string (⟨#[]⟩ : ByteArray), .slice none 0 0, .int .i64 0, .int .i64 0, .int .i64 0]) ?_ 2 _ rfl; (with_reducible repeat (first | refine ze ?_ _ | refine zf ?_ | refine zc ?_ _)); refine zx (cs := #[.int .i64 t209, .int .i64 0, .int .i64 0, .int .i64 0, .int .i64 0, .int .i64 0, .string (⟨#[]⟩ : ByteArray), .slice none 0 0, .int .i64 0, .int .i64 0, .int .i64 0]) ?_ 1 _ rfl; (with_reducible repeat (first | refine ze ?_ _ | refine zf ?_ | refine zc ?_ _)); refine zx (cs := #[.int .i64 0, .int .i64 0, .int .i64 0, .int .i64 0, .int .i64 0, .int .i64 0, .string (⟨#[]⟩ : ByteArray), .slice none 0 0, .int .i64 0, .int .i64 0, .int .i64 0]) ?_ 0 _ rfl; (with_reducible repeat (first | refine ze ?_ _ | refine zf ?_ | refine zc ?_ _)); exact BK218.out) NB218_0.out (by simp)); have n2_ := Aside0.mk (KeepBut.trans (by repeat (first | (with_reducible first | exact HK.out | apply KeepBut.set_ | apply vp | apply vv | apply vq | refine ua ?_ GW208.out _ | refine ua ?_ GW218.out _) | exact HK.out)) hk (.inl rfl)); have n3_ := Aside0.mk (hb); have n4_ := Aside0.mk (hi); clear BK208; clear BK218; clear HK; clear HB; clear HI0; have BK208 := n0_; have BK218 := n1_; have HK := n2_; have HB := n3_; have HI0 := n4_; clear n0_ n1_ n2_ n3_ n4_; (try clear hb); (try clear hb2); (try clear hk); (try clear hi)) | ((with_reducible refine zu (f := 44) rfl ?_); refine yn (some 18) rfl rfl Try.func44 (by kernel_rfl) rfl #[.pointer (some ⟨g, 0, none⟩)] rfl (by (try simp only [List.map_toArray, List.map_cons, List.map_nil]); first | done | rfl | (simp only [List.length_drop, List.length_take]; rfl)) ?_; (with_reducible refine (zl.calls k g t220 t221 t222 t223 t224 w0 _ ?side1 ?side2 A16.out).mono ?_); (case side1 => repeat (first | (with_reducible first | exact HI0.out | apply IsS86.alloc | apply IsS86.drewN | apply IsS86.drew | apply IsS86.set_0 | apply IsS86.set_1 | refine IsS86.far ?_ NB0_208.out _ | refine IsS86.far ?_ NB0_218.out _) | exact HI0.out)); (case side2 => repeat (first | (with_reducible first | exact HB.out | apply z8 | apply z6 | apply z7 | refine zb ?_ (IsS86.ge HI0.out) | refine zb ?_ GE208.out | refine zb ?_ GE218.out) | exact HB.out)); rintro e w19 ⟨rfl, hi, hb, hk⟩; refine ⟨_, rfl, ?_⟩; have n0_ := Aside0.mk (KeepBut.blk hk (g' := gb208) (o := .cells #[.int .i64 0, .int .i64 0, .int .i64 0, .int .i64 0, .int .i64 0, .int .i64 0, .string (⟨#[]⟩ : ByteArray), .slice none 0 0, .int .i64 0, .int .i64 0, .int .i64 0] 38 (0, 0)) (by (with_reducible repeat (first | refine ze ?_ _ | refine zf ?_ | refine zc ?_ _)); exact BK208.out) NB208_0.out (by simp)); have n1_ := Aside0.mk (KeepBut.blk hk (g' := gb218) (o := .cells #[.int .i64 t209, .int .i64 t212, .int .i64 t215, .int .i64 0, .int .i64 0, .int .i64 0, .string (⟨#[]⟩ : ByteArray), .slice none 0 0, .int .i64 0, .int .i64 0, .int .i64 0] 38 (0, 0)) (by (with_reducible repeat (first | refine ze ?_ _ | refine zf ?_ | refine zc ?_ _)); exact BK218.out) NB218_0.out (by simp)); have n2_ := Aside0.mk (KeepBut.trans (by repeat (first | (with_reducible first | exact HK.out | apply KeepBut.set_ | apply vp | apply vv | apply vq | refine ua ?_ GW208.out _ | refine ua ?_ GW218.out _) | exact HK.out)) hk (.inl rfl)); have n3_ := Aside0.mk (hb); have n4_ := Aside0.mk (hi); clear BK208; clear BK218; clear HK; clear HB; clear HI0; have BK208 := n0_; have BK218 := n1_; have HK := n2_; have HB := n3_; have HI0 := n4_; clear n0_ n1_ n2_ n3_ n4_; (try clear hb); (try clear hb2); (try clear hk); (try clear hi)) | ((with_reducible refine zu (f := 44) rfl ?_); refine yn (some 20) rfl rfl Try.func44 (by kernel_rfl) rfl #[.pointer (some ⟨g, 0, none⟩)] rfl (by (try simp only [List.map_toArray, List.map_cons, List.map_nil]); first | done | rfl | (simp only [List.length_drop, List.length_take]; rfl)) ?_; (with_reducible refine (zl.calls k g t223 t224 t225 t226 t227 w0 _ ?side1 ?side2 A17.out).mono ?_); (case side1 => repeat (first | (with_reducible first | exact HI0.out | apply IsS86.alloc | apply IsS86.drewN | apply IsS86.drew | apply IsS86.set_0 | apply IsS86.set_1 | refine IsS86.far ?_ NB0_208.out _ | refine IsS86.far ?_ NB0_218.out _) | exact HI0.out)); (case side2 => repeat (first | (with_reducible first | exact HB.out | apply z8 | apply z6 | apply z7 | refine zb ?_ (IsS86.ge HI0.out) | refine zb ?_ GE208.out | refine zb ?_ GE218.out) | exact HB.out)); rintro e w20 ⟨rfl, hi, hb, hk⟩; refine ⟨_, rfl, ?_⟩; have n0_ := Aside0.mk (KeepBut.blk hk (g' := gb208) (o := .cells #[.int .i64 0, .int .i64 0, .int .i64 0, .int .i64 0, .int .i64 0, .int .i64 0, .string (⟨#[]⟩ : ByteArray), .slice none 0 0, .int .i64 0, .int .i64 0, .int .i64 0] 38 (0, 0)) (by (with_reducible repeat (first | refine ze ?_ _ | refine zf ?_ | refine zc ?_ _)); exact BK208.out) NB208_0.out (by simp)); have n1_ := Aside0.mk (KeepBut.blk hk (g' := gb218) (o := .cells #[.int .i64 t209, .int .i64 t212, .int .i64 t215, .int .i64 0, .int .i64 0, .int .i64 0, .string (⟨#[]⟩ : ByteArray), .slice none 0 0, .int .i64 0, .int .i64 0, .int .i64 0] 38 (0, 0)) (by (with_reducible repeat (first | refine ze ?_ _ | refine zf ?_ | refine zc ?_ _)); exact BK218.out) NB218_0.out (by simp)); have n2_ := Aside0.mk (KeepBut.trans (by repeat (first | (with_reducible first | exact HK.out | apply KeepBut.set_ | apply vp | apply vv | apply vq | refine ua ?_ GW208.out _ | refine ua ?_ GW218.out _) | exact HK.out)) hk (.inl rfl)); have n3_ := Aside0.mk (hb); have n4_ := Aside0.mk (hi); clear BK208; clear BK218; clear HK; clear HB; clear HI0; have BK208 := n0_; have BK218 := n1_; have HK := n2_; have HB := n3_; have HI0 := n4_; clear n0_ n1_ n2_ n3_ n4_; (try clear hb); (try clear hb2); (try clear hk); (try clear hi); have hnb21 := NB218_208.out; have hnc21 := NB208_218.out; have hnb22 := NB218_0.out; have hnc22 := NB0_218.out; have hcz23_0 := yq BK218.out; have hfz23_0 := fun j_ => zi BK218.out j_))
   go_meet
   case rel => exact ⟨_, (t226), (t227), (0), (0), (0), ((⟨#[]⟩ : ByteArray)), (([] : List (S36))), (t219), (t222), (t225), (.slice none 0 0), H', ⟨by first | omega | exact Nat.le_refl _⟩, ⟨by first | exact Kd.z0v _ _ _ _ _ | exact Kd.z1n _ _ _ _ _ | exact Kd.z1o _ _ _ _ _ | exact Kd.z1l _ _ _ _ _ | exact Kd.z1m _ _ _ _ _⟩, ⟨by (with_reducible repeat (first | refine ze ?_ _ | refine zf ?_ | refine zc ?_ _)); refine zp ?_ NB208_218.out _; (with_reducible repeat (first | refine ze ?_ _ | refine zf ?_ | refine zc ?_ _)); refine zp ?_ NB208_218.out _; (with_reducible repeat (first | refine ze ?_ _ | refine zf ?_ | refine zc ?_ _)); refine zp ?_ NB208_218.out _; (with_reducible repeat (first | refine ze ?_ _ | refine zf ?_ | refine zc ?_ _)); exact BK208.out⟩, ⟨by (with_reducible repeat (first | refine ze ?_ _ | refine zf ?_ | refine zc ?_ _)); refine zx (cs := #[.int .i64 t209, .int .i64 t212, .int .i64 t215, .int .i64 0, .int .i64 0, .int .i64 0, .string (⟨#[]⟩ : ByteArray), .slice none 0 0, .int .i64 t219, .int .i64 t222, .int .i64 0]) ?_ 10 _ rfl; (with_reducible repeat (first | refine ze ?_ _ | refine zf ?_ | refine zc ?_ _)); refine zx (cs := #[.int .i64 t209, .int .i64 t212, .int .i64 t215, .int .i64 0, .int .i64 0, .int .i64 0, .string (⟨#[]⟩ : ByteArray), .slice none 0 0, .int .i64 t219, .int .i64 0, .int .i64 0]) ?_ 9 _ rfl; (with_reducible repeat (first | refine ze ?_ _ | refine zf ?_ | refine zc ?_ _)); refine zx (cs := #[.int .i64 t209, .int .i64 t212, .int .i64 t215, .int .i64 0, .int .i64 0, .int .i64 0, .string (⟨#[]⟩ : ByteArray), .slice none 0 0, .int .i64 0, .int .i64 0, .int .i64 0]) ?_ 8 _ rfl; (with_reducible repeat (first | refine ze ?_ _ | refine zf ?_ | refine zc ?_ _)); exact BK218.out⟩, ⟨by repeat (first | (with_reducible first | exact HI0.out | apply IsS86.alloc | apply IsS86.drewN | apply IsS86.drew | apply IsS86.set_0 | apply IsS86.set_1 | refine IsS86.far ?_ NB0_208.out _ | refine IsS86.far ?_ NB0_218.out _) | exact HI0.out)⟩, ⟨by repeat (first | (with_reducible first | exact HK.out | apply KeepBut.set_ | apply vp | apply vv | apply vq | refine ua ?_ GW208.out _ | refine ua ?_ GW218.out _) | exact HK.out)⟩, ⟨by repeat (first | (with_reducible first | exact HB.out | apply z8 | apply z6 | apply z7 | refine zb ?_ (IsS86.ge HI0.out) | refine zb ?_ GE208.out | refine zb ?_ GE218.out) | exact HB.out)⟩⟩
  rw [if_neg c14] at H
  have c14b0 : (t215 == 2) = false := beq_eq_false_iff_ne.mpr c14
  have c14b1 : (t215 != 2) = true := bne_iff_ne.mpr c14
  (first | rw [c14b0] | (simp only [vw, ud]; rw [c14b0]) | skip)
  replace H := Option.bind_eq_some_iff.mp H
  obtain ⟨⟨t228, t229, t230, t231, t232⟩, A240, H⟩ := H
  replace H : ((uc.f k t231 t232).bind fun bt233 => ((zl.f k bt233.2.1 bt233.2.2).bind fun bt236 => (zw.l0 k bt236.1 (mn bt236.1 200) 0 bt236.2.1 bt236.2.2 t209 t212 t215 t228 t229 t230 bt233.1 ([] : List (S36)) 0 0 0))) = some (r1, r2, r3, r4, r5, r6, r7, r8, r9, r10, r11, r12, r13) := H
  have A24 := Aside0.mk A240
  clear A240
  replace H := Option.bind_eq_some_iff.mp H
  obtain ⟨⟨t233, t234, t235⟩, A250, H⟩ := H
  replace H : ((zl.f k t234 t235).bind fun bt236 => (zw.l0 k bt236.1 (mn bt236.1 200) 0 bt236.2.1 bt236.2.2 t209 t212 t215 t228 t229 t230 t233 ([] : List (S36)) 0 0 0)) = some (r1, r2, r3, r4, r5, r6, r7, r8, r9, r10, r11, r12, r13) := H
  have A25 := Aside0.mk A250
  clear A250
  replace H := Option.bind_eq_some_iff.mp H
  obtain ⟨⟨t236, t237, t238⟩, A260, H⟩ := H
  replace H : (zw.l0 k t236 (mn t236 200) 0 t237 t238 t209 t212 t215 t228 t229 t230 t233 ([] : List (S36)) 0 0 0) = some (r1, r2, r3, r4, r5, r6, r7, r8, r9, r10, r11, r12, r13) := H
  have A26 := Aside0.mk A260
  clear A260
  obtain ⟨ji27, hji27⟩ : ∃ j_ : Int, (mn t236 200) = j_ := ⟨_, rfl⟩
  replace H : (zw.l0 k t236 ji27 0 t237 t238 t209 t212 t215 t228 t229 t230 t233 ([] : List (S36)) 0 0 0) = some (r1, r2, r3, r4, r5, r6, r7, r8, r9, r10, r11, r12, r13) := by first | (rw [hji27] at H; exact H) | (simp only [hji27] at H ⊢; exact H)
  (try rw [hji27] at A24)
  (try rw [hji27] at A25)
  (try rw [hji27] at A26)
  (try (have hji27h : ji27 ≤ 200 := by (rw [← hji27]; unfold mn; (repeat' split) <;> omega)))
  (try (have hji27g : ji27 ≤ 64 := by omega))
  have hji27_ : (if 200 < t236 then 200 else t236) = ji27 := hji27
  have H' := Aside0.mk H
  clear H
  go_wp2_with (first | ((with_reducible refine zu (f := 67) rfl ?_); refine yn (some 25) rfl rfl Try.func67 (by kernel_rfl) rfl #[.pointer (some ⟨g, 0, none⟩)] rfl (by (try simp only [List.map_toArray, List.map_cons, List.map_nil]); first | done | rfl | (simp only [List.length_drop, List.length_take]; rfl)) ?_; (with_reducible refine (vz.calls k g t216 t217 t228 t229 t230 t231 t232 w0 _ ?side1 ?side2 A24.out).mono ?_); (case side1 => repeat (first | (with_reducible first | exact HI0.out | apply IsS86.alloc | apply IsS86.drewN | apply IsS86.drew | apply IsS86.set_0 | apply IsS86.set_1 | refine IsS86.far ?_ NB0_208.out _ | refine IsS86.far ?_ NB0_218.out _) | exact HI0.out)); (case side2 => repeat (first | (with_reducible first | exact HB.out | apply z8 | apply z6 | apply z7 | refine zb ?_ (IsS86.ge HI0.out) | refine zb ?_ GE208.out | refine zb ?_ GE218.out) | exact HB.out)); rintro e w28 ⟨rfl, hi, hb, hk⟩; refine ⟨_, rfl, ?_⟩; have n0_ := Aside0.mk (KeepBut.blk hk (g' := gb208) (o := .cells #[.int .i64 0, .int .i64 0, .int .i64 0, .int .i64 0, .int .i64 0, .int .i64 0, .string (⟨#[]⟩ : ByteArray), .slice none 0 0, .int .i64 0, .int .i64 0, .int .i64 0] 38 (0, 0)) (by (with_reducible repeat (first | refine ze ?_ _ | refine zf ?_ | refine zc ?_ _)); refine zp ?_ NB208_218.out _; (with_reducible repeat (first | refine ze ?_ _ | refine zf ?_ | refine zc ?_ _)); refine zp ?_ NB208_218.out _; (with_reducible repeat (first | refine ze ?_ _ | refine zf ?_ | refine zc ?_ _)); refine zp ?_ NB208_218.out _; (with_reducible repeat (first | refine ze ?_ _ | refine zf ?_ | refine zc ?_ _)); refine zp ?_ NB208_218.out _; (with_reducible repeat (first | refine ze ?_ _ | refine zf ?_ | refine zc ?_ _)); refine zp ?_ NB208_218.out _; (with_reducible repeat (first | refine ze ?_ _ | refine zf ?_ | refine zc ?_ _)); refine zp ?_ NB208_218.out _; (with_reducible repeat (first | refine ze ?_ _ | refine zf ?_ | refine zc ?_ _)); refine zp ?_ NB208_218.out _; (with_reducible repeat (first | refine ze ?_ _ | refine zf ?_ | refine zc ?_ _)); refine zp ?_ NB208_218.out _; (with_reducible repeat (first | refine ze ?_ _ | refine zf ?_ | refine zc ?_ _)); refine zp ?_ NB208_218.out _; (with_reducible repeat (first | refine ze ?_ _ | refine zf ?_ | refine zc ?_ _)); refine zp ?_ NB208_218.out _; (with_reducible repeat (first | refine ze ?_ _ | refine zf ?_ | refine zc ?_ _)); refine zp ?_ NB208_218.out _; (with_reducible repeat (first | refine ze ?_ _ | refine zf ?_ | refine zc ?_ _)); exact BK208.out) NB208_0.out (by simp)); have n1_ := Aside0.mk (KeepBut.blk hk (g' := gb218) (o := .cells #[.int .i64 t209, .int .i64 t212, .int .i64 t215, .int .i64 0, .int .i64 0, .int .i64 0, .string (⟨#[]⟩ : ByteArray), .slice none 0 0, .int .i64 0, .int .i64 0, .int .i64 0] 38 (0, 0)) (by (with_reducible repeat (first | refine ze ?_ _ | refine zf ?_ | refine zc ?_ _)); refine zx (cs := #[.int .i64 t209, .int .i64 t212, .int .i64 t215, .int .i64 0, .int .i64 0, .int .i64 0, .string (⟨#[]⟩ : ByteArray), .slice none 0 0, .int .i64 0, .int .i64 0, .int .i64 0]) ?_ 10 _ rfl; (with_reducible repeat (first | refine ze ?_ _ | refine zf ?_ | refine zc ?_ _)); refine zx (cs := #[.int .i64 t209, .int .i64 t212, .int .i64 t215, .int .i64 0, .int .i64 0, .int .i64 0, .string (⟨#[]⟩ : ByteArray), .slice none 0 0, .int .i64 0, .int .i64 0, .int .i64 0]) ?_ 9 _ rfl; (with_reducible repeat (first | refine ze ?_ _ | refine zf ?_ | refine zc ?_ _)); refine zx (cs := #[.int .i64 t209, .int .i64 t212, .int .i64 t215, .int .i64 0, .int .i64 0, .int .i64 0, .string (⟨#[]⟩ : ByteArray), .slice none 0 0, .int .i64 0, .int .i64 0, .int .i64 0]) ?_ 8 _ rfl; (with_reducible repeat (first | refine ze ?_ _ | refine zf ?_ | refine zc ?_ _)); refine zx (cs := #[.int .i64 t209, .int .i64 t212, .int .i64 t215, .int .i64 0, .int .i64 0, .int .i64 0, .string (⟨#[]⟩ : ByteArray), .slice none 0 0, .int .i64 0, .int .i64 0, .int .i64 0]) ?_ 7 _ rfl; (with_reducible repeat (first | refine ze ?_ _ | refine zf ?_ | refine zc ?_ _)); refine zx (cs := #[.int .i64 t209, .int .i64 t212, .int .i64 t215, .int .i64 0, .int .i64 0, .int .i64 0, .string (⟨#[]⟩ : ByteArray), .slice none 0 0, .int .i64 0, .int .i64 0, .int .i64 0]) ?_ 6 _ rfl; (with_reducible repeat (first | refine ze ?_ _ | refine zf ?_ | refine zc ?_ _)); refine zx (cs := #[.int .i64 t209, .int .i64 t212, .int .i64 t215, .int .i64 0, .int .i64 0, .int .i64 0, .string (⟨#[]⟩ : ByteArray), .slice none 0 0, .int .i64 0, .int .i64 0, .int .i64 0]) ?_ 5 _ rfl; (with_reducible repeat (first | refine ze ?_ _ | refine zf ?_ | refine zc ?_ _)); refine zx (cs := #[.int .i64 t209, .int .i64 t212, .int .i64 t215, .int .i64 0, .int .i64 0, .int .i64 0, .string (⟨#[]⟩ : ByteArray), .slice none 0 0, .int .i64 0, .int .i64 0, .int .i64 0]) ?_ 4 _ rfl; (with_reducible repeat (first | refine ze ?_ _ | refine zf ?_ | refine zc ?_ _)); refine zx (cs := #[.int .i64 t209, .int .i64 t212, .int .i64 t215, .int .i64 0, .int .i64 0, .int .i64 0, .string (⟨#[]⟩ : ByteArray), .slice none 0 0, .int .i64 0, .int .i64 0, .int .i64 0]) ?_ 3 _ rfl; (with_reducible repeat (first | refine ze ?_ _ | refine zf ?_ | refine zc ?_ _)); refine zx (cs := #[.int .i64 t209, .int .i64 t212, .int .i64 0, .int .i64 0, .int .i64 0, .int .i64 0, .string (⟨#[]⟩ : ByteArray), .slice none 0 0, .int .i64 0, .int .i64 0, .int .i64 0]) ?_ 2 _ rfl; (with_reducible repeat (first | refine ze ?_ _ | refine zf ?_ | refine zc ?_ _)); refine zx (cs := #[.int .i64 t209, .int .i64 0, .int .i64 0, .int .i64 0, .int .i64 0, .int .i64 0, .string (⟨#[]⟩ : ByteArray), .slice none 0 0, .int .i64 0, .int .i64 0, .int .i64 0]) ?_ 1 _ rfl; (with_reducible repeat (first | refine ze ?_ _ | refine zf ?_ | refine zc ?_ _)); refine zx (cs := #[.int .i64 0, .int .i64 0, .int .i64 0, .int .i64 0, .int .i64 0, .int .i64 0, .string (⟨#[]⟩ : ByteArray), .slice none 0 0, .int .i64 0, .int .i64 0, .int .i64 0]) ?_ 0 _ rfl; (with_reducible repeat (first | refine ze ?_ _ | refine zf ?_ | refine zc ?_ _)); exact BK218.out) NB218_0.out (by simp)); have n2_ := Aside0.mk (KeepBut.trans (by repeat (first | (with_reducible first | exact HK.out | apply KeepBut.set_ | apply vp | apply vv | apply vq | refine ua ?_ GW208.out _ | refine ua ?_ GW218.out _) | exact HK.out)) hk (.inl rfl)); have n3_ := Aside0.mk (hb); have n4_ := Aside0.mk (hi); clear BK208; clear BK218; clear HK; clear HB; clear HI0; have BK208 := n0_; have BK218 := n1_; have HK := n2_; have HB := n3_; have HI0 := n4_; clear n0_ n1_ n2_ n3_ n4_; (try clear hb); (try clear hb2); (try clear hk); (try clear hi)) | ((with_reducible refine zu (f := 68) rfl ?_); refine yn (some 27) rfl rfl Try.func68 (by kernel_rfl) rfl #[.pointer (some ⟨g, 0, none⟩)] rfl (by (try simp only [List.map_toArray, List.map_cons, List.map_nil]); first | done | rfl | (simp only [List.length_drop, List.length_take]; rfl)) ?_; (with_reducible refine (uc.calls k g t231 t232 t233 t234 t235 w0 _ ?side1 ?side2 A25.out).mono ?_); (case side1 => repeat (first | (with_reducible first | exact HI0.out | apply IsS86.alloc | apply IsS86.drewN | apply IsS86.drew | apply IsS86.set_0 | apply IsS86.set_1 | refine IsS86.far ?_ NB0_208.out _ | refine IsS86.far ?_ NB0_218.out _) | exact HI0.out)); (case side2 => repeat (first | (with_reducible first | exact HB.out | apply z8 | apply z6 | apply z7 | refine zb ?_ (IsS86.ge HI0.out) | refine zb ?_ GE208.out | refine zb ?_ GE218.out) | exact HB.out)); rintro e w29 ⟨rfl, hi, hb, hk⟩; refine ⟨_, rfl, ?_⟩; have n0_ := Aside0.mk (KeepBut.blk hk (g' := gb208) (o := .cells #[.int .i64 0, .int .i64 0, .int .i64 0, .int .i64 0, .int .i64 0, .int .i64 0, .string (⟨#[]⟩ : ByteArray), .slice none 0 0, .int .i64 0, .int .i64 0, .int .i64 0] 38 (0, 0)) (by (with_reducible repeat (first | refine ze ?_ _ | refine zf ?_ | refine zc ?_ _)); exact BK208.out) NB208_0.out (by simp)); have n1_ := Aside0.mk (KeepBut.blk hk (g' := gb218) (o := .cells #[.int .i64 t209, .int .i64 t212, .int .i64 t215, .int .i64 0, .int .i64 0, .int .i64 0, .string (⟨#[]⟩ : ByteArray), .slice none 0 0, .int .i64 0, .int .i64 0, .int .i64 0] 38 (0, 0)) (by (with_reducible repeat (first | refine ze ?_ _ | refine zf ?_ | refine zc ?_ _)); exact BK218.out) NB218_0.out (by simp)); have n2_ := Aside0.mk (KeepBut.trans (by repeat (first | (with_reducible first | exact HK.out | apply KeepBut.set_ | apply vp | apply vv | apply vq | refine ua ?_ GW208.out _ | refine ua ?_ GW218.out _) | exact HK.out)) hk (.inl rfl)); have n3_ := Aside0.mk (hb); have n4_ := Aside0.mk (hi); clear BK208; clear BK218; clear HK; clear HB; clear HI0; have BK208 := n0_; have BK218 := n1_; have HK := n2_; have HB := n3_; have HI0 := n4_; clear n0_ n1_ n2_ n3_ n4_; (try clear hb); (try clear hb2); (try clear hk); (try clear hi); have hnb30 := NB218_208.out; have hnc30 := NB208_218.out; have hnb31 := NB218_0.out; have hnc31 := NB0_218.out; have hcz32_0 := yq BK218.out; have hfz32_0 := fun j_ => zi BK218.out j_) | ((with_reducible refine zu (f := 44) rfl ?_); refine yn (some 31) rfl rfl Try.func44 (by kernel_rfl) rfl #[.pointer (some ⟨g, 0, none⟩)] rfl (by (try simp only [List.map_toArray, List.map_cons, List.map_nil]); first | done | rfl | (simp only [List.length_drop, List.length_take]; rfl)) ?_; (with_reducible refine (zl.calls k g t234 t235 t236 t237 t238 w0 _ ?side1 ?side2 A26.out).mono ?_); (case side1 => repeat (first | (with_reducible first | exact HI0.out | apply IsS86.alloc | apply IsS86.drewN | apply IsS86.drew | apply IsS86.set_0 | apply IsS86.set_1 | refine IsS86.far ?_ NB0_208.out _ | refine IsS86.far ?_ NB0_218.out _) | exact HI0.out)); (case side2 => repeat (first | (with_reducible first | exact HB.out | apply z8 | apply z6 | apply z7 | refine zb ?_ (IsS86.ge HI0.out) | refine zb ?_ GE208.out | refine zb ?_ GE218.out) | exact HB.out)); rintro e w33 ⟨rfl, hi, hb, hk⟩; refine ⟨_, rfl, ?_⟩; have n0_ := Aside0.mk (KeepBut.blk hk (g' := gb208) (o := .cells #[.int .i64 0, .int .i64 0, .int .i64 0, .int .i64 0, .int .i64 0, .int .i64 0, .string (⟨#[]⟩ : ByteArray), .slice none 0 0, .int .i64 0, .int .i64 0, .int .i64 0] 38 (0, 0)) (by (with_reducible repeat (first | refine ze ?_ _ | refine zf ?_ | refine zc ?_ _)); refine zp ?_ NB208_218.out _; (with_reducible repeat (first | refine ze ?_ _ | refine zf ?_ | refine zc ?_ _)); refine zp ?_ NB208_218.out _; (with_reducible repeat (first | refine ze ?_ _ | refine zf ?_ | refine zc ?_ _)); refine zp ?_ NB208_218.out _; (with_reducible repeat (first | refine ze ?_ _ | refine zf ?_ | refine zc ?_ _)); refine zp ?_ NB208_218.out _; (with_reducible repeat (first | refine ze ?_ _ | refine zf ?_ | refine zc ?_ _)); exact BK208.out) NB208_0.out (by simp)); have n1_ := Aside0.mk (KeepBut.blk hk (g' := gb218) (o := .cells #[.int .i64 t209, .int .i64 t212, .int .i64 t215, .int .i64 t228, .int .i64 t229, .int .i64 t230, .string t233, .slice none 0 0, .int .i64 0, .int .i64 0, .int .i64 0] 38 (0, 0)) (by (with_reducible repeat (first | refine ze ?_ _ | refine zf ?_ | refine zc ?_ _)); refine zx (cs := #[.int .i64 t209, .int .i64 t212, .int .i64 t215, .int .i64 t228, .int .i64 t229, .int .i64 t230, .string (⟨#[]⟩ : ByteArray), .slice none 0 0, .int .i64 0, .int .i64 0, .int .i64 0]) ?_ 6 _ rfl; (with_reducible repeat (first | refine ze ?_ _ | refine zf ?_ | refine zc ?_ _)); refine zx (cs := #[.int .i64 t209, .int .i64 t212, .int .i64 t215, .int .i64 t228, .int .i64 t229, .int .i64 0, .string (⟨#[]⟩ : ByteArray), .slice none 0 0, .int .i64 0, .int .i64 0, .int .i64 0]) ?_ 5 _ rfl; (with_reducible repeat (first | refine ze ?_ _ | refine zf ?_ | refine zc ?_ _)); refine zx (cs := #[.int .i64 t209, .int .i64 t212, .int .i64 t215, .int .i64 t228, .int .i64 0, .int .i64 0, .string (⟨#[]⟩ : ByteArray), .slice none 0 0, .int .i64 0, .int .i64 0, .int .i64 0]) ?_ 4 _ rfl; (with_reducible repeat (first | refine ze ?_ _ | refine zf ?_ | refine zc ?_ _)); refine zx (cs := #[.int .i64 t209, .int .i64 t212, .int .i64 t215, .int .i64 0, .int .i64 0, .int .i64 0, .string (⟨#[]⟩ : ByteArray), .slice none 0 0, .int .i64 0, .int .i64 0, .int .i64 0]) ?_ 3 _ rfl; (with_reducible repeat (first | refine ze ?_ _ | refine zf ?_ | refine zc ?_ _)); exact BK218.out) NB218_0.out (by simp)); have n2_ := Aside0.mk (KeepBut.trans (by repeat (first | (with_reducible first | exact HK.out | apply KeepBut.set_ | apply vp | apply vv | apply vq | refine ua ?_ GW208.out _ | refine ua ?_ GW218.out _) | exact HK.out)) hk (.inl rfl)); have n3_ := Aside0.mk (hb); have n4_ := Aside0.mk (hi); clear BK208; clear BK218; clear HK; clear HB; clear HI0; have BK208 := n0_; have BK218 := n1_; have HK := n2_; have HB := n3_; have HI0 := n4_; clear n0_ n1_ n2_ n3_ n4_; (try clear hb); (try clear hb2); (try clear hk); (try clear hi)))
  go_loopg [34] k (fun kq v34 w' => ∃ (x34_1 : Int) (x1000_1 : ByteArray) (x1001_1 : Bool) (x219007_1 : List (S36)) (u219007 : Value), v34 = .int .i64 x34_1 ∧ Aside0 (zw.l0 kq t236 ji27 x34_1 x1000_1 x1001_1 t209 t212 t215 t228 t229 t230 t233 x219007_1 0 0 0 = some (r1, r2, r3, r4, r5, r6, r7, r8, r9, r10, r11, r12, r13)) ∧ Aside0 (kq ≤ k) ∧ Aside0 (Kd.R k36 36 w' w.heap.size (fun _ => True) u219007 x219007_1) ∧ Aside0 (w'.heap[gb208]? = some (.cells #[.int .i64 0, .int .i64 0, .int .i64 0, .int .i64 0, .int .i64 0, .int .i64 0, .string (⟨#[]⟩ : ByteArray), (.slice none 0 0), .int .i64 0, .int .i64 0, .int .i64 0] 38 (0, 0))) ∧ Aside0 (w'.heap[gb218]? = some (.cells #[.int .i64 t209, .int .i64 t212, .int .i64 t215, .int .i64 t228, .int .i64 t229, .int .i64 t230, .string t233, u219007, .int .i64 0, .int .i64 0, .int .i64 0] 38 (0, 0))) ∧ Aside0 (IsS86 w0 w' g x1000_1 x1001_1) ∧ Aside0 (KeepBut w w' g none) ∧ Aside0 (Below w0.heap.size w0 w'))
  case atStart => exact ⟨(0), (t237), (t238), (([] : List (S36))), (.slice none 0 0), (by first | rfl | (simp; done) | (simp [*]; done)), H', ⟨Nat.le_refl _⟩, ⟨by first | exact Kd.z0v _ _ _ _ _ | exact Kd.z1n _ _ _ _ _ | exact Kd.z1o _ _ _ _ _ | exact Kd.z1l _ _ _ _ _ | exact Kd.z1m _ _ _ _ _⟩, ⟨by (with_reducible repeat (first | refine ze ?_ _ | refine zf ?_ | refine zc ?_ _)); exact BK208.out⟩, ⟨by (with_reducible repeat (first | refine ze ?_ _ | refine zf ?_ | refine zc ?_ _)); exact BK218.out⟩, ⟨by repeat (first | (with_reducible first | exact HI0.out | apply IsS86.alloc | apply IsS86.drewN | apply IsS86.drew | apply IsS86.set_0 | apply IsS86.set_1 | refine IsS86.far ?_ NB0_208.out _ | refine IsS86.far ?_ NB0_218.out _) | exact HI0.out)⟩, ⟨by repeat (first | (with_reducible first | exact HK.out | apply KeepBut.set_ | apply vp | apply vv | apply vq | refine ua ?_ GW208.out _ | refine ua ?_ GW218.out _) | exact HK.out)⟩, ⟨by repeat (first | (with_reducible first | exact HB.out | apply z8 | apply z6 | apply z7 | refine zb ?_ (IsS86.ge HI0.out) | refine zb ?_ GE208.out | refine zb ?_ GE218.out) | exact HB.out)⟩⟩
  clear H'
  try clear c1
  try clear c2
  try clear p2
  try clear c3
  try clear c4
  try clear c6
  try clear c11
  try clear c12
  try clear c14
  try clear c14b0
  try clear c14b1
  try clear c21
  try clear c22
  try clear c30
  try clear c31
  try clear hcz13_0
  try clear hcz23_0
  try clear hcz32_0
  try clear hfz13_0
  try clear hfz23_0
  try clear hfz32_0
  obtain ⟨x34_1, x1000_1, x1001_1, x219007_1, u219007, rfl, HA, HK1, HO_219007, BK208, BK218, HI0, HK, HB⟩ := hrel
  cases gk with
  | zero => exact absurd HA.out (by simp [zw.l0])
  | succ k1 =>
   have H := HA.out
   clear HA
   simp only [zw.l0] at H
   by_cases c34 : x34_1 < ji27
   rotate_left
   ·
    rw [if_neg c34] at H
    have c34b0 : decide (x34_1 < ji27) = false := decide_eq_false c34
    clear c34
    by_cases c42 : x1001_1 = true
    ·
     subst c42
     have H1 : (zw.j1 k1 x1000_1 true t209 t212 t215 t228 t229 t230 t233 x219007_1 0 0 0) = some (r1, r2, r3, r4, r5, r6, r7, r8, r9, r10, r11, r12, r13) := by rw [if_pos rfl] at H; exact H
     clear H
     have H := H1
     clear H1
     have H' := Aside0.mk H
     clear H
     obtain ⟨HGz43, hgz43⟩ := HI0.out
     have hcz43_0 := jg HGz43
     have hcz43_1 := jh HGz43
     have hfz43_0 := zi HGz43 0
     have hfz43_1 := zi HGz43 1
     clear HGz43 hgz43
     go_wp2
     go_meet
     case rel => exact ⟨_, (x1000_1), (true), (t228), (t229), (t230), (t233), (x219007_1), (0), (0), (0), (u219007), H', ⟨by have := HK1.out; first | omega | exact Nat.le_refl _⟩, ⟨by (with_reducible repeat (first | apply Kd.uh | apply Kd.ui | apply Kd.uk)); exact Kd.jj (Kd.ux (p := ⟨g, 1, none⟩) (IsS86.apart HI0.out HO_219007.out (by decide)) (fun _ hk => hk.2) (.bool true)) (fun _ hk => trivial)⟩, ⟨by (with_reducible repeat (first | refine ze ?_ _ | refine zf ?_ | refine zc ?_ _)); refine zp ?_ NB208_0.out _; (with_reducible repeat (first | refine ze ?_ _ | refine zf ?_ | refine zc ?_ _)); exact BK208.out⟩, ⟨by (with_reducible repeat (first | refine ze ?_ _ | refine zf ?_ | refine zc ?_ _)); refine zp ?_ NB218_0.out _; (with_reducible repeat (first | refine ze ?_ _ | refine zf ?_ | refine zc ?_ _)); exact BK218.out⟩, ⟨by repeat (first | (with_reducible first | exact HI0.out | apply IsS86.alloc | apply IsS86.drewN | apply IsS86.drew | apply IsS86.set_0 | apply IsS86.set_1 | refine IsS86.far ?_ NB0_208.out _ | refine IsS86.far ?_ NB0_218.out _) | exact HI0.out)⟩, ⟨by repeat (first | (with_reducible first | exact HK.out | apply KeepBut.set_ | apply vp | apply vv | apply vq | refine ua ?_ GW208.out _ | refine ua ?_ GW218.out _) | exact HK.out)⟩, ⟨by repeat (first | (with_reducible first | exact HB.out | apply z8 | apply z6 | apply z7 | refine zb ?_ (IsS86.ge HI0.out) | refine zb ?_ GE208.out | refine zb ?_ GE218.out) | exact HB.out)⟩⟩
    replace c42 := Bool.eq_false_iff.mpr c42
    subst c42
    have H1 : (zw.j1 k1 x1000_1 (decide (t236 > 200)) t209 t212 t215 t228 t229 t230 t233 x219007_1 0 0 0) = some (r1, r2, r3, r4, r5, r6, r7, r8, r9, r10, r11, r12, r13) := by rw [if_neg (show ¬ (false = true) by decide)] at H; exact H
    clear H
    have H := H1
    clear H1
    have H' := Aside0.mk H
    clear H
    obtain ⟨HGz44, hgz44⟩ := HI0.out
    have hcz44_0 := jg HGz44
    have hcz44_1 := jh HGz44
    have hfz44_0 := zi HGz44 0
    have hfz44_1 := zi HGz44 1
    clear HGz44 hgz44
    go_wp2
    go_meet
    case rel => exact ⟨_, (x1000_1), (decide (t236 > 200)), (t228), (t229), (t230), (t233), (x219007_1), (0), (0), (0), (u219007), H', ⟨by have := HK1.out; first | omega | exact Nat.le_refl _⟩, ⟨by (with_reducible repeat (first | apply Kd.uh | apply Kd.ui | apply Kd.uk)); exact Kd.jj (Kd.ux (p := ⟨g, 1, none⟩) (IsS86.apart HI0.out HO_219007.out (by decide)) (fun _ hk => hk.2) (.bool (decide (t236 > 200)))) (fun _ hk => trivial)⟩, ⟨by (with_reducible repeat (first | refine ze ?_ _ | refine zf ?_ | refine zc ?_ _)); refine zp ?_ NB208_0.out _; (with_reducible repeat (first | refine ze ?_ _ | refine zf ?_ | refine zc ?_ _)); exact BK208.out⟩, ⟨by (with_reducible repeat (first | refine ze ?_ _ | refine zf ?_ | refine zc ?_ _)); refine zp ?_ NB218_0.out _; (with_reducible repeat (first | refine ze ?_ _ | refine zf ?_ | refine zc ?_ _)); exact BK218.out⟩, ⟨by repeat (first | (with_reducible first | exact HI0.out | apply IsS86.alloc | apply IsS86.drewN | apply IsS86.drew | apply IsS86.set_0 | apply IsS86.set_1 | refine IsS86.far ?_ NB0_208.out _ | refine IsS86.far ?_ NB0_218.out _) | exact HI0.out)⟩, ⟨by repeat (first | (with_reducible first | exact HK.out | apply KeepBut.set_ | apply vp | apply vv | apply vq | refine ua ?_ GW208.out _ | refine ua ?_ GW218.out _) | exact HK.out)⟩, ⟨by repeat (first | (with_reducible first | exact HB.out | apply z8 | apply z6 | apply z7 | refine zb ?_ (IsS86.ge HI0.out) | refine zb ?_ GE208.out | refine zb ?_ GE218.out) | exact HB.out)⟩⟩
   rw [if_pos c34] at H
   have c34b0 : decide (x34_1 < ji27) = true := decide_eq_true c34
   clear c34
   replace H := Option.bind_eq_some_iff.mp H
   obtain ⟨⟨t239, t240, t241, t242, t243⟩, A350, H⟩ := H
   replace H : (if x219007_1.length < 5864062014805 then (zw.l0 k1 t236 ji27 (wrap64 (x34_1 + 1)) t242 t243 t209 t212 t215 t228 t229 t230 t233 (x219007_1 ++ [(⟨t239, t240, t241⟩ : S36)]) 0 0 0) else (none)) = some (r1, r2, r3, r4, r5, r6, r7, r8, r9, r10, r11, r12, r13) := H
   have A35 := Aside0.mk A350
   clear A350
   by_cases c36 : x219007_1.length < 5864062014805
   rotate_left
   ·
    rw [if_neg c36] at H
    exact absurd H (by simp)
   rw [if_pos c36] at H
   have LMc36 := Aside0.mk c36
   clear c36
   obtain ⟨y244, hy244⟩ : ∃ y_ : List (S36), y_ = (x219007_1 ++ [(⟨t239, t240, t241⟩ : S36)]) := ⟨_, rfl⟩
   replace H : (zw.l0 k1 t236 ji27 (wrap64 (x34_1 + 1)) t242 t243 t209 t212 t215 t228 t229 t230 t233 y244 0 0 0) = some (r1, r2, r3, r4, r5, r6, r7, r8, r9, r10, r11, r12, r13) := by first | (rw [hy244]; with_reducible exact H) | (have H2_ := (Option.bind_some _ _).symm.trans H; rw [hy244]; with_reducible exact H2_) | (have H2_ := (Option.bind_some _ _).symm.trans H; with_reducible exact H2_) | with_reducible exact H | (rw [hy244]; exact H) | exact H
   have Ny244 := Aside0.mk hy244
   clear hy244
   have H' := Aside0.mk H
   clear H
   try go_wp2
   have n0_ := Aside0.mk (Kd.uk HO_219007.out)
   have n1_ := Aside0.mk (zf BK208.out)
   have n2_ := Aside0.mk (zf BK218.out)
   have n3_ := Aside0.mk (IsS86.drew HI0.out)
   have n4_ := Aside0.mk (vv HK.out)
   have n5_ := Aside0.mk (z7 HB.out)
   clear HO_219007
   clear BK208
   clear BK218
   clear HI0
   clear HK
   clear HB
   have HO_219007 := n0_
   have BK208 := n1_
   have BK218 := n2_
   have HI0 := n3_
   have HK := n4_
   have HB := n5_
   clear n0_ n1_ n2_ n3_ n4_ n5_
   refine ji (n := 8) (S := fun w' => w'.cell? ⟨gb218, 0, none⟩ = some (.int .i64 t209) ∧ w'.cell? ⟨gb218, 1, none⟩ = some (.int .i64 t212) ∧ w'.cell? ⟨gb218, 2, none⟩ = some (.int .i64 t215) ∧ w'.cell? ⟨gb218, 3, none⟩ = some (.int .i64 t228) ∧ w'.cell? ⟨gb218, 4, none⟩ = some (.int .i64 t229) ∧ w'.cell? ⟨gb218, 5, none⟩ = some (.int .i64 t230) ∧ w'.cell? ⟨gb218, 6, none⟩ = some (.string t233) ∧ w'.cell? ⟨gb218, 7, none⟩ = some (u219007) ∧ w'.cell? ⟨gb218, 8, none⟩ = some (.int .i64 0) ∧ w'.cell? ⟨gb218, 9, none⟩ = some (.int .i64 0) ∧ w'.cell? ⟨gb218, 10, none⟩ = some (.int .i64 0)) (ds := [7]) #[false, false, false, false, false, false, false, false] (by kernel_rfl) rfl rfl ⟨(za BK218.out 0).trans rfl, (za BK218.out 1).trans rfl, (za BK218.out 2).trans rfl, (za BK218.out 3).trans rfl, (za BK218.out 4).trans rfl, (za BK218.out 5).trans rfl, (za BK218.out 6).trans rfl, (za BK218.out 7).trans rfl, (za BK218.out 8).trans rfl, (za BK218.out 9).trans rfl, (za BK218.out 10).trans rfl⟩ (fun hHeld => ?_); refine uy zw.tab8 zw.bits8 (fun HT_ HW_ => ?_)
   generalize wr.drew = w37 at HO_219007 BK208 BK218 HI0 HK HB hHeld ⊢
   refine pq_ 0 36 #[true, false, false, false, false, false, false, false] (zo HT_.out (by kernel_rfl)) ?_
   refine pq_ 2 38 #[true, false, true, false, false, false, false, false] (zo HT_.out (by kernel_rfl)) ?_
   refine tq_ 1 37 #[true, true, true, false, false, false, false, false] (yj HT_.out HW_.out (by kernel_rfl)) hHeld ?_
   refine ul (i := 3) (N := some 39) #[true, true, true, true, false, false, false, false] rfl rfl (vn HT_.out (by kernel_rfl)) (by decide) (fun K hK => ?_)
   refine j5 Try.func67 (by kernel_rfl) rfl #[.pointer (some ⟨g, 0, none⟩)] (by rfl) rfl rfl (by (try simp only [List.map_toArray, List.map_cons, List.map_nil]); first | done | rfl | (simp only [List.length_drop, List.length_take]; rfl)) ?_
   with_reducible refine (vz.calls k1 g x1000_1 x1001_1 t239 t240 t241 t242 t243 w0 _ ?side1 ?side2 A35.out).mono ?_
   (case side1 => repeat (first | (with_reducible first | exact HI0.out | apply IsS86.alloc | apply IsS86.drewN | apply IsS86.drew | apply IsS86.set_0 | apply IsS86.set_1 | refine IsS86.far ?_ NB0_208.out _ | refine IsS86.far ?_ NB0_218.out _) | exact HI0.out))
   (case side2 => repeat (first | (with_reducible first | exact HB.out | apply z8 | apply z6 | apply z7 | refine zb ?_ (IsS86.ge HI0.out) | refine zb ?_ GE208.out | refine zb ?_ GE218.out) | exact HB.out))
   rintro e w38 ⟨rfl, hi, hb, hk⟩
   refine ⟨_, rfl, ?_⟩
   have n0_ := Aside0.mk (Kd.jj (Kd.zbq (IsS86.apart (show IsS86 w0 _ g x1000_1 x1001_1 from by repeat (first | (with_reducible first | exact HI0.out | apply IsS86.alloc | apply IsS86.drewN | apply IsS86.drew | apply IsS86.set_0 | apply IsS86.set_1 | refine IsS86.far ?_ NB0_208.out _ | refine IsS86.far ?_ NB0_218.out _) | exact HI0.out)) (by (with_reducible repeat (first | apply Kd.uh | apply Kd.ui | apply Kd.uk)); exact HO_219007.out) (by decide)) hk (fun _ h => h.2)) (fun _ h => h.1))
   have n1_ := Aside0.mk (KeepBut.blk hk (g' := gb208) (o := .cells #[.int .i64 0, .int .i64 0, .int .i64 0, .int .i64 0, .int .i64 0, .int .i64 0, .string (⟨#[]⟩ : ByteArray), .slice none 0 0, .int .i64 0, .int .i64 0, .int .i64 0] 38 (0, 0)) (by (with_reducible repeat (first | refine ze ?_ _ | refine zf ?_ | refine zc ?_ _)); exact BK208.out) NB208_0.out (by simp))
   have n2_ := Aside0.mk (KeepBut.blk hk (g' := gb218) (o := .cells #[.int .i64 t209, .int .i64 t212, .int .i64 t215, .int .i64 t228, .int .i64 t229, .int .i64 t230, .string t233, u219007, .int .i64 0, .int .i64 0, .int .i64 0] 38 (0, 0)) (by (with_reducible repeat (first | refine ze ?_ _ | refine zf ?_ | refine zc ?_ _)); exact BK218.out) NB218_0.out (by simp))
   have n3_ := Aside0.mk (KeepBut.trans (by repeat (first | (with_reducible first | exact HK.out | apply KeepBut.set_ | apply vp | apply vv | apply vq | refine ua ?_ GW208.out _ | refine ua ?_ GW218.out _) | exact HK.out)) hk (.inl rfl))
   have n4_ := Aside0.mk (hb)
   have n5_ := Aside0.mk (hi)
   clear HO_219007
   clear BK208
   clear BK218
   clear HK
   clear HB
   clear HI0
   have HO_219007 := n0_
   have BK208 := n1_
   have BK218 := n2_
   have HK := n3_
   have HB := n4_
   have HI0 := n5_
   clear n0_ n1_ n2_ n3_ n4_ n5_
   (try clear hb)
   (try clear hb2)
   (try clear hk)
   (try clear hi)
   refine hK.out _ _ ⟨(za BK218.out 0).trans rfl, (za BK218.out 1).trans rfl, (za BK218.out 2).trans rfl, (za BK218.out 3).trans rfl, (za BK218.out 4).trans rfl, (za BK218.out 5).trans rfl, (za BK218.out 6).trans rfl, (za BK218.out 7).trans rfl, (za BK218.out 8).trans rfl, (za BK218.out 9).trans rfl, (za BK218.out 10).trans rfl⟩ (fun hHeld => ?_)
   clear hK K
   refine um (a' := ?_) ?_ ?_
   rotate_left
   ·
    show Act.put _ (some 39) _ = _
    simp only [Act.put, List.setIfInBounds_toArray, List.set_cons_zero, List.set_cons_succ, vw, ud]
    rfl
   refine ul (i := 4) (N := some 40) #[true, true, true, true, true, false, false, false] rfl rfl (vn HT_.out (by kernel_rfl)) (by decide) (fun K hK => ?_)
   refine z8q (w1 := ?_) (v := ?_) (by rfl) rfl ?_ ?_
   rotate_left 2
   ·
    go_simp
    constructor
    ·
     rfl
    rfl
   refine hK.out _ _ ⟨(za (zc BK218.out _) 0).trans rfl, (za (zc BK218.out _) 1).trans rfl, (za (zc BK218.out _) 2).trans rfl, (za (zc BK218.out _) 3).trans rfl, (za (zc BK218.out _) 4).trans rfl, (za (zc BK218.out _) 5).trans rfl, (za (zc BK218.out _) 6).trans rfl, (za (zc BK218.out _) 7).trans rfl, (za (zc BK218.out _) 8).trans rfl, (za (zc BK218.out _) 9).trans rfl, (za (zc BK218.out _) 10).trans rfl⟩ (fun hHeld => ?_)
   clear hK K
   refine um (a' := ?_) ?_ ?_
   rotate_left
   ·
    show Act.put _ (some 40) _ = _
    simp only [Act.put, List.setIfInBounds_toArray, List.set_cons_zero, List.set_cons_succ, vw, ud]
    rfl
   refine ul (i := 5) (N := some 41) #[true, true, true, true, true, true, false, false] rfl rfl (vn HT_.out (by kernel_rfl)) (by decide) (fun K hK => ?_)
   refine Kd.z2f k36 w.heap.size (by rfl) (.tmp 37) (.tmp 40) 23 36 (.agg #[(.int .i64 0), (.int .i64 0), (.int .i64 0)]) 24 rfl Try.underlying23 info36 rfl (by decide) (by omega) u219007 x219007_1 (⟨t239, t240, t241⟩ : S36) [.int .i64 t239, .int .i64 t240, .int .i64 t241] (fun _ => True) (fun _ => False) rfl rfl ?aP (fun _ hk => hk.elim) ?aF ?aO (Below.refl _ _) ?aS ?aL ?_
   (case aP => exact z7s _ _ _ (⟨t239, t240, t241⟩ : S36))
   (case aF => exact (fun _ _ => trivial))
   (case aO => exact (by (with_reducible repeat (first | apply Kd.uh | apply Kd.ui | apply Kd.uk)); exact HO_219007.out))
   (case aS => exact (z0i (w := w) (g := g) (row := none) (by repeat (first | (with_reducible first | exact HK.out | apply KeepBut.set_ | apply vp | apply vv | apply vq | refine ua ?_ GW208.out _ | refine ua ?_ GW218.out _) | exact HK.out))))
   (case aL => have := LMc36.out; omega)
   intro v245 w39 ho hb hg hat
   rw [← Ny244.out] at ho
   have n0_ := Aside0.mk (z1a (g := gb208) (o := .cells #[.int .i64 0, .int .i64 0, .int .i64 0, .int .i64 0, .int .i64 0, .int .i64 0, .string (⟨#[]⟩ : ByteArray), .slice none 0 0, .int .i64 0, .int .i64 0, .int .i64 0] 38 (0, 0)) (by (with_reducible repeat (first | refine ze ?_ _ | refine zf ?_ | refine zc ?_ _)); exact BK208.out) hg (Kd.z88 HO_219007.out BK208.out (by decide)))
   have n1_ := Aside0.mk (z1a (g := gb218) (o := .cells #[.int .i64 t209, .int .i64 t212, .int .i64 t215, .int .i64 t228, .int .i64 t229, .int .i64 t230, .string t233, u219007, .int .i64 0, .int .i64 0, .int .i64 0] 38 (0, 0)) (by (with_reducible repeat (first | refine ze ?_ _ | refine zf ?_ | refine zc ?_ _)); exact BK218.out) hg (Kd.z88 HO_219007.out BK218.out (by decide)))
   have n2_ := Aside0.mk (IsS86.grown (by repeat (first | (with_reducible first | exact HI0.out | apply IsS86.alloc | apply IsS86.drewN | apply IsS86.drew | apply IsS86.set_0 | apply IsS86.set_1 | refine IsS86.far ?_ NB0_208.out _ | refine IsS86.far ?_ NB0_218.out _) | exact HI0.out)) hg (IsS86.z3v HI0.out HO_219007.out (by decide)))
   have n3_ := Aside0.mk (z5p (by repeat (first | (with_reducible first | exact HB.out | apply z8 | apply z6 | apply z7 | refine zb ?_ (IsS86.ge HI0.out) | refine zb ?_ GE208.out | refine zb ?_ GE218.out) | exact HB.out)) HL.out hb)
   have n4_ := Aside0.mk (KeepBut.trans (by repeat (first | (with_reducible first | exact HK.out | apply KeepBut.set_ | apply vp | apply vv | apply vq | refine ua ?_ GW208.out _ | refine ua ?_ GW218.out _) | exact HK.out)) (KeepBut.of_grown hg g) (Kd.zb7 HO_219007.out))
   have n5_ := Aside0.mk (ho)
   clear BK208
   clear BK218
   clear HI0
   clear HB
   clear HK
   clear HO_219007
   have BK208 := n0_
   have BK218 := n1_
   have HI0 := n2_
   have HB := n3_
   have HK := n4_
   have HO246 := n5_
   clear n0_ n1_ n2_ n3_ n4_ n5_
   clear ho hb hg hat
   obtain ⟨Ao40, co40, eo40⟩ := Kd.z01 HO246.out
   (first | subst eo40 | (injection eo40 with f1_ f2_ f3_; have f4_ := f1_.symm; have f5_ := f3_.symm; clear f1_ f2_ f3_; subst f4_; subst f5_))
   refine hK.out _ _ ⟨(za BK218.out 0).trans rfl, (za BK218.out 1).trans rfl, (za BK218.out 2).trans rfl, (za BK218.out 3).trans rfl, (za BK218.out 4).trans rfl, (za BK218.out 5).trans rfl, (za BK218.out 6).trans rfl, (za BK218.out 7).trans rfl, (za BK218.out 8).trans rfl, (za BK218.out 9).trans rfl, (za BK218.out 10).trans rfl⟩ (fun hHeld => ?_)
   clear hK K
   refine um (a' := ?_) ?_ ?_
   rotate_left
   ·
    show Act.put _ (some 41) _ = _
    simp only [Act.put, List.setIfInBounds_toArray, List.set_cons_zero, List.set_cons_succ, vw, ud]
    rfl
   refine pq_ 6 42 #[true, true, true, true, true, true, true, false] (zo HT_.out (by kernel_rfl)) ?_
   refine zal (i := 7) (N := none) #[true, true, true, true, true, true, true, true] rfl rfl (vn HT_.out (by kernel_rfl)) (by decide) (fun K hK => ?_)
   have hs41 : w39.cell? ⟨gb218, 7, none⟩ = some (u219007) := (za BK218.out 7).trans rfl
   have hfs41 := zi BK218.out 7
   have hns41_0 := NB208_218.out
   have hms41_0 := NB218_208.out
   refine jv (w1 := ?_) (by rfl) rfl ?_ ?_
   rotate_left
   ·
    go_simp
    rfl
   refine hK.out _ _ ?_
   clear hK K
   refine ju (j9 HT_.out (by kernel_rfl)) ?_
   try go_wp2
   go_roundg k1
   case measure => have := HK1.out; omega
   case rel => exact ⟨(wrap64 (x34_1 + 1)), (t242), (t243), (y244), (.slice Ao40 y244.length co40), (by first | rfl | (simp; done) | (simp [*]; done)), H', ⟨by have := HK1.out; omega⟩, ⟨by (with_reducible repeat (first | apply Kd.uh | apply Kd.ui | apply Kd.uk)); exact Kd.jj (Kd.ux (p := ⟨gb218, 7, none⟩) (Kd.z1e HO246.out BK218.out (by decide)) (fun _ hk => hk.2) (.slice Ao40 y244.length co40)) (fun _ hk => trivial)⟩, ⟨by (with_reducible repeat (first | refine ze ?_ _ | refine zf ?_ | refine zc ?_ _)); refine zp ?_ NB208_218.out _; (with_reducible repeat (first | refine ze ?_ _ | refine zf ?_ | refine zc ?_ _)); exact BK208.out⟩, ⟨by (with_reducible repeat (first | refine ze ?_ _ | refine zf ?_ | refine zc ?_ _)); refine zx (cs := #[.int .i64 t209, .int .i64 t212, .int .i64 t215, .int .i64 t228, .int .i64 t229, .int .i64 t230, .string t233, u219007, .int .i64 0, .int .i64 0, .int .i64 0]) ?_ 7 _ rfl; (with_reducible repeat (first | refine ze ?_ _ | refine zf ?_ | refine zc ?_ _)); exact BK218.out⟩, ⟨by repeat (first | (with_reducible first | exact HI0.out | apply IsS86.alloc | apply IsS86.drewN | apply IsS86.drew | apply IsS86.set_0 | apply IsS86.set_1 | refine IsS86.far ?_ NB0_208.out _ | refine IsS86.far ?_ NB0_218.out _) | exact HI0.out)⟩, ⟨by repeat (first | (with_reducible first | exact HK.out | apply KeepBut.set_ | apply vp | apply vv | apply vq | refine ua ?_ GW208.out _ | refine ua ?_ GW218.out _) | exact HK.out)⟩, ⟨by repeat (first | (with_reducible first | exact HB.out | apply z8 | apply z6 | apply z7 | refine zb ?_ (IsS86.ge HI0.out) | refine zb ?_ GE208.out | refine zb ?_ GE218.out) | exact HB.out)⟩⟩
 case rest =>
  clear HC5
  try clear c1
  try clear c2
  try clear p2
  try clear c3
  try clear c4
  try clear c6
  try clear p6
  try clear c11
  try clear c12
  try clear c14
  try clear c14b0
  try clear c14b1
  try clear c21
  try clear c22
  try clear c30
  try clear c31
  try clear c34
  try clear c34b0
  try clear c36
  try clear c40
  try clear c42
  try clear c44
  try clear hcz13_0
  try clear hcz23_0
  try clear hcz32_0
  try clear hcz43_0
  try clear hcz43_1
  try clear hcz44_0
  try clear hcz44_1
  try clear hfz13_0
  try clear hfz23_0
  try clear hfz32_0
  try clear hfz43_0
  try clear hfz43_1
  try clear hfz44_0
  try clear hfz44_1
  try clear p2
  obtain ⟨kq, x1000_4, x1001_4, x219003_4, x219004_4, x219005_4, x219006_4, x219007_4, x219008_4, x219009_4, x219010_4, u219007, HA, HJ4, HO_219007, BK208, BK218, HI0, HK, HB⟩ := hcut
  cases kq with
  | zero => exact absurd HA.out (by simp [zw.j1])
  | succ kj4 =>
   have H := HA.out
   clear HA
   simp only [zw.j1] at H
   by_cases c45 : x1001_4 = true
   ·
    subst c45
    have H1 : (some (t209, t212, t215, x219003_4, x219004_4, x219005_4, x219006_4, x219007_4, x219008_4, x219009_4, x219010_4, x1000_4, true)) = some (r1, r2, r3, r4, r5, r6, r7, r8, r9, r10, r11, r12, r13) := by rw [if_pos rfl] at H; exact H
    clear H
    have H := H1
    clear H1
    simp only [Option.some.injEq, Prod.mk.injEq] at H
    obtain ⟨rfl, rfl, rfl, rfl, rfl, rfl, rfl, rfl, rfl, rfl, rfl, rfl, rfl⟩ := H
    obtain ⟨HGz46, hgz46⟩ := HI0.out
    have hcz46_0 := jg HGz46
    have hcz46_1 := jh HGz46
    have hfz46_0 := zi HGz46 0
    have hfz46_1 := zi HGz46 1
    clear HGz46 hgz46
    have hnb47 := NB218_208.out
    have hnc47 := NB208_218.out
    have hnb48 := NB218_0.out
    have hnc48 := NB0_218.out
    have hcz49_0 := yq BK218.out
    have hfz49_0 := fun j_ => zi BK218.out j_
    have hnb50 := NB208_0.out
    have hnc50 := NB0_208.out
    have hcz51_0 := yq BK208.out
    have hfz51_0 := fun j_ => zi BK208.out j_
    obtain ⟨Ao52, co52, eo52⟩ := Kd.z01 HO_219007.out
    subst eo52
    go_wp2
    refine bodyPost_ret (results_cell_row rfl _ _ gb208 38 #[.int .i64 t209, .int .i64 t212, .int .i64 t215, .int .i64 x219003_4, .int .i64 x219004_4, .int .i64 x219005_4, .string x219006_4, .slice Ao52 x219007_4.length co52, .int .i64 x219008_4, .int .i64 x219009_4, .int .i64 x219010_4] (0, 0) _ rfl (by (with_reducible repeat (first | refine ze ?_ _ | refine zf ?_ | refine zc ?_ _)); refine zx (cs := #[.int .i64 t209, .int .i64 t212, .int .i64 t215, .int .i64 x219003_4, .int .i64 x219004_4, .int .i64 x219005_4, .string x219006_4, .slice Ao52 x219007_4.length co52, .int .i64 x219008_4, .int .i64 x219009_4, .int .i64 0]) ?_ 10 _ rfl; (with_reducible repeat (first | refine ze ?_ _ | refine zf ?_ | refine zc ?_ _)); refine zx (cs := #[.int .i64 t209, .int .i64 t212, .int .i64 t215, .int .i64 x219003_4, .int .i64 x219004_4, .int .i64 x219005_4, .string x219006_4, .slice Ao52 x219007_4.length co52, .int .i64 x219008_4, .int .i64 0, .int .i64 0]) ?_ 9 _ rfl; (with_reducible repeat (first | refine ze ?_ _ | refine zf ?_ | refine zc ?_ _)); refine zx (cs := #[.int .i64 t209, .int .i64 t212, .int .i64 t215, .int .i64 x219003_4, .int .i64 x219004_4, .int .i64 x219005_4, .string x219006_4, .slice Ao52 x219007_4.length co52, .int .i64 0, .int .i64 0, .int .i64 0]) ?_ 8 _ rfl; (with_reducible repeat (first | refine ze ?_ _ | refine zf ?_ | refine zc ?_ _)); refine zx (cs := #[.int .i64 t209, .int .i64 t212, .int .i64 t215, .int .i64 x219003_4, .int .i64 x219004_4, .int .i64 x219005_4, .string x219006_4, .slice none 0 0, .int .i64 0, .int .i64 0, .int .i64 0]) ?_ 7 _ rfl; (with_reducible repeat (first | refine ze ?_ _ | refine zf ?_ | refine zc ?_ _)); refine zx (cs := #[.int .i64 t209, .int .i64 t212, .int .i64 t215, .int .i64 x219003_4, .int .i64 x219004_4, .int .i64 x219005_4, .string (⟨#[]⟩ : ByteArray), .slice none 0 0, .int .i64 0, .int .i64 0, .int .i64 0]) ?_ 6 _ rfl; (with_reducible repeat (first | refine ze ?_ _ | refine zf ?_ | refine zc ?_ _)); refine zx (cs := #[.int .i64 t209, .int .i64 t212, .int .i64 t215, .int .i64 x219003_4, .int .i64 x219004_4, .int .i64 0, .string (⟨#[]⟩ : ByteArray), .slice none 0 0, .int .i64 0, .int .i64 0, .int .i64 0]) ?_ 5 _ rfl; (with_reducible repeat (first | refine ze ?_ _ | refine zf ?_ | refine zc ?_ _)); refine zx (cs := #[.int .i64 t209, .int .i64 t212, .int .i64 t215, .int .i64 x219003_4, .int .i64 0, .int .i64 0, .string (⟨#[]⟩ : ByteArray), .slice none 0 0, .int .i64 0, .int .i64 0, .int .i64 0]) ?_ 4 _ rfl; (with_reducible repeat (first | refine ze ?_ _ | refine zf ?_ | refine zc ?_ _)); refine zx (cs := #[.int .i64 t209, .int .i64 t212, .int .i64 t215, .int .i64 0, .int .i64 0, .int .i64 0, .string (⟨#[]⟩ : ByteArray), .slice none 0 0, .int .i64 0, .int .i64 0, .int .i64 0]) ?_ 3 _ rfl; (with_reducible repeat (first | refine ze ?_ _ | refine zf ?_ | refine zc ?_ _)); refine zx (cs := #[.int .i64 t209, .int .i64 t212, .int .i64 0, .int .i64 0, .int .i64 0, .int .i64 0, .string (⟨#[]⟩ : ByteArray), .slice none 0 0, .int .i64 0, .int .i64 0, .int .i64 0]) ?_ 2 _ rfl; (with_reducible repeat (first | refine ze ?_ _ | refine zf ?_ | refine zc ?_ _)); refine zx (cs := #[.int .i64 t209, .int .i64 0, .int .i64 0, .int .i64 0, .int .i64 0, .int .i64 0, .string (⟨#[]⟩ : ByteArray), .slice none 0 0, .int .i64 0, .int .i64 0, .int .i64 0]) ?_ 1 _ rfl; (with_reducible repeat (first | refine ze ?_ _ | refine zf ?_ | refine zc ?_ _)); refine zx (cs := #[.int .i64 0, .int .i64 0, .int .i64 0, .int .i64 0, .int .i64 0, .int .i64 0, .string (⟨#[]⟩ : ByteArray), .slice none 0 0, .int .i64 0, .int .i64 0, .int .i64 0]) ?_ 0 _ rfl; (with_reducible repeat (first | refine ze ?_ _ | refine zf ?_ | refine zc ?_ _)); refine zp ?_ NB208_0.out _; (with_reducible repeat (first | refine ze ?_ _ | refine zf ?_ | refine zc ?_ _)); exact BK208.out) Try.underlying38 rfl (by kernel_rfl)) rfl ?_
    exact ⟨_, by first | rfl | (simp [zm, zn] <;> rfl) | (simp [*, zm, zn] <;> rfl), by (with_reducible repeat (first | apply Kd.uh | apply Kd.ui | apply Kd.uk)); exact Kd.jj (Kd.ux (p := ⟨gb208, 10, none⟩) (Kd.ux (p := ⟨gb208, 9, none⟩) (Kd.ux (p := ⟨gb208, 8, none⟩) (Kd.ux (p := ⟨gb208, 7, none⟩) (Kd.ux (p := ⟨gb208, 6, none⟩) (Kd.ux (p := ⟨gb208, 5, none⟩) (Kd.ux (p := ⟨gb208, 4, none⟩) (Kd.ux (p := ⟨gb208, 3, none⟩) (Kd.ux (p := ⟨gb208, 2, none⟩) (Kd.ux (p := ⟨gb208, 1, none⟩) (Kd.ux (p := ⟨gb208, 0, none⟩) (Kd.ux (p := ⟨g, 1, none⟩) (Kd.z1e (IsS86.apart HI0.out HO_219007.out (by decide)) BK208.out (by decide)) (fun _ hk => hk.1.2) (.bool true)) (fun _ hk => hk.2) (.int .i64 t209)) (fun _ hk => hk.2) (.int .i64 t212)) (fun _ hk => hk.2) (.int .i64 t215)) (fun _ hk => hk.2) (.int .i64 x219003_4)) (fun _ hk => hk.2) (.int .i64 x219004_4)) (fun _ hk => hk.2) (.int .i64 x219005_4)) (fun _ hk => hk.2) (.string x219006_4)) (fun _ hk => hk.2) (.slice Ao52 x219007_4.length co52)) (fun _ hk => hk.2) (.int .i64 x219008_4)) (fun _ hk => hk.2) (.int .i64 x219009_4)) (fun _ hk => hk.2) (.int .i64 x219010_4)) (fun _ hk => trivial), by repeat (first | (with_reducible first | exact HI0.out | apply IsS86.alloc | apply IsS86.drewN | apply IsS86.drew | apply IsS86.set_0 | apply IsS86.set_1 | refine IsS86.far ?_ NB0_208.out _ | refine IsS86.far ?_ NB0_218.out _) | exact HI0.out), by repeat (first | (with_reducible first | exact HB.out | apply z8 | apply z6 | apply z7 | refine zb ?_ (IsS86.ge HI0.out) | refine zb ?_ GE208.out | refine zb ?_ GE218.out) | exact HB.out), by repeat (first | (with_reducible first | exact HK.out | apply KeepBut.set_ | apply vp | apply vv | apply vq | refine ua ?_ GW208.out _ | refine ua ?_ GW218.out _) | exact HK.out)⟩
   replace c45 := Bool.eq_false_iff.mpr c45
   subst c45
   have H1 : ((je.f kj4 t209 t212 t215 x219003_4 x219004_4 x219005_4 x219006_4 x219007_4 x219008_4 x219009_4 x219010_4).bind fun t247 => (some (t209, t212, t215, x219003_4, x219004_4, x219005_4, x219006_4, x219007_4, x219008_4, x219009_4, x219010_4, x1000_4, !t247))) = some (r1, r2, r3, r4, r5, r6, r7, r8, r9, r10, r11, r12, r13) := by rw [if_neg (show ¬ (false = true) by decide)] at H; exact H
   clear H
   have H := H1
   clear H1
   replace H := Option.bind_eq_some_iff.mp H
   obtain ⟨t247, A530, H⟩ := H
   replace H : (some (t209, t212, t215, x219003_4, x219004_4, x219005_4, x219006_4, x219007_4, x219008_4, x219009_4, x219010_4, x1000_4, !t247)) = some (r1, r2, r3, r4, r5, r6, r7, r8, r9, r10, r11, r12, r13) := H
   have A53 := Aside0.mk A530
   clear A530
   simp only [Option.some.injEq, Prod.mk.injEq] at H
   obtain ⟨rfl, rfl, rfl, rfl, rfl, rfl, rfl, rfl, rfl, rfl, rfl, rfl, rfl⟩ := H
   obtain ⟨HGz54, hgz54⟩ := HI0.out
   have hcz54_0 := jg HGz54
   have hcz54_1 := jh HGz54
   have hfz54_0 := zi HGz54 0
   have hfz54_1 := zi HGz54 1
   clear HGz54 hgz54
   have hnb55 := NB218_208.out
   have hnc55 := NB208_218.out
   have hnb56 := NB218_0.out
   have hnc56 := NB0_218.out
   have hcz57_0 := yq BK218.out
   have hfz57_0 := fun j_ => zi BK218.out j_
   obtain ⟨Ao58, co58, eo58⟩ := Kd.z01 HO_219007.out
   subst eo58
   go_wp2_with (first | (go_at_call 38; (with_reducible refine (je.calls kj4 t209 t212 t215 x219003_4 x219004_4 x219005_4 x219006_4 _ _ x219007_4 x219008_4 x219009_4 x219010_4 t247 _ ?side1 ?side2 A53.out).mono ?_); (case side1 => repeat (first | exact (Kd.jn HO_219007.out).2.2 | (with_reducible refine Kd.yo ?_ _) | (with_reducible refine Kd.yp ?_ _) | (with_reducible refine Kd.yy ?_))); (case side2 => exact (Kd.jn HO_219007.out).2.1); rintro e w59 ⟨rfl, hb⟩; have n0_ := Aside0.mk (Kd.jl (by (with_reducible repeat (first | apply Kd.uh | apply Kd.ui | apply Kd.uk)); exact HO_219007.out) hb); have n1_ := Aside0.mk (zt (by (with_reducible repeat (first | refine ze ?_ _ | refine zf ?_ | refine zc ?_ _)); exact BK208.out) hb); have n2_ := Aside0.mk (zt (by (with_reducible repeat (first | refine ze ?_ _ | refine zf ?_ | refine zc ?_ _)); exact BK218.out) hb); have n3_ := Aside0.mk (IsS86.below (by repeat (first | (with_reducible first | exact HI0.out | apply IsS86.alloc | apply IsS86.drewN | apply IsS86.drew | apply IsS86.set_0 | apply IsS86.set_1 | refine IsS86.far ?_ NB0_208.out _ | refine IsS86.far ?_ NB0_218.out _) | exact HI0.out)) hb); have n4_ := Aside0.mk (KeepBut.trans (by repeat (first | (with_reducible first | exact HK.out | apply KeepBut.set_ | apply vp | apply vv | apply vq | refine ua ?_ GW208.out _ | refine ua ?_ GW218.out _) | exact HK.out)) (KeepBut.of_below hb g none) (.inl rfl)); have n5_ := Aside0.mk (zj (by repeat (first | (with_reducible first | exact HB.out | apply z8 | apply z6 | apply z7 | refine zb ?_ (IsS86.ge HI0.out) | refine zb ?_ GE208.out | refine zb ?_ GE218.out) | exact HB.out)) hb); clear HO_219007; clear BK208; clear BK218; clear HI0; clear HK; clear HB; have HO_219007 := n0_; have BK208 := n1_; have BK218 := n2_; have HI0 := n3_; have HK := n4_; have HB := n5_; clear n0_ n1_ n2_ n3_ n4_ n5_; (try clear hb); (try clear hb2); (try clear hk); (try clear hi); obtain ⟨HGz60, hgz60⟩ := HI0.out; have hcz60_0 := jg HGz60; have hcz60_1 := jh HGz60; have hfz60_0 := zi HGz60 0; have hfz60_1 := zi HGz60 1; clear HGz60 hgz60; have hcz61_0 := yq BK218.out; have hfz61_0 := fun j_ => zi BK218.out j_; have hnb62 := NB208_0.out; have hnc62 := NB0_208.out; have hcz63_0 := yq BK208.out; have hfz63_0 := fun j_ => zi BK208.out j_))
   refine bodyPost_ret (results_cell_row rfl _ _ gb208 38 #[.int .i64 t209, .int .i64 t212, .int .i64 t215, .int .i64 x219003_4, .int .i64 x219004_4, .int .i64 x219005_4, .string x219006_4, .slice Ao58 x219007_4.length co58, .int .i64 x219008_4, .int .i64 x219009_4, .int .i64 x219010_4] (0, 0) _ rfl (by (with_reducible repeat (first | refine ze ?_ _ | refine zf ?_ | refine zc ?_ _)); refine zx (cs := #[.int .i64 t209, .int .i64 t212, .int .i64 t215, .int .i64 x219003_4, .int .i64 x219004_4, .int .i64 x219005_4, .string x219006_4, .slice Ao58 x219007_4.length co58, .int .i64 x219008_4, .int .i64 x219009_4, .int .i64 0]) ?_ 10 _ rfl; (with_reducible repeat (first | refine ze ?_ _ | refine zf ?_ | refine zc ?_ _)); refine zx (cs := #[.int .i64 t209, .int .i64 t212, .int .i64 t215, .int .i64 x219003_4, .int .i64 x219004_4, .int .i64 x219005_4, .string x219006_4, .slice Ao58 x219007_4.length co58, .int .i64 x219008_4, .int .i64 0, .int .i64 0]) ?_ 9 _ rfl; (with_reducible repeat (first | refine ze ?_ _ | refine zf ?_ | refine zc ?_ _)); refine zx (cs := #[.int .i64 t209, .int .i64 t212, .int .i64 t215, .int .i64 x219003_4, .int .i64 x219004_4, .int .i64 x219005_4, .string x219006_4, .slice Ao58 x219007_4.length co58, .int .i64 0, .int .i64 0, .int .i64 0]) ?_ 8 _ rfl; (with_reducible repeat (first | refine ze ?_ _ | refine zf ?_ | refine zc ?_ _)); refine zx (cs := #[.int .i64 t209, .int .i64 t212, .int .i64 t215, .int .i64 x219003_4, .int .i64 x219004_4, .int .i64 x219005_4, .string x219006_4, .slice none 0 0, .int .i64 0, .int .i64 0, .int .i64 0]) ?_ 7 _ rfl; (with_reducible repeat (first | refine ze ?_ _ | refine zf ?_ | refine zc ?_ _)); refine zx (cs := #[.int .i64 t209, .int .i64 t212, .int .i64 t215, .int .i64 x219003_4, .int .i64 x219004_4, .int .i64 x219005_4, .string (⟨#[]⟩ : ByteArray), .slice none 0 0, .int .i64 0, .int .i64 0, .int .i64 0]) ?_ 6 _ rfl; (with_reducible repeat (first | refine ze ?_ _ | refine zf ?_ | refine zc ?_ _)); refine zx (cs := #[.int .i64 t209, .int .i64 t212, .int .i64 t215, .int .i64 x219003_4, .int .i64 x219004_4, .int .i64 0, .string (⟨#[]⟩ : ByteArray), .slice none 0 0, .int .i64 0, .int .i64 0, .int .i64 0]) ?_ 5 _ rfl; (with_reducible repeat (first | refine ze ?_ _ | refine zf ?_ | refine zc ?_ _)); refine zx (cs := #[.int .i64 t209, .int .i64 t212, .int .i64 t215, .int .i64 x219003_4, .int .i64 0, .int .i64 0, .string (⟨#[]⟩ : ByteArray), .slice none 0 0, .int .i64 0, .int .i64 0, .int .i64 0]) ?_ 4 _ rfl; (with_reducible repeat (first | refine ze ?_ _ | refine zf ?_ | refine zc ?_ _)); refine zx (cs := #[.int .i64 t209, .int .i64 t212, .int .i64 t215, .int .i64 0, .int .i64 0, .int .i64 0, .string (⟨#[]⟩ : ByteArray), .slice none 0 0, .int .i64 0, .int .i64 0, .int .i64 0]) ?_ 3 _ rfl; (with_reducible repeat (first | refine ze ?_ _ | refine zf ?_ | refine zc ?_ _)); refine zx (cs := #[.int .i64 t209, .int .i64 t212, .int .i64 0, .int .i64 0, .int .i64 0, .int .i64 0, .string (⟨#[]⟩ : ByteArray), .slice none 0 0, .int .i64 0, .int .i64 0, .int .i64 0]) ?_ 2 _ rfl; (with_reducible repeat (first | refine ze ?_ _ | refine zf ?_ | refine zc ?_ _)); refine zx (cs := #[.int .i64 t209, .int .i64 0, .int .i64 0, .int .i64 0, .int .i64 0, .int .i64 0, .string (⟨#[]⟩ : ByteArray), .slice none 0 0, .int .i64 0, .int .i64 0, .int .i64 0]) ?_ 1 _ rfl; (with_reducible repeat (first | refine ze ?_ _ | refine zf ?_ | refine zc ?_ _)); refine zx (cs := #[.int .i64 0, .int .i64 0, .int .i64 0, .int .i64 0, .int .i64 0, .int .i64 0, .string (⟨#[]⟩ : ByteArray), .slice none 0 0, .int .i64 0, .int .i64 0, .int .i64 0]) ?_ 0 _ rfl; (with_reducible repeat (first | refine ze ?_ _ | refine zf ?_ | refine zc ?_ _)); refine zp ?_ NB208_0.out _; (with_reducible repeat (first | refine ze ?_ _ | refine zf ?_ | refine zc ?_ _)); exact BK208.out) Try.underlying38 rfl (by kernel_rfl)) rfl ?_
   exact ⟨_, by first | rfl | (simp [zm, zn] <;> rfl) | (simp [*, zm, zn] <;> rfl), by (with_reducible repeat (first | apply Kd.uh | apply Kd.ui | apply Kd.uk)); exact Kd.jj (Kd.ux (p := ⟨gb208, 10, none⟩) (Kd.ux (p := ⟨gb208, 9, none⟩) (Kd.ux (p := ⟨gb208, 8, none⟩) (Kd.ux (p := ⟨gb208, 7, none⟩) (Kd.ux (p := ⟨gb208, 6, none⟩) (Kd.ux (p := ⟨gb208, 5, none⟩) (Kd.ux (p := ⟨gb208, 4, none⟩) (Kd.ux (p := ⟨gb208, 3, none⟩) (Kd.ux (p := ⟨gb208, 2, none⟩) (Kd.ux (p := ⟨gb208, 1, none⟩) (Kd.ux (p := ⟨gb208, 0, none⟩) (Kd.ux (p := ⟨g, 1, none⟩) (Kd.z1e (IsS86.apart HI0.out HO_219007.out (by decide)) BK208.out (by decide)) (fun _ hk => hk.1.2) (.bool (!t247))) (fun _ hk => hk.2) (.int .i64 t209)) (fun _ hk => hk.2) (.int .i64 t212)) (fun _ hk => hk.2) (.int .i64 t215)) (fun _ hk => hk.2) (.int .i64 x219003_4)) (fun _ hk => hk.2) (.int .i64 x219004_4)) (fun _ hk => hk.2) (.int .i64 x219005_4)) (fun _ hk => hk.2) (.string x219006_4)) (fun _ hk => hk.2) (.slice Ao58 x219007_4.length co58)) (fun _ hk => hk.2) (.int .i64 x219008_4)) (fun _ hk => hk.2) (.int .i64 x219009_4)) (fun _ hk => hk.2) (.int .i64 x219010_4)) (fun _ hk => trivial), by repeat (first | (with_reducible first | exact HI0.out | apply IsS86.alloc | apply IsS86.drewN | apply IsS86.drew | apply IsS86.set_0 | apply IsS86.set_1 | refine IsS86.far ?_ NB0_208.out _ | refine IsS86.far ?_ NB0_218.out _) | exact HI0.out), by repeat (first | (with_reducible first | exact HB.out | apply z8 | apply z6 | apply z7 | refine zb ?_ (IsS86.ge HI0.out) | refine zb ?_ GE208.out | refine zb ?_ GE218.out) | exact HB.out), by repeat (first | (with_reducible first | exact HK.out | apply KeepBut.set_ | apply vp | apply vv | apply vq | refine ua ?_ GW208.out _ | refine ua ?_ GW218.out _) | exact HK.out)⟩
theorem tko.ne {n j : Nat} : ∀ k, n + 2 ≤ k → k ≠ (⟨n, j, none⟩ : Addr).block := fun k h e => by simp only at e; omega
theorem z07 {w : World} {b j : Nat} {t : TypeId} {fr : Nat × Nat} {cs : Array Value} {v : Value} (h : w.heap[b]? = some (.cells cs t fr)) (hv : cs[j]? = some v) : w.setCell ⟨b, j, none⟩ v = w := by
  unfold World.setCell
  have e : w.heap.modify b (fun | .cells c elem frozen => .cells (if (⟨b, j, none⟩ : Addr).spot.isSome then c else c.setIfInBounds j v) elem frozen | o => o) = w.heap := by
    apply Array.ext (by simp)
    intro i h1 h2
    rw [Array.getElem_modify]
    split
    · rename_i e
      subst e
      have hb : w.heap[b] = .cells cs t fr := by
        have := Array.getElem?_eq_getElem h2
        rw [h] at this
        exact (Option.some.inj this).symm
      rw [hb]
      have hc : cs.setIfInBounds j v = cs := by
        apply Array.ext (by simp)
        intro q hq1 hq2
        rw [Array.getElem_setIfInBounds hq2]
        split
        · rename_i e
          subst e
          have := Array.getElem?_eq_getElem hq2
          rw [hv] at this
          exact Option.some.inj this
        · rfl
      simp [hc]
    · rfl
  exact congrArg (fun h => { w with heap := h }) e
set_option maxHeartbeats 8000000 in
set_option maxRecDepth 100000 in
theorem tko.core (k : Nat) (a0 : ByteArray) (s1 s2 s3 s4 s5 s6 : Int) (s7 : ByteArray) (s8 : List S36) (s9 s10 s11 : Int) (s12 : ByteArray) (b : Bool) (w : World) (h : zw.f k a0 false = some (s1, s2, s3, s4, s5, s6, s7, s8, s9, s10, s11, s12, b)) :
    Calls Try.prog 9 #[.string a0] w fun e w' => ∃ v7_ : Value, e = .returned (.tuple #[.agg #[.int .i64 (if b then 0 else s1), .int .i64 (if b then 0 else s2), .int .i64 (if b then 0 else s3), .int .i64 (if b then 0 else s4), .int .i64 (if b then 0 else s5), .int .i64 (if b then 0 else s6), .string (if b then ⟨#[]⟩ else s7), v7_, .int .i64 (if b then 0 else s9), .int .i64 (if b then 0 else s10), .int .i64 (if b then 0 else s11)], .string (if b then ⟨#[]⟩ else s12), .int .i64 (if b then 7 else 0)]) ∧ Kd.R k36 36 w' w.heap.size (fun _ => True) v7_ (if b then [] else s8) ∧ Below w.heap.size w w' := by
  have HH := Aside0.mk h
  clear h
  have huo_ := Try.underlying38
  have hue_ := Try.underlying36
  have hur_ := Try.underlying86
  go_enter Try.func9, Try.ntmps9
  go_wp2_with (go_at_call 40; go_loud (refine (zw.calls k (w.heap.size + 1) a0 false s1 s2 s3 s4 s5 s6 s7 s8 s9 s10 s11 s12 b w ((w.alloc (.cells #[.int .i64 0, .int .i64 0, .int .i64 0, .int .i64 0, .int .i64 0, .int .i64 0, .string ⟨#[]⟩, .slice none 0 0, .int .i64 0, .int .i64 0, .int .i64 0] 38)).alloc (.cells #[.string a0, .bool false] 86)) ?hI ?hB HH.out).mono ?_); (case hI => exact ⟨(by simpa using heap_alloc_new (w.alloc (.cells #[.int .i64 0, .int .i64 0, .int .i64 0, .int .i64 0, .int .i64 0, .int .i64 0, .string ⟨#[]⟩, .slice none 0 0, .int .i64 0, .int .i64 0, .int .i64 0] 38)) (.cells #[.string a0, .bool false] 86)), by omega⟩); (case hB => exact z8 (z8 (Below.refl _ _) _) _))
  rintro e w1 ⟨v7, rfl, hR, hI, hB, hK⟩
  have HB := Aside0.mk hB
  have HR := Aside0.mk hR
  have b0 : w1.heap[w.heap.size]? = some (.cells #[.int .i64 0, .int .i64 0, .int .i64 0, .int .i64 0, .int .i64 0, .int .i64 0, .string ⟨#[]⟩, .slice none 0 0, .int .i64 0, .int .i64 0, .int .i64 0] 38 (0, 0)) := hK.blk (row := none) (zc (heap_alloc_new w _) _) (by simp) (by simp)
  have b1 : w1.heap[w.heap.size + 1]? = some (.cells #[.string s12, .bool b] 86 (0, 0)) := by have := hI.1; simpa using this
  have H0 := Aside0.mk b0
  have H1 := Aside0.mk b1
  clear b0 b1 hI hB hK hR
  obtain ⟨Ao, co, eo⟩ := Kd.z01 HR.out
  subst eo
  have c1 := z5r H1.out
  have c0 := yq H0.out
  have f0 := fun j => zi H0.out j
  have f1 := fun j => zi H1.out j
  have HRB : Aside0 (Kd.R k36 36 w1 (w.heap.size + 2) (fun k => w.heap.size + 2 ≤ k) (.slice Ao s8.length co) s8) := ⟨by have h_ := Kd.jj (Kd.z0m HR.out) (fun k hk => hk.2.1); simpa using h_⟩
  have NE : Aside0 (w.heap.size + 1 ≠ w.heap.size) := ⟨by omega⟩
  cases b with
  | true =>
    go_wp2
    clear c0 c1 f0 f1
    generalize hw_ : ((((((((((((((((((((((w1.setCell ⟨w.heap.size, 0, none⟩ (.int .i64 s1)).setCell ⟨w.heap.size, 1, none⟩ (.int .i64 s2)).setCell ⟨w.heap.size, 2, none⟩ (.int .i64 s3)).setCell ⟨w.heap.size, 3, none⟩ (.int .i64 s4)).setCell ⟨w.heap.size, 4, none⟩ (.int .i64 s5)).setCell ⟨w.heap.size, 5, none⟩ (.int .i64 s6)).setCell ⟨w.heap.size, 6, none⟩ (.string s7)).setCell ⟨w.heap.size, 7, none⟩ (.slice Ao s8.length co)).setCell ⟨w.heap.size, 8, none⟩ (.int .i64 s9)).setCell ⟨w.heap.size, 9, none⟩ (.int .i64 s10)).setCell ⟨w.heap.size, 10, none⟩ (.int .i64 s11)).setCell ⟨w.heap.size, 0, none⟩ (.int .i64 0)).setCell ⟨w.heap.size, 1, none⟩ (.int .i64 0)).setCell ⟨w.heap.size, 2, none⟩ (.int .i64 0)).setCell ⟨w.heap.size, 3, none⟩ (.int .i64 0)).setCell ⟨w.heap.size, 4, none⟩ (.int .i64 0)).setCell ⟨w.heap.size, 5, none⟩ (.int .i64 0)).setCell ⟨w.heap.size, 6, none⟩ (.string ⟨#[]⟩)).setCell ⟨w.heap.size, 7, none⟩ (.slice none 0 0)).setCell ⟨w.heap.size, 8, none⟩ (.int .i64 0)).setCell ⟨w.heap.size, 9, none⟩ (.int .i64 0)).setCell ⟨w.heap.size, 10, none⟩ (.int .i64 0)) = w2
    have K0 : Aside0 (w2.heap[w.heap.size]? = some (.cells #[.int .i64 0, .int .i64 0, .int .i64 0, .int .i64 0, .int .i64 0, .int .i64 0, .string ⟨#[]⟩, .slice none 0 0, .int .i64 0, .int .i64 0, .int .i64 0] 38 (0, 0))) := by rw [← hw_]; exact ⟨z3e (z3e H0.out _ _ _ _ _ _ _ _ _ _ _) _ _ _ _ _ _ _ _ _ _ _⟩
    have HB3 : Aside0 (Below w.heap.size w w2) := by rw [← hw_]; exact ⟨(zb (zb (zb (zb (zb (zb (zb (zb (zb (zb (zb (zb (zb (zb (zb (zb (zb (zb (zb (zb (zb (zb HB.out (Nat.le_refl _)) (Nat.le_refl _)) (Nat.le_refl _)) (Nat.le_refl _)) (Nat.le_refl _)) (Nat.le_refl _)) (Nat.le_refl _)) (Nat.le_refl _)) (Nat.le_refl _)) (Nat.le_refl _)) (Nat.le_refl _)) (Nat.le_refl _)) (Nat.le_refl _)) (Nat.le_refl _)) (Nat.le_refl _)) (Nat.le_refl _)) (Nat.le_refl _)) (Nat.le_refl _)) (Nat.le_refl _)) (Nat.le_refl _)) (Nat.le_refl _)) (Nat.le_refl _))⟩
    clear hw_
    have c0 := yq K0.out
    refine bodyPost_ret (v := .tuple #[.agg #[.int .i64 0, .int .i64 0, .int .i64 0, .int .i64 0, .int .i64 0, .int .i64 0, .string ⟨#[]⟩, .slice none 0 0, .int .i64 0, .int .i64 0, .int .i64 0], .string ⟨#[]⟩, .int .i64 7]) (by simp [results, Try.results9, go_sem, c0]) rfl ⟨_, rfl, Kd.z0v _ _ _ _ _, HB3.out⟩
  | false =>
    go_wp2
    clear c0 c1 f0 f1
    generalize hw_ : (((((((((((w1.setCell ⟨w.heap.size, 0, none⟩ (.int .i64 s1)).setCell ⟨w.heap.size, 1, none⟩ (.int .i64 s2)).setCell ⟨w.heap.size, 2, none⟩ (.int .i64 s3)).setCell ⟨w.heap.size, 3, none⟩ (.int .i64 s4)).setCell ⟨w.heap.size, 4, none⟩ (.int .i64 s5)).setCell ⟨w.heap.size, 5, none⟩ (.int .i64 s6)).setCell ⟨w.heap.size, 6, none⟩ (.string s7)).setCell ⟨w.heap.size, 7, none⟩ (.slice Ao s8.length co)).setCell ⟨w.heap.size, 8, none⟩ (.int .i64 s9)).setCell ⟨w.heap.size, 9, none⟩ (.int .i64 s10)).setCell ⟨w.heap.size, 10, none⟩ (.int .i64 s11)) = w2
    have H0' : Aside0 (w2.heap[w.heap.size]? = some (.cells #[.int .i64 s1, .int .i64 s2, .int .i64 s3, .int .i64 s4, .int .i64 s5, .int .i64 s6, .string s7, .slice Ao s8.length co, .int .i64 s9, .int .i64 s10, .int .i64 s11] 38 (0, 0))) := by rw [← hw_]; exact ⟨z3e H0.out _ _ _ _ _ _ _ _ _ _ _⟩
    have H1' : Aside0 (w2.heap[w.heap.size + 1]? = some (.cells #[.string s12, .bool false] 86 (0, 0))) := by rw [← hw_]; exact ⟨(zp (zp (zp (zp (zp (zp (zp (zp (zp (zp (zp H1.out NE.out _) NE.out _) NE.out _) NE.out _) NE.out _) NE.out _) NE.out _) NE.out _) NE.out _) NE.out _) NE.out _)⟩
    have HB' : Aside0 (Below w.heap.size w w2) := by rw [← hw_]; exact ⟨(zb (zb (zb (zb (zb (zb (zb (zb (zb (zb (zb HB.out (Nat.le_refl _)) (Nat.le_refl _)) (Nat.le_refl _)) (Nat.le_refl _)) (Nat.le_refl _)) (Nat.le_refl _)) (Nat.le_refl _)) (Nat.le_refl _)) (Nat.le_refl _)) (Nat.le_refl _)) (Nat.le_refl _))⟩
    have HR' : Aside0 (Kd.R k36 36 w2 (w.heap.size + 2) (fun k => w.heap.size + 2 ≤ k) (.slice Ao s8.length co) s8) := by rw [← hw_]; exact ⟨(Kd.ux (p := ⟨w.heap.size, 10, none⟩) (Kd.ux (p := ⟨w.heap.size, 9, none⟩) (Kd.ux (p := ⟨w.heap.size, 8, none⟩) (Kd.ux (p := ⟨w.heap.size, 7, none⟩) (Kd.ux (p := ⟨w.heap.size, 6, none⟩) (Kd.ux (p := ⟨w.heap.size, 5, none⟩) (Kd.ux (p := ⟨w.heap.size, 4, none⟩) (Kd.ux (p := ⟨w.heap.size, 3, none⟩) (Kd.ux (p := ⟨w.heap.size, 2, none⟩) (Kd.ux (p := ⟨w.heap.size, 1, none⟩) (Kd.ux (p := ⟨w.heap.size, 0, none⟩) HRB.out tko.ne _) tko.ne _) tko.ne _) tko.ne _) tko.ne _) tko.ne _) tko.ne _) tko.ne _) tko.ne _) tko.ne _) tko.ne _)⟩
    clear hw_
    refine ji (n := 8) (S := fun w' => w'.heap[w.heap.size]? = some (.cells #[.int .i64 s1, .int .i64 s2, .int .i64 s3, .int .i64 s4, .int .i64 s5, .int .i64 s6, .string s7, .slice Ao s8.length co, .int .i64 s9, .int .i64 s10, .int .i64 s11] 38 (0, 0)) ∧ w'.heap[w.heap.size + 1]? = some (.cells #[.string s12, .bool false] 86 (0, 0))) (ds := []) #[false, false, false, false, false, false, false, false] (by kernel_rfl) rfl rfl ⟨H0'.out, H1'.out⟩ (fun hHeld => ?_)
    have HB3 := Aside0.mk (z1c HB'.out)
    have HR3 := Aside0.mk (Kd.z00 (Kd.jj (Kd.uk HR'.out) (fun k _ => (trivial : True))) (Nat.le_add_right w.heap.size 2))
    clear HB' HR'
    generalize w2.drew = w3 at hHeld HB3 HR3 ⊢
    refine z42 (i := 0) (N := some 16) (v := ?_) (a' := ?_) #[true, false, false, false, false, false, false, false] rfl rfl (by kernel_rfl) (fun _ _ _ h => h) (Or.inl ⟨by rfl, ?_⟩) hHeld ?_ ?_
    rotate_left
    · rintro w' ⟨k0, k1⟩
      have c0 := yq k0
      have c1 := z5r k1
      clear k0 k1
      go_simp
      with_reducible rfl
    rotate_left
    · simp only [Act.put, List.setIfInBounds_toArray, List.set_cons_zero, List.set_cons_succ, vw, ud]
      rfl
    refine pq_ 1 17 #[true, true, false, false, false, false, false, false] (by kernel_rfl) ?_
    refine gz 2 18 #[true, true, true, false, false, false, false, false] (by kernel_rfl) ?_
    refine gz 3 19 #[true, true, true, true, false, false, false, false] (by kernel_rfl) ?_
    refine z42 (i := 4) (N := some 20) (v := ?_) (a' := ?_) #[true, true, true, true, true, false, false, false] rfl rfl (by kernel_rfl) (fun _ _ _ h => h) (Or.inl ⟨by rfl, ?_⟩) hHeld ?_ ?_
    rotate_left
    · rintro w' ⟨k0, k1⟩
      have c0 := yq k0
      have c1 := z5r k1
      clear k0 k1
      go_simp
      with_reducible rfl
    rotate_left
    · simp only [Act.put, List.setIfInBounds_toArray, List.set_cons_zero, List.set_cons_succ, vw, ud]
      rfl
    refine ul (i := 5) (N := none) #[true, true, true, true, true, true, false, false] rfl rfl (by kernel_rfl) (by decide) (fun K hK => ?_)
    have c0 := yq hHeld.1
    have f0 := fun j => zi hHeld.1 j
    have e0 := z07 (j := 0) hHeld.1 (v := .int .i64 s1) rfl
    have e1 := z07 (j := 1) hHeld.1 (v := .int .i64 s2) rfl
    have e2 := z07 (j := 2) hHeld.1 (v := .int .i64 s3) rfl
    have e3 := z07 (j := 3) hHeld.1 (v := .int .i64 s4) rfl
    have e4 := z07 (j := 4) hHeld.1 (v := .int .i64 s5) rfl
    have e5 := z07 (j := 5) hHeld.1 (v := .int .i64 s6) rfl
    have e6 := z07 (j := 6) hHeld.1 (v := .string s7) rfl
    have e7 := z07 (j := 7) hHeld.1 (v := .slice Ao s8.length co) rfl
    have e8 := z07 (j := 8) hHeld.1 (v := .int .i64 s9) rfl
    have e9 := z07 (j := 9) hHeld.1 (v := .int .i64 s10) rfl
    have e10 := z07 (j := 10) hHeld.1 (v := .int .i64 s11) rfl
    have HH_ := Aside0.mk hHeld
    clear hHeld
    refine jv (w1 := w3) (by rfl) rfl ?_ ?_
    · go_simp
    clear c0 f0 e0 e1 e2 e3 e4 e5 e6 e7 e8 e9 e10
    refine hK.out _ _ HH_.out (fun hHeld => ?_)
    clear hK K HH_
    refine pq_ 6 3 #[true, true, true, true, true, true, true, false] (by kernel_rfl) ?_
    refine pq_ 7 4 #[true, true, true, true, true, true, true, true] (by kernel_rfl) ?_
    refine ju (by kernel_rfl) ?_
    have K0 := Aside0.mk hHeld.1
    clear hHeld
    go_wp2
    have c0 := yq K0.out
    refine bodyPost_ret (v := .tuple #[.agg #[.int .i64 s1, .int .i64 s2, .int .i64 s3, .int .i64 s4, .int .i64 s5, .int .i64 s6, .string s7, .slice Ao s8.length co, .int .i64 s9, .int .i64 s10, .int .i64 s11], .string s12, .int .i64 0]) (by simp [results, Try.results9, go_sem, c0]) rfl ⟨_, rfl, HR3.out, HB3.out⟩
def uo.f (k : Nat) (s : ByteArray) : Option (Int × Int × Int × Int × Int × Int × ByteArray × (List S36) × Int × Int × Int × ByteArray × Int) :=
  (zw.f k s false).bind fun (t0, t1, t2, t3, t4, t5, t6, t7, t8, t9, t10, s', b) => if b = true then some (0, 0, 0, 0, 0, 0, ⟨#[]⟩, [], 0, 0, 0, ⟨#[]⟩, 7) else some (t0, t1, t2, t3, t4, t5, t6, t7, t8, t9, t10, s', 0)
theorem uo.mono : ∀ l k, LeO (uo.f k l) (uo.f (k + 1) l) := fun l k =>
  LeO.bind (zw.mono l false k) (fun _ => LeO.refl _)
theorem uo.calls (k : Nat) (a0 : ByteArray) (r1 : Int) (r2 : Int) (r3 : Int) (r4 : Int) (r5 : Int) (r6 : Int) (r7 : ByteArray) (r8 : List S36) (r9 : Int) (r10 : Int) (r11 : Int) (r12 : ByteArray) (r13 : Int) (w : World) (h : uo.f k a0 = some (r1, r2, r3, r4, r5, r6, r7, r8, r9, r10, r11, r12, r13)) :
    Calls Try.prog 9 #[.string a0] w fun e w' => ∃ v7_ : Value, e = .returned (.tuple #[.agg #[.int .i64 r1, .int .i64 r2, .int .i64 r3, .int .i64 r4, .int .i64 r5, .int .i64 r6, .string r7, v7_, .int .i64 r9, .int .i64 r10, .int .i64 r11], .string r12, .int .i64 r13]) ∧ Kd.R k36 36 w' w.heap.size (fun _ => True) v7_ r8 ∧ Below w.heap.size w w' := by
  unfold uo.f at h
  obtain ⟨⟨s1, s2, s3, s4, s5, s6, s7, s8, s9, s10, s11, s12, b⟩, h1, h2⟩ := Option.bind_eq_some_iff.1 h
  refine (tko.core k a0 s1 s2 s3 s4 s5 s6 s7 s8 s9 s10 s11 s12 b w h1).mono ?_
  rintro e w' ⟨v7, rfl, hR, hB⟩
  cases b with
  | true =>
    simp only [if_true, Option.some.injEq, Prod.mk.injEq] at h2 hR
    obtain ⟨rfl, rfl, rfl, rfl, rfl, rfl, rfl, rfl, rfl, rfl, rfl, rfl, rfl⟩ := h2
    exact ⟨v7, rfl, hR, hB⟩
  | false =>
    simp only [Bool.false_eq_true, if_false, Option.some.injEq, Prod.mk.injEq] at h2 hR
    obtain ⟨rfl, rfl, rfl, rfl, rfl, rfl, rfl, rfl, rfl, rfl, rfl, rfl, rfl⟩ := h2
    exact ⟨v7, rfl, hR, hB⟩
def yh.l0 : Nat → List (S36) → List (S36) → Int → Option (Bool)
  | 0, _, _, _ => none
  | k + 1, x0, x1, x5 => if x5 < (x0.length : Int) then (if 0 ≤ x5 then (if x5 < (x1.length : Int) then (if (!(((zr x0 x5).f0) == ((zr x1 x5).f0)) || (!(((zr x0 x5).f1) == ((zr x1 x5).f1)) || (!(((zr x0 x5).f2) == ((zr x1 x5).f2))))) = true then (some false) else (yh.l0 k x0 x1 (wrap64 (x5 + 1)))) else (none)) else (none)) else (some true)
def yh.f (k : Nat) (l0 : List (S36)) (l1 : List (S36)) : Option (Bool) := if (l0.length : Int) = (l1.length : Int) then (yh.l0 k l0 l1 0) else (some false)
theorem yh.mono_l : ∀ k, (∀ y0 y1 y2, LeO (yh.l0 k y0 y1 y2) (yh.l0 (k + 1) y0 y1 y2))
  | 0 => fun _ _ _ r h => by simp [yh.l0] at h
  | k + 1 => by
    have ih0 := yh.mono_l k
    · intro y0 y1 y2
      unfold yh.l0
      repeat' first
      | (with_reducible exact ih0 _ _ _)
      | (with_reducible exact LeO.refl _)
      | (with_reducible exact LeO.none _)
      | (with_reducible refine LeO.ite ?_ ?_)
      | (with_reducible refine LeO.bind ?_ (fun _ => ?_))
      | exact ih0 _ _ _
      | exact LeO.none _
      | refine LeO.ite ?_ ?_
      | refine LeO.bind ?_ (fun _ => ?_)
theorem yh.mono : ∀ a0 a1 k, LeO (yh.f k a0 a1) (yh.f (k + 1) a0 a1) := by
  intro a0 a1 k
  have ih0 := yh.mono_l k
  unfold yh.f
  repeat' first
      | (with_reducible exact ih0 _ _ _)
      | (with_reducible exact LeO.refl _)
      | (with_reducible exact LeO.none _)
      | (with_reducible refine LeO.ite ?_ ?_)
      | (with_reducible refine LeO.bind ?_ (fun _ => ?_))
      | exact ih0 _ _ _
      | exact LeO.none _
      | refine LeO.ite ?_ ?_
      | refine LeO.bind ?_ (fun _ => ?_)
set_option maxHeartbeats 8000000 in
set_option maxRecDepth 100000 in
theorem yh.calls (k : Nat) (A0 : Option Addr) (c0 : Nat) (l0 : List (S36)) (A1 : Option Addr) (c1 : Nat) (l1 : List (S36)) (r : Bool) (w : World) (hr0 : Kd.C k36 w A0 l0.length l0) (hc0 : l0.length ≤ c0) (hr1 : Kd.C k36 w A1 l1.length l1) (hc1 : l1.length ≤ c1) (h : yh.f k l0 l1 = some r) :
  Calls Try.prog 41 #[.slice A0 l0.length c0, .slice A1 l1.length c1] w fun e w' => e = .returned (.bool r) ∧ Drawn0 w w' := by
 have hu36 := Try.underlying36
 have HR0 := Aside0.mk hr0
 have HC0 := Aside0.mk hc0
 clear hr0 hc0
 have HR1 := Aside0.mk hr1
 have HC1 := Aside0.mk hc1
 clear hr1 hc1
 have H : (if (l0.length : Int) = (l1.length : Int) then (yh.l0 k l0 l1 0) else (some false)) = some r := h
 clear h
 by_cases c3 : (l0.length : Int) = (l1.length : Int)
 rotate_left
 ·
  rw [if_neg c3] at H
  have c3b0 : ((l0.length : Int) == (l1.length : Int)) = false := beq_eq_false_iff_ne.mpr c3
  have c3b1 : ((l0.length : Int) != (l1.length : Int)) = true := bne_iff_ne.mpr c3
  have c3b2 : (l0.length == l1.length) = false := by first | simpa using c3 | (simp at c3 ⊢; omega)
  obtain rfl := Option.some.inj H
  go_enter Try.func41, Try.ntmps41
  go_wp2
  repeat (go_quiet (fail); try go_wp2)
  go_ret
  exact ⟨by first | rfl | (simp; done) | (simp [*]; done), by repeat (first | exact Drawn0.refl _ | apply Drawn0.step)⟩
 rw [if_pos c3] at H
 have c3b0 : ((l0.length : Int) == (l1.length : Int)) = true := beq_iff_eq.mpr c3
 have c3b1 : ((l0.length : Int) != (l1.length : Int)) = false := bne_eq_false_iff_eq.mpr c3
 have c3b2 : (l0.length == l1.length) = true := by first | simpa using c3 | (simp at c3 ⊢; omega)
 clear c3
 have H' := Aside0.mk H
 clear H
 go_enter Try.func41, Try.ntmps41
 go_wp2
 repeat (go_quiet (fail); try go_wp2)
 go_loopg [5] k (fun kq v5 w' => ∃ (x5_1 : Int), v5 = .int .i64 x5_1 ∧ Aside0 (yh.l0 kq l0 l1 x5_1 = some r) ∧ Aside0 (kq ≤ k) ∧ Drawn0 w w')
 case atStart => exact ⟨(0), (by first | rfl | (simp; done) | (simp [*]; done)), H', ⟨Nat.le_refl _⟩, by repeat (first | exact Drawn0.refl _ | apply Drawn0.step)⟩
 clear H'
 try clear c1
 try clear p2
 try clear c3
 try clear c3b0
 try clear c3b1
 try clear c3b2
 obtain ⟨x5_1, rfl, HA, HK1, ⟨m1, rfl⟩⟩ := hrel
 cases gk with
 | zero => exact absurd HA.out (by simp [yh.l0])
 | succ k1 =>
  have H := HA.out
  clear HA
  simp only [yh.l0] at H
  by_cases c4 : x5_1 < (l0.length : Int)
  rotate_left
  ·
   rw [if_neg c4] at H
   have c4b0 : decide (x5_1 < (l0.length : Int)) = false := decide_eq_false c4
   clear c4
   obtain rfl := Option.some.inj H
   go_wp2
   repeat (go_quiet (fail); try go_wp2)
   go_ret
   exact ⟨by first | rfl | (simp; done) | (simp [*]; done), by repeat (first | exact Drawn0.refl _ | apply Drawn0.step)⟩
  rw [if_pos c4] at H
  have c4b0 : decide (x5_1 < (l0.length : Int)) = true := decide_eq_true c4
  clear c4
  by_cases c5 : 0 ≤ x5_1
  rotate_left
  ·
   rw [if_neg c5] at H
   exact absurd H (by simp)
  rw [if_pos c5] at H
  have c5b0 : decide (0 ≤ x5_1) = true := decide_eq_true c5
  clear c5
  by_cases c6 : x5_1 < (l1.length : Int)
  rotate_left
  ·
   rw [if_neg c6] at H
   exact absurd H (by simp)
  rw [if_pos c6] at H
  have c6b0 : decide (x5_1 < (l1.length : Int)) = true := decide_eq_true c6
  clear c6
  by_cases c7 : (!(((zr l0 x5_1).f0) == ((zr l1 x5_1).f0)) || (!(((zr l0 x5_1).f1) == ((zr l1 x5_1).f1)) || (!(((zr l0 x5_1).f2) == ((zr l1 x5_1).f2))))) = true
  ·
   rw [if_pos c7] at H
   have c7b0 : (!(((zr l0 x5_1).f0) == ((zr l1 x5_1).f0)) || (!(((zr l0 x5_1).f1) == ((zr l1 x5_1).f1)) || (!(((zr l0 x5_1).f2) == ((zr l1 x5_1).f2))))) = true := c7
   clear c7
   obtain rfl := Option.some.inj H
   have p248 : 0 ≤ (x5_1 : Int) := of_decide_eq_true (by first | (with_reducible assumption) | assumption)
   have q248 : x5_1 < (l0.length : Int) := of_decide_eq_true (by first | (with_reducible assumption) | assumption)
   obtain ⟨ad248, e248, hx248_0, hx248_1, hx248_2⟩ := z1j HR0.out x5_1 p248 q248
   cases e248
   replace p248 := eq_true p248
   replace q248 := eq_true q248
   have p249 : 0 ≤ (x5_1 : Int) := of_decide_eq_true (by first | (with_reducible assumption) | assumption)
   have q249 : x5_1 < (l1.length : Int) := of_decide_eq_true (by first | (with_reducible assumption) | assumption)
   obtain ⟨ad249, e249, hx249_0, hx249_1, hx249_2⟩ := z1j HR1.out x5_1 p249 q249
   cases e249
   replace p249 := eq_true p249
   replace q249 := eq_true q249
   go_wp2
   repeat (go_quiet (fail); try go_wp2)
   go_ret
   exact ⟨by first | rfl | (simp; done) | (simp [*]; done), by repeat (first | exact Drawn0.refl _ | apply Drawn0.step)⟩
  rw [if_neg c7] at H
  have c7b0 : (!(((zr l0 x5_1).f0) == ((zr l1 x5_1).f0)) || (!(((zr l0 x5_1).f1) == ((zr l1 x5_1).f1)) || (!(((zr l0 x5_1).f2) == ((zr l1 x5_1).f2))))) = false := by simpa using c7
  clear c7
  have H' := Aside0.mk H
  clear H
  have p248 : 0 ≤ (x5_1 : Int) := of_decide_eq_true (by first | (with_reducible assumption) | assumption)
  have q248 : x5_1 < (l0.length : Int) := of_decide_eq_true (by first | (with_reducible assumption) | assumption)
  obtain ⟨ad248, e248, hx248_0, hx248_1, hx248_2⟩ := z1j HR0.out x5_1 p248 q248
  cases e248
  replace p248 := eq_true p248
  replace q248 := eq_true q248
  have p249 : 0 ≤ (x5_1 : Int) := of_decide_eq_true (by first | (with_reducible assumption) | assumption)
  have q249 : x5_1 < (l1.length : Int) := of_decide_eq_true (by first | (with_reducible assumption) | assumption)
  obtain ⟨ad249, e249, hx249_0, hx249_1, hx249_2⟩ := z1j HR1.out x5_1 p249 q249
  cases e249
  replace p249 := eq_true p249
  replace q249 := eq_true q249
  go_wp2
  repeat (go_quiet (fail); try go_wp2)
  go_roundg k1
  case measure => have := HK1.out; omega
  case rel => exact ⟨(wrap64 (x5_1 + 1)), (by first | rfl | (simp; done) | (simp [*]; done)), H', ⟨by have := HK1.out; omega⟩, by repeat (first | exact Drawn0.refl _ | apply Drawn0.step)⟩
end Go.Proofs.Ytadfohbogoocgaa.PA
