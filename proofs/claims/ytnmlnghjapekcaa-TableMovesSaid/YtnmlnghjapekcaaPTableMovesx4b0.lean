-- Written by a program of this session's (wip/gprint.py): the kit's print, with functions given by hand.
import Derived.Test.YtnmlnghjapekcaaPTableMovesx4b1
namespace Go.Proofs.Ytnmlnghjapekcaa.PTableMoves
open Go.RowKit Go.Proofs.YtnmlnghjapekcaaW.PrintWords Go.Proofs.YtnmlnghjapekcaaW.PrintLast Go.Proofs.YtnmlnghjapekcaaW.PrintMore
attribute [local go_sem] max2_int min2_int max_two min_two max_three min_three max_four min_four   -- for this text's walks alone
set_option linter.unusedVariables false
set_option linter.unusedSimpArgs false
set_option maxHeartbeats 8000000 in
set_option maxRecDepth 100000 in
theorem meterlaw17_TableMoves.calls_part0 : meterlaw17_TableMoves.calls_cut1.1 := by
 intro k a0 a1 c2 l2 r w hu24 HC2 HRT A4 t153 t154 t155 t158 A8 z0_0_ w10 w11 gb159 w12 z0_1_ z0_2_ GW159 GE159 Ao14 co14 HO157 z0_3_ u21 u22 u23 u24 u25 u26 u27 u28 u29 u30 u31 u32 u33 u34 u35 u36 u37 u38 u39 u40 u41 u42 u43 u44 u45 u46 u47 u48 u50 u51 z0_4_ z0_5_ z0_6_ z0_7_ z0_8_ z0_9_ z0_10_ z0_11_ z0_12_ z0_13_ z0_14_ z0_15_ z0_16_ z0_17_ z0_18_ z0_19_ z0_20_ z0_21_ z0_22_ z0_23_ z0_24_ z0_25_ z0_26_ z0_27_ z0_28_ z0_29_ z0_30_ z0_31_ z0_32_ z0_33_ z0_34_ z0_35_ z0_36_ z0_37_ z0_38_ z0_39_ z0_40_ z0_41_ z0_42_ z0_43_ z0_44_ z0_45_ z0_46_ z0_47_ z0_48_ z0_49_ z0_50_ z0_51_ z0_52_ z0_53_ z0_54_ z0_55_ z0_56_ z0_57_ z0_58_ z0_59_ z0_60_ z0_61_ z0_62_ z0_63_ z0_64_ z0_65_ z0_66_ z0_67_ z0_68_ z0_69_ z0_70_ z0_71_ z0_72_ z0_73_ z0_74_ z0_75_ z0_76_ z0_77_ z0_78_ z0_79_ z0_80_ z0_81_ z0_82_ z0_83_ z0_84_ z0_85_ z0_86_ z0_87_ z0_88_ z0_89_ z0_90_ z0_91_ z0_92_ z0_93_ z0_94_ z0_95_ z0_96_ z0_97_ z0_98_ z0_99_ z0_100_ z0_101_ z0_102_ z0_103_ z0_104_ z0_105_ z0_106_ z0_107_ z0_108_ z0_109_ z0_110_ z0_111_ z0_112_ z0_113_ z0_114_ z0_115_ z0_116_ z0_117_ z0_118_ z0_119_ z0_120_ z0_121_ z0_122_ z0_123_ z0_124_ z0_125_ z0_126_ z0_127_ z0_128_ z0_129_ z0_130_ z0_131_ z0_132_ z0_133_ z0_134_ z0_135_ z0_136_ z0_137_ z0_138_ z0_139_ z0_140_ z0_141_ z0_142_ z0_143_ z0_144_ z0_145_ z0_146_ z0_147_ z0_148_ z0_149_ z0_150_ z0_151_ z0_152_ z0_153_ z0_154_ z0_155_ z0_156_ z0_157_ z0_158_ z0_159_ z0_160_ z0_161_ z0_162_ z0_163_ z0_164_ z0_165_ z0_166_ z0_167_ kj8 HJ8 t161 t162 t163 A24 w26 gb166 w27 z0_168_ z0_169_ z0_170_ GW166 GE166 NB159_166 NB166_159 hnb28 hnc28 Ao30 co30 z0_171_ HO165 z0_172_ z0_173_ wr u6 u11 u12 u13 u14 z0_174_ u16 u17 u18 u19 u20 z0_175_ z0_176_ z0_177_ z0_178_ z0_179_ z0_180_ z0_181_ z0_182_ z0_183_ z0_184_ z0_185_ z0_186_ z0_187_ z0_188_ z0_189_ z0_190_ z0_191_ z0_192_ z0_193_ z0_194_ z0_195_ z0_196_ z0_197_ z0_198_ z0_199_ z0_200_ z0_201_ z0_202_ z0_203_ z0_204_ z0_205_ z0_206_ z0_207_ z0_208_ z0_209_ z0_210_ z0_211_ z0_212_ z0_213_ z0_214_ z0_215_ z0_216_ z0_217_ z0_218_ z0_219_ z0_220_ z0_221_ z0_222_ z0_223_ z0_224_ z0_225_ z0_226_ z0_227_ z0_228_ z0_229_ z0_230_ z0_231_ z0_232_ z0_233_ z0_234_ z0_235_ z0_236_ z0_237_ z0_238_ z0_239_ z0_240_ z0_241_ z0_242_ z0_243_ z0_244_ z0_245_ z0_246_ z0_247_ z0_248_ z0_249_ z0_250_ z0_251_ z0_252_ z0_253_ z0_254_ z0_255_ z0_256_ z0_257_ z0_258_ z0_259_ z0_260_ z0_261_ z0_262_ z0_263_ z0_264_ z0_265_ z0_266_ z0_267_ z0_268_ z0_269_ z0_270_ z0_271_ z0_272_ z0_273_ z0_274_ z0_275_ z0_276_ z0_277_ z0_278_ z0_279_ z0_280_ z0_281_ z0_282_ z0_283_ z0_284_ z0_285_ z0_286_ z0_287_ z0_288_ z0_289_ z0_290_ z0_291_ z0_292_ z0_293_ z0_294_ z0_295_ z0_296_ z0_297_ z0_298_ z0_299_ z0_300_ z0_301_ z0_302_ z0_303_ z0_304_ z0_305_ z0_306_ z0_307_ z0_308_ z0_309_ z0_310_ z0_311_ z0_312_ z0_313_ z0_314_ z0_315_ z0_316_ z0_317_ z0_318_ z0_319_ z0_320_ z0_321_ z0_322_ z0_323_ z0_324_ z0_325_ z0_326_ z0_327_ z0_328_ z0_329_ z0_330_ z0_331_ z0_332_ z0_333_ z0_334_ z0_335_ z0_336_ z0_337_ z0_338_ z0_339_ z0_340_ x10_2 x160000_2 x160001_2 x160002_2 k2 z0_341_ HK2 c31b0 c32b0 t168 t169 A33 t172 t173 t174 t177 A34 HC35 z0_342_ z0_343_ ad167 hw167_1 hw167_0 HR2 z0_344_ p167 q167 Ao37 co37 z0_345_ z0_346_ w36 hx167_0 hx167_1 z0_347_ w38 z0_348_ e170 hw170_1 hw170_0 p170 q170 e171 hw171_1 hw171_0 p171 q171 HT_ HW_ w39 hx170_0 hx170_1 hx171_0 hx171_1 z0_349_ gb178 w42 hS_ BK159 BK166 BK178 GW178 GE178 NB159_178 NB178_159 NB166_178 NB178_166 HB z0_350_ Ao45 co45 HO176 HO_160002 HO_167002 hs43 hfs43 hns43_0 hns43_1 hms43_0 hms43_1 hs44 hfs44 hns44_0 hns44_1 hms44_0 hms44_1 hs46 hfs46 hns46_0 hns46_1 hms46_0 hms46_1 hHeld z0_351_ z0_352_ wc u15 u52 u53 u54 u55 u56 u57 u58 u59 u60 u61 u62 u63 u64 u65 u66 u67 u68 u69 u70 u71 u72 u73 u74 u75 u76 u77 u78 u79 u80 u81 u82 u83 u84 u85 u86 u87 u88 u89 u90 u91 u92 u93 u94 u95 u96 u97 u98 u99 u100 u101 u102 u103 u104 u105 u106 u107 u108 u109 u110 u111 u112 u113 u114 u115 u116 u117 u118 u119 u120 u121 u122 u123 u124 u125 u126 u127 u128 u129 u130 u131 u132 u133 u134 u135 u136 u137 u138 u139 u140 u141 u142 u143 u144 u145 u146 u147 u148 u149 u150 u151 u152 u153 u154 u155 u156 u157 u158 u159 u160 u161 u162 u163 u164 u165 u166 u167 u168 u169 u170 u171 u172 u173 u174 u175 u176 u177 u178 u179 u180 u181 u182 u183 u184 u185 u186 u187 u188 u189 u190 u191 u192 u193 u194 u195 u196 u197 u198 u199 u200 u201 u202 u203 u204 u205 u206 u207 u208 u209 u210 u211 u212 u213 u214 u215 hcut
 clear HC35
 try clear p1
 try clear q1
 try clear hx1
 try clear p2
 try clear c4
 try clear p6
 try clear p17
 try clear q17
 try clear hx17
 try clear c47
 try clear c48
 try clear c48b0
 try clear hx179_0
 try clear hx179_1
 try clear p179
 try clear q179
 obtain ⟨kq, x15_34, rfl, HA, HJ34, HO_160002, HO_167002, HO_179002, BK159, BK166, BK178, HB⟩ := hcut
 cases kq with
 | zero => exact absurd HA.out (by simp [meterlaw17_TableMoves.j2])
 | succ kj34 =>
  have H := HA.out
  clear HA
  simp only [meterlaw17_TableMoves.j2] at H
  have HC58 := Aside0.mk H
  clear H
  go_upto_region 15 with (fail)
  go_cut [130] (fun v130 wc => ∃ (kq : Nat) (x130_57 : Bool), v130 = .bool x130_57 ∧ Aside0 (meterlaw17_TableMoves.j3 kq l2 x10_2 x15_34 x130_57 x160000_2 x160001_2 x160002_2 t161 t162 t163 t172 t173 t174 = some r) ∧ Aside0 (kq ≤ kj34) ∧ Aside0 (Kd.R (Kd.int .i64) 3 wc w.heap.size (fun k_ => some k_ ≠ ((.slice Ao30 t163.length co30) : Value).ownBlock ∧ some k_ ≠ ((.slice Ao45 t174.length co45) : Value).ownBlock) (.slice Ao37 x160002_2.length co37) x160002_2) ∧ Aside0 (Kd.R (Kd.int .i64) 3 wc w.heap.size (fun k_ => some k_ ≠ ((.slice Ao37 x160002_2.length co37) : Value).ownBlock ∧ some k_ ≠ ((.slice Ao45 t174.length co45) : Value).ownBlock) (.slice Ao30 t163.length co30) t163) ∧ Aside0 (Kd.R (Kd.int .i64) 3 wc w.heap.size (fun k_ => some k_ ≠ ((.slice Ao37 x160002_2.length co37) : Value).ownBlock ∧ some k_ ≠ ((.slice Ao30 t163.length co30) : Value).ownBlock) (.slice Ao45 t174.length co45) t174) ∧ Aside0 (wc.heap[gb159]? = some (.cells #[.int .i64 x160000_2, .int .i64 x160001_2, (.slice Ao37 x160002_2.length co37)] 24 (0, 0))) ∧ Aside0 (wc.heap[gb166]? = some (.cells #[.int .i64 t161, .int .i64 t162, (.slice Ao30 t163.length co30)] 24 (0, 0))) ∧ Aside0 (wc.heap[gb178]? = some (.cells #[.int .i64 t172, .int .i64 t173, (.slice Ao45 t174.length co45)] 24 (0, 0))) ∧ Aside0 (Below w.heap.size w wc))
  case first =>
   have H := HC58.out
   clear HC58
   by_cases c59 : ((t177 == 0) != x15_34) = true
   · rw [if_pos c59] at H
     have c59b0 : ((t177 == 0) != x15_34) = true := c59
     (try (have c59b1 : decide ((t177 == 0) = x15_34) = false := by simpa using c59))
     (try (have c59b2 : ((t177 == 0) == x15_34) = false := by simpa using c59))
     (try (have c59b3 : ¬ ((t177 == 0) = x15_34) := by simpa using c59))
     clear c59
     (first | rw [c59b0] | (simp only [i64_w, i32_w]; rw [c59b0]) | skip)
     have H' := Aside0.mk H
     clear H
     try go_wp2
     have n0_ := Aside0.mk (Kd.R_drew HO_160002.out)
     have n1_ := Aside0.mk (Kd.R_drew HO_167002.out)
     have n2_ := Aside0.mk (Kd.R_drew HO_179002.out)
     have n3_ := Aside0.mk (blk_drew BK159.out)
     have n4_ := Aside0.mk (blk_drew BK166.out)
     have n5_ := Aside0.mk (blk_drew BK178.out)
     have n6_ := Aside0.mk (below_drew1 HB.out)
     clear HO_160002
     clear HO_167002
     clear HO_179002
     clear BK159
     clear BK166
     clear BK178
     clear HB
     have HO_160002 := n0_
     have HO_167002 := n1_
     have HO_179002 := n2_
     have BK159 := n3_
     have BK166 := n4_
     have BK178 := n5_
     have HB := n6_
     clear n0_ n1_ n2_ n3_ n4_ n5_ n6_
     refine start_ (n := 20) (S := fun w' => True) (ds := []) #[false, false, false, false, false, false, false, false, false, false, false, false, false, false, false, false, false, false, false, false] (by kernel_rfl) rfl rfl trivial (fun hHeld => ?_); refine with_tabW meterlaw17_TableMoves.tab15 meterlaw17_TableMoves.bits15 (fun HT_ HW_ => ?_)
     generalize wc.drew = w60 at HO_160002 HO_167002 HO_179002 BK159 BK166 BK178 HB hHeld ⊢
     refine pure_ (i := 0) (N := some 111) (v := ?_) (a' := ?_) #[true, false, false, false, false, false, false, false, false, false, false, false, false, false, false, false, false, false, false, false] rfl rfl (any_of HT_.out (by kernel_rfl)) (fun _ _ _ h => h) (Or.inl ⟨by rfl, ?_⟩) ?_ ?_
     rotate_left
     · intro w'
       go_simp
       with_reducible rfl
     rotate_left
     · simp only [Act.put, List.setIfInBounds_toArray, List.set_cons_zero, List.set_cons_succ, i64_w, i32_w]
       rfl
     refine pure_ (i := 1) (N := some 112) (v := ?_) (a' := ?_) #[true, true, false, false, false, false, false, false, false, false, false, false, false, false, false, false, false, false, false, false] rfl rfl (any_of HT_.out (by kernel_rfl)) (fun _ _ _ h => h) (Or.inl ⟨by rfl, ?_⟩) ?_ ?_
     rotate_left
     · intro w'
       go_simp
       with_reducible rfl
     rotate_left
     · simp only [Act.put, List.setIfInBounds_toArray, List.set_cons_zero, List.set_cons_succ, i64_w, i32_w]
       rfl
     refine pure_ (i := 2) (N := some 113) (v := ?_) (a' := ?_) #[true, true, true, false, false, false, false, false, false, false, false, false, false, false, false, false, false, false, false, false] rfl rfl (any_of HT_.out (by kernel_rfl)) (fun _ _ _ h => h) (Or.inl ⟨by rfl, ?_⟩) ?_ ?_
     rotate_left
     · intro w'
       go_simp
       with_reducible rfl
     rotate_left
     · simp only [Act.put, List.setIfInBounds_toArray, List.set_cons_zero, List.set_cons_succ, i64_w, i32_w]
       rfl
     refine pure_ (i := 3) (N := some 114) (v := ?_) (a' := ?_) #[true, true, true, true, false, false, false, false, false, false, false, false, false, false, false, false, false, false, false, false] rfl rfl (any_of HT_.out (by kernel_rfl)) (fun _ _ _ h => h) (Or.inl ⟨by rfl, ?_⟩) ?_ ?_
     rotate_left
     · intro w'
       go_simp
       with_reducible rfl
     rotate_left
     · simp only [Act.put, List.setIfInBounds_toArray, List.set_cons_zero, List.set_cons_succ, i64_w, i32_w]
       rfl
     refine pure_ (i := 4) (N := some 115) (v := ?_) (a' := ?_) #[true, true, true, true, true, false, false, false, false, false, false, false, false, false, false, false, false, false, false, false] rfl rfl (any_of HT_.out (by kernel_rfl)) (fun _ _ _ h => h) (Or.inl ⟨by rfl, ?_⟩) ?_ ?_
     rotate_left
     · intro w'
       go_simp
       with_reducible rfl
     rotate_left
     · simp only [Act.put, List.setIfInBounds_toArray, List.set_cons_zero, List.set_cons_succ, i64_w, i32_w]
       rfl
     refine pure_ (i := 5) (N := some 116) (v := undef) (a' := ?_) #[true, true, true, true, true, true, false, false, false, false, false, false, false, false, false, false, false, false, false, false] rfl rfl (any_of HT_.out (by kernel_rfl)) (fun _ _ _ h => h) (Or.inr ⟨by rfl, rfl⟩) ?_ ?_
     rotate_left
     · simp only [Act.put, List.setIfInBounds_toArray, List.set_cons_zero, List.set_cons_succ, i64_w, i32_w]
       rfl
     refine pure_ (i := 6) (N := some 117) (v := undef) (a' := ?_) #[true, true, true, true, true, true, true, false, false, false, false, false, false, false, false, false, false, false, false, false] rfl rfl (any_of HT_.out (by kernel_rfl)) (fun _ _ _ h => h) (Or.inr ⟨by rfl, rfl⟩) ?_ ?_
     rotate_left
     · simp only [Act.put, List.setIfInBounds_toArray, List.set_cons_zero, List.set_cons_succ, i64_w, i32_w]
       rfl
     refine pure_ (i := 7) (N := some 118) (v := undef) (a' := ?_) #[true, true, true, true, true, true, true, true, false, false, false, false, false, false, false, false, false, false, false, false] rfl rfl (any_of HT_.out (by kernel_rfl)) (fun _ _ _ h => h) (Or.inr ⟨by rfl, rfl⟩) ?_ ?_
     rotate_left
     · simp only [Act.put, List.setIfInBounds_toArray, List.set_cons_zero, List.set_cons_succ, i64_w, i32_w]
       rfl
     refine pure_ (i := 8) (N := some 119) (v := undef) (a' := ?_) #[true, true, true, true, true, true, true, true, true, false, false, false, false, false, false, false, false, false, false, false] rfl rfl (any_of HT_.out (by kernel_rfl)) (fun _ _ _ h => h) (Or.inr ⟨by rfl, rfl⟩) ?_ ?_
     rotate_left
     · simp only [Act.put, List.setIfInBounds_toArray, List.set_cons_zero, List.set_cons_succ, i64_w, i32_w]
       rfl
     refine pure_ (i := 9) (N := some 120) (v := undef) (a' := ?_) #[true, true, true, true, true, true, true, true, true, true, false, false, false, false, false, false, false, false, false, false] rfl rfl (any_of HT_.out (by kernel_rfl)) (fun _ _ _ h => h) (Or.inr ⟨by rfl, rfl⟩) ?_ ?_
     rotate_left
     · simp only [Act.put, List.setIfInBounds_toArray, List.set_cons_zero, List.set_cons_succ, i64_w, i32_w]
       rfl
     refine pure_ (i := 10) (N := some 121) (v := undef) (a' := ?_) #[true, true, true, true, true, true, true, true, true, true, true, false, false, false, false, false, false, false, false, false] rfl rfl (any_of HT_.out (by kernel_rfl)) (fun _ _ _ h => h) (Or.inr ⟨by rfl, rfl⟩) ?_ ?_
     rotate_left
     · simp only [Act.put, List.setIfInBounds_toArray, List.set_cons_zero, List.set_cons_succ, i64_w, i32_w]
       rfl
     refine pure_ (i := 11) (N := some 122) (v := undef) (a' := ?_) #[true, true, true, true, true, true, true, true, true, true, true, true, false, false, false, false, false, false, false, false] rfl rfl (any_of HT_.out (by kernel_rfl)) (fun _ _ _ h => h) (Or.inr ⟨by rfl, rfl⟩) ?_ ?_
     rotate_left
     · simp only [Act.put, List.setIfInBounds_toArray, List.set_cons_zero, List.set_cons_succ, i64_w, i32_w]
       rfl
     refine pure_ (i := 12) (N := some 123) (v := undef) (a' := ?_) #[true, true, true, true, true, true, true, true, true, true, true, true, true, false, false, false, false, false, false, false] rfl rfl (any_of HT_.out (by kernel_rfl)) (fun _ _ _ h => h) (Or.inr ⟨by rfl, rfl⟩) ?_ ?_
     rotate_left
     · simp only [Act.put, List.setIfInBounds_toArray, List.set_cons_zero, List.set_cons_succ, i64_w, i32_w]
       rfl
     refine pure_ (i := 13) (N := some 124) (v := undef) (a' := ?_) #[true, true, true, true, true, true, true, true, true, true, true, true, true, true, false, false, false, false, false, false] rfl rfl (any_of HT_.out (by kernel_rfl)) (fun _ _ _ h => h) (Or.inr ⟨by rfl, rfl⟩) ?_ ?_
     rotate_left
     · simp only [Act.put, List.setIfInBounds_toArray, List.set_cons_zero, List.set_cons_succ, i64_w, i32_w]
       rfl
     refine pure_ (i := 14) (N := some 125) (v := undef) (a' := ?_) #[true, true, true, true, true, true, true, true, true, true, true, true, true, true, true, false, false, false, false, false] rfl rfl (any_of HT_.out (by kernel_rfl)) (fun _ _ _ h => h) (Or.inr ⟨by rfl, rfl⟩) ?_ ?_
     rotate_left
     · simp only [Act.put, List.setIfInBounds_toArray, List.set_cons_zero, List.set_cons_succ, i64_w, i32_w]
       rfl
     refine pure_ (i := 15) (N := some 126) (v := undef) (a' := ?_) #[true, true, true, true, true, true, true, true, true, true, true, true, true, true, true, true, false, false, false, false] rfl rfl (any_of HT_.out (by kernel_rfl)) (fun _ _ _ h => h) (Or.inr ⟨by rfl, rfl⟩) ?_ ?_
     rotate_left
     · simp only [Act.put, List.setIfInBounds_toArray, List.set_cons_zero, List.set_cons_succ, i64_w, i32_w]
       rfl
     refine pure_ (i := 16) (N := some 127) (v := undef) (a' := ?_) #[true, true, true, true, true, true, true, true, true, true, true, true, true, true, true, true, true, false, false, false] rfl rfl (any_of HT_.out (by kernel_rfl)) (fun _ _ _ h => h) (Or.inr ⟨by rfl, rfl⟩) ?_ ?_
     rotate_left
     · simp only [Act.put, List.setIfInBounds_toArray, List.set_cons_zero, List.set_cons_succ, i64_w, i32_w]
       rfl
     refine pure_ (i := 17) (N := some 128) (v := undef) (a' := ?_) #[true, true, true, true, true, true, true, true, true, true, true, true, true, true, true, true, true, true, false, false] rfl rfl (any_of HT_.out (by kernel_rfl)) (fun _ _ _ h => h) (Or.inr ⟨by rfl, rfl⟩) ?_ ?_
     rotate_left
     · simp only [Act.put, List.setIfInBounds_toArray, List.set_cons_zero, List.set_cons_succ, i64_w, i32_w]
       rfl
     refine pure_ (i := 18) (N := some 129) (v := undef) (a' := ?_) #[true, true, true, true, true, true, true, true, true, true, true, true, true, true, true, true, true, true, true, false] rfl rfl (any_of HT_.out (by kernel_rfl)) (fun _ _ _ h => h) (Or.inr ⟨by rfl, rfl⟩) ?_ ?_
     rotate_left
     · simp only [Act.put, List.setIfInBounds_toArray, List.set_cons_zero, List.set_cons_succ, i64_w, i32_w]
       rfl
     refine pure_ (i := 19) (N := some 130) (v := ?_) (a' := ?_) #[true, true, true, true, true, true, true, true, true, true, true, true, true, true, true, true, true, true, true, true] rfl rfl (any_of HT_.out (by kernel_rfl)) (fun _ _ _ h => h) (Or.inl ⟨by rfl, ?_⟩) ?_ ?_
     rotate_left
     · intro w'
       go_simp
       with_reducible rfl
     rotate_left
     · simp only [Act.put, List.setIfInBounds_toArray, List.set_cons_zero, List.set_cons_succ, i64_w, i32_w]
       rfl
     refine done_ (done_of HT_.out (by kernel_rfl)) ?_
     try go_wp2
     go_meet
     case rel => exact ⟨_, (true), (by first | rfl | (simp; done) | (simp [*]; done) | (congr 1; simp only [eq_iff_iff, iff_true, ByteArray.size_append] at *; unfold wrap64; omega) | (congr 2; simp only [eq_iff_iff, iff_true, ByteArray.size_append] at *; unfold wrap64; omega)), H', ⟨by have := HJ8.out; have := HK2.out; have := HJ34.out; first | omega | exact Nat.le_refl _⟩, ⟨by (with_reducible repeat (first | apply Kd.R_alloc | apply Kd.R_drewN | apply Kd.R_drew)); exact HO_160002.out⟩, ⟨by (with_reducible repeat (first | apply Kd.R_alloc | apply Kd.R_drewN | apply Kd.R_drew)); exact HO_167002.out⟩, ⟨by (with_reducible repeat (first | apply Kd.R_alloc | apply Kd.R_drewN | apply Kd.R_drew)); exact HO_179002.out⟩, ⟨by (with_reducible repeat (first | refine blk_drewN ?_ _ | refine blk_drew ?_ | refine blk_alloc ?_ _)); exact BK159.out⟩, ⟨by (with_reducible repeat (first | refine blk_drewN ?_ _ | refine blk_drew ?_ | refine blk_alloc ?_ _)); exact BK166.out⟩, ⟨by (with_reducible repeat (first | refine blk_drewN ?_ _ | refine blk_drew ?_ | refine blk_alloc ?_ _)); exact BK178.out⟩, ⟨by repeat (first | (with_reducible first | exact HB.out | apply below_alloc | apply pw_below_drewN | apply below_drew1 | refine below_set ?_ GE159.out | refine below_set ?_ GE166.out | refine below_set ?_ GE178.out) | exact HB.out)⟩⟩
   rw [if_neg c59] at H
   have c59b0 : ((t177 == 0) != x15_34) = false := by simpa using c59
   (try (have c59b1 : decide ((t177 == 0) = x15_34) = true := by simpa using c59))
   (try (have c59b2 : ((t177 == 0) == x15_34) = true := by simpa using c59))
   clear c59
   (first | rw [c59b0] | (simp only [i64_w, i32_w]; rw [c59b0]) | skip)
   by_cases c61 : 0 ≤ x10_2
   · rw [if_pos c61] at H
     have c61b0 : decide (0 ≤ x10_2) = true := decide_eq_true c61
     clear c61
     by_cases c62 : x10_2 < (l2.length : Int)
     · rw [if_pos c62] at H
       have c62b0 : decide (x10_2 < (l2.length : Int)) = true := decide_eq_true c62
       clear c62
       replace H := Option.bind_eq_some_iff.mp H
       obtain ⟨t184, A630, H⟩ := H
       replace H : (meterlaw17_TableMoves.j3 kj34 l2 x10_2 x15_34 (t184 != t177) x160000_2 x160001_2 x160002_2 t161 t162 t163 t172 t173 t174) = some r := H
       have A63 := Aside0.mk A630
       clear A630
       have H' := Aside0.mk H
       clear H
       try go_wp2
       have n0_ := Aside0.mk (Kd.R_drew HO_160002.out)
       have n1_ := Aside0.mk (Kd.R_drew HO_167002.out)
       have n2_ := Aside0.mk (Kd.R_drew HO_179002.out)
       have n3_ := Aside0.mk (blk_drew BK159.out)
       have n4_ := Aside0.mk (blk_drew BK166.out)
       have n5_ := Aside0.mk (blk_drew BK178.out)
       have n6_ := Aside0.mk (below_drew1 HB.out)
       clear HO_160002
       clear HO_167002
       clear HO_179002
       clear BK159
       clear BK166
       clear BK178
       clear HB
       have HO_160002 := n0_
       have HO_167002 := n1_
       have HO_179002 := n2_
       have BK159 := n3_
       have BK166 := n4_
       have BK178 := n5_
       have HB := n6_
       clear n0_ n1_ n2_ n3_ n4_ n5_ n6_
       have p182 : 0 ≤ (x10_2 : Int) := of_decide_eq_true (by first | (with_reducible assumption) | assumption)
       have q182 : x10_2 < (l2.length : Int) := of_decide_eq_true (by first | (with_reducible assumption) | assumption)
       obtain ⟨ad182, e182, hx182_0, hx182_1⟩ := at_T43 HR2.out x10_2 p182 q182
       have hw182_1 := hx182_1
       have hw182_0 := hx182_0
       obtain rfl : ad167 = ad182 := (by injection e182)
       replace hx182_0 := (HB.out.cell (World.block_lt_of_cell? w _ hx182_0)).trans hx182_0
       replace hx182_1 := (HB.out.cell (World.block_lt_of_cell? w _ hx182_1)).trans hx182_1
       replace p182 := eq_true p182
       replace q182 := eq_true q182
       have p183 : 0 ≤ (x10_2 : Int) := of_decide_eq_true (by first | (with_reducible assumption) | assumption)
       have q183 : x10_2 < (l2.length : Int) := of_decide_eq_true (by first | (with_reducible assumption) | assumption)
       obtain ⟨ad183, e183, hx183_0, hx183_1⟩ := at_T43 HR2.out x10_2 p183 q183
       have hw183_1 := hx183_1
       have hw183_0 := hx183_0
       obtain rfl : ad167 = ad183 := (by injection e183)
       replace hx183_0 := (HB.out.cell (World.block_lt_of_cell? w _ hx183_0)).trans hx183_0
       replace hx183_1 := (HB.out.cell (World.block_lt_of_cell? w _ hx183_1)).trans hx183_1
       replace p183 := eq_true p183
       replace q183 := eq_true q183
       refine start_ (n := 20) (S := fun w' => w'.cell? ⟨gb159, 0, none⟩ = some (.int .i64 x160000_2) ∧ w'.cell? ⟨gb159, 1, none⟩ = some (.int .i64 x160001_2) ∧ w'.cell? ⟨gb159, 2, none⟩ = some (.slice Ao37 x160002_2.length co37) ∧ w'.cell? (ad167.add ((x10_2).toNat * 2)) = some (.int .i64 ((rd_T43 l2 x10_2).f0)) ∧ w'.cell? ⟨(ad167.add ((x10_2).toNat * 2)).block, (ad167.add ((x10_2).toNat * 2)).off + 1, none⟩ = some (.int .i64 ((rd_T43 l2 x10_2).f1)) ∧ w'.cell? (ad167.add ((x10_2).toNat * 2)) = some (.int .i64 ((rd_T43 l2 x10_2).f0)) ∧ w'.cell? ⟨(ad167.add ((x10_2).toNat * 2)).block, (ad167.add ((x10_2).toNat * 2)).off + 1, none⟩ = some (.int .i64 ((rd_T43 l2 x10_2).f1))) (ds := []) #[false, false, false, false, false, false, false, false, false, false, false, false, false, false, false, false, false, false, false, false] (by kernel_rfl) rfl rfl ⟨(blk_cell BK159.out 0).trans rfl, (blk_cell BK159.out 1).trans rfl, (blk_cell BK159.out 2).trans rfl, ((HB.out.cell (World.block_lt_of_cell? w _ hw182_0)).trans hw182_0), ((HB.out.cell (World.block_lt_of_cell? w _ hw182_1)).trans hw182_1), ((HB.out.cell (World.block_lt_of_cell? w _ hw183_0)).trans hw183_0), ((HB.out.cell (World.block_lt_of_cell? w _ hw183_1)).trans hw183_1)⟩ (fun hHeld => ?_); refine with_tabW meterlaw17_TableMoves.tab15 meterlaw17_TableMoves.bits15 (fun HT_ HW_ => ?_)
       generalize wc.drew = w64 at HO_160002 HO_167002 HO_179002 BK159 BK166 BK178 HB hx182_0 hx182_1 hx183_0 hx183_1 hHeld ⊢
       refine pure_ (i := 0) (N := some 111) (v := ?_) (a' := ?_) #[true, false, false, false, false, false, false, false, false, false, false, false, false, false, false, false, false, false, false, false] rfl rfl (any_of HT_.out (by kernel_rfl)) (fun _ _ _ h => h) (Or.inl ⟨by rfl, ?_⟩) ?_ ?_
       rotate_left
       · intro w'
         go_simp
         with_reducible rfl
       rotate_left
       · simp only [Act.put, List.setIfInBounds_toArray, List.set_cons_zero, List.set_cons_succ, i64_w, i32_w]
         rfl
       refine pure_ (i := 1) (N := some 112) (v := ?_) (a' := ?_) #[true, true, false, false, false, false, false, false, false, false, false, false, false, false, false, false, false, false, false, false] rfl rfl (any_of HT_.out (by kernel_rfl)) (fun _ _ _ h => h) (Or.inl ⟨by rfl, ?_⟩) ?_ ?_
       rotate_left
       · intro w'
         go_simp
         with_reducible rfl
       rotate_left
       · simp only [Act.put, List.setIfInBounds_toArray, List.set_cons_zero, List.set_cons_succ, i64_w, i32_w]
         rfl
       refine pure_ (i := 2) (N := some 113) (v := ?_) (a' := ?_) #[true, true, true, false, false, false, false, false, false, false, false, false, false, false, false, false, false, false, false, false] rfl rfl (any_of HT_.out (by kernel_rfl)) (fun _ _ _ h => h) (Or.inl ⟨by rfl, ?_⟩) ?_ ?_
       rotate_left
       · intro w'
         go_simp
         with_reducible rfl
       rotate_left
       · simp only [Act.put, List.setIfInBounds_toArray, List.set_cons_zero, List.set_cons_succ, i64_w, i32_w]
         rfl
       refine pure_ (i := 3) (N := some 114) (v := ?_) (a' := ?_) #[true, true, true, true, false, false, false, false, false, false, false, false, false, false, false, false, false, false, false, false] rfl rfl (any_of HT_.out (by kernel_rfl)) (fun _ _ _ h => h) (Or.inl ⟨by rfl, ?_⟩) ?_ ?_
       rotate_left
       · intro w'
         go_simp
         with_reducible rfl
       rotate_left
       · simp only [Act.put, List.setIfInBounds_toArray, List.set_cons_zero, List.set_cons_succ, i64_w, i32_w]
         rfl
       refine pure_ (i := 4) (N := some 115) (v := ?_) (a' := ?_) #[true, true, true, true, true, false, false, false, false, false, false, false, false, false, false, false, false, false, false, false] rfl rfl (any_of HT_.out (by kernel_rfl)) (fun _ _ _ h => h) (Or.inl ⟨by rfl, ?_⟩) ?_ ?_
       rotate_left
       · intro w'
         go_simp
         with_reducible rfl
       rotate_left
       · simp only [Act.put, List.setIfInBounds_toArray, List.set_cons_zero, List.set_cons_succ, i64_w, i32_w]
         rfl
       refine pure_ (i := 6) (N := some 117) (v := ?_) (a' := ?_) #[true, true, true, true, true, false, true, false, false, false, false, false, false, false, false, false, false, false, false, false] rfl rfl (any_of HT_.out (by kernel_rfl)) (fun _ _ _ h => h) (Or.inl ⟨by rfl, ?_⟩) ?_ ?_
       rotate_left
       · intro w'
         go_simp
         with_reducible rfl
       rotate_left
       · simp only [Act.put, List.setIfInBounds_toArray, List.set_cons_zero, List.set_cons_succ, i64_w, i32_w]
         rfl
       refine pure_ (i := 7) (N := some 118) (v := ?_) (a' := ?_) #[true, true, true, true, true, false, true, true, false, false, false, false, false, false, false, false, false, false, false, false] rfl rfl (any_of HT_.out (by kernel_rfl)) (fun _ _ _ h => h) (Or.inl ⟨by rfl, ?_⟩) ?_ ?_
       rotate_left
       · intro w'
         go_simp
         with_reducible rfl
       rotate_left
       · simp only [Act.put, List.setIfInBounds_toArray, List.set_cons_zero, List.set_cons_succ, i64_w, i32_w]
         rfl
       refine pure_ (i := 8) (N := some 119) (v := ?_) (a' := ?_) #[true, true, true, true, true, false, true, true, true, false, false, false, false, false, false, false, false, false, false, false] rfl rfl (any_of HT_.out (by kernel_rfl)) (fun _ _ _ h => h) (Or.inl ⟨by rfl, ?_⟩) ?_ ?_
       rotate_left
       · intro w'
         go_simp
         with_reducible rfl
       rotate_left
       · simp only [Act.put, List.setIfInBounds_toArray, List.set_cons_zero, List.set_cons_succ, i64_w, i32_w]
         rfl
       refine pure_ (i := 9) (N := some 120) (v := ?_) (a' := ?_) #[true, true, true, true, true, false, true, true, true, true, false, false, false, false, false, false, false, false, false, false] rfl rfl (any_of HT_.out (by kernel_rfl)) (fun _ _ _ h => h) (Or.inl ⟨by rfl, ?_⟩) ?_ ?_
       rotate_left
       · intro w'
         go_simp
         with_reducible rfl
       rotate_left
       · simp only [Act.put, List.setIfInBounds_toArray, List.set_cons_zero, List.set_cons_succ, i64_w, i32_w]
         rfl
       refine pure_ (i := 11) (N := some 122) (v := ?_) (a' := ?_) #[true, true, true, true, true, false, true, true, true, true, false, true, false, false, false, false, false, false, false, false] rfl rfl (any_of HT_.out (by kernel_rfl)) (fun _ _ _ h => h) (Or.inl ⟨by rfl, ?_⟩) ?_ ?_
       rotate_left
       · intro w'
         go_simp
         with_reducible rfl
       rotate_left
       · simp only [Act.put, List.setIfInBounds_toArray, List.set_cons_zero, List.set_cons_succ, i64_w, i32_w]
         rfl
       refine pure_ (i := 12) (N := some 123) (v := ?_) (a' := ?_) #[true, true, true, true, true, false, true, true, true, true, false, true, true, false, false, false, false, false, false, false] rfl rfl (any_of HT_.out (by kernel_rfl)) (fun _ _ _ h => h) (Or.inl ⟨by rfl, ?_⟩) ?_ ?_
       rotate_left
       · intro w'
         go_simp
         with_reducible rfl
       rotate_left
       · simp only [Act.put, List.setIfInBounds_toArray, List.set_cons_zero, List.set_cons_succ, i64_w, i32_w]
         rfl
       refine pure_ (i := 13) (N := some 124) (v := ?_) (a' := ?_) #[true, true, true, true, true, false, true, true, true, true, false, true, true, true, false, false, false, false, false, false] rfl rfl (any_of HT_.out (by kernel_rfl)) (fun _ _ _ h => h) (Or.inl ⟨by rfl, ?_⟩) ?_ ?_
       rotate_left
       · intro w'
         go_simp
         with_reducible rfl
       rotate_left
       · simp only [Act.put, List.setIfInBounds_toArray, List.set_cons_zero, List.set_cons_succ, i64_w, i32_w]
         rfl
       refine pure_ (i := 14) (N := some 125) (v := ?_) (a' := ?_) #[true, true, true, true, true, false, true, true, true, true, false, true, true, true, true, false, false, false, false, false] rfl rfl (any_of HT_.out (by kernel_rfl)) (fun _ _ _ h => h) (Or.inl ⟨by rfl, ?_⟩) ?_ ?_
       rotate_left
       · intro w'
         go_simp
         with_reducible rfl
       rotate_left
       · simp only [Act.put, List.setIfInBounds_toArray, List.set_cons_zero, List.set_cons_succ, i64_w, i32_w]
         rfl
       refine pure_ (i := 17) (N := some 128) (v := ?_) (a' := ?_) #[true, true, true, true, true, false, true, true, true, true, false, true, true, true, true, false, false, true, false, false] rfl rfl (any_of HT_.out (by kernel_rfl)) (fun _ _ _ h => h) (Or.inl ⟨by rfl, ?_⟩) ?_ ?_
       rotate_left
       · intro w'
         go_simp
         with_reducible rfl
       rotate_left
       · simp only [Act.put, List.setIfInBounds_toArray, List.set_cons_zero, List.set_cons_succ, i64_w, i32_w]
         rfl
       refine take_ (i := 5) (N := some 116) (v := ?_) (a' := ?_) #[true, true, true, true, true, true, true, true, true, true, false, true, true, true, true, false, false, true, false, false] rfl rfl (take_ofW HT_.out HW_.out (by kernel_rfl)) (fun _ _ _ h => h) (Or.inl ⟨by rfl, ?_⟩) hHeld ?_ ?_
       rotate_left
       · rintro w' ⟨s0, s1, s2, s3, s4, s5, s6⟩
         go_simp
         with_reducible rfl
       rotate_left
       · simp only [Act.put, List.setIfInBounds_toArray, List.set_cons_zero, List.set_cons_succ, i64_w, i32_w]
         rfl
       refine take_ (i := 10) (N := some 121) (v := ?_) (a' := ?_) #[true, true, true, true, true, true, true, true, true, true, true, true, true, true, true, false, false, true, false, false] rfl rfl (take_ofW HT_.out HW_.out (by kernel_rfl)) (fun _ _ _ h => h) (Or.inl ⟨by rfl, ?_⟩) hHeld ?_ ?_
       rotate_left
       · rintro w' ⟨s0, s1, s2, s3, s4, s5, s6⟩
         go_simp
         with_reducible rfl
       rotate_left
       · simp only [Act.put, List.setIfInBounds_toArray, List.set_cons_zero, List.set_cons_succ, i64_w, i32_w]
         rfl
       refine take_ (i := 15) (N := some 126) (v := ?_) (a' := ?_) #[true, true, true, true, true, true, true, true, true, true, true, true, true, true, true, true, false, true, false, false] rfl rfl (take_ofW HT_.out HW_.out (by kernel_rfl)) (fun _ _ _ h => h) (Or.inl ⟨by rfl, ?_⟩) hHeld ?_ ?_
       rotate_left
       · rintro w' ⟨s0, s1, s2, s3, s4, s5, s6⟩
         go_simp
         with_reducible rfl
       rotate_left
       · simp only [Act.put, List.setIfInBounds_toArray, List.set_cons_zero, List.set_cons_succ, i64_w, i32_w]
         rfl
       refine one_ (i := 16) (N := some 127) #[true, true, true, true, true, true, true, true, true, true, true, true, true, true, true, true, true, true, false, false] rfl rfl (one_of HT_.out (by kernel_rfl)) (by decide) (fun K hK => ?_)
       refine goes_ Try.func16 (by kernel_rfl) rfl #[.agg #[.int .i64 x160000_2, .int .i64 x160001_2, .slice Ao37 x160002_2.length co37], .int .i64 ((rd_T43 l2 x10_2).f0), .int .i64 ((rd_T43 l2 x10_2).f1)] (by rfl) rfl rfl (by (try simp only [List.map_toArray, List.map_cons, List.map_nil]); first | done | rfl | (simp only [List.length_drop, List.length_take]; rfl)) ?_
       with_reducible refine (table_May.calls kj34 x160000_2 x160001_2 _ _ x160002_2 ((rd_T43 l2 x10_2).f0) ((rd_T43 l2 x10_2).f1) t184 _ ?side1 ?side2 A63.out).mono ?_
       (case side1 => repeat (first | exact (Kd.R_reads' HO_160002.out).2.2 | (with_reducible refine Kd.C_alloc ?_ _) | (with_reducible refine Kd.C_drewN ?_ _) | (with_reducible refine Kd.C_drew ?_)))
       (case side2 => exact (Kd.R_reads' HO_160002.out).2.1)
       rintro e w65 ⟨rfl, hb⟩
       refine ⟨_, rfl, ?_⟩
       have n0_ := Aside0.mk (Kd.R_below (by (with_reducible repeat (first | apply Kd.R_alloc | apply Kd.R_drewN | apply Kd.R_drew)); exact HO_160002.out) hb)
       have n1_ := Aside0.mk (Kd.R_below (by (with_reducible repeat (first | apply Kd.R_alloc | apply Kd.R_drewN | apply Kd.R_drew)); exact HO_167002.out) hb)
       have n2_ := Aside0.mk (Kd.R_below (by (with_reducible repeat (first | apply Kd.R_alloc | apply Kd.R_drewN | apply Kd.R_drew)); exact HO_179002.out) hb)
       have n3_ := Aside0.mk (blk_below (g := gb159) (o := .cells #[.int .i64 x160000_2, .int .i64 x160001_2, .slice Ao37 x160002_2.length co37] 24 (0, 0)) (by (with_reducible repeat (first | refine blk_drewN ?_ _ | refine blk_drew ?_ | refine blk_alloc ?_ _)); exact BK159.out) hb)
       have n4_ := Aside0.mk (blk_below (g := gb166) (o := .cells #[.int .i64 t161, .int .i64 t162, .slice Ao30 t163.length co30] 24 (0, 0)) (by (with_reducible repeat (first | refine blk_drewN ?_ _ | refine blk_drew ?_ | refine blk_alloc ?_ _)); exact BK166.out) hb)
       have n5_ := Aside0.mk (blk_below (g := gb178) (o := .cells #[.int .i64 t172, .int .i64 t173, .slice Ao45 t174.length co45] 24 (0, 0)) (by (with_reducible repeat (first | refine blk_drewN ?_ _ | refine blk_drew ?_ | refine blk_alloc ?_ _)); exact BK178.out) hb)
       have n6_ := Aside0.mk (below_step (by repeat (first | (with_reducible first | exact HB.out | apply below_alloc | apply pw_below_drewN | apply below_drew1 | refine below_set ?_ GE159.out | refine below_set ?_ GE166.out | refine below_set ?_ GE178.out) | exact HB.out)) hb)
       clear HO_160002
       clear HO_167002
       clear HO_179002
       clear BK159
       clear BK166
       clear BK178
       clear HB
       have HO_160002 := n0_
       have HO_167002 := n1_
       have HO_179002 := n2_
       have BK159 := n3_
       have BK166 := n4_
       have BK178 := n5_
       have HB := n6_
       clear n0_ n1_ n2_ n3_ n4_ n5_ n6_
       (try clear hb)
       (try clear hb2)
       (try clear hk)
       (try clear hi)
       refine hK.out _ _ ⟨(blk_cell BK159.out 0).trans rfl, (blk_cell BK159.out 1).trans rfl, (blk_cell BK159.out 2).trans rfl, ((HB.out.cell (World.block_lt_of_cell? w _ hw182_0)).trans hw182_0), ((HB.out.cell (World.block_lt_of_cell? w _ hw182_1)).trans hw182_1), ((HB.out.cell (World.block_lt_of_cell? w _ hw183_0)).trans hw183_0), ((HB.out.cell (World.block_lt_of_cell? w _ hw183_1)).trans hw183_1)⟩ (fun hHeld => ?_)
       clear hK K
       refine norm_ (a' := ?_) ?_ ?_
       rotate_left
       · show Act.put _ (some 127) _ = _
         simp only [Act.put, List.setIfInBounds_toArray, List.set_cons_zero, List.set_cons_succ, i64_w, i32_w]
         rfl
       refine pure_ (i := 18) (N := some 129) (v := ?_) (a' := ?_) #[true, true, true, true, true, true, true, true, true, true, true, true, true, true, true, true, true, true, true, false] rfl rfl (any_of HT_.out (by kernel_rfl)) (fun _ _ _ h => h) (Or.inl ⟨by rfl, ?_⟩) ?_ ?_
       rotate_left
       · intro w'
         go_simp
         with_reducible rfl
       rotate_left
       · simp only [Act.put, List.setIfInBounds_toArray, List.set_cons_zero, List.set_cons_succ, i64_w, i32_w]
         rfl
       refine pure_ (i := 19) (N := some 130) (v := ?_) (a' := ?_) #[true, true, true, true, true, true, true, true, true, true, true, true, true, true, true, true, true, true, true, true] rfl rfl (any_of HT_.out (by kernel_rfl)) (fun _ _ _ h => h) (Or.inl ⟨by rfl, ?_⟩) ?_ ?_
       rotate_left
       · intro w'
         go_simp
         with_reducible rfl
       rotate_left
       · simp only [Act.put, List.setIfInBounds_toArray, List.set_cons_zero, List.set_cons_succ, i64_w, i32_w]
         rfl
       refine done_ (done_of HT_.out (by kernel_rfl)) ?_
       try go_wp2
       go_meet
       case rel => exact ⟨_, ((t184 != t177)), (by first | rfl | (simp; done) | (simp [*]; done) | (congr 1; simp only [eq_iff_iff, iff_true, ByteArray.size_append] at *; unfold wrap64; omega) | (congr 2; simp only [eq_iff_iff, iff_true, ByteArray.size_append] at *; unfold wrap64; omega)), H', ⟨by have := HJ8.out; have := HK2.out; have := HJ34.out; first | omega | exact Nat.le_refl _⟩, ⟨by (with_reducible repeat (first | apply Kd.R_alloc | apply Kd.R_drewN | apply Kd.R_drew)); exact HO_160002.out⟩, ⟨by (with_reducible repeat (first | apply Kd.R_alloc | apply Kd.R_drewN | apply Kd.R_drew)); exact HO_167002.out⟩, ⟨by (with_reducible repeat (first | apply Kd.R_alloc | apply Kd.R_drewN | apply Kd.R_drew)); exact HO_179002.out⟩, ⟨by (with_reducible repeat (first | refine blk_drewN ?_ _ | refine blk_drew ?_ | refine blk_alloc ?_ _)); exact BK159.out⟩, ⟨by (with_reducible repeat (first | refine blk_drewN ?_ _ | refine blk_drew ?_ | refine blk_alloc ?_ _)); exact BK166.out⟩, ⟨by (with_reducible repeat (first | refine blk_drewN ?_ _ | refine blk_drew ?_ | refine blk_alloc ?_ _)); exact BK178.out⟩, ⟨by repeat (first | (with_reducible first | exact HB.out | apply below_alloc | apply pw_below_drewN | apply below_drew1 | refine below_set ?_ GE159.out | refine below_set ?_ GE166.out | refine below_set ?_ GE178.out) | exact HB.out)⟩⟩
     rw [if_neg c62] at H
     exact absurd H (by simp)
   rw [if_neg c61] at H
   exact absurd H (by simp)
  case rest =>
   clear HC58
   try clear c1
   try clear p1
   try clear q1
   try clear hx1
   try clear p2
   try clear c4
   try clear c5
   try clear c6
   try clear p6
   try clear c16
   try clear p17
   try clear q17
   try clear hx17
   try clear p18
   try clear q18
   try clear hx18
   try clear c47
   try clear c48
   try clear c48b0
   try clear c59
   try clear c59b0
   try clear c59b1
   try clear c59b2
   try clear c61
   try clear c61b0
   try clear c62
   try clear c62b0
   try clear p64
   try clear hx179_0
   try clear hx179_1
   try clear hx182_0
   try clear hx182_1
   try clear hx183_0
   try clear hx183_1
   try clear p1
   try clear p17
   try clear p179
   try clear p182
   try clear p183
   try clear p2
   try clear p6
   try clear q1
   try clear q17
   try clear q179
   try clear q182
   try clear q183
   obtain ⟨kq, x130_57, rfl, HA, HJ57, HO_160002, HO_167002, HO_179002, BK159, BK166, BK178, HB⟩ := hcut
   cases kq with
   | zero => exact absurd HA.out (by simp [meterlaw17_TableMoves.j3])
   | succ kj57 =>
    have H := HA.out
    clear HA
    simp only [meterlaw17_TableMoves.j3] at H
    by_cases c66 : x130_57 = true
    · subst c66
      have H1 : (some false) = some r := by rw [if_pos rfl] at H; exact H
      clear H
      have H := H1
      clear H1
      exact absurd (H.trans (congrArg some HRT.out)) (by simp)
    replace c66 := Bool.eq_false_iff.mpr c66
    subst c66
    have H1 : (if x15_34 = true then ((table_Right.f t172 t173 t174).bind fun t185 => (if t185 = true then ((table_Newer.f t172 t173 t174 x160000_2 x160001_2 x160002_2).bind fun t186 => (if t186 = true then ((table_Newer.f x160000_2 x160001_2 x160002_2 t172 t173 t174).bind fun t187 => (if t187 = true then (meterlaw17_TableMoves.j4 kj57 l2 x10_2 true x160000_2 x160001_2 x160002_2 t161 t162 t163 t172 t173 t174) else ((table_Newer.f t172 t173 t174 t161 t162 t163).bind fun t188 => (if t188 = true then ((table_Same.f kj57 t172 t173 t174 x160000_2 x160001_2 x160002_2).bind fun t189 => (if t189 = true then (meterlaw17_TableMoves.j4 kj57 l2 x10_2 true x160000_2 x160001_2 x160002_2 t161 t162 t163 t172 t173 t174) else (meterlaw17_TableMoves.j4 kj57 l2 x10_2 (t172 != (wrap64 (x160000_2 + 1))) x160000_2 x160001_2 x160002_2 t161 t162 t163 t172 t173 t174))) else (meterlaw17_TableMoves.j4 kj57 l2 x10_2 true x160000_2 x160001_2 x160002_2 t161 t162 t163 t172 t173 t174))))) else (meterlaw17_TableMoves.j4 kj57 l2 x10_2 true x160000_2 x160001_2 x160002_2 t161 t162 t163 t172 t173 t174))) else (meterlaw17_TableMoves.j4 kj57 l2 x10_2 true x160000_2 x160001_2 x160002_2 t161 t162 t163 t172 t173 t174))) else (meterlaw17_TableMoves.l0 kj57 l2 (wrap64 (x10_2 + 1)) x160000_2 x160001_2 x160002_2 t161 t162 t163)) = some r := by rw [if_neg (show ¬ (false = true) by decide)] at H; exact H
    clear H
    have H := H1
    clear H1
    by_cases c67 : x15_34 = true
    · subst c67
      have H1 : ((table_Right.f t172 t173 t174).bind fun t185 => (if t185 = true then ((table_Newer.f t172 t173 t174 x160000_2 x160001_2 x160002_2).bind fun t186 => (if t186 = true then ((table_Newer.f x160000_2 x160001_2 x160002_2 t172 t173 t174).bind fun t187 => (if t187 = true then (meterlaw17_TableMoves.j4 kj57 l2 x10_2 true x160000_2 x160001_2 x160002_2 t161 t162 t163 t172 t173 t174) else ((table_Newer.f t172 t173 t174 t161 t162 t163).bind fun t188 => (if t188 = true then ((table_Same.f kj57 t172 t173 t174 x160000_2 x160001_2 x160002_2).bind fun t189 => (if t189 = true then (meterlaw17_TableMoves.j4 kj57 l2 x10_2 true x160000_2 x160001_2 x160002_2 t161 t162 t163 t172 t173 t174) else (meterlaw17_TableMoves.j4 kj57 l2 x10_2 (t172 != (wrap64 (x160000_2 + 1))) x160000_2 x160001_2 x160002_2 t161 t162 t163 t172 t173 t174))) else (meterlaw17_TableMoves.j4 kj57 l2 x10_2 true x160000_2 x160001_2 x160002_2 t161 t162 t163 t172 t173 t174))))) else (meterlaw17_TableMoves.j4 kj57 l2 x10_2 true x160000_2 x160001_2 x160002_2 t161 t162 t163 t172 t173 t174))) else (meterlaw17_TableMoves.j4 kj57 l2 x10_2 true x160000_2 x160001_2 x160002_2 t161 t162 t163 t172 t173 t174))) = some r := by rw [if_pos rfl] at H; exact H
      clear H
      have H := H1
      clear H1
      have HC68 := Aside0.mk H
      clear H
      go_upto_region 18 with (fail)
      go_cut [165] (fun v165 wc => ∃ (kq : Nat) (x165_67 : Bool), v165 = .bool x165_67 ∧ Aside0 (meterlaw17_TableMoves.j4 kq l2 x10_2 x165_67 x160000_2 x160001_2 x160002_2 t161 t162 t163 t172 t173 t174 = some r) ∧ Aside0 (kq ≤ kj57) ∧ Aside0 (Kd.R (Kd.int .i64) 3 wc w.heap.size (fun k_ => some k_ ≠ ((.slice Ao30 t163.length co30) : Value).ownBlock ∧ some k_ ≠ ((.slice Ao45 t174.length co45) : Value).ownBlock) (.slice Ao37 x160002_2.length co37) x160002_2) ∧ Aside0 (Kd.R (Kd.int .i64) 3 wc w.heap.size (fun k_ => some k_ ≠ ((.slice Ao37 x160002_2.length co37) : Value).ownBlock ∧ some k_ ≠ ((.slice Ao45 t174.length co45) : Value).ownBlock) (.slice Ao30 t163.length co30) t163) ∧ Aside0 (Kd.R (Kd.int .i64) 3 wc w.heap.size (fun k_ => some k_ ≠ ((.slice Ao37 x160002_2.length co37) : Value).ownBlock ∧ some k_ ≠ ((.slice Ao30 t163.length co30) : Value).ownBlock) (.slice Ao45 t174.length co45) t174) ∧ Aside0 (wc.heap[gb159]? = some (.cells #[.int .i64 x160000_2, .int .i64 x160001_2, (.slice Ao37 x160002_2.length co37)] 24 (0, 0))) ∧ Aside0 (wc.heap[gb166]? = some (.cells #[.int .i64 t161, .int .i64 t162, (.slice Ao30 t163.length co30)] 24 (0, 0))) ∧ Aside0 (wc.heap[gb178]? = some (.cells #[.int .i64 t172, .int .i64 t173, (.slice Ao45 t174.length co45)] 24 (0, 0))) ∧ Aside0 (Below w.heap.size w wc))
      case first =>
       have H := HC68.out
       clear HC68
       replace H := Option.bind_eq_some_iff.mp H
       obtain ⟨t185, A690, H⟩ := H
       replace H : (if t185 = true then ((table_Newer.f t172 t173 t174 x160000_2 x160001_2 x160002_2).bind fun t186 => (if t186 = true then ((table_Newer.f x160000_2 x160001_2 x160002_2 t172 t173 t174).bind fun t187 => (if t187 = true then (meterlaw17_TableMoves.j4 kj57 l2 x10_2 true x160000_2 x160001_2 x160002_2 t161 t162 t163 t172 t173 t174) else ((table_Newer.f t172 t173 t174 t161 t162 t163).bind fun t188 => (if t188 = true then ((table_Same.f kj57 t172 t173 t174 x160000_2 x160001_2 x160002_2).bind fun t189 => (if t189 = true then (meterlaw17_TableMoves.j4 kj57 l2 x10_2 true x160000_2 x160001_2 x160002_2 t161 t162 t163 t172 t173 t174) else (meterlaw17_TableMoves.j4 kj57 l2 x10_2 (t172 != (wrap64 (x160000_2 + 1))) x160000_2 x160001_2 x160002_2 t161 t162 t163 t172 t173 t174))) else (meterlaw17_TableMoves.j4 kj57 l2 x10_2 true x160000_2 x160001_2 x160002_2 t161 t162 t163 t172 t173 t174))))) else (meterlaw17_TableMoves.j4 kj57 l2 x10_2 true x160000_2 x160001_2 x160002_2 t161 t162 t163 t172 t173 t174))) else (meterlaw17_TableMoves.j4 kj57 l2 x10_2 true x160000_2 x160001_2 x160002_2 t161 t162 t163 t172 t173 t174)) = some r := H
       have A69 := Aside0.mk A690
       clear A690
       by_cases c70 : t185 = true
       · subst c70
         have H1 : ((table_Newer.f t172 t173 t174 x160000_2 x160001_2 x160002_2).bind fun t186 => (if t186 = true then ((table_Newer.f x160000_2 x160001_2 x160002_2 t172 t173 t174).bind fun t187 => (if t187 = true then (meterlaw17_TableMoves.j4 kj57 l2 x10_2 true x160000_2 x160001_2 x160002_2 t161 t162 t163 t172 t173 t174) else ((table_Newer.f t172 t173 t174 t161 t162 t163).bind fun t188 => (if t188 = true then ((table_Same.f kj57 t172 t173 t174 x160000_2 x160001_2 x160002_2).bind fun t189 => (if t189 = true then (meterlaw17_TableMoves.j4 kj57 l2 x10_2 true x160000_2 x160001_2 x160002_2 t161 t162 t163 t172 t173 t174) else (meterlaw17_TableMoves.j4 kj57 l2 x10_2 (t172 != (wrap64 (x160000_2 + 1))) x160000_2 x160001_2 x160002_2 t161 t162 t163 t172 t173 t174))) else (meterlaw17_TableMoves.j4 kj57 l2 x10_2 true x160000_2 x160001_2 x160002_2 t161 t162 t163 t172 t173 t174))))) else (meterlaw17_TableMoves.j4 kj57 l2 x10_2 true x160000_2 x160001_2 x160002_2 t161 t162 t163 t172 t173 t174))) = some r := by rw [if_pos rfl] at H; exact H
         clear H
         have H := H1
         clear H1
         replace H := Option.bind_eq_some_iff.mp H
         obtain ⟨t186, A710, H⟩ := H
         replace H : (if t186 = true then ((table_Newer.f x160000_2 x160001_2 x160002_2 t172 t173 t174).bind fun t187 => (if t187 = true then (meterlaw17_TableMoves.j4 kj57 l2 x10_2 true x160000_2 x160001_2 x160002_2 t161 t162 t163 t172 t173 t174) else ((table_Newer.f t172 t173 t174 t161 t162 t163).bind fun t188 => (if t188 = true then ((table_Same.f kj57 t172 t173 t174 x160000_2 x160001_2 x160002_2).bind fun t189 => (if t189 = true then (meterlaw17_TableMoves.j4 kj57 l2 x10_2 true x160000_2 x160001_2 x160002_2 t161 t162 t163 t172 t173 t174) else (meterlaw17_TableMoves.j4 kj57 l2 x10_2 (t172 != (wrap64 (x160000_2 + 1))) x160000_2 x160001_2 x160002_2 t161 t162 t163 t172 t173 t174))) else (meterlaw17_TableMoves.j4 kj57 l2 x10_2 true x160000_2 x160001_2 x160002_2 t161 t162 t163 t172 t173 t174))))) else (meterlaw17_TableMoves.j4 kj57 l2 x10_2 true x160000_2 x160001_2 x160002_2 t161 t162 t163 t172 t173 t174)) = some r := H
         have A71 := Aside0.mk A710
         clear A710
         by_cases c72 : t186 = true
         · subst c72
           have H1 : ((table_Newer.f x160000_2 x160001_2 x160002_2 t172 t173 t174).bind fun t187 => (if t187 = true then (meterlaw17_TableMoves.j4 kj57 l2 x10_2 true x160000_2 x160001_2 x160002_2 t161 t162 t163 t172 t173 t174) else ((table_Newer.f t172 t173 t174 t161 t162 t163).bind fun t188 => (if t188 = true then ((table_Same.f kj57 t172 t173 t174 x160000_2 x160001_2 x160002_2).bind fun t189 => (if t189 = true then (meterlaw17_TableMoves.j4 kj57 l2 x10_2 true x160000_2 x160001_2 x160002_2 t161 t162 t163 t172 t173 t174) else (meterlaw17_TableMoves.j4 kj57 l2 x10_2 (t172 != (wrap64 (x160000_2 + 1))) x160000_2 x160001_2 x160002_2 t161 t162 t163 t172 t173 t174))) else (meterlaw17_TableMoves.j4 kj57 l2 x10_2 true x160000_2 x160001_2 x160002_2 t161 t162 t163 t172 t173 t174))))) = some r := by rw [if_pos rfl] at H; exact H
           clear H
           have H := H1
           clear H1
           replace H := Option.bind_eq_some_iff.mp H
           obtain ⟨t187, A730, H⟩ := H
           replace H : (if t187 = true then (meterlaw17_TableMoves.j4 kj57 l2 x10_2 true x160000_2 x160001_2 x160002_2 t161 t162 t163 t172 t173 t174) else ((table_Newer.f t172 t173 t174 t161 t162 t163).bind fun t188 => (if t188 = true then ((table_Same.f kj57 t172 t173 t174 x160000_2 x160001_2 x160002_2).bind fun t189 => (if t189 = true then (meterlaw17_TableMoves.j4 kj57 l2 x10_2 true x160000_2 x160001_2 x160002_2 t161 t162 t163 t172 t173 t174) else (meterlaw17_TableMoves.j4 kj57 l2 x10_2 (t172 != (wrap64 (x160000_2 + 1))) x160000_2 x160001_2 x160002_2 t161 t162 t163 t172 t173 t174))) else (meterlaw17_TableMoves.j4 kj57 l2 x10_2 true x160000_2 x160001_2 x160002_2 t161 t162 t163 t172 t173 t174)))) = some r := H
           have A73 := Aside0.mk A730
           clear A730
           by_cases c74 : t187 = true
           · subst c74
             have H1 : (meterlaw17_TableMoves.j4 kj57 l2 x10_2 true x160000_2 x160001_2 x160002_2 t161 t162 t163 t172 t173 t174) = some r := by rw [if_pos rfl] at H; exact H
             clear H
             have H := H1
             clear H1
             have H' := Aside0.mk H
             clear H
             have hnb75 := NB178_159.out
             have hnc75 := NB159_178.out
             have hnb76 := NB178_166.out
             have hnc76 := NB166_178.out
             have hcz77_0 : wc.cell? ⟨gb178, 0, none⟩ = some (.int .i64 t172) := (blk_cell BK178.out 0).trans rfl
             have hcz77_1 : wc.cell? ⟨gb178, 1, none⟩ = some (.int .i64 t173) := (blk_cell BK178.out 1).trans rfl
             have hcz77_2 : wc.cell? ⟨gb178, 2, none⟩ = some (.slice Ao45 t174.length co45) := (blk_cell BK178.out 2).trans rfl
             have hfz77_0 := blk_frozen BK178.out 0
             have hfz77_1 := blk_frozen BK178.out 1
             have hfz77_2 := blk_frozen BK178.out 2
             go_wp2_with (first | ((with_reducible refine gate_callee (f := 11) rfl ?_); refine goesL_ (some 134) rfl rfl Try.func11 (by kernel_rfl) rfl #[.agg #[.int .i64 t172, .int .i64 t173, .slice Ao45 t174.length co45]] rfl (by (try simp only [List.map_toArray, List.map_cons, List.map_nil]); first | done | rfl | (simp only [List.length_drop, List.length_take]; rfl)) ?_; (with_reducible refine (table_Right.calls t172 t173 _ _ t174 true _ ?side1 ?side2 A69.out).mono ?_); (case side1 => repeat (first | exact (Kd.R_reads' HO_179002.out).2.2 | (with_reducible refine Kd.C_alloc ?_ _) | (with_reducible refine Kd.C_drewN ?_ _) | (with_reducible refine Kd.C_drew ?_))); (case side2 => exact (Kd.R_reads' HO_179002.out).2.1); rintro e w78 ⟨rfl, hb⟩; refine ⟨_, rfl, ?_⟩; have n0_ := Aside0.mk (Kd.R_below (by (with_reducible repeat (first | apply Kd.R_alloc | apply Kd.R_drewN | apply Kd.R_drew)); exact HO_160002.out) hb); have n1_ := Aside0.mk (Kd.R_below (by (with_reducible repeat (first | apply Kd.R_alloc | apply Kd.R_drewN | apply Kd.R_drew)); exact HO_167002.out) hb); have n2_ := Aside0.mk (Kd.R_below (by (with_reducible repeat (first | apply Kd.R_alloc | apply Kd.R_drewN | apply Kd.R_drew)); exact HO_179002.out) hb); have n3_ := Aside0.mk (blk_below (g := gb159) (o := .cells #[.int .i64 x160000_2, .int .i64 x160001_2, .slice Ao37 x160002_2.length co37] 24 (0, 0)) (by (with_reducible repeat (first | refine blk_drewN ?_ _ | refine blk_drew ?_ | refine blk_alloc ?_ _)); exact BK159.out) hb); have n4_ := Aside0.mk (blk_below (g := gb166) (o := .cells #[.int .i64 t161, .int .i64 t162, .slice Ao30 t163.length co30] 24 (0, 0)) (by (with_reducible repeat (first | refine blk_drewN ?_ _ | refine blk_drew ?_ | refine blk_alloc ?_ _)); exact BK166.out) hb); have n5_ := Aside0.mk (blk_below (g := gb178) (o := .cells #[.int .i64 t172, .int .i64 t173, .slice Ao45 t174.length co45] 24 (0, 0)) (by (with_reducible repeat (first | refine blk_drewN ?_ _ | refine blk_drew ?_ | refine blk_alloc ?_ _)); exact BK178.out) hb); have n6_ := Aside0.mk (below_step (by repeat (first | (with_reducible first | exact HB.out | apply below_alloc | apply pw_below_drewN | apply below_drew1 | refine below_set ?_ GE159.out | refine below_set ?_ GE166.out | refine below_set ?_ GE178.out) | exact HB.out)) hb); clear HO_160002; clear HO_167002; clear HO_179002; clear BK159; clear BK166; clear BK178; clear HB; have HO_160002 := n0_; have HO_167002 := n1_; have HO_179002 := n2_; have BK159 := n3_; have BK166 := n4_; have BK178 := n5_; have HB := n6_; clear n0_ n1_ n2_ n3_ n4_ n5_ n6_; (try clear hb); (try clear hb2); (try clear hk); (try clear hi); have hcz79_0 : w78.cell? ⟨gb178, 0, none⟩ = some (.int .i64 t172) := (blk_cell BK178.out 0).trans rfl; have hcz79_1 : w78.cell? ⟨gb178, 1, none⟩ = some (.int .i64 t173) := (blk_cell BK178.out 1).trans rfl; have hcz79_2 : w78.cell? ⟨gb178, 2, none⟩ = some (.slice Ao45 t174.length co45) := (blk_cell BK178.out 2).trans rfl; have hfz79_0 := blk_frozen BK178.out 0; have hfz79_1 := blk_frozen BK178.out 1; have hfz79_2 := blk_frozen BK178.out 2; have hnb80 := NB159_166.out; have hnc80 := NB166_159.out; have hcz81_0 : w78.cell? ⟨gb159, 0, none⟩ = some (.int .i64 x160000_2) := (blk_cell BK159.out 0).trans rfl; have hcz81_1 : w78.cell? ⟨gb159, 1, none⟩ = some (.int .i64 x160001_2) := (blk_cell BK159.out 1).trans rfl; have hcz81_2 : w78.cell? ⟨gb159, 2, none⟩ = some (.slice Ao37 x160002_2.length co37) := (blk_cell BK159.out 2).trans rfl; have hfz81_0 := blk_frozen BK159.out 0; have hfz81_1 := blk_frozen BK159.out 1; have hfz81_2 := blk_frozen BK159.out 2) | (go_at_call 10; (with_reducible refine (table_Newer.calls t172 t173 _ _ t174 x160000_2 x160001_2 _ _ x160002_2 true _ ?side1 ?side2 ?side3 ?side4 A71.out).mono ?_); (case side1 => repeat (first | exact (Kd.R_reads' HO_179002.out).2.2 | (with_reducible refine Kd.C_alloc ?_ _) | (with_reducible refine Kd.C_drewN ?_ _) | (with_reducible refine Kd.C_drew ?_))); (case side2 => exact (Kd.R_reads' HO_179002.out).2.1); (case side3 => repeat (first | exact (Kd.R_reads' HO_160002.out).2.2 | (with_reducible refine Kd.C_alloc ?_ _) | (with_reducible refine Kd.C_drewN ?_ _) | (with_reducible refine Kd.C_drew ?_))); (case side4 => exact (Kd.R_reads' HO_160002.out).2.1); rintro e w82 ⟨rfl, hb⟩; have n0_ := Aside0.mk (Kd.R_below (by (with_reducible repeat (first | apply Kd.R_alloc | apply Kd.R_drewN | apply Kd.R_drew)); exact HO_160002.out) hb); have n1_ := Aside0.mk (Kd.R_below (by (with_reducible repeat (first | apply Kd.R_alloc | apply Kd.R_drewN | apply Kd.R_drew)); exact HO_167002.out) hb); have n2_ := Aside0.mk (Kd.R_below (by (with_reducible repeat (first | apply Kd.R_alloc | apply Kd.R_drewN | apply Kd.R_drew)); exact HO_179002.out) hb); have n3_ := Aside0.mk (blk_below (g := gb159) (o := .cells #[.int .i64 x160000_2, .int .i64 x160001_2, .slice Ao37 x160002_2.length co37] 24 (0, 0)) (by (with_reducible repeat (first | refine blk_drewN ?_ _ | refine blk_drew ?_ | refine blk_alloc ?_ _)); exact BK159.out) hb); have n4_ := Aside0.mk (blk_below (g := gb166) (o := .cells #[.int .i64 t161, .int .i64 t162, .slice Ao30 t163.length co30] 24 (0, 0)) (by (with_reducible repeat (first | refine blk_drewN ?_ _ | refine blk_drew ?_ | refine blk_alloc ?_ _)); exact BK166.out) hb); have n5_ := Aside0.mk (blk_below (g := gb178) (o := .cells #[.int .i64 t172, .int .i64 t173, .slice Ao45 t174.length co45] 24 (0, 0)) (by (with_reducible repeat (first | refine blk_drewN ?_ _ | refine blk_drew ?_ | refine blk_alloc ?_ _)); exact BK178.out) hb); have n6_ := Aside0.mk (below_step (by repeat (first | (with_reducible first | exact HB.out | apply below_alloc | apply pw_below_drewN | apply below_drew1 | refine below_set ?_ GE159.out | refine below_set ?_ GE166.out | refine below_set ?_ GE178.out) | exact HB.out)) hb); clear HO_160002; clear HO_167002; clear HO_179002; clear BK159; clear BK166; clear BK178; clear HB; have HO_160002 := n0_; have HO_167002 := n1_; have HO_179002 := n2_; have BK159 := n3_; have BK166 := n4_; have BK178 := n5_; have HB := n6_; clear n0_ n1_ n2_ n3_ n4_ n5_ n6_; (try clear hb); (try clear hb2); (try clear hk); (try clear hi); have hcz83_0 : w82.cell? ⟨gb159, 0, none⟩ = some (.int .i64 x160000_2) := (blk_cell BK159.out 0).trans rfl; have hcz83_1 : w82.cell? ⟨gb159, 1, none⟩ = some (.int .i64 x160001_2) := (blk_cell BK159.out 1).trans rfl; have hcz83_2 : w82.cell? ⟨gb159, 2, none⟩ = some (.slice Ao37 x160002_2.length co37) := (blk_cell BK159.out 2).trans rfl; have hfz83_0 := blk_frozen BK159.out 0; have hfz83_1 := blk_frozen BK159.out 1; have hfz83_2 := blk_frozen BK159.out 2; have hcz84_0 : w82.cell? ⟨gb178, 0, none⟩ = some (.int .i64 t172) := (blk_cell BK178.out 0).trans rfl; have hcz84_1 : w82.cell? ⟨gb178, 1, none⟩ = some (.int .i64 t173) := (blk_cell BK178.out 1).trans rfl; have hcz84_2 : w82.cell? ⟨gb178, 2, none⟩ = some (.slice Ao45 t174.length co45) := (blk_cell BK178.out 2).trans rfl; have hfz84_0 := blk_frozen BK178.out 0; have hfz84_1 := blk_frozen BK178.out 1; have hfz84_2 := blk_frozen BK178.out 2) | (go_at_call 10; (with_reducible refine (table_Newer.calls x160000_2 x160001_2 _ _ x160002_2 t172 t173 _ _ t174 true _ ?side1 ?side2 ?side3 ?side4 A73.out).mono ?_); (case side1 => repeat (first | exact (Kd.R_reads' HO_160002.out).2.2 | (with_reducible refine Kd.C_alloc ?_ _) | (with_reducible refine Kd.C_drewN ?_ _) | (with_reducible refine Kd.C_drew ?_))); (case side2 => exact (Kd.R_reads' HO_160002.out).2.1); (case side3 => repeat (first | exact (Kd.R_reads' HO_179002.out).2.2 | (with_reducible refine Kd.C_alloc ?_ _) | (with_reducible refine Kd.C_drewN ?_ _) | (with_reducible refine Kd.C_drew ?_))); (case side4 => exact (Kd.R_reads' HO_179002.out).2.1); rintro e w85 ⟨rfl, hb⟩; have n0_ := Aside0.mk (Kd.R_below (by (with_reducible repeat (first | apply Kd.R_alloc | apply Kd.R_drewN | apply Kd.R_drew)); exact HO_160002.out) hb); have n1_ := Aside0.mk (Kd.R_below (by (with_reducible repeat (first | apply Kd.R_alloc | apply Kd.R_drewN | apply Kd.R_drew)); exact HO_167002.out) hb); have n2_ := Aside0.mk (Kd.R_below (by (with_reducible repeat (first | apply Kd.R_alloc | apply Kd.R_drewN | apply Kd.R_drew)); exact HO_179002.out) hb); have n3_ := Aside0.mk (blk_below (g := gb159) (o := .cells #[.int .i64 x160000_2, .int .i64 x160001_2, .slice Ao37 x160002_2.length co37] 24 (0, 0)) (by (with_reducible repeat (first | refine blk_drewN ?_ _ | refine blk_drew ?_ | refine blk_alloc ?_ _)); exact BK159.out) hb); have n4_ := Aside0.mk (blk_below (g := gb166) (o := .cells #[.int .i64 t161, .int .i64 t162, .slice Ao30 t163.length co30] 24 (0, 0)) (by (with_reducible repeat (first | refine blk_drewN ?_ _ | refine blk_drew ?_ | refine blk_alloc ?_ _)); exact BK166.out) hb); have n5_ := Aside0.mk (blk_below (g := gb178) (o := .cells #[.int .i64 t172, .int .i64 t173, .slice Ao45 t174.length co45] 24 (0, 0)) (by (with_reducible repeat (first | refine blk_drewN ?_ _ | refine blk_drew ?_ | refine blk_alloc ?_ _)); exact BK178.out) hb); have n6_ := Aside0.mk (below_step (by repeat (first | (with_reducible first | exact HB.out | apply below_alloc | apply pw_below_drewN | apply below_drew1 | refine below_set ?_ GE159.out | refine below_set ?_ GE166.out | refine below_set ?_ GE178.out) | exact HB.out)) hb); clear HO_160002; clear HO_167002; clear HO_179002; clear BK159; clear BK166; clear BK178; clear HB; have HO_160002 := n0_; have HO_167002 := n1_; have HO_179002 := n2_; have BK159 := n3_; have BK166 := n4_; have BK178 := n5_; have HB := n6_; clear n0_ n1_ n2_ n3_ n4_ n5_ n6_; (try clear hb); (try clear hb2); (try clear hk); (try clear hi)))
             go_meet
             case rel => exact ⟨_, (true), (by first | rfl | (simp; done) | (simp [*]; done) | (congr 1; simp only [eq_iff_iff, iff_true, ByteArray.size_append] at *; unfold wrap64; omega) | (congr 2; simp only [eq_iff_iff, iff_true, ByteArray.size_append] at *; unfold wrap64; omega)), H', ⟨by have := HJ8.out; have := HK2.out; have := HJ34.out; have := HJ57.out; first | omega | exact Nat.le_refl _⟩, ⟨by (with_reducible repeat (first | apply Kd.R_alloc | apply Kd.R_drewN | apply Kd.R_drew)); exact HO_160002.out⟩, ⟨by (with_reducible repeat (first | apply Kd.R_alloc | apply Kd.R_drewN | apply Kd.R_drew)); exact HO_167002.out⟩, ⟨by (with_reducible repeat (first | apply Kd.R_alloc | apply Kd.R_drewN | apply Kd.R_drew)); exact HO_179002.out⟩, ⟨by (with_reducible repeat (first | refine blk_drewN ?_ _ | refine blk_drew ?_ | refine blk_alloc ?_ _)); exact BK159.out⟩, ⟨by (with_reducible repeat (first | refine blk_drewN ?_ _ | refine blk_drew ?_ | refine blk_alloc ?_ _)); exact BK166.out⟩, ⟨by (with_reducible repeat (first | refine blk_drewN ?_ _ | refine blk_drew ?_ | refine blk_alloc ?_ _)); exact BK178.out⟩, ⟨by repeat (first | (with_reducible first | exact HB.out | apply below_alloc | apply pw_below_drewN | apply below_drew1 | refine below_set ?_ GE159.out | refine below_set ?_ GE166.out | refine below_set ?_ GE178.out) | exact HB.out)⟩⟩
           replace c74 := Bool.eq_false_iff.mpr c74
           subst c74
           have H1 : ((table_Newer.f t172 t173 t174 t161 t162 t163).bind fun t188 => (if t188 = true then ((table_Same.f kj57 t172 t173 t174 x160000_2 x160001_2 x160002_2).bind fun t189 => (if t189 = true then (meterlaw17_TableMoves.j4 kj57 l2 x10_2 true x160000_2 x160001_2 x160002_2 t161 t162 t163 t172 t173 t174) else (meterlaw17_TableMoves.j4 kj57 l2 x10_2 (t172 != (wrap64 (x160000_2 + 1))) x160000_2 x160001_2 x160002_2 t161 t162 t163 t172 t173 t174))) else (meterlaw17_TableMoves.j4 kj57 l2 x10_2 true x160000_2 x160001_2 x160002_2 t161 t162 t163 t172 t173 t174))) = some r := by rw [if_neg (show ¬ (false = true) by decide)] at H; exact H
           clear H
           have H := H1
           clear H1
           replace H := Option.bind_eq_some_iff.mp H
           obtain ⟨t188, A860, H⟩ := H
           replace H : (if t188 = true then ((table_Same.f kj57 t172 t173 t174 x160000_2 x160001_2 x160002_2).bind fun t189 => (if t189 = true then (meterlaw17_TableMoves.j4 kj57 l2 x10_2 true x160000_2 x160001_2 x160002_2 t161 t162 t163 t172 t173 t174) else (meterlaw17_TableMoves.j4 kj57 l2 x10_2 (t172 != (wrap64 (x160000_2 + 1))) x160000_2 x160001_2 x160002_2 t161 t162 t163 t172 t173 t174))) else (meterlaw17_TableMoves.j4 kj57 l2 x10_2 true x160000_2 x160001_2 x160002_2 t161 t162 t163 t172 t173 t174)) = some r := H
           have A86 := Aside0.mk A860
           clear A860
           by_cases c87 : t188 = true
           · subst c87
             have H1 : ((table_Same.f kj57 t172 t173 t174 x160000_2 x160001_2 x160002_2).bind fun t189 => (if t189 = true then (meterlaw17_TableMoves.j4 kj57 l2 x10_2 true x160000_2 x160001_2 x160002_2 t161 t162 t163 t172 t173 t174) else (meterlaw17_TableMoves.j4 kj57 l2 x10_2 (t172 != (wrap64 (x160000_2 + 1))) x160000_2 x160001_2 x160002_2 t161 t162 t163 t172 t173 t174))) = some r := by rw [if_pos rfl] at H; exact H
             clear H
             have H := H1
             clear H1
             replace H := Option.bind_eq_some_iff.mp H
             obtain ⟨t189, A880, H⟩ := H
             replace H : (if t189 = true then (meterlaw17_TableMoves.j4 kj57 l2 x10_2 true x160000_2 x160001_2 x160002_2 t161 t162 t163 t172 t173 t174) else (meterlaw17_TableMoves.j4 kj57 l2 x10_2 (t172 != (wrap64 (x160000_2 + 1))) x160000_2 x160001_2 x160002_2 t161 t162 t163 t172 t173 t174)) = some r := H
             have A88 := Aside0.mk A880
             clear A880
             by_cases c89 : t189 = true
             · subst c89
               have H1 : (meterlaw17_TableMoves.j4 kj57 l2 x10_2 true x160000_2 x160001_2 x160002_2 t161 t162 t163 t172 t173 t174) = some r := by rw [if_pos rfl] at H; exact H
               clear H
               have H := H1
               clear H1
               have H' := Aside0.mk H
               clear H
               have hnb90 := NB178_159.out
               have hnc90 := NB159_178.out
               have hnb91 := NB178_166.out
               have hnc91 := NB166_178.out
               have hcz92_0 : wc.cell? ⟨gb178, 0, none⟩ = some (.int .i64 t172) := (blk_cell BK178.out 0).trans rfl
               have hcz92_1 : wc.cell? ⟨gb178, 1, none⟩ = some (.int .i64 t173) := (blk_cell BK178.out 1).trans rfl
               have hcz92_2 : wc.cell? ⟨gb178, 2, none⟩ = some (.slice Ao45 t174.length co45) := (blk_cell BK178.out 2).trans rfl
               have hfz92_0 := blk_frozen BK178.out 0
               have hfz92_1 := blk_frozen BK178.out 1
               have hfz92_2 := blk_frozen BK178.out 2
               go_wp2_with (first | ((with_reducible refine gate_callee (f := 11) rfl ?_); refine goesL_ (some 134) rfl rfl Try.func11 (by kernel_rfl) rfl #[.agg #[.int .i64 t172, .int .i64 t173, .slice Ao45 t174.length co45]] rfl (by (try simp only [List.map_toArray, List.map_cons, List.map_nil]); first | done | rfl | (simp only [List.length_drop, List.length_take]; rfl)) ?_; (with_reducible refine (table_Right.calls t172 t173 _ _ t174 true _ ?side1 ?side2 A69.out).mono ?_); (case side1 => repeat (first | exact (Kd.R_reads' HO_179002.out).2.2 | (with_reducible refine Kd.C_alloc ?_ _) | (with_reducible refine Kd.C_drewN ?_ _) | (with_reducible refine Kd.C_drew ?_))); (case side2 => exact (Kd.R_reads' HO_179002.out).2.1); rintro e w93 ⟨rfl, hb⟩; refine ⟨_, rfl, ?_⟩; have n0_ := Aside0.mk (Kd.R_below (by (with_reducible repeat (first | apply Kd.R_alloc | apply Kd.R_drewN | apply Kd.R_drew)); exact HO_160002.out) hb); have n1_ := Aside0.mk (Kd.R_below (by (with_reducible repeat (first | apply Kd.R_alloc | apply Kd.R_drewN | apply Kd.R_drew)); exact HO_167002.out) hb); have n2_ := Aside0.mk (Kd.R_below (by (with_reducible repeat (first | apply Kd.R_alloc | apply Kd.R_drewN | apply Kd.R_drew)); exact HO_179002.out) hb); have n3_ := Aside0.mk (blk_below (g := gb159) (o := .cells #[.int .i64 x160000_2, .int .i64 x160001_2, .slice Ao37 x160002_2.length co37] 24 (0, 0)) (by (with_reducible repeat (first | refine blk_drewN ?_ _ | refine blk_drew ?_ | refine blk_alloc ?_ _)); exact BK159.out) hb); have n4_ := Aside0.mk (blk_below (g := gb166) (o := .cells #[.int .i64 t161, .int .i64 t162, .slice Ao30 t163.length co30] 24 (0, 0)) (by (with_reducible repeat (first | refine blk_drewN ?_ _ | refine blk_drew ?_ | refine blk_alloc ?_ _)); exact BK166.out) hb); have n5_ := Aside0.mk (blk_below (g := gb178) (o := .cells #[.int .i64 t172, .int .i64 t173, .slice Ao45 t174.length co45] 24 (0, 0)) (by (with_reducible repeat (first | refine blk_drewN ?_ _ | refine blk_drew ?_ | refine blk_alloc ?_ _)); exact BK178.out) hb); have n6_ := Aside0.mk (below_step (by repeat (first | (with_reducible first | exact HB.out | apply below_alloc | apply pw_below_drewN | apply below_drew1 | refine below_set ?_ GE159.out | refine below_set ?_ GE166.out | refine below_set ?_ GE178.out) | exact HB.out)) hb); clear HO_160002; clear HO_167002; clear HO_179002; clear BK159; clear BK166; clear BK178; clear HB; have HO_160002 := n0_; have HO_167002 := n1_; have HO_179002 := n2_; have BK159 := n3_; have BK166 := n4_; have BK178 := n5_; have HB := n6_; clear n0_ n1_ n2_ n3_ n4_ n5_ n6_; (try clear hb); (try clear hb2); (try clear hk); (try clear hi); have hcz94_0 : w93.cell? ⟨gb178, 0, none⟩ = some (.int .i64 t172) := (blk_cell BK178.out 0).trans rfl; have hcz94_1 : w93.cell? ⟨gb178, 1, none⟩ = some (.int .i64 t173) := (blk_cell BK178.out 1).trans rfl; have hcz94_2 : w93.cell? ⟨gb178, 2, none⟩ = some (.slice Ao45 t174.length co45) := (blk_cell BK178.out 2).trans rfl; have hfz94_0 := blk_frozen BK178.out 0; have hfz94_1 := blk_frozen BK178.out 1; have hfz94_2 := blk_frozen BK178.out 2; have hnb95 := NB159_166.out; have hnc95 := NB166_159.out; have hcz96_0 : w93.cell? ⟨gb159, 0, none⟩ = some (.int .i64 x160000_2) := (blk_cell BK159.out 0).trans rfl; have hcz96_1 : w93.cell? ⟨gb159, 1, none⟩ = some (.int .i64 x160001_2) := (blk_cell BK159.out 1).trans rfl; have hcz96_2 : w93.cell? ⟨gb159, 2, none⟩ = some (.slice Ao37 x160002_2.length co37) := (blk_cell BK159.out 2).trans rfl; have hfz96_0 := blk_frozen BK159.out 0; have hfz96_1 := blk_frozen BK159.out 1; have hfz96_2 := blk_frozen BK159.out 2) | (go_at_call 10; (with_reducible refine (table_Newer.calls t172 t173 _ _ t174 x160000_2 x160001_2 _ _ x160002_2 true _ ?side1 ?side2 ?side3 ?side4 A71.out).mono ?_); (case side1 => repeat (first | exact (Kd.R_reads' HO_179002.out).2.2 | (with_reducible refine Kd.C_alloc ?_ _) | (with_reducible refine Kd.C_drewN ?_ _) | (with_reducible refine Kd.C_drew ?_))); (case side2 => exact (Kd.R_reads' HO_179002.out).2.1); (case side3 => repeat (first | exact (Kd.R_reads' HO_160002.out).2.2 | (with_reducible refine Kd.C_alloc ?_ _) | (with_reducible refine Kd.C_drewN ?_ _) | (with_reducible refine Kd.C_drew ?_))); (case side4 => exact (Kd.R_reads' HO_160002.out).2.1); rintro e w97 ⟨rfl, hb⟩; have n0_ := Aside0.mk (Kd.R_below (by (with_reducible repeat (first | apply Kd.R_alloc | apply Kd.R_drewN | apply Kd.R_drew)); exact HO_160002.out) hb); have n1_ := Aside0.mk (Kd.R_below (by (with_reducible repeat (first | apply Kd.R_alloc | apply Kd.R_drewN | apply Kd.R_drew)); exact HO_167002.out) hb); have n2_ := Aside0.mk (Kd.R_below (by (with_reducible repeat (first | apply Kd.R_alloc | apply Kd.R_drewN | apply Kd.R_drew)); exact HO_179002.out) hb); have n3_ := Aside0.mk (blk_below (g := gb159) (o := .cells #[.int .i64 x160000_2, .int .i64 x160001_2, .slice Ao37 x160002_2.length co37] 24 (0, 0)) (by (with_reducible repeat (first | refine blk_drewN ?_ _ | refine blk_drew ?_ | refine blk_alloc ?_ _)); exact BK159.out) hb); have n4_ := Aside0.mk (blk_below (g := gb166) (o := .cells #[.int .i64 t161, .int .i64 t162, .slice Ao30 t163.length co30] 24 (0, 0)) (by (with_reducible repeat (first | refine blk_drewN ?_ _ | refine blk_drew ?_ | refine blk_alloc ?_ _)); exact BK166.out) hb); have n5_ := Aside0.mk (blk_below (g := gb178) (o := .cells #[.int .i64 t172, .int .i64 t173, .slice Ao45 t174.length co45] 24 (0, 0)) (by (with_reducible repeat (first | refine blk_drewN ?_ _ | refine blk_drew ?_ | refine blk_alloc ?_ _)); exact BK178.out) hb); have n6_ := Aside0.mk (below_step (by repeat (first | (with_reducible first | exact HB.out | apply below_alloc | apply pw_below_drewN | apply below_drew1 | refine below_set ?_ GE159.out | refine below_set ?_ GE166.out | refine below_set ?_ GE178.out) | exact HB.out)) hb); clear HO_160002; clear HO_167002; clear HO_179002; clear BK159; clear BK166; clear BK178; clear HB; have HO_160002 := n0_; have HO_167002 := n1_; have HO_179002 := n2_; have BK159 := n3_; have BK166 := n4_; have BK178 := n5_; have HB := n6_; clear n0_ n1_ n2_ n3_ n4_ n5_ n6_; (try clear hb); (try clear hb2); (try clear hk); (try clear hi); have hcz98_0 : w97.cell? ⟨gb159, 0, none⟩ = some (.int .i64 x160000_2) := (blk_cell BK159.out 0).trans rfl; have hcz98_1 : w97.cell? ⟨gb159, 1, none⟩ = some (.int .i64 x160001_2) := (blk_cell BK159.out 1).trans rfl; have hcz98_2 : w97.cell? ⟨gb159, 2, none⟩ = some (.slice Ao37 x160002_2.length co37) := (blk_cell BK159.out 2).trans rfl; have hfz98_0 := blk_frozen BK159.out 0; have hfz98_1 := blk_frozen BK159.out 1; have hfz98_2 := blk_frozen BK159.out 2; have hcz99_0 : w97.cell? ⟨gb178, 0, none⟩ = some (.int .i64 t172) := (blk_cell BK178.out 0).trans rfl; have hcz99_1 : w97.cell? ⟨gb178, 1, none⟩ = some (.int .i64 t173) := (blk_cell BK178.out 1).trans rfl; have hcz99_2 : w97.cell? ⟨gb178, 2, none⟩ = some (.slice Ao45 t174.length co45) := (blk_cell BK178.out 2).trans rfl; have hfz99_0 := blk_frozen BK178.out 0; have hfz99_1 := blk_frozen BK178.out 1; have hfz99_2 := blk_frozen BK178.out 2) | (go_at_call 10; (with_reducible refine (table_Newer.calls x160000_2 x160001_2 _ _ x160002_2 t172 t173 _ _ t174 false _ ?side1 ?side2 ?side3 ?side4 A73.out).mono ?_); (case side1 => repeat (first | exact (Kd.R_reads' HO_160002.out).2.2 | (with_reducible refine Kd.C_alloc ?_ _) | (with_reducible refine Kd.C_drewN ?_ _) | (with_reducible refine Kd.C_drew ?_))); (case side2 => exact (Kd.R_reads' HO_160002.out).2.1); (case side3 => repeat (first | exact (Kd.R_reads' HO_179002.out).2.2 | (with_reducible refine Kd.C_alloc ?_ _) | (with_reducible refine Kd.C_drewN ?_ _) | (with_reducible refine Kd.C_drew ?_))); (case side4 => exact (Kd.R_reads' HO_179002.out).2.1); rintro e w100 ⟨rfl, hb⟩; have n0_ := Aside0.mk (Kd.R_below (by (with_reducible repeat (first | apply Kd.R_alloc | apply Kd.R_drewN | apply Kd.R_drew)); exact HO_160002.out) hb); have n1_ := Aside0.mk (Kd.R_below (by (with_reducible repeat (first | apply Kd.R_alloc | apply Kd.R_drewN | apply Kd.R_drew)); exact HO_167002.out) hb); have n2_ := Aside0.mk (Kd.R_below (by (with_reducible repeat (first | apply Kd.R_alloc | apply Kd.R_drewN | apply Kd.R_drew)); exact HO_179002.out) hb); have n3_ := Aside0.mk (blk_below (g := gb159) (o := .cells #[.int .i64 x160000_2, .int .i64 x160001_2, .slice Ao37 x160002_2.length co37] 24 (0, 0)) (by (with_reducible repeat (first | refine blk_drewN ?_ _ | refine blk_drew ?_ | refine blk_alloc ?_ _)); exact BK159.out) hb); have n4_ := Aside0.mk (blk_below (g := gb166) (o := .cells #[.int .i64 t161, .int .i64 t162, .slice Ao30 t163.length co30] 24 (0, 0)) (by (with_reducible repeat (first | refine blk_drewN ?_ _ | refine blk_drew ?_ | refine blk_alloc ?_ _)); exact BK166.out) hb); have n5_ := Aside0.mk (blk_below (g := gb178) (o := .cells #[.int .i64 t172, .int .i64 t173, .slice Ao45 t174.length co45] 24 (0, 0)) (by (with_reducible repeat (first | refine blk_drewN ?_ _ | refine blk_drew ?_ | refine blk_alloc ?_ _)); exact BK178.out) hb); have n6_ := Aside0.mk (below_step (by repeat (first | (with_reducible first | exact HB.out | apply below_alloc | apply pw_below_drewN | apply below_drew1 | refine below_set ?_ GE159.out | refine below_set ?_ GE166.out | refine below_set ?_ GE178.out) | exact HB.out)) hb); clear HO_160002; clear HO_167002; clear HO_179002; clear BK159; clear BK166; clear BK178; clear HB; have HO_160002 := n0_; have HO_167002 := n1_; have HO_179002 := n2_; have BK159 := n3_; have BK166 := n4_; have BK178 := n5_; have HB := n6_; clear n0_ n1_ n2_ n3_ n4_ n5_ n6_; (try clear hb); (try clear hb2); (try clear hk); (try clear hi); have hcz101_0 : w100.cell? ⟨gb178, 0, none⟩ = some (.int .i64 t172) := (blk_cell BK178.out 0).trans rfl; have hcz101_1 : w100.cell? ⟨gb178, 1, none⟩ = some (.int .i64 t173) := (blk_cell BK178.out 1).trans rfl; have hcz101_2 : w100.cell? ⟨gb178, 2, none⟩ = some (.slice Ao45 t174.length co45) := (blk_cell BK178.out 2).trans rfl; have hfz101_0 := blk_frozen BK178.out 0; have hfz101_1 := blk_frozen BK178.out 1; have hfz101_2 := blk_frozen BK178.out 2; have hcz102_0 : w100.cell? ⟨gb166, 0, none⟩ = some (.int .i64 t161) := (blk_cell BK166.out 0).trans rfl; have hcz102_1 : w100.cell? ⟨gb166, 1, none⟩ = some (.int .i64 t162) := (blk_cell BK166.out 1).trans rfl; have hcz102_2 : w100.cell? ⟨gb166, 2, none⟩ = some (.slice Ao30 t163.length co30) := (blk_cell BK166.out 2).trans rfl; have hfz102_0 := blk_frozen BK166.out 0; have hfz102_1 := blk_frozen BK166.out 1; have hfz102_2 := blk_frozen BK166.out 2) | (go_at_call 10; (with_reducible refine (table_Newer.calls t172 t173 _ _ t174 t161 t162 _ _ t163 true _ ?side1 ?side2 ?side3 ?side4 A86.out).mono ?_); (case side1 => repeat (first | exact (Kd.R_reads' HO_179002.out).2.2 | (with_reducible refine Kd.C_alloc ?_ _) | (with_reducible refine Kd.C_drewN ?_ _) | (with_reducible refine Kd.C_drew ?_))); (case side2 => exact (Kd.R_reads' HO_179002.out).2.1); (case side3 => repeat (first | exact (Kd.R_reads' HO_167002.out).2.2 | (with_reducible refine Kd.C_alloc ?_ _) | (with_reducible refine Kd.C_drewN ?_ _) | (with_reducible refine Kd.C_drew ?_))); (case side4 => exact (Kd.R_reads' HO_167002.out).2.1); rintro e w103 ⟨rfl, hb⟩; have n0_ := Aside0.mk (Kd.R_below (by (with_reducible repeat (first | apply Kd.R_alloc | apply Kd.R_drewN | apply Kd.R_drew)); exact HO_160002.out) hb); have n1_ := Aside0.mk (Kd.R_below (by (with_reducible repeat (first | apply Kd.R_alloc | apply Kd.R_drewN | apply Kd.R_drew)); exact HO_167002.out) hb); have n2_ := Aside0.mk (Kd.R_below (by (with_reducible repeat (first | apply Kd.R_alloc | apply Kd.R_drewN | apply Kd.R_drew)); exact HO_179002.out) hb); have n3_ := Aside0.mk (blk_below (g := gb159) (o := .cells #[.int .i64 x160000_2, .int .i64 x160001_2, .slice Ao37 x160002_2.length co37] 24 (0, 0)) (by (with_reducible repeat (first | refine blk_drewN ?_ _ | refine blk_drew ?_ | refine blk_alloc ?_ _)); exact BK159.out) hb); have n4_ := Aside0.mk (blk_below (g := gb166) (o := .cells #[.int .i64 t161, .int .i64 t162, .slice Ao30 t163.length co30] 24 (0, 0)) (by (with_reducible repeat (first | refine blk_drewN ?_ _ | refine blk_drew ?_ | refine blk_alloc ?_ _)); exact BK166.out) hb); have n5_ := Aside0.mk (blk_below (g := gb178) (o := .cells #[.int .i64 t172, .int .i64 t173, .slice Ao45 t174.length co45] 24 (0, 0)) (by (with_reducible repeat (first | refine blk_drewN ?_ _ | refine blk_drew ?_ | refine blk_alloc ?_ _)); exact BK178.out) hb); have n6_ := Aside0.mk (below_step (by repeat (first | (with_reducible first | exact HB.out | apply below_alloc | apply pw_below_drewN | apply below_drew1 | refine below_set ?_ GE159.out | refine below_set ?_ GE166.out | refine below_set ?_ GE178.out) | exact HB.out)) hb); clear HO_160002; clear HO_167002; clear HO_179002; clear BK159; clear BK166; clear BK178; clear HB; have HO_160002 := n0_; have HO_167002 := n1_; have HO_179002 := n2_; have BK159 := n3_; have BK166 := n4_; have BK178 := n5_; have HB := n6_; clear n0_ n1_ n2_ n3_ n4_ n5_ n6_; (try clear hb); (try clear hb2); (try clear hk); (try clear hi); have hcz104_0 : w103.cell? ⟨gb178, 0, none⟩ = some (.int .i64 t172) := (blk_cell BK178.out 0).trans rfl; have hcz104_1 : w103.cell? ⟨gb178, 1, none⟩ = some (.int .i64 t173) := (blk_cell BK178.out 1).trans rfl; have hcz104_2 : w103.cell? ⟨gb178, 2, none⟩ = some (.slice Ao45 t174.length co45) := (blk_cell BK178.out 2).trans rfl; have hfz104_0 := blk_frozen BK178.out 0; have hfz104_1 := blk_frozen BK178.out 1; have hfz104_2 := blk_frozen BK178.out 2; have hcz105_0 : w103.cell? ⟨gb159, 0, none⟩ = some (.int .i64 x160000_2) := (blk_cell BK159.out 0).trans rfl; have hcz105_1 : w103.cell? ⟨gb159, 1, none⟩ = some (.int .i64 x160001_2) := (blk_cell BK159.out 1).trans rfl; have hcz105_2 : w103.cell? ⟨gb159, 2, none⟩ = some (.slice Ao37 x160002_2.length co37) := (blk_cell BK159.out 2).trans rfl; have hfz105_0 := blk_frozen BK159.out 0; have hfz105_1 := blk_frozen BK159.out 1; have hfz105_2 := blk_frozen BK159.out 2) | (go_at_call 21; (with_reducible refine (table_Same.calls kj57 t172 t173 _ _ t174 x160000_2 x160001_2 _ _ x160002_2 true _ ?side1 ?side2 ?side3 ?side4 A88.out).mono ?_); (case side1 => repeat (first | exact (Kd.R_reads' HO_179002.out).2.2 | (with_reducible refine Kd.C_alloc ?_ _) | (with_reducible refine Kd.C_drewN ?_ _) | (with_reducible refine Kd.C_drew ?_))); (case side2 => exact (Kd.R_reads' HO_179002.out).2.1); (case side3 => repeat (first | exact (Kd.R_reads' HO_160002.out).2.2 | (with_reducible refine Kd.C_alloc ?_ _) | (with_reducible refine Kd.C_drewN ?_ _) | (with_reducible refine Kd.C_drew ?_))); (case side4 => exact (Kd.R_reads' HO_160002.out).2.1); rintro e w106 ⟨rfl, hb⟩; have n0_ := Aside0.mk (Kd.R_below (by (with_reducible repeat (first | apply Kd.R_alloc | apply Kd.R_drewN | apply Kd.R_drew)); exact HO_160002.out) hb); have n1_ := Aside0.mk (Kd.R_below (by (with_reducible repeat (first | apply Kd.R_alloc | apply Kd.R_drewN | apply Kd.R_drew)); exact HO_167002.out) hb); have n2_ := Aside0.mk (Kd.R_below (by (with_reducible repeat (first | apply Kd.R_alloc | apply Kd.R_drewN | apply Kd.R_drew)); exact HO_179002.out) hb); have n3_ := Aside0.mk (blk_below (g := gb159) (o := .cells #[.int .i64 x160000_2, .int .i64 x160001_2, .slice Ao37 x160002_2.length co37] 24 (0, 0)) (by (with_reducible repeat (first | refine blk_drewN ?_ _ | refine blk_drew ?_ | refine blk_alloc ?_ _)); exact BK159.out) hb); have n4_ := Aside0.mk (blk_below (g := gb166) (o := .cells #[.int .i64 t161, .int .i64 t162, .slice Ao30 t163.length co30] 24 (0, 0)) (by (with_reducible repeat (first | refine blk_drewN ?_ _ | refine blk_drew ?_ | refine blk_alloc ?_ _)); exact BK166.out) hb); have n5_ := Aside0.mk (blk_below (g := gb178) (o := .cells #[.int .i64 t172, .int .i64 t173, .slice Ao45 t174.length co45] 24 (0, 0)) (by (with_reducible repeat (first | refine blk_drewN ?_ _ | refine blk_drew ?_ | refine blk_alloc ?_ _)); exact BK178.out) hb); have n6_ := Aside0.mk (below_step (by repeat (first | (with_reducible first | exact HB.out | apply below_alloc | apply pw_below_drewN | apply below_drew1 | refine below_set ?_ GE159.out | refine below_set ?_ GE166.out | refine below_set ?_ GE178.out) | exact HB.out)) hb); clear HO_160002; clear HO_167002; clear HO_179002; clear BK159; clear BK166; clear BK178; clear HB; have HO_160002 := n0_; have HO_167002 := n1_; have HO_179002 := n2_; have BK159 := n3_; have BK166 := n4_; have BK178 := n5_; have HB := n6_; clear n0_ n1_ n2_ n3_ n4_ n5_ n6_; (try clear hb); (try clear hb2); (try clear hk); (try clear hi)))
               go_meet
               case rel => exact ⟨_, (true), (by first | rfl | (simp; done) | (simp [*]; done) | (congr 1; simp only [eq_iff_iff, iff_true, ByteArray.size_append] at *; unfold wrap64; omega) | (congr 2; simp only [eq_iff_iff, iff_true, ByteArray.size_append] at *; unfold wrap64; omega)), H', ⟨by have := HJ8.out; have := HK2.out; have := HJ34.out; have := HJ57.out; first | omega | exact Nat.le_refl _⟩, ⟨by (with_reducible repeat (first | apply Kd.R_alloc | apply Kd.R_drewN | apply Kd.R_drew)); exact HO_160002.out⟩, ⟨by (with_reducible repeat (first | apply Kd.R_alloc | apply Kd.R_drewN | apply Kd.R_drew)); exact HO_167002.out⟩, ⟨by (with_reducible repeat (first | apply Kd.R_alloc | apply Kd.R_drewN | apply Kd.R_drew)); exact HO_179002.out⟩, ⟨by (with_reducible repeat (first | refine blk_drewN ?_ _ | refine blk_drew ?_ | refine blk_alloc ?_ _)); exact BK159.out⟩, ⟨by (with_reducible repeat (first | refine blk_drewN ?_ _ | refine blk_drew ?_ | refine blk_alloc ?_ _)); exact BK166.out⟩, ⟨by (with_reducible repeat (first | refine blk_drewN ?_ _ | refine blk_drew ?_ | refine blk_alloc ?_ _)); exact BK178.out⟩, ⟨by repeat (first | (with_reducible first | exact HB.out | apply below_alloc | apply pw_below_drewN | apply below_drew1 | refine below_set ?_ GE159.out | refine below_set ?_ GE166.out | refine below_set ?_ GE178.out) | exact HB.out)⟩⟩
             replace c89 := Bool.eq_false_iff.mpr c89
             subst c89
             have H1 : (meterlaw17_TableMoves.j4 kj57 l2 x10_2 (t172 != (wrap64 (x160000_2 + 1))) x160000_2 x160001_2 x160002_2 t161 t162 t163 t172 t173 t174) = some r := by rw [if_neg (show ¬ (false = true) by decide)] at H; exact H
             clear H
             have H := H1
             clear H1
             have H' := Aside0.mk H
             clear H
             have hnb107 := NB178_159.out
             have hnc107 := NB159_178.out
             have hnb108 := NB178_166.out
             have hnc108 := NB166_178.out
             have hcz109_0 : wc.cell? ⟨gb178, 0, none⟩ = some (.int .i64 t172) := (blk_cell BK178.out 0).trans rfl
             have hcz109_1 : wc.cell? ⟨gb178, 1, none⟩ = some (.int .i64 t173) := (blk_cell BK178.out 1).trans rfl
             have hcz109_2 : wc.cell? ⟨gb178, 2, none⟩ = some (.slice Ao45 t174.length co45) := (blk_cell BK178.out 2).trans rfl
             have hfz109_0 := blk_frozen BK178.out 0
             have hfz109_1 := blk_frozen BK178.out 1
             have hfz109_2 := blk_frozen BK178.out 2
             go_wp2_with (first | ((with_reducible refine gate_callee (f := 11) rfl ?_); refine goesL_ (some 134) rfl rfl Try.func11 (by kernel_rfl) rfl #[.agg #[.int .i64 t172, .int .i64 t173, .slice Ao45 t174.length co45]] rfl (by (try simp only [List.map_toArray, List.map_cons, List.map_nil]); first | done | rfl | (simp only [List.length_drop, List.length_take]; rfl)) ?_; (with_reducible refine (table_Right.calls t172 t173 _ _ t174 true _ ?side1 ?side2 A69.out).mono ?_); (case side1 => repeat (first | exact (Kd.R_reads' HO_179002.out).2.2 | (with_reducible refine Kd.C_alloc ?_ _) | (with_reducible refine Kd.C_drewN ?_ _) | (with_reducible refine Kd.C_drew ?_))); (case side2 => exact (Kd.R_reads' HO_179002.out).2.1); rintro e w110 ⟨rfl, hb⟩; refine ⟨_, rfl, ?_⟩; have n0_ := Aside0.mk (Kd.R_below (by (with_reducible repeat (first | apply Kd.R_alloc | apply Kd.R_drewN | apply Kd.R_drew)); exact HO_160002.out) hb); have n1_ := Aside0.mk (Kd.R_below (by (with_reducible repeat (first | apply Kd.R_alloc | apply Kd.R_drewN | apply Kd.R_drew)); exact HO_167002.out) hb); have n2_ := Aside0.mk (Kd.R_below (by (with_reducible repeat (first | apply Kd.R_alloc | apply Kd.R_drewN | apply Kd.R_drew)); exact HO_179002.out) hb); have n3_ := Aside0.mk (blk_below (g := gb159) (o := .cells #[.int .i64 x160000_2, .int .i64 x160001_2, .slice Ao37 x160002_2.length co37] 24 (0, 0)) (by (with_reducible repeat (first | refine blk_drewN ?_ _ | refine blk_drew ?_ | refine blk_alloc ?_ _)); exact BK159.out) hb); have n4_ := Aside0.mk (blk_below (g := gb166) (o := .cells #[.int .i64 t161, .int .i64 t162, .slice Ao30 t163.length co30] 24 (0, 0)) (by (with_reducible repeat (first | refine blk_drewN ?_ _ | refine blk_drew ?_ | refine blk_alloc ?_ _)); exact BK166.out) hb); have n5_ := Aside0.mk (blk_below (g := gb178) (o := .cells #[.int .i64 t172, .int .i64 t173, .slice Ao45 t174.length co45] 24 (0, 0)) (by (with_reducible repeat (first | refine blk_drewN ?_ _ | refine blk_drew ?_ | refine blk_alloc ?_ _)); exact BK178.out) hb); have n6_ := Aside0.mk (below_step (by repeat (first | (with_reducible first | exact HB.out | apply below_alloc | apply pw_below_drewN | apply below_drew1 | refine below_set ?_ GE159.out | refine below_set ?_ GE166.out | refine below_set ?_ GE178.out) | exact HB.out)) hb); clear HO_160002; clear HO_167002; clear HO_179002; clear BK159; clear BK166; clear BK178; clear HB; have HO_160002 := n0_; have HO_167002 := n1_; have HO_179002 := n2_; have BK159 := n3_; have BK166 := n4_; have BK178 := n5_; have HB := n6_; clear n0_ n1_ n2_ n3_ n4_ n5_ n6_; (try clear hb); (try clear hb2); (try clear hk); (try clear hi); have hcz111_0 : w110.cell? ⟨gb178, 0, none⟩ = some (.int .i64 t172) := (blk_cell BK178.out 0).trans rfl; have hcz111_1 : w110.cell? ⟨gb178, 1, none⟩ = some (.int .i64 t173) := (blk_cell BK178.out 1).trans rfl; have hcz111_2 : w110.cell? ⟨gb178, 2, none⟩ = some (.slice Ao45 t174.length co45) := (blk_cell BK178.out 2).trans rfl; have hfz111_0 := blk_frozen BK178.out 0; have hfz111_1 := blk_frozen BK178.out 1; have hfz111_2 := blk_frozen BK178.out 2; have hnb112 := NB159_166.out; have hnc112 := NB166_159.out; have hcz113_0 : w110.cell? ⟨gb159, 0, none⟩ = some (.int .i64 x160000_2) := (blk_cell BK159.out 0).trans rfl; have hcz113_1 : w110.cell? ⟨gb159, 1, none⟩ = some (.int .i64 x160001_2) := (blk_cell BK159.out 1).trans rfl; have hcz113_2 : w110.cell? ⟨gb159, 2, none⟩ = some (.slice Ao37 x160002_2.length co37) := (blk_cell BK159.out 2).trans rfl; have hfz113_0 := blk_frozen BK159.out 0; have hfz113_1 := blk_frozen BK159.out 1; have hfz113_2 := blk_frozen BK159.out 2) | (go_at_call 10; (with_reducible refine (table_Newer.calls t172 t173 _ _ t174 x160000_2 x160001_2 _ _ x160002_2 true _ ?side1 ?side2 ?side3 ?side4 A71.out).mono ?_); (case side1 => repeat (first | exact (Kd.R_reads' HO_179002.out).2.2 | (with_reducible refine Kd.C_alloc ?_ _) | (with_reducible refine Kd.C_drewN ?_ _) | (with_reducible refine Kd.C_drew ?_))); (case side2 => exact (Kd.R_reads' HO_179002.out).2.1); (case side3 => repeat (first | exact (Kd.R_reads' HO_160002.out).2.2 | (with_reducible refine Kd.C_alloc ?_ _) | (with_reducible refine Kd.C_drewN ?_ _) | (with_reducible refine Kd.C_drew ?_))); (case side4 => exact (Kd.R_reads' HO_160002.out).2.1); rintro e w114 ⟨rfl, hb⟩; have n0_ := Aside0.mk (Kd.R_below (by (with_reducible repeat (first | apply Kd.R_alloc | apply Kd.R_drewN | apply Kd.R_drew)); exact HO_160002.out) hb); have n1_ := Aside0.mk (Kd.R_below (by (with_reducible repeat (first | apply Kd.R_alloc | apply Kd.R_drewN | apply Kd.R_drew)); exact HO_167002.out) hb); have n2_ := Aside0.mk (Kd.R_below (by (with_reducible repeat (first | apply Kd.R_alloc | apply Kd.R_drewN | apply Kd.R_drew)); exact HO_179002.out) hb); have n3_ := Aside0.mk (blk_below (g := gb159) (o := .cells #[.int .i64 x160000_2, .int .i64 x160001_2, .slice Ao37 x160002_2.length co37] 24 (0, 0)) (by (with_reducible repeat (first | refine blk_drewN ?_ _ | refine blk_drew ?_ | refine blk_alloc ?_ _)); exact BK159.out) hb); have n4_ := Aside0.mk (blk_below (g := gb166) (o := .cells #[.int .i64 t161, .int .i64 t162, .slice Ao30 t163.length co30] 24 (0, 0)) (by (with_reducible repeat (first | refine blk_drewN ?_ _ | refine blk_drew ?_ | refine blk_alloc ?_ _)); exact BK166.out) hb); have n5_ := Aside0.mk (blk_below (g := gb178) (o := .cells #[.int .i64 t172, .int .i64 t173, .slice Ao45 t174.length co45] 24 (0, 0)) (by (with_reducible repeat (first | refine blk_drewN ?_ _ | refine blk_drew ?_ | refine blk_alloc ?_ _)); exact BK178.out) hb); have n6_ := Aside0.mk (below_step (by repeat (first | (with_reducible first | exact HB.out | apply below_alloc | apply pw_below_drewN | apply below_drew1 | refine below_set ?_ GE159.out | refine below_set ?_ GE166.out | refine below_set ?_ GE178.out) | exact HB.out)) hb); clear HO_160002; clear HO_167002; clear HO_179002; clear BK159; clear BK166; clear BK178; clear HB; have HO_160002 := n0_; have HO_167002 := n1_; have HO_179002 := n2_; have BK159 := n3_; have BK166 := n4_; have BK178 := n5_; have HB := n6_; clear n0_ n1_ n2_ n3_ n4_ n5_ n6_; (try clear hb); (try clear hb2); (try clear hk); (try clear hi); have hcz115_0 : w114.cell? ⟨gb159, 0, none⟩ = some (.int .i64 x160000_2) := (blk_cell BK159.out 0).trans rfl; have hcz115_1 : w114.cell? ⟨gb159, 1, none⟩ = some (.int .i64 x160001_2) := (blk_cell BK159.out 1).trans rfl; have hcz115_2 : w114.cell? ⟨gb159, 2, none⟩ = some (.slice Ao37 x160002_2.length co37) := (blk_cell BK159.out 2).trans rfl; have hfz115_0 := blk_frozen BK159.out 0; have hfz115_1 := blk_frozen BK159.out 1; have hfz115_2 := blk_frozen BK159.out 2; have hcz116_0 : w114.cell? ⟨gb178, 0, none⟩ = some (.int .i64 t172) := (blk_cell BK178.out 0).trans rfl; have hcz116_1 : w114.cell? ⟨gb178, 1, none⟩ = some (.int .i64 t173) := (blk_cell BK178.out 1).trans rfl; have hcz116_2 : w114.cell? ⟨gb178, 2, none⟩ = some (.slice Ao45 t174.length co45) := (blk_cell BK178.out 2).trans rfl; have hfz116_0 := blk_frozen BK178.out 0; have hfz116_1 := blk_frozen BK178.out 1; have hfz116_2 := blk_frozen BK178.out 2) | (go_at_call 10; (with_reducible refine (table_Newer.calls x160000_2 x160001_2 _ _ x160002_2 t172 t173 _ _ t174 false _ ?side1 ?side2 ?side3 ?side4 A73.out).mono ?_); (case side1 => repeat (first | exact (Kd.R_reads' HO_160002.out).2.2 | (with_reducible refine Kd.C_alloc ?_ _) | (with_reducible refine Kd.C_drewN ?_ _) | (with_reducible refine Kd.C_drew ?_))); (case side2 => exact (Kd.R_reads' HO_160002.out).2.1); (case side3 => repeat (first | exact (Kd.R_reads' HO_179002.out).2.2 | (with_reducible refine Kd.C_alloc ?_ _) | (with_reducible refine Kd.C_drewN ?_ _) | (with_reducible refine Kd.C_drew ?_))); (case side4 => exact (Kd.R_reads' HO_179002.out).2.1); rintro e w117 ⟨rfl, hb⟩; have n0_ := Aside0.mk (Kd.R_below (by (with_reducible repeat (first | apply Kd.R_alloc | apply Kd.R_drewN | apply Kd.R_drew)); exact HO_160002.out) hb); have n1_ := Aside0.mk (Kd.R_below (by (with_reducible repeat (first | apply Kd.R_alloc | apply Kd.R_drewN | apply Kd.R_drew)); exact HO_167002.out) hb); have n2_ := Aside0.mk (Kd.R_below (by (with_reducible repeat (first | apply Kd.R_alloc | apply Kd.R_drewN | apply Kd.R_drew)); exact HO_179002.out) hb); have n3_ := Aside0.mk (blk_below (g := gb159) (o := .cells #[.int .i64 x160000_2, .int .i64 x160001_2, .slice Ao37 x160002_2.length co37] 24 (0, 0)) (by (with_reducible repeat (first | refine blk_drewN ?_ _ | refine blk_drew ?_ | refine blk_alloc ?_ _)); exact BK159.out) hb); have n4_ := Aside0.mk (blk_below (g := gb166) (o := .cells #[.int .i64 t161, .int .i64 t162, .slice Ao30 t163.length co30] 24 (0, 0)) (by (with_reducible repeat (first | refine blk_drewN ?_ _ | refine blk_drew ?_ | refine blk_alloc ?_ _)); exact BK166.out) hb); have n5_ := Aside0.mk (blk_below (g := gb178) (o := .cells #[.int .i64 t172, .int .i64 t173, .slice Ao45 t174.length co45] 24 (0, 0)) (by (with_reducible repeat (first | refine blk_drewN ?_ _ | refine blk_drew ?_ | refine blk_alloc ?_ _)); exact BK178.out) hb); have n6_ := Aside0.mk (below_step (by repeat (first | (with_reducible first | exact HB.out | apply below_alloc | apply pw_below_drewN | apply below_drew1 | refine below_set ?_ GE159.out | refine below_set ?_ GE166.out | refine below_set ?_ GE178.out) | exact HB.out)) hb); clear HO_160002; clear HO_167002; clear HO_179002; clear BK159; clear BK166; clear BK178; clear HB; have HO_160002 := n0_; have HO_167002 := n1_; have HO_179002 := n2_; have BK159 := n3_; have BK166 := n4_; have BK178 := n5_; have HB := n6_; clear n0_ n1_ n2_ n3_ n4_ n5_ n6_; (try clear hb); (try clear hb2); (try clear hk); (try clear hi); have hcz118_0 : w117.cell? ⟨gb178, 0, none⟩ = some (.int .i64 t172) := (blk_cell BK178.out 0).trans rfl; have hcz118_1 : w117.cell? ⟨gb178, 1, none⟩ = some (.int .i64 t173) := (blk_cell BK178.out 1).trans rfl; have hcz118_2 : w117.cell? ⟨gb178, 2, none⟩ = some (.slice Ao45 t174.length co45) := (blk_cell BK178.out 2).trans rfl; have hfz118_0 := blk_frozen BK178.out 0; have hfz118_1 := blk_frozen BK178.out 1; have hfz118_2 := blk_frozen BK178.out 2; have hcz119_0 : w117.cell? ⟨gb166, 0, none⟩ = some (.int .i64 t161) := (blk_cell BK166.out 0).trans rfl; have hcz119_1 : w117.cell? ⟨gb166, 1, none⟩ = some (.int .i64 t162) := (blk_cell BK166.out 1).trans rfl; have hcz119_2 : w117.cell? ⟨gb166, 2, none⟩ = some (.slice Ao30 t163.length co30) := (blk_cell BK166.out 2).trans rfl; have hfz119_0 := blk_frozen BK166.out 0; have hfz119_1 := blk_frozen BK166.out 1; have hfz119_2 := blk_frozen BK166.out 2) | (go_at_call 10; (with_reducible refine (table_Newer.calls t172 t173 _ _ t174 t161 t162 _ _ t163 true _ ?side1 ?side2 ?side3 ?side4 A86.out).mono ?_); (case side1 => repeat (first | exact (Kd.R_reads' HO_179002.out).2.2 | (with_reducible refine Kd.C_alloc ?_ _) | (with_reducible refine Kd.C_drewN ?_ _) | (with_reducible refine Kd.C_drew ?_))); (case side2 => exact (Kd.R_reads' HO_179002.out).2.1); (case side3 => repeat (first | exact (Kd.R_reads' HO_167002.out).2.2 | (with_reducible refine Kd.C_alloc ?_ _) | (with_reducible refine Kd.C_drewN ?_ _) | (with_reducible refine Kd.C_drew ?_))); (case side4 => exact (Kd.R_reads' HO_167002.out).2.1); rintro e w120 ⟨rfl, hb⟩; have n0_ := Aside0.mk (Kd.R_below (by (with_reducible repeat (first | apply Kd.R_alloc | apply Kd.R_drewN | apply Kd.R_drew)); exact HO_160002.out) hb); have n1_ := Aside0.mk (Kd.R_below (by (with_reducible repeat (first | apply Kd.R_alloc | apply Kd.R_drewN | apply Kd.R_drew)); exact HO_167002.out) hb); have n2_ := Aside0.mk (Kd.R_below (by (with_reducible repeat (first | apply Kd.R_alloc | apply Kd.R_drewN | apply Kd.R_drew)); exact HO_179002.out) hb); have n3_ := Aside0.mk (blk_below (g := gb159) (o := .cells #[.int .i64 x160000_2, .int .i64 x160001_2, .slice Ao37 x160002_2.length co37] 24 (0, 0)) (by (with_reducible repeat (first | refine blk_drewN ?_ _ | refine blk_drew ?_ | refine blk_alloc ?_ _)); exact BK159.out) hb); have n4_ := Aside0.mk (blk_below (g := gb166) (o := .cells #[.int .i64 t161, .int .i64 t162, .slice Ao30 t163.length co30] 24 (0, 0)) (by (with_reducible repeat (first | refine blk_drewN ?_ _ | refine blk_drew ?_ | refine blk_alloc ?_ _)); exact BK166.out) hb); have n5_ := Aside0.mk (blk_below (g := gb178) (o := .cells #[.int .i64 t172, .int .i64 t173, .slice Ao45 t174.length co45] 24 (0, 0)) (by (with_reducible repeat (first | refine blk_drewN ?_ _ | refine blk_drew ?_ | refine blk_alloc ?_ _)); exact BK178.out) hb); have n6_ := Aside0.mk (below_step (by repeat (first | (with_reducible first | exact HB.out | apply below_alloc | apply pw_below_drewN | apply below_drew1 | refine below_set ?_ GE159.out | refine below_set ?_ GE166.out | refine below_set ?_ GE178.out) | exact HB.out)) hb); clear HO_160002; clear HO_167002; clear HO_179002; clear BK159; clear BK166; clear BK178; clear HB; have HO_160002 := n0_; have HO_167002 := n1_; have HO_179002 := n2_; have BK159 := n3_; have BK166 := n4_; have BK178 := n5_; have HB := n6_; clear n0_ n1_ n2_ n3_ n4_ n5_ n6_; (try clear hb); (try clear hb2); (try clear hk); (try clear hi); have hcz121_0 : w120.cell? ⟨gb178, 0, none⟩ = some (.int .i64 t172) := (blk_cell BK178.out 0).trans rfl; have hcz121_1 : w120.cell? ⟨gb178, 1, none⟩ = some (.int .i64 t173) := (blk_cell BK178.out 1).trans rfl; have hcz121_2 : w120.cell? ⟨gb178, 2, none⟩ = some (.slice Ao45 t174.length co45) := (blk_cell BK178.out 2).trans rfl; have hfz121_0 := blk_frozen BK178.out 0; have hfz121_1 := blk_frozen BK178.out 1; have hfz121_2 := blk_frozen BK178.out 2; have hcz122_0 : w120.cell? ⟨gb159, 0, none⟩ = some (.int .i64 x160000_2) := (blk_cell BK159.out 0).trans rfl; have hcz122_1 : w120.cell? ⟨gb159, 1, none⟩ = some (.int .i64 x160001_2) := (blk_cell BK159.out 1).trans rfl; have hcz122_2 : w120.cell? ⟨gb159, 2, none⟩ = some (.slice Ao37 x160002_2.length co37) := (blk_cell BK159.out 2).trans rfl; have hfz122_0 := blk_frozen BK159.out 0; have hfz122_1 := blk_frozen BK159.out 1; have hfz122_2 := blk_frozen BK159.out 2) | (go_at_call 21; (with_reducible refine (table_Same.calls kj57 t172 t173 _ _ t174 x160000_2 x160001_2 _ _ x160002_2 false _ ?side1 ?side2 ?side3 ?side4 A88.out).mono ?_); (case side1 => repeat (first | exact (Kd.R_reads' HO_179002.out).2.2 | (with_reducible refine Kd.C_alloc ?_ _) | (with_reducible refine Kd.C_drewN ?_ _) | (with_reducible refine Kd.C_drew ?_))); (case side2 => exact (Kd.R_reads' HO_179002.out).2.1); (case side3 => repeat (first | exact (Kd.R_reads' HO_160002.out).2.2 | (with_reducible refine Kd.C_alloc ?_ _) | (with_reducible refine Kd.C_drewN ?_ _) | (with_reducible refine Kd.C_drew ?_))); (case side4 => exact (Kd.R_reads' HO_160002.out).2.1); rintro e w123 ⟨rfl, hb⟩; have n0_ := Aside0.mk (Kd.R_below (by (with_reducible repeat (first | apply Kd.R_alloc | apply Kd.R_drewN | apply Kd.R_drew)); exact HO_160002.out) hb); have n1_ := Aside0.mk (Kd.R_below (by (with_reducible repeat (first | apply Kd.R_alloc | apply Kd.R_drewN | apply Kd.R_drew)); exact HO_167002.out) hb); have n2_ := Aside0.mk (Kd.R_below (by (with_reducible repeat (first | apply Kd.R_alloc | apply Kd.R_drewN | apply Kd.R_drew)); exact HO_179002.out) hb); have n3_ := Aside0.mk (blk_below (g := gb159) (o := .cells #[.int .i64 x160000_2, .int .i64 x160001_2, .slice Ao37 x160002_2.length co37] 24 (0, 0)) (by (with_reducible repeat (first | refine blk_drewN ?_ _ | refine blk_drew ?_ | refine blk_alloc ?_ _)); exact BK159.out) hb); have n4_ := Aside0.mk (blk_below (g := gb166) (o := .cells #[.int .i64 t161, .int .i64 t162, .slice Ao30 t163.length co30] 24 (0, 0)) (by (with_reducible repeat (first | refine blk_drewN ?_ _ | refine blk_drew ?_ | refine blk_alloc ?_ _)); exact BK166.out) hb); have n5_ := Aside0.mk (blk_below (g := gb178) (o := .cells #[.int .i64 t172, .int .i64 t173, .slice Ao45 t174.length co45] 24 (0, 0)) (by (with_reducible repeat (first | refine blk_drewN ?_ _ | refine blk_drew ?_ | refine blk_alloc ?_ _)); exact BK178.out) hb); have n6_ := Aside0.mk (below_step (by repeat (first | (with_reducible first | exact HB.out | apply below_alloc | apply pw_below_drewN | apply below_drew1 | refine below_set ?_ GE159.out | refine below_set ?_ GE166.out | refine below_set ?_ GE178.out) | exact HB.out)) hb); clear HO_160002; clear HO_167002; clear HO_179002; clear BK159; clear BK166; clear BK178; clear HB; have HO_160002 := n0_; have HO_167002 := n1_; have HO_179002 := n2_; have BK159 := n3_; have BK166 := n4_; have BK178 := n5_; have HB := n6_; clear n0_ n1_ n2_ n3_ n4_ n5_ n6_; (try clear hb); (try clear hb2); (try clear hk); (try clear hi); have hcz124_0 : w123.cell? ⟨gb178, 0, none⟩ = some (.int .i64 t172) := (blk_cell BK178.out 0).trans rfl; have hcz124_1 : w123.cell? ⟨gb178, 1, none⟩ = some (.int .i64 t173) := (blk_cell BK178.out 1).trans rfl; have hcz124_2 : w123.cell? ⟨gb178, 2, none⟩ = some (.slice Ao45 t174.length co45) := (blk_cell BK178.out 2).trans rfl; have hfz124_0 := blk_frozen BK178.out 0; have hfz124_1 := blk_frozen BK178.out 1; have hfz124_2 := blk_frozen BK178.out 2; have hcz125_0 : w123.cell? ⟨gb159, 0, none⟩ = some (.int .i64 x160000_2) := (blk_cell BK159.out 0).trans rfl; have hcz125_1 : w123.cell? ⟨gb159, 1, none⟩ = some (.int .i64 x160001_2) := (blk_cell BK159.out 1).trans rfl; have hcz125_2 : w123.cell? ⟨gb159, 2, none⟩ = some (.slice Ao37 x160002_2.length co37) := (blk_cell BK159.out 2).trans rfl; have hfz125_0 := blk_frozen BK159.out 0; have hfz125_1 := blk_frozen BK159.out 1; have hfz125_2 := blk_frozen BK159.out 2))
             go_meet
             case rel => exact ⟨_, ((t172 != (wrap64 (x160000_2 + 1)))), (by first | rfl | (simp; done) | (simp [*]; done) | (congr 1; simp only [eq_iff_iff, iff_true, ByteArray.size_append] at *; unfold wrap64; omega) | (congr 2; simp only [eq_iff_iff, iff_true, ByteArray.size_append] at *; unfold wrap64; omega)), H', ⟨by have := HJ8.out; have := HK2.out; have := HJ34.out; have := HJ57.out; first | omega | exact Nat.le_refl _⟩, ⟨by (with_reducible repeat (first | apply Kd.R_alloc | apply Kd.R_drewN | apply Kd.R_drew)); exact HO_160002.out⟩, ⟨by (with_reducible repeat (first | apply Kd.R_alloc | apply Kd.R_drewN | apply Kd.R_drew)); exact HO_167002.out⟩, ⟨by (with_reducible repeat (first | apply Kd.R_alloc | apply Kd.R_drewN | apply Kd.R_drew)); exact HO_179002.out⟩, ⟨by (with_reducible repeat (first | refine blk_drewN ?_ _ | refine blk_drew ?_ | refine blk_alloc ?_ _)); exact BK159.out⟩, ⟨by (with_reducible repeat (first | refine blk_drewN ?_ _ | refine blk_drew ?_ | refine blk_alloc ?_ _)); exact BK166.out⟩, ⟨by (with_reducible repeat (first | refine blk_drewN ?_ _ | refine blk_drew ?_ | refine blk_alloc ?_ _)); exact BK178.out⟩, ⟨by repeat (first | (with_reducible first | exact HB.out | apply below_alloc | apply pw_below_drewN | apply below_drew1 | refine below_set ?_ GE159.out | refine below_set ?_ GE166.out | refine below_set ?_ GE178.out) | exact HB.out)⟩⟩
           replace c87 := Bool.eq_false_iff.mpr c87
           subst c87
           have H1 : (meterlaw17_TableMoves.j4 kj57 l2 x10_2 true x160000_2 x160001_2 x160002_2 t161 t162 t163 t172 t173 t174) = some r := by rw [if_neg (show ¬ (false = true) by decide)] at H; exact H
           clear H
           have H := H1
           clear H1
           have H' := Aside0.mk H
           clear H
           have hnb126 := NB178_159.out
           have hnc126 := NB159_178.out
           have hnb127 := NB178_166.out
           have hnc127 := NB166_178.out
           have hcz128_0 : wc.cell? ⟨gb178, 0, none⟩ = some (.int .i64 t172) := (blk_cell BK178.out 0).trans rfl
           have hcz128_1 : wc.cell? ⟨gb178, 1, none⟩ = some (.int .i64 t173) := (blk_cell BK178.out 1).trans rfl
           have hcz128_2 : wc.cell? ⟨gb178, 2, none⟩ = some (.slice Ao45 t174.length co45) := (blk_cell BK178.out 2).trans rfl
           have hfz128_0 := blk_frozen BK178.out 0
           have hfz128_1 := blk_frozen BK178.out 1
           have hfz128_2 := blk_frozen BK178.out 2
           go_wp2_with (first | ((with_reducible refine gate_callee (f := 11) rfl ?_); refine goesL_ (some 134) rfl rfl Try.func11 (by kernel_rfl) rfl #[.agg #[.int .i64 t172, .int .i64 t173, .slice Ao45 t174.length co45]] rfl (by (try simp only [List.map_toArray, List.map_cons, List.map_nil]); first | done | rfl | (simp only [List.length_drop, List.length_take]; rfl)) ?_; (with_reducible refine (table_Right.calls t172 t173 _ _ t174 true _ ?side1 ?side2 A69.out).mono ?_); (case side1 => repeat (first | exact (Kd.R_reads' HO_179002.out).2.2 | (with_reducible refine Kd.C_alloc ?_ _) | (with_reducible refine Kd.C_drewN ?_ _) | (with_reducible refine Kd.C_drew ?_))); (case side2 => exact (Kd.R_reads' HO_179002.out).2.1); rintro e w129 ⟨rfl, hb⟩; refine ⟨_, rfl, ?_⟩; have n0_ := Aside0.mk (Kd.R_below (by (with_reducible repeat (first | apply Kd.R_alloc | apply Kd.R_drewN | apply Kd.R_drew)); exact HO_160002.out) hb); have n1_ := Aside0.mk (Kd.R_below (by (with_reducible repeat (first | apply Kd.R_alloc | apply Kd.R_drewN | apply Kd.R_drew)); exact HO_167002.out) hb); have n2_ := Aside0.mk (Kd.R_below (by (with_reducible repeat (first | apply Kd.R_alloc | apply Kd.R_drewN | apply Kd.R_drew)); exact HO_179002.out) hb); have n3_ := Aside0.mk (blk_below (g := gb159) (o := .cells #[.int .i64 x160000_2, .int .i64 x160001_2, .slice Ao37 x160002_2.length co37] 24 (0, 0)) (by (with_reducible repeat (first | refine blk_drewN ?_ _ | refine blk_drew ?_ | refine blk_alloc ?_ _)); exact BK159.out) hb); have n4_ := Aside0.mk (blk_below (g := gb166) (o := .cells #[.int .i64 t161, .int .i64 t162, .slice Ao30 t163.length co30] 24 (0, 0)) (by (with_reducible repeat (first | refine blk_drewN ?_ _ | refine blk_drew ?_ | refine blk_alloc ?_ _)); exact BK166.out) hb); have n5_ := Aside0.mk (blk_below (g := gb178) (o := .cells #[.int .i64 t172, .int .i64 t173, .slice Ao45 t174.length co45] 24 (0, 0)) (by (with_reducible repeat (first | refine blk_drewN ?_ _ | refine blk_drew ?_ | refine blk_alloc ?_ _)); exact BK178.out) hb); have n6_ := Aside0.mk (below_step (by repeat (first | (with_reducible first | exact HB.out | apply below_alloc | apply pw_below_drewN | apply below_drew1 | refine below_set ?_ GE159.out | refine below_set ?_ GE166.out | refine below_set ?_ GE178.out) | exact HB.out)) hb); clear HO_160002; clear HO_167002; clear HO_179002; clear BK159; clear BK166; clear BK178; clear HB; have HO_160002 := n0_; have HO_167002 := n1_; have HO_179002 := n2_; have BK159 := n3_; have BK166 := n4_; have BK178 := n5_; have HB := n6_; clear n0_ n1_ n2_ n3_ n4_ n5_ n6_; (try clear hb); (try clear hb2); (try clear hk); (try clear hi); have hcz130_0 : w129.cell? ⟨gb178, 0, none⟩ = some (.int .i64 t172) := (blk_cell BK178.out 0).trans rfl; have hcz130_1 : w129.cell? ⟨gb178, 1, none⟩ = some (.int .i64 t173) := (blk_cell BK178.out 1).trans rfl; have hcz130_2 : w129.cell? ⟨gb178, 2, none⟩ = some (.slice Ao45 t174.length co45) := (blk_cell BK178.out 2).trans rfl; have hfz130_0 := blk_frozen BK178.out 0; have hfz130_1 := blk_frozen BK178.out 1; have hfz130_2 := blk_frozen BK178.out 2; have hnb131 := NB159_166.out; have hnc131 := NB166_159.out; have hcz132_0 : w129.cell? ⟨gb159, 0, none⟩ = some (.int .i64 x160000_2) := (blk_cell BK159.out 0).trans rfl; have hcz132_1 : w129.cell? ⟨gb159, 1, none⟩ = some (.int .i64 x160001_2) := (blk_cell BK159.out 1).trans rfl; have hcz132_2 : w129.cell? ⟨gb159, 2, none⟩ = some (.slice Ao37 x160002_2.length co37) := (blk_cell BK159.out 2).trans rfl; have hfz132_0 := blk_frozen BK159.out 0; have hfz132_1 := blk_frozen BK159.out 1; have hfz132_2 := blk_frozen BK159.out 2) | (go_at_call 10; (with_reducible refine (table_Newer.calls t172 t173 _ _ t174 x160000_2 x160001_2 _ _ x160002_2 true _ ?side1 ?side2 ?side3 ?side4 A71.out).mono ?_); (case side1 => repeat (first | exact (Kd.R_reads' HO_179002.out).2.2 | (with_reducible refine Kd.C_alloc ?_ _) | (with_reducible refine Kd.C_drewN ?_ _) | (with_reducible refine Kd.C_drew ?_))); (case side2 => exact (Kd.R_reads' HO_179002.out).2.1); (case side3 => repeat (first | exact (Kd.R_reads' HO_160002.out).2.2 | (with_reducible refine Kd.C_alloc ?_ _) | (with_reducible refine Kd.C_drewN ?_ _) | (with_reducible refine Kd.C_drew ?_))); (case side4 => exact (Kd.R_reads' HO_160002.out).2.1); rintro e w133 ⟨rfl, hb⟩; have n0_ := Aside0.mk (Kd.R_below (by (with_reducible repeat (first | apply Kd.R_alloc | apply Kd.R_drewN | apply Kd.R_drew)); exact HO_160002.out) hb); have n1_ := Aside0.mk (Kd.R_below (by (with_reducible repeat (first | apply Kd.R_alloc | apply Kd.R_drewN | apply Kd.R_drew)); exact HO_167002.out) hb); have n2_ := Aside0.mk (Kd.R_below (by (with_reducible repeat (first | apply Kd.R_alloc | apply Kd.R_drewN | apply Kd.R_drew)); exact HO_179002.out) hb); have n3_ := Aside0.mk (blk_below (g := gb159) (o := .cells #[.int .i64 x160000_2, .int .i64 x160001_2, .slice Ao37 x160002_2.length co37] 24 (0, 0)) (by (with_reducible repeat (first | refine blk_drewN ?_ _ | refine blk_drew ?_ | refine blk_alloc ?_ _)); exact BK159.out) hb); have n4_ := Aside0.mk (blk_below (g := gb166) (o := .cells #[.int .i64 t161, .int .i64 t162, .slice Ao30 t163.length co30] 24 (0, 0)) (by (with_reducible repeat (first | refine blk_drewN ?_ _ | refine blk_drew ?_ | refine blk_alloc ?_ _)); exact BK166.out) hb); have n5_ := Aside0.mk (blk_below (g := gb178) (o := .cells #[.int .i64 t172, .int .i64 t173, .slice Ao45 t174.length co45] 24 (0, 0)) (by (with_reducible repeat (first | refine blk_drewN ?_ _ | refine blk_drew ?_ | refine blk_alloc ?_ _)); exact BK178.out) hb); have n6_ := Aside0.mk (below_step (by repeat (first | (with_reducible first | exact HB.out | apply below_alloc | apply pw_below_drewN | apply below_drew1 | refine below_set ?_ GE159.out | refine below_set ?_ GE166.out | refine below_set ?_ GE178.out) | exact HB.out)) hb); clear HO_160002; clear HO_167002; clear HO_179002; clear BK159; clear BK166; clear BK178; clear HB; have HO_160002 := n0_; have HO_167002 := n1_; have HO_179002 := n2_; have BK159 := n3_; have BK166 := n4_; have BK178 := n5_; have HB := n6_; clear n0_ n1_ n2_ n3_ n4_ n5_ n6_; (try clear hb); (try clear hb2); (try clear hk); (try clear hi); have hcz134_0 : w133.cell? ⟨gb159, 0, none⟩ = some (.int .i64 x160000_2) := (blk_cell BK159.out 0).trans rfl; have hcz134_1 : w133.cell? ⟨gb159, 1, none⟩ = some (.int .i64 x160001_2) := (blk_cell BK159.out 1).trans rfl; have hcz134_2 : w133.cell? ⟨gb159, 2, none⟩ = some (.slice Ao37 x160002_2.length co37) := (blk_cell BK159.out 2).trans rfl; have hfz134_0 := blk_frozen BK159.out 0; have hfz134_1 := blk_frozen BK159.out 1; have hfz134_2 := blk_frozen BK159.out 2; have hcz135_0 : w133.cell? ⟨gb178, 0, none⟩ = some (.int .i64 t172) := (blk_cell BK178.out 0).trans rfl; have hcz135_1 : w133.cell? ⟨gb178, 1, none⟩ = some (.int .i64 t173) := (blk_cell BK178.out 1).trans rfl; have hcz135_2 : w133.cell? ⟨gb178, 2, none⟩ = some (.slice Ao45 t174.length co45) := (blk_cell BK178.out 2).trans rfl; have hfz135_0 := blk_frozen BK178.out 0; have hfz135_1 := blk_frozen BK178.out 1; have hfz135_2 := blk_frozen BK178.out 2) | (go_at_call 10; (with_reducible refine (table_Newer.calls x160000_2 x160001_2 _ _ x160002_2 t172 t173 _ _ t174 false _ ?side1 ?side2 ?side3 ?side4 A73.out).mono ?_); (case side1 => repeat (first | exact (Kd.R_reads' HO_160002.out).2.2 | (with_reducible refine Kd.C_alloc ?_ _) | (with_reducible refine Kd.C_drewN ?_ _) | (with_reducible refine Kd.C_drew ?_))); (case side2 => exact (Kd.R_reads' HO_160002.out).2.1); (case side3 => repeat (first | exact (Kd.R_reads' HO_179002.out).2.2 | (with_reducible refine Kd.C_alloc ?_ _) | (with_reducible refine Kd.C_drewN ?_ _) | (with_reducible refine Kd.C_drew ?_))); (case side4 => exact (Kd.R_reads' HO_179002.out).2.1); rintro e w136 ⟨rfl, hb⟩; have n0_ := Aside0.mk (Kd.R_below (by (with_reducible repeat (first | apply Kd.R_alloc | apply Kd.R_drewN | apply Kd.R_drew)); exact HO_160002.out) hb); have n1_ := Aside0.mk (Kd.R_below (by (with_reducible repeat (first | apply Kd.R_alloc | apply Kd.R_drewN | apply Kd.R_drew)); exact HO_167002.out) hb); have n2_ := Aside0.mk (Kd.R_below (by (with_reducible repeat (first | apply Kd.R_alloc | apply Kd.R_drewN | apply Kd.R_drew)); exact HO_179002.out) hb); have n3_ := Aside0.mk (blk_below (g := gb159) (o := .cells #[.int .i64 x160000_2, .int .i64 x160001_2, .slice Ao37 x160002_2.length co37] 24 (0, 0)) (by (with_reducible repeat (first | refine blk_drewN ?_ _ | refine blk_drew ?_ | refine blk_alloc ?_ _)); exact BK159.out) hb); have n4_ := Aside0.mk (blk_below (g := gb166) (o := .cells #[.int .i64 t161, .int .i64 t162, .slice Ao30 t163.length co30] 24 (0, 0)) (by (with_reducible repeat (first | refine blk_drewN ?_ _ | refine blk_drew ?_ | refine blk_alloc ?_ _)); exact BK166.out) hb); have n5_ := Aside0.mk (blk_below (g := gb178) (o := .cells #[.int .i64 t172, .int .i64 t173, .slice Ao45 t174.length co45] 24 (0, 0)) (by (with_reducible repeat (first | refine blk_drewN ?_ _ | refine blk_drew ?_ | refine blk_alloc ?_ _)); exact BK178.out) hb); have n6_ := Aside0.mk (below_step (by repeat (first | (with_reducible first | exact HB.out | apply below_alloc | apply pw_below_drewN | apply below_drew1 | refine below_set ?_ GE159.out | refine below_set ?_ GE166.out | refine below_set ?_ GE178.out) | exact HB.out)) hb); clear HO_160002; clear HO_167002; clear HO_179002; clear BK159; clear BK166; clear BK178; clear HB; have HO_160002 := n0_; have HO_167002 := n1_; have HO_179002 := n2_; have BK159 := n3_; have BK166 := n4_; have BK178 := n5_; have HB := n6_; clear n0_ n1_ n2_ n3_ n4_ n5_ n6_; (try clear hb); (try clear hb2); (try clear hk); (try clear hi); have hcz137_0 : w136.cell? ⟨gb178, 0, none⟩ = some (.int .i64 t172) := (blk_cell BK178.out 0).trans rfl; have hcz137_1 : w136.cell? ⟨gb178, 1, none⟩ = some (.int .i64 t173) := (blk_cell BK178.out 1).trans rfl; have hcz137_2 : w136.cell? ⟨gb178, 2, none⟩ = some (.slice Ao45 t174.length co45) := (blk_cell BK178.out 2).trans rfl; have hfz137_0 := blk_frozen BK178.out 0; have hfz137_1 := blk_frozen BK178.out 1; have hfz137_2 := blk_frozen BK178.out 2; have hcz138_0 : w136.cell? ⟨gb166, 0, none⟩ = some (.int .i64 t161) := (blk_cell BK166.out 0).trans rfl; have hcz138_1 : w136.cell? ⟨gb166, 1, none⟩ = some (.int .i64 t162) := (blk_cell BK166.out 1).trans rfl; have hcz138_2 : w136.cell? ⟨gb166, 2, none⟩ = some (.slice Ao30 t163.length co30) := (blk_cell BK166.out 2).trans rfl; have hfz138_0 := blk_frozen BK166.out 0; have hfz138_1 := blk_frozen BK166.out 1; have hfz138_2 := blk_frozen BK166.out 2) | (go_at_call 10; (with_reducible refine (table_Newer.calls t172 t173 _ _ t174 t161 t162 _ _ t163 false _ ?side1 ?side2 ?side3 ?side4 A86.out).mono ?_); (case side1 => repeat (first | exact (Kd.R_reads' HO_179002.out).2.2 | (with_reducible refine Kd.C_alloc ?_ _) | (with_reducible refine Kd.C_drewN ?_ _) | (with_reducible refine Kd.C_drew ?_))); (case side2 => exact (Kd.R_reads' HO_179002.out).2.1); (case side3 => repeat (first | exact (Kd.R_reads' HO_167002.out).2.2 | (with_reducible refine Kd.C_alloc ?_ _) | (with_reducible refine Kd.C_drewN ?_ _) | (with_reducible refine Kd.C_drew ?_))); (case side4 => exact (Kd.R_reads' HO_167002.out).2.1); rintro e w139 ⟨rfl, hb⟩; have n0_ := Aside0.mk (Kd.R_below (by (with_reducible repeat (first | apply Kd.R_alloc | apply Kd.R_drewN | apply Kd.R_drew)); exact HO_160002.out) hb); have n1_ := Aside0.mk (Kd.R_below (by (with_reducible repeat (first | apply Kd.R_alloc | apply Kd.R_drewN | apply Kd.R_drew)); exact HO_167002.out) hb); have n2_ := Aside0.mk (Kd.R_below (by (with_reducible repeat (first | apply Kd.R_alloc | apply Kd.R_drewN | apply Kd.R_drew)); exact HO_179002.out) hb); have n3_ := Aside0.mk (blk_below (g := gb159) (o := .cells #[.int .i64 x160000_2, .int .i64 x160001_2, .slice Ao37 x160002_2.length co37] 24 (0, 0)) (by (with_reducible repeat (first | refine blk_drewN ?_ _ | refine blk_drew ?_ | refine blk_alloc ?_ _)); exact BK159.out) hb); have n4_ := Aside0.mk (blk_below (g := gb166) (o := .cells #[.int .i64 t161, .int .i64 t162, .slice Ao30 t163.length co30] 24 (0, 0)) (by (with_reducible repeat (first | refine blk_drewN ?_ _ | refine blk_drew ?_ | refine blk_alloc ?_ _)); exact BK166.out) hb); have n5_ := Aside0.mk (blk_below (g := gb178) (o := .cells #[.int .i64 t172, .int .i64 t173, .slice Ao45 t174.length co45] 24 (0, 0)) (by (with_reducible repeat (first | refine blk_drewN ?_ _ | refine blk_drew ?_ | refine blk_alloc ?_ _)); exact BK178.out) hb); have n6_ := Aside0.mk (below_step (by repeat (first | (with_reducible first | exact HB.out | apply below_alloc | apply pw_below_drewN | apply below_drew1 | refine below_set ?_ GE159.out | refine below_set ?_ GE166.out | refine below_set ?_ GE178.out) | exact HB.out)) hb); clear HO_160002; clear HO_167002; clear HO_179002; clear BK159; clear BK166; clear BK178; clear HB; have HO_160002 := n0_; have HO_167002 := n1_; have HO_179002 := n2_; have BK159 := n3_; have BK166 := n4_; have BK178 := n5_; have HB := n6_; clear n0_ n1_ n2_ n3_ n4_ n5_ n6_; (try clear hb); (try clear hb2); (try clear hk); (try clear hi)))
           go_meet
           case rel => exact ⟨_, (true), (by first | rfl | (simp; done) | (simp [*]; done) | (congr 1; simp only [eq_iff_iff, iff_true, ByteArray.size_append] at *; unfold wrap64; omega) | (congr 2; simp only [eq_iff_iff, iff_true, ByteArray.size_append] at *; unfold wrap64; omega)), H', ⟨by have := HJ8.out; have := HK2.out; have := HJ34.out; have := HJ57.out; first | omega | exact Nat.le_refl _⟩, ⟨by (with_reducible repeat (first | apply Kd.R_alloc | apply Kd.R_drewN | apply Kd.R_drew)); exact HO_160002.out⟩, ⟨by (with_reducible repeat (first | apply Kd.R_alloc | apply Kd.R_drewN | apply Kd.R_drew)); exact HO_167002.out⟩, ⟨by (with_reducible repeat (first | apply Kd.R_alloc | apply Kd.R_drewN | apply Kd.R_drew)); exact HO_179002.out⟩, ⟨by (with_reducible repeat (first | refine blk_drewN ?_ _ | refine blk_drew ?_ | refine blk_alloc ?_ _)); exact BK159.out⟩, ⟨by (with_reducible repeat (first | refine blk_drewN ?_ _ | refine blk_drew ?_ | refine blk_alloc ?_ _)); exact BK166.out⟩, ⟨by (with_reducible repeat (first | refine blk_drewN ?_ _ | refine blk_drew ?_ | refine blk_alloc ?_ _)); exact BK178.out⟩, ⟨by repeat (first | (with_reducible first | exact HB.out | apply below_alloc | apply pw_below_drewN | apply below_drew1 | refine below_set ?_ GE159.out | refine below_set ?_ GE166.out | refine below_set ?_ GE178.out) | exact HB.out)⟩⟩
         replace c72 := Bool.eq_false_iff.mpr c72
         subst c72
         have H1 : (meterlaw17_TableMoves.j4 kj57 l2 x10_2 true x160000_2 x160001_2 x160002_2 t161 t162 t163 t172 t173 t174) = some r := by rw [if_neg (show ¬ (false = true) by decide)] at H; exact H
         clear H
         have H := H1
         clear H1
         have H' := Aside0.mk H
         clear H
         have hnb140 := NB178_159.out
         have hnc140 := NB159_178.out
         have hnb141 := NB178_166.out
         have hnc141 := NB166_178.out
         have hcz142_0 : wc.cell? ⟨gb178, 0, none⟩ = some (.int .i64 t172) := (blk_cell BK178.out 0).trans rfl
         have hcz142_1 : wc.cell? ⟨gb178, 1, none⟩ = some (.int .i64 t173) := (blk_cell BK178.out 1).trans rfl
         have hcz142_2 : wc.cell? ⟨gb178, 2, none⟩ = some (.slice Ao45 t174.length co45) := (blk_cell BK178.out 2).trans rfl
         have hfz142_0 := blk_frozen BK178.out 0
         have hfz142_1 := blk_frozen BK178.out 1
         have hfz142_2 := blk_frozen BK178.out 2
         go_wp2_with (first | ((with_reducible refine gate_callee (f := 11) rfl ?_); refine goesL_ (some 134) rfl rfl Try.func11 (by kernel_rfl) rfl #[.agg #[.int .i64 t172, .int .i64 t173, .slice Ao45 t174.length co45]] rfl (by (try simp only [List.map_toArray, List.map_cons, List.map_nil]); first | done | rfl | (simp only [List.length_drop, List.length_take]; rfl)) ?_; (with_reducible refine (table_Right.calls t172 t173 _ _ t174 true _ ?side1 ?side2 A69.out).mono ?_); (case side1 => repeat (first | exact (Kd.R_reads' HO_179002.out).2.2 | (with_reducible refine Kd.C_alloc ?_ _) | (with_reducible refine Kd.C_drewN ?_ _) | (with_reducible refine Kd.C_drew ?_))); (case side2 => exact (Kd.R_reads' HO_179002.out).2.1); rintro e w143 ⟨rfl, hb⟩; refine ⟨_, rfl, ?_⟩; have n0_ := Aside0.mk (Kd.R_below (by (with_reducible repeat (first | apply Kd.R_alloc | apply Kd.R_drewN | apply Kd.R_drew)); exact HO_160002.out) hb); have n1_ := Aside0.mk (Kd.R_below (by (with_reducible repeat (first | apply Kd.R_alloc | apply Kd.R_drewN | apply Kd.R_drew)); exact HO_167002.out) hb); have n2_ := Aside0.mk (Kd.R_below (by (with_reducible repeat (first | apply Kd.R_alloc | apply Kd.R_drewN | apply Kd.R_drew)); exact HO_179002.out) hb); have n3_ := Aside0.mk (blk_below (g := gb159) (o := .cells #[.int .i64 x160000_2, .int .i64 x160001_2, .slice Ao37 x160002_2.length co37] 24 (0, 0)) (by (with_reducible repeat (first | refine blk_drewN ?_ _ | refine blk_drew ?_ | refine blk_alloc ?_ _)); exact BK159.out) hb); have n4_ := Aside0.mk (blk_below (g := gb166) (o := .cells #[.int .i64 t161, .int .i64 t162, .slice Ao30 t163.length co30] 24 (0, 0)) (by (with_reducible repeat (first | refine blk_drewN ?_ _ | refine blk_drew ?_ | refine blk_alloc ?_ _)); exact BK166.out) hb); have n5_ := Aside0.mk (blk_below (g := gb178) (o := .cells #[.int .i64 t172, .int .i64 t173, .slice Ao45 t174.length co45] 24 (0, 0)) (by (with_reducible repeat (first | refine blk_drewN ?_ _ | refine blk_drew ?_ | refine blk_alloc ?_ _)); exact BK178.out) hb); have n6_ := Aside0.mk (below_step (by repeat (first | (with_reducible first | exact HB.out | apply below_alloc | apply pw_below_drewN | apply below_drew1 | refine below_set ?_ GE159.out | refine below_set ?_ GE166.out | refine below_set ?_ GE178.out) | exact HB.out)) hb); clear HO_160002; clear HO_167002; clear HO_179002; clear BK159; clear BK166; clear BK178; clear HB; have HO_160002 := n0_; have HO_167002 := n1_; have HO_179002 := n2_; have BK159 := n3_; have BK166 := n4_; have BK178 := n5_; have HB := n6_; clear n0_ n1_ n2_ n3_ n4_ n5_ n6_; (try clear hb); (try clear hb2); (try clear hk); (try clear hi); have hcz144_0 : w143.cell? ⟨gb178, 0, none⟩ = some (.int .i64 t172) := (blk_cell BK178.out 0).trans rfl; have hcz144_1 : w143.cell? ⟨gb178, 1, none⟩ = some (.int .i64 t173) := (blk_cell BK178.out 1).trans rfl; have hcz144_2 : w143.cell? ⟨gb178, 2, none⟩ = some (.slice Ao45 t174.length co45) := (blk_cell BK178.out 2).trans rfl; have hfz144_0 := blk_frozen BK178.out 0; have hfz144_1 := blk_frozen BK178.out 1; have hfz144_2 := blk_frozen BK178.out 2; have hnb145 := NB159_166.out; have hnc145 := NB166_159.out; have hcz146_0 : w143.cell? ⟨gb159, 0, none⟩ = some (.int .i64 x160000_2) := (blk_cell BK159.out 0).trans rfl; have hcz146_1 : w143.cell? ⟨gb159, 1, none⟩ = some (.int .i64 x160001_2) := (blk_cell BK159.out 1).trans rfl; have hcz146_2 : w143.cell? ⟨gb159, 2, none⟩ = some (.slice Ao37 x160002_2.length co37) := (blk_cell BK159.out 2).trans rfl; have hfz146_0 := blk_frozen BK159.out 0; have hfz146_1 := blk_frozen BK159.out 1; have hfz146_2 := blk_frozen BK159.out 2) | (go_at_call 10; (with_reducible refine (table_Newer.calls t172 t173 _ _ t174 x160000_2 x160001_2 _ _ x160002_2 false _ ?side1 ?side2 ?side3 ?side4 A71.out).mono ?_); (case side1 => repeat (first | exact (Kd.R_reads' HO_179002.out).2.2 | (with_reducible refine Kd.C_alloc ?_ _) | (with_reducible refine Kd.C_drewN ?_ _) | (with_reducible refine Kd.C_drew ?_))); (case side2 => exact (Kd.R_reads' HO_179002.out).2.1); (case side3 => repeat (first | exact (Kd.R_reads' HO_160002.out).2.2 | (with_reducible refine Kd.C_alloc ?_ _) | (with_reducible refine Kd.C_drewN ?_ _) | (with_reducible refine Kd.C_drew ?_))); (case side4 => exact (Kd.R_reads' HO_160002.out).2.1); rintro e w147 ⟨rfl, hb⟩; have n0_ := Aside0.mk (Kd.R_below (by (with_reducible repeat (first | apply Kd.R_alloc | apply Kd.R_drewN | apply Kd.R_drew)); exact HO_160002.out) hb); have n1_ := Aside0.mk (Kd.R_below (by (with_reducible repeat (first | apply Kd.R_alloc | apply Kd.R_drewN | apply Kd.R_drew)); exact HO_167002.out) hb); have n2_ := Aside0.mk (Kd.R_below (by (with_reducible repeat (first | apply Kd.R_alloc | apply Kd.R_drewN | apply Kd.R_drew)); exact HO_179002.out) hb); have n3_ := Aside0.mk (blk_below (g := gb159) (o := .cells #[.int .i64 x160000_2, .int .i64 x160001_2, .slice Ao37 x160002_2.length co37] 24 (0, 0)) (by (with_reducible repeat (first | refine blk_drewN ?_ _ | refine blk_drew ?_ | refine blk_alloc ?_ _)); exact BK159.out) hb); have n4_ := Aside0.mk (blk_below (g := gb166) (o := .cells #[.int .i64 t161, .int .i64 t162, .slice Ao30 t163.length co30] 24 (0, 0)) (by (with_reducible repeat (first | refine blk_drewN ?_ _ | refine blk_drew ?_ | refine blk_alloc ?_ _)); exact BK166.out) hb); have n5_ := Aside0.mk (blk_below (g := gb178) (o := .cells #[.int .i64 t172, .int .i64 t173, .slice Ao45 t174.length co45] 24 (0, 0)) (by (with_reducible repeat (first | refine blk_drewN ?_ _ | refine blk_drew ?_ | refine blk_alloc ?_ _)); exact BK178.out) hb); have n6_ := Aside0.mk (below_step (by repeat (first | (with_reducible first | exact HB.out | apply below_alloc | apply pw_below_drewN | apply below_drew1 | refine below_set ?_ GE159.out | refine below_set ?_ GE166.out | refine below_set ?_ GE178.out) | exact HB.out)) hb); clear HO_160002; clear HO_167002; clear HO_179002; clear BK159; clear BK166; clear BK178; clear HB; have HO_160002 := n0_; have HO_167002 := n1_; have HO_179002 := n2_; have BK159 := n3_; have BK166 := n4_; have BK178 := n5_; have HB := n6_; clear n0_ n1_ n2_ n3_ n4_ n5_ n6_; (try clear hb); (try clear hb2); (try clear hk); (try clear hi)))
         go_meet
         case rel => exact ⟨_, (true), (by first | rfl | (simp; done) | (simp [*]; done) | (congr 1; simp only [eq_iff_iff, iff_true, ByteArray.size_append] at *; unfold wrap64; omega) | (congr 2; simp only [eq_iff_iff, iff_true, ByteArray.size_append] at *; unfold wrap64; omega)), H', ⟨by have := HJ8.out; have := HK2.out; have := HJ34.out; have := HJ57.out; first | omega | exact Nat.le_refl _⟩, ⟨by (with_reducible repeat (first | apply Kd.R_alloc | apply Kd.R_drewN | apply Kd.R_drew)); exact HO_160002.out⟩, ⟨by (with_reducible repeat (first | apply Kd.R_alloc | apply Kd.R_drewN | apply Kd.R_drew)); exact HO_167002.out⟩, ⟨by (with_reducible repeat (first | apply Kd.R_alloc | apply Kd.R_drewN | apply Kd.R_drew)); exact HO_179002.out⟩, ⟨by (with_reducible repeat (first | refine blk_drewN ?_ _ | refine blk_drew ?_ | refine blk_alloc ?_ _)); exact BK159.out⟩, ⟨by (with_reducible repeat (first | refine blk_drewN ?_ _ | refine blk_drew ?_ | refine blk_alloc ?_ _)); exact BK166.out⟩, ⟨by (with_reducible repeat (first | refine blk_drewN ?_ _ | refine blk_drew ?_ | refine blk_alloc ?_ _)); exact BK178.out⟩, ⟨by repeat (first | (with_reducible first | exact HB.out | apply below_alloc | apply pw_below_drewN | apply below_drew1 | refine below_set ?_ GE159.out | refine below_set ?_ GE166.out | refine below_set ?_ GE178.out) | exact HB.out)⟩⟩
       replace c70 := Bool.eq_false_iff.mpr c70
       subst c70
       have H1 : (meterlaw17_TableMoves.j4 kj57 l2 x10_2 true x160000_2 x160001_2 x160002_2 t161 t162 t163 t172 t173 t174) = some r := by rw [if_neg (show ¬ (false = true) by decide)] at H; exact H
       clear H
       have H := H1
       clear H1
       have H' := Aside0.mk H
       clear H
       have hnb148 := NB178_159.out
       have hnc148 := NB159_178.out
       have hnb149 := NB178_166.out
       have hnc149 := NB166_178.out
       have hcz150_0 : wc.cell? ⟨gb178, 0, none⟩ = some (.int .i64 t172) := (blk_cell BK178.out 0).trans rfl
       have hcz150_1 : wc.cell? ⟨gb178, 1, none⟩ = some (.int .i64 t173) := (blk_cell BK178.out 1).trans rfl
       have hcz150_2 : wc.cell? ⟨gb178, 2, none⟩ = some (.slice Ao45 t174.length co45) := (blk_cell BK178.out 2).trans rfl
       have hfz150_0 := blk_frozen BK178.out 0
       have hfz150_1 := blk_frozen BK178.out 1
       have hfz150_2 := blk_frozen BK178.out 2
       go_wp2_with (first | ((with_reducible refine gate_callee (f := 11) rfl ?_); refine goesL_ (some 134) rfl rfl Try.func11 (by kernel_rfl) rfl #[.agg #[.int .i64 t172, .int .i64 t173, .slice Ao45 t174.length co45]] rfl (by (try simp only [List.map_toArray, List.map_cons, List.map_nil]); first | done | rfl | (simp only [List.length_drop, List.length_take]; rfl)) ?_; (with_reducible refine (table_Right.calls t172 t173 _ _ t174 false _ ?side1 ?side2 A69.out).mono ?_); (case side1 => repeat (first | exact (Kd.R_reads' HO_179002.out).2.2 | (with_reducible refine Kd.C_alloc ?_ _) | (with_reducible refine Kd.C_drewN ?_ _) | (with_reducible refine Kd.C_drew ?_))); (case side2 => exact (Kd.R_reads' HO_179002.out).2.1); rintro e w151 ⟨rfl, hb⟩; refine ⟨_, rfl, ?_⟩; have n0_ := Aside0.mk (Kd.R_below (by (with_reducible repeat (first | apply Kd.R_alloc | apply Kd.R_drewN | apply Kd.R_drew)); exact HO_160002.out) hb); have n1_ := Aside0.mk (Kd.R_below (by (with_reducible repeat (first | apply Kd.R_alloc | apply Kd.R_drewN | apply Kd.R_drew)); exact HO_167002.out) hb); have n2_ := Aside0.mk (Kd.R_below (by (with_reducible repeat (first | apply Kd.R_alloc | apply Kd.R_drewN | apply Kd.R_drew)); exact HO_179002.out) hb); have n3_ := Aside0.mk (blk_below (g := gb159) (o := .cells #[.int .i64 x160000_2, .int .i64 x160001_2, .slice Ao37 x160002_2.length co37] 24 (0, 0)) (by (with_reducible repeat (first | refine blk_drewN ?_ _ | refine blk_drew ?_ | refine blk_alloc ?_ _)); exact BK159.out) hb); have n4_ := Aside0.mk (blk_below (g := gb166) (o := .cells #[.int .i64 t161, .int .i64 t162, .slice Ao30 t163.length co30] 24 (0, 0)) (by (with_reducible repeat (first | refine blk_drewN ?_ _ | refine blk_drew ?_ | refine blk_alloc ?_ _)); exact BK166.out) hb); have n5_ := Aside0.mk (blk_below (g := gb178) (o := .cells #[.int .i64 t172, .int .i64 t173, .slice Ao45 t174.length co45] 24 (0, 0)) (by (with_reducible repeat (first | refine blk_drewN ?_ _ | refine blk_drew ?_ | refine blk_alloc ?_ _)); exact BK178.out) hb); have n6_ := Aside0.mk (below_step (by repeat (first | (with_reducible first | exact HB.out | apply below_alloc | apply pw_below_drewN | apply below_drew1 | refine below_set ?_ GE159.out | refine below_set ?_ GE166.out | refine below_set ?_ GE178.out) | exact HB.out)) hb); clear HO_160002; clear HO_167002; clear HO_179002; clear BK159; clear BK166; clear BK178; clear HB; have HO_160002 := n0_; have HO_167002 := n1_; have HO_179002 := n2_; have BK159 := n3_; have BK166 := n4_; have BK178 := n5_; have HB := n6_; clear n0_ n1_ n2_ n3_ n4_ n5_ n6_; (try clear hb); (try clear hb2); (try clear hk); (try clear hi)))
       go_meet
       case rel => exact ⟨_, (true), (by first | rfl | (simp; done) | (simp [*]; done) | (congr 1; simp only [eq_iff_iff, iff_true, ByteArray.size_append] at *; unfold wrap64; omega) | (congr 2; simp only [eq_iff_iff, iff_true, ByteArray.size_append] at *; unfold wrap64; omega)), H', ⟨by have := HJ8.out; have := HK2.out; have := HJ34.out; have := HJ57.out; first | omega | exact Nat.le_refl _⟩, ⟨by (with_reducible repeat (first | apply Kd.R_alloc | apply Kd.R_drewN | apply Kd.R_drew)); exact HO_160002.out⟩, ⟨by (with_reducible repeat (first | apply Kd.R_alloc | apply Kd.R_drewN | apply Kd.R_drew)); exact HO_167002.out⟩, ⟨by (with_reducible repeat (first | apply Kd.R_alloc | apply Kd.R_drewN | apply Kd.R_drew)); exact HO_179002.out⟩, ⟨by (with_reducible repeat (first | refine blk_drewN ?_ _ | refine blk_drew ?_ | refine blk_alloc ?_ _)); exact BK159.out⟩, ⟨by (with_reducible repeat (first | refine blk_drewN ?_ _ | refine blk_drew ?_ | refine blk_alloc ?_ _)); exact BK166.out⟩, ⟨by (with_reducible repeat (first | refine blk_drewN ?_ _ | refine blk_drew ?_ | refine blk_alloc ?_ _)); exact BK178.out⟩, ⟨by repeat (first | (with_reducible first | exact HB.out | apply below_alloc | apply pw_below_drewN | apply below_drew1 | refine below_set ?_ GE159.out | refine below_set ?_ GE166.out | refine below_set ?_ GE178.out) | exact HB.out)⟩⟩
      case rest =>
       clear HC68
       try clear c1
       try clear p1
       try clear q1
       try clear hx1
       try clear p2
       try clear c4
       try clear c5
       try clear c6
       try clear p6
       try clear c7
       try clear c8
       try clear c9
       try clear c10
       try clear c11
       try clear c12
       try clear c13
       try clear c14
       try clear c16
       try clear p17
       try clear q17
       try clear hx17
       try clear p18
       try clear q18
       try clear hx18
       try clear c47
       try clear c48
       try clear c48b0
       try clear c59
       try clear c59b0
       try clear c59b1
       try clear c59b2
       try clear c61
       try clear c61b0
       try clear c62
       try clear c62b0
       try clear p64
       try clear c66
       try clear c67
       try clear c70
       try clear c72
       try clear c74
       try clear c75
       try clear c76
       try clear c80
       try clear c87
       try clear c89
       try clear c90
       try clear c91
       try clear c95
       try clear c107
       try clear c108
       try clear c112
       try clear c126
       try clear c127
       try clear c131
       try clear c140
       try clear c141
       try clear c145
       try clear c148
       try clear c149
       try clear hcz101_0
       try clear hcz101_1
       try clear hcz101_2
       try clear hcz102_0
       try clear hcz102_1
       try clear hcz102_2
       try clear hcz104_0
       try clear hcz104_1
       try clear hcz104_2
       try clear hcz105_0
       try clear hcz105_1
       try clear hcz105_2
       try clear hcz109_0
       try clear hcz109_1
       try clear hcz109_2
       try clear hcz111_0
       try clear hcz111_1
       try clear hcz111_2
       try clear hcz113_0
       try clear hcz113_1
       try clear hcz113_2
       try clear hcz115_0
       try clear hcz115_1
       try clear hcz115_2
       try clear hcz116_0
       try clear hcz116_1
       try clear hcz116_2
       try clear hcz118_0
       try clear hcz118_1
       try clear hcz118_2
       try clear hcz119_0
       try clear hcz119_1
       try clear hcz119_2
       try clear hcz121_0
       try clear hcz121_1
       try clear hcz121_2
       try clear hcz122_0
       try clear hcz122_1
       try clear hcz122_2
       try clear hcz124_0
       try clear hcz124_1
       try clear hcz124_2
       try clear hcz125_0
       try clear hcz125_1
       try clear hcz125_2
       try clear hcz128_0
       try clear hcz128_1
       try clear hcz128_2
       try clear hcz130_0
       try clear hcz130_1
       try clear hcz130_2
       try clear hcz132_0
       try clear hcz132_1
       try clear hcz132_2
       try clear hcz134_0
       try clear hcz134_1
       try clear hcz134_2
       try clear hcz135_0
       try clear hcz135_1
       try clear hcz135_2
       try clear hcz137_0
       try clear hcz137_1
       try clear hcz137_2
       try clear hcz138_0
       try clear hcz138_1
       try clear hcz138_2
       try clear hcz142_0
       try clear hcz142_1
       try clear hcz142_2
       try clear hcz144_0
       try clear hcz144_1
       try clear hcz144_2
       try clear hcz146_0
       try clear hcz146_1
       try clear hcz146_2
       try clear hcz150_0
       try clear hcz150_1
       try clear hcz150_2
       try clear hcz77_0
       try clear hcz77_1
       try clear hcz77_2
       try clear hcz79_0
       try clear hcz79_1
       try clear hcz79_2
       try clear hcz81_0
       try clear hcz81_1
       try clear hcz81_2
       try clear hcz83_0
       try clear hcz83_1
       try clear hcz83_2
       try clear hcz84_0
       try clear hcz84_1
       try clear hcz84_2
       try clear hcz92_0
       try clear hcz92_1
       try clear hcz92_2
       try clear hcz94_0
       try clear hcz94_1
       try clear hcz94_2
       try clear hcz96_0
       try clear hcz96_1
       try clear hcz96_2
       try clear hcz98_0
       try clear hcz98_1
       try clear hcz98_2
       try clear hcz99_0
       try clear hcz99_1
       try clear hcz99_2
       try clear hfz101_0
       try clear hfz101_1
       try clear hfz101_2
       try clear hfz102_0
       try clear hfz102_1
       try clear hfz102_2
       try clear hfz104_0
       try clear hfz104_1
       try clear hfz104_2
       try clear hfz105_0
       try clear hfz105_1
       try clear hfz105_2
       try clear hfz109_0
       try clear hfz109_1
       try clear hfz109_2
       try clear hfz111_0
       try clear hfz111_1
       try clear hfz111_2
       try clear hfz113_0
       try clear hfz113_1
       try clear hfz113_2
       try clear hfz115_0
       try clear hfz115_1
       try clear hfz115_2
       try clear hfz116_0
       try clear hfz116_1
       try clear hfz116_2
       try clear hfz118_0
       try clear hfz118_1
       try clear hfz118_2
       try clear hfz119_0
       try clear hfz119_1
       try clear hfz119_2
       try clear hfz121_0
       try clear hfz121_1
       try clear hfz121_2
       try clear hfz122_0
       try clear hfz122_1
       try clear hfz122_2
       try clear hfz124_0
       try clear hfz124_1
       try clear hfz124_2
       try clear hfz125_0
       try clear hfz125_1
       try clear hfz125_2
       try clear hfz128_0
       try clear hfz128_1
       try clear hfz128_2
       try clear hfz130_0
       try clear hfz130_1
       try clear hfz130_2
       try clear hfz132_0
       try clear hfz132_1
       try clear hfz132_2
       try clear hfz134_0
       try clear hfz134_1
       try clear hfz134_2
       try clear hfz135_0
       try clear hfz135_1
       try clear hfz135_2
       try clear hfz137_0
       try clear hfz137_1
       try clear hfz137_2
       try clear hfz138_0
       try clear hfz138_1
       try clear hfz138_2
       try clear hfz142_0
       try clear hfz142_1
       try clear hfz142_2
       try clear hfz144_0
       try clear hfz144_1
       try clear hfz144_2
       try clear hfz146_0
       try clear hfz146_1
       try clear hfz146_2
       try clear hfz150_0
       try clear hfz150_1
       try clear hfz150_2
       try clear hfz77_0
       try clear hfz77_1
       try clear hfz77_2
       try clear hfz79_0
       try clear hfz79_1
       try clear hfz79_2
       try clear hfz81_0
       try clear hfz81_1
       try clear hfz81_2
       try clear hfz83_0
       try clear hfz83_1
       try clear hfz83_2
       try clear hfz84_0
       try clear hfz84_1
       try clear hfz84_2
       try clear hfz92_0
       try clear hfz92_1
       try clear hfz92_2
       try clear hfz94_0
       try clear hfz94_1
       try clear hfz94_2
       try clear hfz96_0
       try clear hfz96_1
       try clear hfz96_2
       try clear hfz98_0
       try clear hfz98_1
       try clear hfz98_2
       try clear hfz99_0
       try clear hfz99_1
       try clear hfz99_2
       try clear hx179_0
       try clear hx179_1
       try clear hx182_0
       try clear hx182_1
       try clear hx183_0
       try clear hx183_1
       try clear p1
       try clear p17
       try clear p179
       try clear p18
       try clear p182
       try clear p183
       try clear p2
       try clear p6
       try clear p64
       try clear q1
       try clear q17
       try clear q179
       try clear q18
       try clear q182
       try clear q183
       obtain ⟨kq, x165_67, rfl, HA, HJ67, HO_160002, HO_167002, HO_179002, BK159, BK166, BK178, HB⟩ := hcut
       cases kq with
       | zero => exact absurd HA.out (by simp [meterlaw17_TableMoves.j4])
       | succ kj67 =>
        have H := HA.out
        clear HA
        simp only [meterlaw17_TableMoves.j4] at H
        by_cases c152 : x165_67 = true
        · subst c152
          have H1 : (some false) = some r := by rw [if_pos rfl] at H; exact H
          clear H
          have H := H1
          clear H1
          exact absurd (H.trans (congrArg some HRT.out)) (by simp)
        replace c152 := Bool.eq_false_iff.mpr c152
        subst c152
        have H1 : (meterlaw17_TableMoves.l1 kj67 l2 x10_2 0 x160000_2 x160001_2 x160002_2 t161 t162 t163 t172 t173 t174) = some r := by rw [if_neg (show ¬ (false = true) by decide)] at H; exact H
        clear H
        have H := H1
        clear H1
        have H' := Aside0.mk H
        clear H
        go_wp2
        go_loopg [16] kj67 (fun kq v16 w' => ∃ (x16_6 : Int), v16 = .int .i64 x16_6 ∧ Aside0 (meterlaw17_TableMoves.l1 kq l2 x10_2 x16_6 x160000_2 x160001_2 x160002_2 t161 t162 t163 t172 t173 t174 = some r) ∧ Aside0 (kq ≤ kj67) ∧ Aside0 (Kd.R (Kd.int .i64) 3 w' w.heap.size (fun k_ => some k_ ≠ ((.slice Ao30 t163.length co30) : Value).ownBlock ∧ some k_ ≠ ((.slice Ao45 t174.length co45) : Value).ownBlock) (.slice Ao37 x160002_2.length co37) x160002_2) ∧ Aside0 (Kd.R (Kd.int .i64) 3 w' w.heap.size (fun k_ => some k_ ≠ ((.slice Ao37 x160002_2.length co37) : Value).ownBlock ∧ some k_ ≠ ((.slice Ao45 t174.length co45) : Value).ownBlock) (.slice Ao30 t163.length co30) t163) ∧ Aside0 (Kd.R (Kd.int .i64) 3 w' w.heap.size (fun k_ => some k_ ≠ ((.slice Ao37 x160002_2.length co37) : Value).ownBlock ∧ some k_ ≠ ((.slice Ao30 t163.length co30) : Value).ownBlock) (.slice Ao45 t174.length co45) t174) ∧ Aside0 (w'.heap[gb159]? = some (.cells #[.int .i64 x160000_2, .int .i64 x160001_2, (.slice Ao37 x160002_2.length co37)] 24 (0, 0))) ∧ Aside0 (w'.heap[gb166]? = some (.cells #[.int .i64 t161, .int .i64 t162, (.slice Ao30 t163.length co30)] 24 (0, 0))) ∧ Aside0 (w'.heap[gb178]? = some (.cells #[.int .i64 t172, .int .i64 t173, (.slice Ao45 t174.length co45)] 24 (0, 0))) ∧ Aside0 (Below w.heap.size w w'))
        case atStart => exact ⟨(0), (by first | rfl | (simp; done) | (simp [*]; done) | (congr 1; simp only [eq_iff_iff, iff_true, ByteArray.size_append] at *; unfold wrap64; omega) | (congr 2; simp only [eq_iff_iff, iff_true, ByteArray.size_append] at *; unfold wrap64; omega)), H', ⟨Nat.le_refl _⟩, ⟨by (with_reducible repeat (first | apply Kd.R_alloc | apply Kd.R_drewN | apply Kd.R_drew)); exact HO_160002.out⟩, ⟨by (with_reducible repeat (first | apply Kd.R_alloc | apply Kd.R_drewN | apply Kd.R_drew)); exact HO_167002.out⟩, ⟨by (with_reducible repeat (first | apply Kd.R_alloc | apply Kd.R_drewN | apply Kd.R_drew)); exact HO_179002.out⟩, ⟨by (with_reducible repeat (first | refine blk_drewN ?_ _ | refine blk_drew ?_ | refine blk_alloc ?_ _)); exact BK159.out⟩, ⟨by (with_reducible repeat (first | refine blk_drewN ?_ _ | refine blk_drew ?_ | refine blk_alloc ?_ _)); exact BK166.out⟩, ⟨by (with_reducible repeat (first | refine blk_drewN ?_ _ | refine blk_drew ?_ | refine blk_alloc ?_ _)); exact BK178.out⟩, ⟨by repeat (first | (with_reducible first | exact HB.out | apply below_alloc | apply pw_below_drewN | apply below_drew1 | refine below_set ?_ GE159.out | refine below_set ?_ GE166.out | refine below_set ?_ GE178.out) | exact HB.out)⟩⟩
        case round =>
         clear H'
         try clear c1
         try clear p1
         try clear q1
         try clear hx1
         try clear p2
         try clear c4
         try clear c5
         try clear c6
         try clear p6
         try clear c7
         try clear c8
         try clear c9
         try clear c10
         try clear c11
         try clear c12
         try clear c13
         try clear c14
         try clear c15
         try clear c16
         try clear p17
         try clear q17
         try clear hx17
         try clear p18
         try clear q18
         try clear hx18
         try clear c47
         try clear c48
         try clear c48b0
         try clear c59
         try clear c59b0
         try clear c59b1
         try clear c59b2
         try clear c61
         try clear c61b0
         try clear c62
         try clear c62b0
         try clear p64
         try clear c66
         try clear c67
         try clear c70
         try clear c72
         try clear c74
         try clear c75
         try clear c76
         try clear c80
         try clear c87
         try clear c89
         try clear c90
         try clear c91
         try clear c95
         try clear c107
         try clear c108
         try clear c112
         try clear c126
         try clear c127
         try clear c131
         try clear c140
         try clear c141
         try clear c145
         try clear c148
         try clear c149
         try clear c152
         try clear hcz101_0
         try clear hcz101_1
         try clear hcz101_2
         try clear hcz102_0
         try clear hcz102_1
         try clear hcz102_2
         try clear hcz104_0
         try clear hcz104_1
         try clear hcz104_2
         try clear hcz105_0
         try clear hcz105_1
         try clear hcz105_2
         try clear hcz109_0
         try clear hcz109_1
         try clear hcz109_2
         try clear hcz111_0
         try clear hcz111_1
         try clear hcz111_2
         try clear hcz113_0
         try clear hcz113_1
         try clear hcz113_2
         try clear hcz115_0
         try clear hcz115_1
         try clear hcz115_2
         try clear hcz116_0
         try clear hcz116_1
         try clear hcz116_2
         try clear hcz118_0
         try clear hcz118_1
         try clear hcz118_2
         try clear hcz119_0
         try clear hcz119_1
         try clear hcz119_2
         try clear hcz121_0
         try clear hcz121_1
         try clear hcz121_2
         try clear hcz122_0
         try clear hcz122_1
         try clear hcz122_2
         try clear hcz124_0
         try clear hcz124_1
         try clear hcz124_2
         try clear hcz125_0
         try clear hcz125_1
         try clear hcz125_2
         try clear hcz128_0
         try clear hcz128_1
         try clear hcz128_2
         try clear hcz130_0
         try clear hcz130_1
         try clear hcz130_2
         try clear hcz132_0
         try clear hcz132_1
         try clear hcz132_2
         try clear hcz134_0
         try clear hcz134_1
         try clear hcz134_2
         try clear hcz135_0
         try clear hcz135_1
         try clear hcz135_2
         try clear hcz137_0
         try clear hcz137_1
         try clear hcz137_2
         try clear hcz138_0
         try clear hcz138_1
         try clear hcz138_2
         try clear hcz142_0
         try clear hcz142_1
         try clear hcz142_2
         try clear hcz144_0
         try clear hcz144_1
         try clear hcz144_2
         try clear hcz146_0
         try clear hcz146_1
         try clear hcz146_2
         try clear hcz150_0
         try clear hcz150_1
         try clear hcz150_2
         try clear hcz77_0
         try clear hcz77_1
         try clear hcz77_2
         try clear hcz79_0
         try clear hcz79_1
         try clear hcz79_2
         try clear hcz81_0
         try clear hcz81_1
         try clear hcz81_2
         try clear hcz83_0
         try clear hcz83_1
         try clear hcz83_2
         try clear hcz84_0
         try clear hcz84_1
         try clear hcz84_2
         try clear hcz92_0
         try clear hcz92_1
         try clear hcz92_2
         try clear hcz94_0
         try clear hcz94_1
         try clear hcz94_2
         try clear hcz96_0
         try clear hcz96_1
         try clear hcz96_2
         try clear hcz98_0
         try clear hcz98_1
         try clear hcz98_2
         try clear hcz99_0
         try clear hcz99_1
         try clear hcz99_2
         try clear hfz101_0
         try clear hfz101_1
         try clear hfz101_2
         try clear hfz102_0
         try clear hfz102_1
         try clear hfz102_2
         try clear hfz104_0
         try clear hfz104_1
         try clear hfz104_2
         try clear hfz105_0
         try clear hfz105_1
         try clear hfz105_2
         try clear hfz109_0
         try clear hfz109_1
         try clear hfz109_2
         try clear hfz111_0
         try clear hfz111_1
         try clear hfz111_2
         try clear hfz113_0
         try clear hfz113_1
         try clear hfz113_2
         try clear hfz115_0
         try clear hfz115_1
         try clear hfz115_2
         try clear hfz116_0
         try clear hfz116_1
         try clear hfz116_2
         try clear hfz118_0
         try clear hfz118_1
         try clear hfz118_2
         try clear hfz119_0
         try clear hfz119_1
         try clear hfz119_2
         try clear hfz121_0
         try clear hfz121_1
         try clear hfz121_2
         try clear hfz122_0
         try clear hfz122_1
         try clear hfz122_2
         try clear hfz124_0
         try clear hfz124_1
         try clear hfz124_2
         try clear hfz125_0
         try clear hfz125_1
         try clear hfz125_2
         try clear hfz128_0
         try clear hfz128_1
         try clear hfz128_2
         try clear hfz130_0
         try clear hfz130_1
         try clear hfz130_2
         try clear hfz132_0
         try clear hfz132_1
         try clear hfz132_2
         try clear hfz134_0
         try clear hfz134_1
         try clear hfz134_2
         try clear hfz135_0
         try clear hfz135_1
         try clear hfz135_2
         try clear hfz137_0
         try clear hfz137_1
         try clear hfz137_2
         try clear hfz138_0
         try clear hfz138_1
         try clear hfz138_2
         try clear hfz142_0
         try clear hfz142_1
         try clear hfz142_2
         try clear hfz144_0
         try clear hfz144_1
         try clear hfz144_2
         try clear hfz146_0
         try clear hfz146_1
         try clear hfz146_2
         try clear hfz150_0
         try clear hfz150_1
         try clear hfz150_2
         try clear hfz77_0
         try clear hfz77_1
         try clear hfz77_2
         try clear hfz79_0
         try clear hfz79_1
         try clear hfz79_2
         try clear hfz81_0
         try clear hfz81_1
         try clear hfz81_2
         try clear hfz83_0
         try clear hfz83_1
         try clear hfz83_2
         try clear hfz84_0
         try clear hfz84_1
         try clear hfz84_2
         try clear hfz92_0
         try clear hfz92_1
         try clear hfz92_2
         try clear hfz94_0
         try clear hfz94_1
         try clear hfz94_2
         try clear hfz96_0
         try clear hfz96_1
         try clear hfz96_2
         try clear hfz98_0
         try clear hfz98_1
         try clear hfz98_2
         try clear hfz99_0
         try clear hfz99_1
         try clear hfz99_2
         try clear hx179_0
         try clear hx179_1
         try clear hx182_0
         try clear hx182_1
         try clear hx183_0
         try clear hx183_1
         try clear p1
         try clear p17
         try clear p179
         try clear p18
         try clear p182
         try clear p183
         try clear p2
         try clear p6
         try clear p64
         try clear q1
         try clear q17
         try clear q179
         try clear q18
         try clear q182
         try clear q183
         obtain ⟨x16_6, rfl, HA, HK6, HO_160002, HO_167002, HO_179002, BK159, BK166, BK178, HB⟩ := hrel
         cases gk with
         | zero => exact absurd HA.out (by simp [meterlaw17_TableMoves.l1])
         | succ k6 =>
          have H := HA.out
          clear HA
          simp only [meterlaw17_TableMoves.l1] at H
          by_cases c153 : x16_6 < (x160002_2.length : Int)
          · rw [if_pos c153] at H
            have c153b0 : decide (x16_6 < (x160002_2.length : Int)) = true := decide_eq_true c153
            clear c153
            replace H := Option.bind_eq_some_iff.mp H
            obtain ⟨⟨t190, t191⟩, A1540, H⟩ := H
            replace H : ((table_Owner.f x160000_2 x160001_2 x160002_2 x16_6).bind fun bt192 => (if 0 ≤ x10_2 then (if x10_2 < (l2.length : Int) then (if x16_6 = ((rd_T43 l2 x10_2).f0) then (if t190 = ((rd_T43 l2 x10_2).f1) then (meterlaw17_TableMoves.l1 k6 l2 x10_2 (wrap64 (x16_6 + 1)) x160000_2 x160001_2 x160002_2 t161 t162 t163 t172 t173 t174) else (some false)) else (if t190 = bt192.1 then (meterlaw17_TableMoves.l1 k6 l2 x10_2 (wrap64 (x16_6 + 1)) x160000_2 x160001_2 x160002_2 t161 t162 t163 t172 t173 t174) else (some false))) else (none)) else (none))) = some r := H
            have A154 := Aside0.mk A1540
            clear A1540
            replace H := Option.bind_eq_some_iff.mp H
            obtain ⟨⟨t192, t193⟩, A1550, H⟩ := H
            replace H : (if 0 ≤ x10_2 then (if x10_2 < (l2.length : Int) then (if x16_6 = ((rd_T43 l2 x10_2).f0) then (if t190 = ((rd_T43 l2 x10_2).f1) then (meterlaw17_TableMoves.l1 k6 l2 x10_2 (wrap64 (x16_6 + 1)) x160000_2 x160001_2 x160002_2 t161 t162 t163 t172 t173 t174) else (some false)) else (if t190 = t192 then (meterlaw17_TableMoves.l1 k6 l2 x10_2 (wrap64 (x16_6 + 1)) x160000_2 x160001_2 x160002_2 t161 t162 t163 t172 t173 t174) else (some false))) else (none)) else (none)) = some r := H
            have A155 := Aside0.mk A1550
            clear A1550
            by_cases c156 : 0 ≤ x10_2
            · rw [if_pos c156] at H
              have c156b0 : decide (0 ≤ x10_2) = true := decide_eq_true c156
              clear c156
              by_cases c157 : x10_2 < (l2.length : Int)
              · rw [if_pos c157] at H
                have c157b0 : decide (x10_2 < (l2.length : Int)) = true := decide_eq_true c157
                clear c157
                by_cases c158 : x16_6 = ((rd_T43 l2 x10_2).f0)
                · rw [if_pos c158] at H
                  have c158b0 : (x16_6 == ((rd_T43 l2 x10_2).f0)) = true := beq_iff_eq.mpr c158
                  have c158b1 : (x16_6 != ((rd_T43 l2 x10_2).f0)) = false := bne_eq_false_iff_eq.mpr c158
                  clear c158
                  by_cases c159 : t190 = ((rd_T43 l2 x10_2).f1)
                  · rw [if_pos c159] at H
                    have c159b0 : (t190 == ((rd_T43 l2 x10_2).f1)) = true := beq_iff_eq.mpr c159
                    have c159b1 : (t190 != ((rd_T43 l2 x10_2).f1)) = false := bne_eq_false_iff_eq.mpr c159
                    clear c159
                    have H' := Aside0.mk H
                    clear H
                    have hnb160 := NB159_166.out
                    have hnc160 := NB166_159.out
                    have hnb161 := NB159_178.out
                    have hnc161 := NB178_159.out
                    have hcz162_0 : wr.cell? ⟨gb159, 0, none⟩ = some (.int .i64 x160000_2) := (blk_cell BK159.out 0).trans rfl
                    have hcz162_1 : wr.cell? ⟨gb159, 1, none⟩ = some (.int .i64 x160001_2) := (blk_cell BK159.out 1).trans rfl
                    have hcz162_2 : wr.cell? ⟨gb159, 2, none⟩ = some (.slice Ao37 x160002_2.length co37) := (blk_cell BK159.out 2).trans rfl
                    have hfz162_0 := blk_frozen BK159.out 0
                    have hfz162_1 := blk_frozen BK159.out 1
                    have hfz162_2 := blk_frozen BK159.out 2
                    have hnb163 := NB178_166.out
                    have hnc163 := NB166_178.out
                    have hcz164_0 : wr.cell? ⟨gb178, 0, none⟩ = some (.int .i64 t172) := (blk_cell BK178.out 0).trans rfl
                    have hcz164_1 : wr.cell? ⟨gb178, 1, none⟩ = some (.int .i64 t173) := (blk_cell BK178.out 1).trans rfl
                    have hcz164_2 : wr.cell? ⟨gb178, 2, none⟩ = some (.slice Ao45 t174.length co45) := (blk_cell BK178.out 2).trans rfl
                    have hfz164_0 := blk_frozen BK178.out 0
                    have hfz164_1 := blk_frozen BK178.out 1
                    have hfz164_2 := blk_frozen BK178.out 2
                    go_wp2_with (first | ((with_reducible refine gate_callee (f := 13) rfl ?_); refine goesL_ (some 176) rfl rfl Try.func13 (by kernel_rfl) rfl #[.agg #[.int .i64 t172, .int .i64 t173, .slice Ao45 t174.length co45], .int .i64 x16_6] rfl (by (try simp only [List.map_toArray, List.map_cons, List.map_nil]); first | done | rfl | (simp only [List.length_drop, List.length_take]; rfl)) ?_; (with_reducible refine (table_Owner.calls t172 t173 _ _ t174 x16_6 t190 t191 _ ?side1 ?side2 A154.out).mono ?_); (case side1 => repeat (first | exact (Kd.R_reads' HO_179002.out).2.2 | (with_reducible refine Kd.C_alloc ?_ _) | (with_reducible refine Kd.C_drewN ?_ _) | (with_reducible refine Kd.C_drew ?_))); (case side2 => exact (Kd.R_reads' HO_179002.out).2.1); rintro e w165 ⟨rfl, hb⟩; refine ⟨_, rfl, ?_⟩; have n0_ := Aside0.mk (Kd.R_below (by (with_reducible repeat (first | apply Kd.R_alloc | apply Kd.R_drewN | apply Kd.R_drew)); exact HO_160002.out) hb); have n1_ := Aside0.mk (Kd.R_below (by (with_reducible repeat (first | apply Kd.R_alloc | apply Kd.R_drewN | apply Kd.R_drew)); exact HO_167002.out) hb); have n2_ := Aside0.mk (Kd.R_below (by (with_reducible repeat (first | apply Kd.R_alloc | apply Kd.R_drewN | apply Kd.R_drew)); exact HO_179002.out) hb); have n3_ := Aside0.mk (blk_below (g := gb159) (o := .cells #[.int .i64 x160000_2, .int .i64 x160001_2, .slice Ao37 x160002_2.length co37] 24 (0, 0)) (by (with_reducible repeat (first | refine blk_drewN ?_ _ | refine blk_drew ?_ | refine blk_alloc ?_ _)); exact BK159.out) hb); have n4_ := Aside0.mk (blk_below (g := gb166) (o := .cells #[.int .i64 t161, .int .i64 t162, .slice Ao30 t163.length co30] 24 (0, 0)) (by (with_reducible repeat (first | refine blk_drewN ?_ _ | refine blk_drew ?_ | refine blk_alloc ?_ _)); exact BK166.out) hb); have n5_ := Aside0.mk (blk_below (g := gb178) (o := .cells #[.int .i64 t172, .int .i64 t173, .slice Ao45 t174.length co45] 24 (0, 0)) (by (with_reducible repeat (first | refine blk_drewN ?_ _ | refine blk_drew ?_ | refine blk_alloc ?_ _)); exact BK178.out) hb); have n6_ := Aside0.mk (below_step (by repeat (first | (with_reducible first | exact HB.out | apply below_alloc | apply pw_below_drewN | apply below_drew1 | refine below_set ?_ GE159.out | refine below_set ?_ GE166.out | refine below_set ?_ GE178.out) | exact HB.out)) hb); clear HO_160002; clear HO_167002; clear HO_179002; clear BK159; clear BK166; clear BK178; clear HB; have HO_160002 := n0_; have HO_167002 := n1_; have HO_179002 := n2_; have BK159 := n3_; have BK166 := n4_; have BK178 := n5_; have HB := n6_; clear n0_ n1_ n2_ n3_ n4_ n5_ n6_; (try clear hb); (try clear hb2); (try clear hk); (try clear hi); have hcz166_0 : w165.cell? ⟨gb159, 0, none⟩ = some (.int .i64 x160000_2) := (blk_cell BK159.out 0).trans rfl; have hcz166_1 : w165.cell? ⟨gb159, 1, none⟩ = some (.int .i64 x160001_2) := (blk_cell BK159.out 1).trans rfl; have hcz166_2 : w165.cell? ⟨gb159, 2, none⟩ = some (.slice Ao37 x160002_2.length co37) := (blk_cell BK159.out 2).trans rfl; have hfz166_0 := blk_frozen BK159.out 0; have hfz166_1 := blk_frozen BK159.out 1; have hfz166_2 := blk_frozen BK159.out 2) | ((with_reducible refine gate_callee (f := 13) rfl ?_); refine goesL_ (some 182) rfl rfl Try.func13 (by kernel_rfl) rfl #[.agg #[.int .i64 x160000_2, .int .i64 x160001_2, .slice Ao37 x160002_2.length co37], .int .i64 x16_6] rfl (by (try simp only [List.map_toArray, List.map_cons, List.map_nil]); first | done | rfl | (simp only [List.length_drop, List.length_take]; rfl)) ?_; (with_reducible refine (table_Owner.calls x160000_2 x160001_2 _ _ x160002_2 x16_6 t192 t193 _ ?side1 ?side2 A155.out).mono ?_); (case side1 => repeat (first | exact (Kd.R_reads' HO_160002.out).2.2 | (with_reducible refine Kd.C_alloc ?_ _) | (with_reducible refine Kd.C_drewN ?_ _) | (with_reducible refine Kd.C_drew ?_))); (case side2 => exact (Kd.R_reads' HO_160002.out).2.1); rintro e w167 ⟨rfl, hb⟩; refine ⟨_, rfl, ?_⟩; have n0_ := Aside0.mk (Kd.R_below (by (with_reducible repeat (first | apply Kd.R_alloc | apply Kd.R_drewN | apply Kd.R_drew)); exact HO_160002.out) hb); have n1_ := Aside0.mk (Kd.R_below (by (with_reducible repeat (first | apply Kd.R_alloc | apply Kd.R_drewN | apply Kd.R_drew)); exact HO_167002.out) hb); have n2_ := Aside0.mk (Kd.R_below (by (with_reducible repeat (first | apply Kd.R_alloc | apply Kd.R_drewN | apply Kd.R_drew)); exact HO_179002.out) hb); have n3_ := Aside0.mk (blk_below (g := gb159) (o := .cells #[.int .i64 x160000_2, .int .i64 x160001_2, .slice Ao37 x160002_2.length co37] 24 (0, 0)) (by (with_reducible repeat (first | refine blk_drewN ?_ _ | refine blk_drew ?_ | refine blk_alloc ?_ _)); exact BK159.out) hb); have n4_ := Aside0.mk (blk_below (g := gb166) (o := .cells #[.int .i64 t161, .int .i64 t162, .slice Ao30 t163.length co30] 24 (0, 0)) (by (with_reducible repeat (first | refine blk_drewN ?_ _ | refine blk_drew ?_ | refine blk_alloc ?_ _)); exact BK166.out) hb); have n5_ := Aside0.mk (blk_below (g := gb178) (o := .cells #[.int .i64 t172, .int .i64 t173, .slice Ao45 t174.length co45] 24 (0, 0)) (by (with_reducible repeat (first | refine blk_drewN ?_ _ | refine blk_drew ?_ | refine blk_alloc ?_ _)); exact BK178.out) hb); have n6_ := Aside0.mk (below_step (by repeat (first | (with_reducible first | exact HB.out | apply below_alloc | apply pw_below_drewN | apply below_drew1 | refine below_set ?_ GE159.out | refine below_set ?_ GE166.out | refine below_set ?_ GE178.out) | exact HB.out)) hb); clear HO_160002; clear HO_167002; clear HO_179002; clear BK159; clear BK166; clear BK178; clear HB; have HO_160002 := n0_; have HO_167002 := n1_; have HO_179002 := n2_; have BK159 := n3_; have BK166 := n4_; have BK178 := n5_; have HB := n6_; clear n0_ n1_ n2_ n3_ n4_ n5_ n6_; (try clear hb); (try clear hb2); (try clear hk); (try clear hi); have p194 : 0 ≤ (x10_2 : Int) := of_decide_eq_true (by first | (with_reducible assumption) | assumption); have q194 : x10_2 < (l2.length : Int) := of_decide_eq_true (by first | (with_reducible assumption) | assumption); obtain ⟨ad194, e194, hx194_0, hx194_1⟩ := at_T43 HR2.out x10_2 p194 q194; obtain rfl : ad167 = ad194 := (by injection e194); replace hx194_0 := (HB.out.cell (World.block_lt_of_cell? w _ hx194_0)).trans hx194_0; replace hx194_1 := (HB.out.cell (World.block_lt_of_cell? w _ hx194_1)).trans hx194_1; replace p194 := eq_true p194; replace q194 := eq_true q194; have p195 : 0 ≤ (x10_2 : Int) := of_decide_eq_true (by first | (with_reducible assumption) | assumption); have q195 : x10_2 < (l2.length : Int) := of_decide_eq_true (by first | (with_reducible assumption) | assumption); obtain ⟨ad195, e195, hx195_0, hx195_1⟩ := at_T43 HR2.out x10_2 p195 q195; obtain rfl : ad167 = ad195 := (by injection e195); replace hx195_0 := (HB.out.cell (World.block_lt_of_cell? w _ hx195_0)).trans hx195_0; replace hx195_1 := (HB.out.cell (World.block_lt_of_cell? w _ hx195_1)).trans hx195_1; replace p195 := eq_true p195; replace q195 := eq_true q195; have p196 : 0 ≤ (x10_2 : Int) := of_decide_eq_true (by first | (with_reducible assumption) | assumption); have q196 : x10_2 < (l2.length : Int) := of_decide_eq_true (by first | (with_reducible assumption) | assumption); obtain ⟨ad196, e196, hx196_0, hx196_1⟩ := at_T43 HR2.out x10_2 p196 q196; obtain rfl : ad167 = ad196 := (by injection e196); replace hx196_0 := (HB.out.cell (World.block_lt_of_cell? w _ hx196_0)).trans hx196_0; replace hx196_1 := (HB.out.cell (World.block_lt_of_cell? w _ hx196_1)).trans hx196_1; replace p196 := eq_true p196; replace q196 := eq_true q196))
                    go_roundg k6
                    case measure => have := HJ8.out; have := HK2.out; have := HJ34.out; have := HJ57.out; have := HJ67.out; have := HK6.out; omega
                    case rel => exact ⟨(wrap64 (x16_6 + 1)), (by first | rfl | (simp; done) | (simp [*]; done) | (congr 1; simp only [eq_iff_iff, iff_true, ByteArray.size_append] at *; unfold wrap64; omega) | (congr 2; simp only [eq_iff_iff, iff_true, ByteArray.size_append] at *; unfold wrap64; omega)), H', ⟨by have := HJ8.out; have := HK2.out; have := HJ34.out; have := HJ57.out; have := HJ67.out; have := HK6.out; omega⟩, ⟨by (with_reducible repeat (first | apply Kd.R_alloc | apply Kd.R_drewN | apply Kd.R_drew)); exact HO_160002.out⟩, ⟨by (with_reducible repeat (first | apply Kd.R_alloc | apply Kd.R_drewN | apply Kd.R_drew)); exact HO_167002.out⟩, ⟨by (with_reducible repeat (first | apply Kd.R_alloc | apply Kd.R_drewN | apply Kd.R_drew)); exact HO_179002.out⟩, ⟨by (with_reducible repeat (first | refine blk_drewN ?_ _ | refine blk_drew ?_ | refine blk_alloc ?_ _)); exact BK159.out⟩, ⟨by (with_reducible repeat (first | refine blk_drewN ?_ _ | refine blk_drew ?_ | refine blk_alloc ?_ _)); exact BK166.out⟩, ⟨by (with_reducible repeat (first | refine blk_drewN ?_ _ | refine blk_drew ?_ | refine blk_alloc ?_ _)); exact BK178.out⟩, ⟨by repeat (first | (with_reducible first | exact HB.out | apply below_alloc | apply pw_below_drewN | apply below_drew1 | refine below_set ?_ GE159.out | refine below_set ?_ GE166.out | refine below_set ?_ GE178.out) | exact HB.out)⟩⟩
                  rw [if_neg c159] at H
                  have c159b0 : (t190 == ((rd_T43 l2 x10_2).f1)) = false := beq_eq_false_iff_ne.mpr c159
                  have c159b1 : (t190 != ((rd_T43 l2 x10_2).f1)) = true := bne_iff_ne.mpr c159
                  exact absurd (H.trans (congrArg some HRT.out)) (by simp)
                rw [if_neg c158] at H
                have c158b0 : (x16_6 == ((rd_T43 l2 x10_2).f0)) = false := beq_eq_false_iff_ne.mpr c158
                have c158b1 : (x16_6 != ((rd_T43 l2 x10_2).f0)) = true := bne_iff_ne.mpr c158
                by_cases c168 : t190 = t192
                · rw [if_pos c168] at H
                  have c168b0 : (t190 == t192) = true := beq_iff_eq.mpr c168
                  have c168b1 : (t190 != t192) = false := bne_eq_false_iff_eq.mpr c168
                  clear c168
                  have H' := Aside0.mk H
                  clear H
                  have hnb169 := NB159_166.out
                  have hnc169 := NB166_159.out
                  have hnb170 := NB159_178.out
                  have hnc170 := NB178_159.out
                  have hcz171_0 : wr.cell? ⟨gb159, 0, none⟩ = some (.int .i64 x160000_2) := (blk_cell BK159.out 0).trans rfl
                  have hcz171_1 : wr.cell? ⟨gb159, 1, none⟩ = some (.int .i64 x160001_2) := (blk_cell BK159.out 1).trans rfl
                  have hcz171_2 : wr.cell? ⟨gb159, 2, none⟩ = some (.slice Ao37 x160002_2.length co37) := (blk_cell BK159.out 2).trans rfl
                  have hfz171_0 := blk_frozen BK159.out 0
                  have hfz171_1 := blk_frozen BK159.out 1
                  have hfz171_2 := blk_frozen BK159.out 2
                  have hnb172 := NB178_166.out
                  have hnc172 := NB166_178.out
                  have hcz173_0 : wr.cell? ⟨gb178, 0, none⟩ = some (.int .i64 t172) := (blk_cell BK178.out 0).trans rfl
                  have hcz173_1 : wr.cell? ⟨gb178, 1, none⟩ = some (.int .i64 t173) := (blk_cell BK178.out 1).trans rfl
                  have hcz173_2 : wr.cell? ⟨gb178, 2, none⟩ = some (.slice Ao45 t174.length co45) := (blk_cell BK178.out 2).trans rfl
                  have hfz173_0 := blk_frozen BK178.out 0
                  have hfz173_1 := blk_frozen BK178.out 1
                  have hfz173_2 := blk_frozen BK178.out 2
                  go_wp2_with (first | ((with_reducible refine gate_callee (f := 13) rfl ?_); refine goesL_ (some 176) rfl rfl Try.func13 (by kernel_rfl) rfl #[.agg #[.int .i64 t172, .int .i64 t173, .slice Ao45 t174.length co45], .int .i64 x16_6] rfl (by (try simp only [List.map_toArray, List.map_cons, List.map_nil]); first | done | rfl | (simp only [List.length_drop, List.length_take]; rfl)) ?_; (with_reducible refine (table_Owner.calls t172 t173 _ _ t174 x16_6 t190 t191 _ ?side1 ?side2 A154.out).mono ?_); (case side1 => repeat (first | exact (Kd.R_reads' HO_179002.out).2.2 | (with_reducible refine Kd.C_alloc ?_ _) | (with_reducible refine Kd.C_drewN ?_ _) | (with_reducible refine Kd.C_drew ?_))); (case side2 => exact (Kd.R_reads' HO_179002.out).2.1); rintro e w174 ⟨rfl, hb⟩; refine ⟨_, rfl, ?_⟩; have n0_ := Aside0.mk (Kd.R_below (by (with_reducible repeat (first | apply Kd.R_alloc | apply Kd.R_drewN | apply Kd.R_drew)); exact HO_160002.out) hb); have n1_ := Aside0.mk (Kd.R_below (by (with_reducible repeat (first | apply Kd.R_alloc | apply Kd.R_drewN | apply Kd.R_drew)); exact HO_167002.out) hb); have n2_ := Aside0.mk (Kd.R_below (by (with_reducible repeat (first | apply Kd.R_alloc | apply Kd.R_drewN | apply Kd.R_drew)); exact HO_179002.out) hb); have n3_ := Aside0.mk (blk_below (g := gb159) (o := .cells #[.int .i64 x160000_2, .int .i64 x160001_2, .slice Ao37 x160002_2.length co37] 24 (0, 0)) (by (with_reducible repeat (first | refine blk_drewN ?_ _ | refine blk_drew ?_ | refine blk_alloc ?_ _)); exact BK159.out) hb); have n4_ := Aside0.mk (blk_below (g := gb166) (o := .cells #[.int .i64 t161, .int .i64 t162, .slice Ao30 t163.length co30] 24 (0, 0)) (by (with_reducible repeat (first | refine blk_drewN ?_ _ | refine blk_drew ?_ | refine blk_alloc ?_ _)); exact BK166.out) hb); have n5_ := Aside0.mk (blk_below (g := gb178) (o := .cells #[.int .i64 t172, .int .i64 t173, .slice Ao45 t174.length co45] 24 (0, 0)) (by (with_reducible repeat (first | refine blk_drewN ?_ _ | refine blk_drew ?_ | refine blk_alloc ?_ _)); exact BK178.out) hb); have n6_ := Aside0.mk (below_step (by repeat (first | (with_reducible first | exact HB.out | apply below_alloc | apply pw_below_drewN | apply below_drew1 | refine below_set ?_ GE159.out | refine below_set ?_ GE166.out | refine below_set ?_ GE178.out) | exact HB.out)) hb); clear HO_160002; clear HO_167002; clear HO_179002; clear BK159; clear BK166; clear BK178; clear HB; have HO_160002 := n0_; have HO_167002 := n1_; have HO_179002 := n2_; have BK159 := n3_; have BK166 := n4_; have BK178 := n5_; have HB := n6_; clear n0_ n1_ n2_ n3_ n4_ n5_ n6_; (try clear hb); (try clear hb2); (try clear hk); (try clear hi); have hcz175_0 : w174.cell? ⟨gb159, 0, none⟩ = some (.int .i64 x160000_2) := (blk_cell BK159.out 0).trans rfl; have hcz175_1 : w174.cell? ⟨gb159, 1, none⟩ = some (.int .i64 x160001_2) := (blk_cell BK159.out 1).trans rfl; have hcz175_2 : w174.cell? ⟨gb159, 2, none⟩ = some (.slice Ao37 x160002_2.length co37) := (blk_cell BK159.out 2).trans rfl; have hfz175_0 := blk_frozen BK159.out 0; have hfz175_1 := blk_frozen BK159.out 1; have hfz175_2 := blk_frozen BK159.out 2) | ((with_reducible refine gate_callee (f := 13) rfl ?_); refine goesL_ (some 182) rfl rfl Try.func13 (by kernel_rfl) rfl #[.agg #[.int .i64 x160000_2, .int .i64 x160001_2, .slice Ao37 x160002_2.length co37], .int .i64 x16_6] rfl (by (try simp only [List.map_toArray, List.map_cons, List.map_nil]); first | done | rfl | (simp only [List.length_drop, List.length_take]; rfl)) ?_; (with_reducible refine (table_Owner.calls x160000_2 x160001_2 _ _ x160002_2 x16_6 t192 t193 _ ?side1 ?side2 A155.out).mono ?_); (case side1 => repeat (first | exact (Kd.R_reads' HO_160002.out).2.2 | (with_reducible refine Kd.C_alloc ?_ _) | (with_reducible refine Kd.C_drewN ?_ _) | (with_reducible refine Kd.C_drew ?_))); (case side2 => exact (Kd.R_reads' HO_160002.out).2.1); rintro e w176 ⟨rfl, hb⟩; refine ⟨_, rfl, ?_⟩; have n0_ := Aside0.mk (Kd.R_below (by (with_reducible repeat (first | apply Kd.R_alloc | apply Kd.R_drewN | apply Kd.R_drew)); exact HO_160002.out) hb); have n1_ := Aside0.mk (Kd.R_below (by (with_reducible repeat (first | apply Kd.R_alloc | apply Kd.R_drewN | apply Kd.R_drew)); exact HO_167002.out) hb); have n2_ := Aside0.mk (Kd.R_below (by (with_reducible repeat (first | apply Kd.R_alloc | apply Kd.R_drewN | apply Kd.R_drew)); exact HO_179002.out) hb); have n3_ := Aside0.mk (blk_below (g := gb159) (o := .cells #[.int .i64 x160000_2, .int .i64 x160001_2, .slice Ao37 x160002_2.length co37] 24 (0, 0)) (by (with_reducible repeat (first | refine blk_drewN ?_ _ | refine blk_drew ?_ | refine blk_alloc ?_ _)); exact BK159.out) hb); have n4_ := Aside0.mk (blk_below (g := gb166) (o := .cells #[.int .i64 t161, .int .i64 t162, .slice Ao30 t163.length co30] 24 (0, 0)) (by (with_reducible repeat (first | refine blk_drewN ?_ _ | refine blk_drew ?_ | refine blk_alloc ?_ _)); exact BK166.out) hb); have n5_ := Aside0.mk (blk_below (g := gb178) (o := .cells #[.int .i64 t172, .int .i64 t173, .slice Ao45 t174.length co45] 24 (0, 0)) (by (with_reducible repeat (first | refine blk_drewN ?_ _ | refine blk_drew ?_ | refine blk_alloc ?_ _)); exact BK178.out) hb); have n6_ := Aside0.mk (below_step (by repeat (first | (with_reducible first | exact HB.out | apply below_alloc | apply pw_below_drewN | apply below_drew1 | refine below_set ?_ GE159.out | refine below_set ?_ GE166.out | refine below_set ?_ GE178.out) | exact HB.out)) hb); clear HO_160002; clear HO_167002; clear HO_179002; clear BK159; clear BK166; clear BK178; clear HB; have HO_160002 := n0_; have HO_167002 := n1_; have HO_179002 := n2_; have BK159 := n3_; have BK166 := n4_; have BK178 := n5_; have HB := n6_; clear n0_ n1_ n2_ n3_ n4_ n5_ n6_; (try clear hb); (try clear hb2); (try clear hk); (try clear hi); have p194 : 0 ≤ (x10_2 : Int) := of_decide_eq_true (by first | (with_reducible assumption) | assumption); have q194 : x10_2 < (l2.length : Int) := of_decide_eq_true (by first | (with_reducible assumption) | assumption); obtain ⟨ad194, e194, hx194_0, hx194_1⟩ := at_T43 HR2.out x10_2 p194 q194; obtain rfl : ad167 = ad194 := (by injection e194); replace hx194_0 := (HB.out.cell (World.block_lt_of_cell? w _ hx194_0)).trans hx194_0; replace hx194_1 := (HB.out.cell (World.block_lt_of_cell? w _ hx194_1)).trans hx194_1; replace p194 := eq_true p194; replace q194 := eq_true q194; have p197 : 0 ≤ (x10_2 : Int) := of_decide_eq_true (by first | (with_reducible assumption) | assumption); have q197 : x10_2 < (l2.length : Int) := of_decide_eq_true (by first | (with_reducible assumption) | assumption); obtain ⟨ad197, e197, hx197_0, hx197_1⟩ := at_T43 HR2.out x10_2 p197 q197; obtain rfl : ad167 = ad197 := (by injection e197); replace hx197_0 := (HB.out.cell (World.block_lt_of_cell? w _ hx197_0)).trans hx197_0; replace hx197_1 := (HB.out.cell (World.block_lt_of_cell? w _ hx197_1)).trans hx197_1; replace p197 := eq_true p197; replace q197 := eq_true q197))
                  go_roundg k6
                  case measure => have := HJ8.out; have := HK2.out; have := HJ34.out; have := HJ57.out; have := HJ67.out; have := HK6.out; omega
                  case rel => exact ⟨(wrap64 (x16_6 + 1)), (by first | rfl | (simp; done) | (simp [*]; done) | (congr 1; simp only [eq_iff_iff, iff_true, ByteArray.size_append] at *; unfold wrap64; omega) | (congr 2; simp only [eq_iff_iff, iff_true, ByteArray.size_append] at *; unfold wrap64; omega)), H', ⟨by have := HJ8.out; have := HK2.out; have := HJ34.out; have := HJ57.out; have := HJ67.out; have := HK6.out; omega⟩, ⟨by (with_reducible repeat (first | apply Kd.R_alloc | apply Kd.R_drewN | apply Kd.R_drew)); exact HO_160002.out⟩, ⟨by (with_reducible repeat (first | apply Kd.R_alloc | apply Kd.R_drewN | apply Kd.R_drew)); exact HO_167002.out⟩, ⟨by (with_reducible repeat (first | apply Kd.R_alloc | apply Kd.R_drewN | apply Kd.R_drew)); exact HO_179002.out⟩, ⟨by (with_reducible repeat (first | refine blk_drewN ?_ _ | refine blk_drew ?_ | refine blk_alloc ?_ _)); exact BK159.out⟩, ⟨by (with_reducible repeat (first | refine blk_drewN ?_ _ | refine blk_drew ?_ | refine blk_alloc ?_ _)); exact BK166.out⟩, ⟨by (with_reducible repeat (first | refine blk_drewN ?_ _ | refine blk_drew ?_ | refine blk_alloc ?_ _)); exact BK178.out⟩, ⟨by repeat (first | (with_reducible first | exact HB.out | apply below_alloc | apply pw_below_drewN | apply below_drew1 | refine below_set ?_ GE159.out | refine below_set ?_ GE166.out | refine below_set ?_ GE178.out) | exact HB.out)⟩⟩
                rw [if_neg c168] at H
                have c168b0 : (t190 == t192) = false := beq_eq_false_iff_ne.mpr c168
                have c168b1 : (t190 != t192) = true := bne_iff_ne.mpr c168
                exact absurd (H.trans (congrArg some HRT.out)) (by simp)
              rw [if_neg c157] at H
              exact absurd H (by simp)
            rw [if_neg c156] at H
            exact absurd H (by simp)
          rw [if_neg c153] at H
          have c153b0 : decide (x16_6 < (x160002_2.length : Int)) = false := decide_eq_false c153
          clear c153
          have H' := Aside0.mk H
          clear H
          have hnb177 := NB159_166.out
          have hnc177 := NB166_159.out
          have hnb178 := NB159_178.out
          have hnc178 := NB178_159.out
          have hcz179_0 : wr.cell? ⟨gb159, 0, none⟩ = some (.int .i64 x160000_2) := (blk_cell BK159.out 0).trans rfl
          have hcz179_1 : wr.cell? ⟨gb159, 1, none⟩ = some (.int .i64 x160001_2) := (blk_cell BK159.out 1).trans rfl
          have hcz179_2 : wr.cell? ⟨gb159, 2, none⟩ = some (.slice Ao37 x160002_2.length co37) := (blk_cell BK159.out 2).trans rfl
          have hfz179_0 := blk_frozen BK159.out 0
          have hfz179_1 := blk_frozen BK159.out 1
          have hfz179_2 := blk_frozen BK159.out 2
          have hnb180 := NB178_166.out
          have hnc180 := NB166_178.out
          have hcz181_0 : wr.cell? ⟨gb178, 0, none⟩ = some (.int .i64 t172) := (blk_cell BK178.out 0).trans rfl
          have hcz181_1 : wr.cell? ⟨gb178, 1, none⟩ = some (.int .i64 t173) := (blk_cell BK178.out 1).trans rfl
          have hcz181_2 : wr.cell? ⟨gb178, 2, none⟩ = some (.slice Ao45 t174.length co45) := (blk_cell BK178.out 2).trans rfl
          have hfz181_0 := blk_frozen BK178.out 0
          have hfz181_1 := blk_frozen BK178.out 1
          have hfz181_2 := blk_frozen BK178.out 2
          go_wp2
          go_roundg k6
          case measure => have := HJ8.out; have := HK2.out; have := HJ34.out; have := HJ57.out; have := HJ67.out; have := HK6.out; omega
          case rel => exact ⟨(wrap64 (x10_2 + 1)), (t172), (t173), (t174), (.slice Ao45 t174.length co45), (by first | rfl | (simp; done) | (simp [*]; done) | (congr 1; simp only [eq_iff_iff, iff_true, ByteArray.size_append] at *; unfold wrap64; omega) | (congr 2; simp only [eq_iff_iff, iff_true, ByteArray.size_append] at *; unfold wrap64; omega)), H', ⟨by have := HJ8.out; have := HK2.out; have := HJ34.out; have := HJ57.out; have := HJ67.out; have := HK6.out; omega⟩, ⟨by (with_reducible repeat (first | apply Kd.R_alloc | apply Kd.R_drewN | apply Kd.R_drew)); exact Kd.R_mono (Kd.R_far (p := ⟨gb159, 2, none⟩) (Kd.R_far (p := ⟨gb159, 1, none⟩) (Kd.R_far (p := ⟨gb159, 0, none⟩) (Kd.R_types HO_179002.out BK159.out (by decide)) (fun _ hk => hk.2) (.int .i64 t172)) (fun _ hk => hk.2) (.int .i64 t173)) (fun _ hk => hk.2) (.slice Ao45 t174.length co45)) (fun _ hk => hk.1.2)⟩, ⟨by (with_reducible repeat (first | apply Kd.R_alloc | apply Kd.R_drewN | apply Kd.R_drew)); exact Kd.R_mono (Kd.R_far (p := ⟨gb159, 2, none⟩) (Kd.R_far (p := ⟨gb159, 1, none⟩) (Kd.R_far (p := ⟨gb159, 0, none⟩) (Kd.R_types HO_167002.out BK159.out (by decide)) (fun _ hk => hk.2) (.int .i64 t172)) (fun _ hk => hk.2) (.int .i64 t173)) (fun _ hk => hk.2) (.slice Ao45 t174.length co45)) (fun _ hk => hk.1.2)⟩, ⟨by (with_reducible repeat (first | refine blk_drewN ?_ _ | refine blk_drew ?_ | refine blk_alloc ?_ _)); refine blk_put (cs := #[.int .i64 t172, .int .i64 t173, .slice Ao37 x160002_2.length co37]) ?_ 2 _ rfl; (with_reducible repeat (first | refine blk_drewN ?_ _ | refine blk_drew ?_ | refine blk_alloc ?_ _)); refine blk_put (cs := #[.int .i64 t172, .int .i64 x160001_2, .slice Ao37 x160002_2.length co37]) ?_ 1 _ rfl; (with_reducible repeat (first | refine blk_drewN ?_ _ | refine blk_drew ?_ | refine blk_alloc ?_ _)); refine blk_put (cs := #[.int .i64 x160000_2, .int .i64 x160001_2, .slice Ao37 x160002_2.length co37]) ?_ 0 _ rfl; (with_reducible repeat (first | refine blk_drewN ?_ _ | refine blk_drew ?_ | refine blk_alloc ?_ _)); exact BK159.out⟩, ⟨by (with_reducible repeat (first | refine blk_drewN ?_ _ | refine blk_drew ?_ | refine blk_alloc ?_ _)); refine blk_far ?_ NB166_159.out _; (with_reducible repeat (first | refine blk_drewN ?_ _ | refine blk_drew ?_ | refine blk_alloc ?_ _)); refine blk_far ?_ NB166_159.out _; (with_reducible repeat (first | refine blk_drewN ?_ _ | refine blk_drew ?_ | refine blk_alloc ?_ _)); refine blk_far ?_ NB166_159.out _; (with_reducible repeat (first | refine blk_drewN ?_ _ | refine blk_drew ?_ | refine blk_alloc ?_ _)); exact BK166.out⟩, ⟨by repeat (first | (with_reducible first | exact HB.out | apply below_alloc | apply pw_below_drewN | apply below_drew1 | refine below_set ?_ GE159.out | refine below_set ?_ GE166.out | refine below_set ?_ GE178.out) | exact HB.out)⟩⟩
    replace c67 := Bool.eq_false_iff.mpr c67
    subst c67
    have H1 : (meterlaw17_TableMoves.l0 kj57 l2 (wrap64 (x10_2 + 1)) x160000_2 x160001_2 x160002_2 t161 t162 t163) = some r := by rw [if_neg (show ¬ (false = true) by decide)] at H; exact H
    clear H
    have H := H1
    clear H1
    have H' := Aside0.mk H
    clear H
    go_wp2
    go_roundg kj57
    case measure => have := HJ8.out; have := HK2.out; have := HJ34.out; have := HJ57.out; omega
    case rel => exact ⟨(wrap64 (x10_2 + 1)), (x160000_2), (x160001_2), (x160002_2), (.slice Ao37 x160002_2.length co37), (by first | rfl | (simp; done) | (simp [*]; done) | (congr 1; simp only [eq_iff_iff, iff_true, ByteArray.size_append] at *; unfold wrap64; omega) | (congr 2; simp only [eq_iff_iff, iff_true, ByteArray.size_append] at *; unfold wrap64; omega)), H', ⟨by have := HJ8.out; have := HK2.out; have := HJ34.out; have := HJ57.out; omega⟩, ⟨by (with_reducible repeat (first | apply Kd.R_alloc | apply Kd.R_drewN | apply Kd.R_drew)); exact Kd.R_mono HO_160002.out (fun _ hk => hk.1)⟩, ⟨by (with_reducible repeat (first | apply Kd.R_alloc | apply Kd.R_drewN | apply Kd.R_drew)); exact Kd.R_mono HO_167002.out (fun _ hk => hk.1)⟩, ⟨by (with_reducible repeat (first | refine blk_drewN ?_ _ | refine blk_drew ?_ | refine blk_alloc ?_ _)); exact BK159.out⟩, ⟨by (with_reducible repeat (first | refine blk_drewN ?_ _ | refine blk_drew ?_ | refine blk_alloc ?_ _)); exact BK166.out⟩, ⟨by repeat (first | (with_reducible first | exact HB.out | apply below_alloc | apply pw_below_drewN | apply below_drew1 | refine below_set ?_ GE159.out | refine below_set ?_ GE166.out | refine below_set ?_ GE178.out) | exact HB.out)⟩⟩
end Go.Proofs.Ytnmlnghjapekcaa.PTableMoves
